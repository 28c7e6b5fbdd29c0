import Derived.Test.YtejjbceagmbdhaaGreatXUC
import Derived.Test.YtejjbceagmbdhaaGreatProg
set_option linter.unusedVariables false
set_option linter.unusedSimpArgs false
set_option linter.unusedSectionVars false
set_option linter.constructorNameAsVariable false
set_option linter.unnecessarySimpa false
noncomputable section
namespace Go.Gv
noncomputable section
def aC9(code:List UInt8):Option Bool:=
 some (decide (1048576 < (code.length:Int)))
def aFZ(x5:Int):Option (Int×Int):=
 some (0,x5)
def D9(code:List UInt8)(x3 x4:Int)(x6:Bool):Option (Step (Int×Int) Int):=
 (if x6 then (idx code x4).bind fun x7=>some (.next (gI .and .i64 (aX ((aX ((aX (x3 * 131))+(x7.toNat:Int)))+7)) 1073741823,aX (x4+1))) else some (.stop (x3)))
def T2(code:List UInt8):(Int×Int)->Option (Step (Int×Int) Int)
 | (x3,x4)=>(if decide (x4 < (code.length:Int)) then D9 code x3 x4 (decide (x4 < 4000)) else D9 code x3 x4 false)
def aF0:Int->Option (Int×Int)
 | x5=>aFZ x5
def OD(code:List UInt8):Option (Int×Int):=
 (loop (T2 code) (aX (10101+(code.length:Int)),0)).bind (aF0)
def BC(c:cY)(x1 x2:Int):Option (Int×(Int×Int)):=
 some (x1,(x2,aX ((aX (c.h * 6364136223846793005))+1442695040888963407)))
def qC(c:cY):Option (Int×(Int×Int)):=
 (if decide (c.i < (c.b.length:Int)) then (idx c.b c.i).bind fun x3=>BC c (gI .and .i64 (aX ((gI .and .i64 (gI .xor .i64 (nH .i64 (aX ((aX (c.h * 6364136223846793005))+1442695040888963407)) 33) (nH .i64 (aX ((aX (c.h * 6364136223846793005))+1442695040888963407)) 45)) 255)+(x3.toNat:Int))) 255) (aX (c.i+1)) else BC c (gI .and .i64 (gI .xor .i64 (nH .i64 (aX ((aX (c.h * 6364136223846793005))+1442695040888963407)) 33) (nH .i64 (aX ((aX (c.h * 6364136223846793005))+1442695040888963407)) 45)) 255) c.i)
def eT(c:cY)(n:Int):Option (Int×(Int×Int)):=
 (if decide (n<=0) then some (0,(c.i,c.h)) else (if decide (n<=256) then (qC c).bind fun x1=>need (n≠0) (some (Int.tmod x1.1 n,(x1.2.1,x1.2.2))) else (qC c).bind fun x2=>(qC (⟨c.b,x2.2.1,x2.2.2⟩:cY)).bind fun x3=>(qC (⟨c.b,x3.2.1,x3.2.2⟩:cY)).bind fun x4=>(qC (⟨c.b,x4.2.1,x4.2.2⟩:cY)).bind fun x5=>need (n≠0) (some (Int.tmod (aX ((aX ((aX ((aX (x2.1 * 16777216))+(aX (x3.1 * 65536))))+(aX (x4.1 * 256))))+x5.1)) n,(x5.2.1,x5.2.2)))))
def Q9(c:cY)(n:Int):Option (Bool×(Int×Int)):=
 (eT c n).bind fun x1=>some (x1.1 == 0,(x1.2.1,x1.2.2))
def l7(c:cY)(list:List Int):Option (Int×(Int×Int)):=
 (eT c (list.length:Int)).bind fun x1=>(idx list x1.1).bind fun x2=>some (x2,(x1.2.1,x1.2.2))
def BD(x1 x2:Int×(Int×Int))(x3 x4 x5:Int):Option (iG×(Int×Int)):=
 some ((⟨x1.1,x2.1,x5⟩:iG),(x3,x4))
def BE(c:cY)(x1 x2:Int×(Int×Int))(x6:Bool):Option (iG×(Int×Int)):=
 (if x6 then (eT (⟨c.b,x2.2.1,x2.2.2⟩:cY) 60000).bind fun x7=>(l7 (⟨c.b,x7.2.1,x7.2.2⟩:cY) ([1,65535,x7.1]:List Int)).bind fun x8=>BD x1 x2 x8.2.1 x8.2.2 x8.1 else BD x1 x2 x2.2.1 x2.2.2 0)
def E4(c:cY):Option (iG×(Int×Int)):=
 (l7 c ([1,1,2,2,3,4,4]:List Int)).bind fun x1=>(eT (⟨c.b,x1.2.1,x1.2.2⟩:cY) 6).bind fun x2=>(if x1.1 == 2 then BE c x1 x2 true else BE c x1 x2 (x1.1 == 4))
def ZU(x11 x12:Int)(x13:List iG):Option (Batch×(Int×Int)):=
 some ((⟨false,x13⟩:Batch),(x11,x12))
def FY(x7 x14 x15:Int)(x16:List iG):Option (Step (Int×Int×Int×(List iG)) (Int×Int×(List iG))):=
 some (.next (aX (x7 - 1),x14,x15,x16))
def PJ(c:cY):(Int×Int×Int×(List iG))->Option (Step (Int×Int×Int×(List iG)) (Int×Int×(List iG)))
 | (x7,x8,x9,x10)=>(if decide (0 < x7) then (E4 (⟨c.b,x8,x9⟩:cY)).bind fun x17=>need (x10.length+([x17.1]).length<=1073741824)<|FY x7 x17.2.1 x17.2.2 (x10++([x17.1])) else some (.stop ((x8,x9,x10))))
def ZV:(Int×Int×(List iG))->Option (Batch×(Int×Int))
 | (x11,x12,x13)=>ZU x11 x12 x13
def HD(c:cY):Option (Batch×(Int×Int)):=
 (Q9 c 4).bind fun x1=>(if x1.1 then some ((⟨true,[]⟩:Batch),(x1.2.1,x1.2.2)) else (eT (⟨c.b,x1.2.1,x1.2.2⟩:cY) 3).bind fun x2=>(loop (PJ c) (aX (1+x2.1),x2.2.1,x2.2.2,[])).bind (ZV))
def WB(x9:List aI)(x10 x11:Int):Option ((List aI)×(Int×Int)):=
 some (x9,(x10,x11))
def KM(x5:List aI)(x6 x21 x22:Int)(x23:List Batch):Option (Step ((List aI)×Int×Int×Int) ((List aI)×Int×Int)):=
 need (x5.length+([(⟨x23⟩:aI)]).length<=1073741824) (some (.next (x5++([(⟨x23⟩:aI)]),aX (x6+1),x21,x22)))
def BF(x17 x24 x25:Int)(x26:List Batch):Option (Step (Int×Int×Int×(List Batch)) (Int×Int×(List Batch))):=
 some (.next (aX (x17 - 1),x24,x25,x26))
def KN(c:cY):(Int×Int×Int×(List Batch))->Option (Step (Int×Int×Int×(List Batch)) (Int×Int×(List Batch)))
 | (x17,x18,x19,x20)=>(if decide (0 < x17) then (HD (⟨c.b,x18,x19⟩:cY)).bind fun x27=>need (x20.length+([x27.1]).length<=1073741824)<|BF x17 x27.2.1 x27.2.2 (x20++([x27.1])) else some (.stop ((x18,x19,x20))))
def KO(x5:List aI)(x6:Int):(Int×Int×(List Batch))->Option (Step ((List aI)×Int×Int×Int) ((List aI)×Int×Int))
 | (x21,x22,x23)=>KM x5 x6 x21 x22 x23
def KP(c:cY)(most:Int):((List aI)×Int×Int×Int)->Option (Step ((List aI)×Int×Int×Int) ((List aI)×Int×Int))
 | (x5,x6,x7,x8)=>(if decide (x6 < 3) then (eT (⟨c.b,x7,x8⟩:cY) (aX (most+1))).bind fun x12=>(loop (KN c) (x12.1,x12.2.1,x12.2.2,[])).bind (KO x5 x6) else some (.stop ((x5,x7,x8))))
def WC:((List aI)×Int×Int)->Option ((List aI)×(Int×Int))
 | (x9,x10,x11)=>WB x9 x10 x11
def tS(c:cY)(most:Int):Option ((List aI)×(Int×Int)):=
 (loop (KP c most) (([]:List aI),0,c.i,c.h)).bind (WC)
def YC(x10:List Int)(x11 x12:Int):Option ((List Int)×(Int×Int)):=
 some (x10,(x11,x12))
def NB(x7:Int)(x14:Int×(Int×Int))(x19:List Int):Option (Step ((List Int)×Int×Int×Int) ((List Int)×Int×Int)):=
 some (.next (x19,aX (x7 - 1),x14.2.1,x14.2.2))
def NC(x13:Int×(Int×Int)):((List Int)×Int)->Option (Step ((List Int)×Int) (List Int))
 | (x17,x18)=>(if decide (0 < x18) then need (x17.length+([x13.1]).length<=1073741824) (some (.next (x17++([x13.1]),aX (x18 - 1)))) else some (.stop (x17)))
def ND(x7:Int)(x14:Int×(Int×Int)):(List Int)->Option (Step ((List Int)×Int×Int×Int) ((List Int)×Int×Int))
 | x19=>NB x7 x14 x19
def NF(c:cY):((List Int)×Int×Int×Int)->Option (Step ((List Int)×Int×Int×Int) ((List Int)×Int×Int))
 | (x6,x7,x8,x9)=>(if decide (0 < x7) then (eT (⟨c.b,x8,x9⟩:cY) 3).bind fun x13=>(eT (⟨c.b,x13.2.1,x13.2.2⟩:cY) 8).bind fun x14=>(loop (NC x13) (x6,aX (1+x14.1))).bind (ND x7 x14) else some (.stop ((x6,x8,x9))))
def YD:((List Int)×Int×Int)->Option ((List Int)×(Int×Int))
 | (x10,x11,x12)=>YC x10 x11 x12
def EA(c:cY)(most:Int):Option ((List Int)×(Int×Int)):=
 (eT c most).bind fun x1=>(loop (NF c) (([]:List Int),x1.1,x1.2.1,x1.2.2)).bind (YD)
def o4(x2 x3 x4 x5 x6:Int):Option (iG×(Int×Int)):=
 some ((⟨x4,x5,x6⟩:iG),(x2,x3))
def KQ(c:cY):Option (iG×(Int×Int)):=
 (E4 c).bind fun x1=>(eT (⟨c.b,x1.2.1,x1.2.2⟩:cY) 14).bind fun x7=>(if x7.1 == 0 then (l7 (⟨c.b,x7.2.1,x7.2.2⟩:cY) ([0,5]:List Int)).bind fun x8=>o4 x8.2.1 x8.2.2 x8.1 x1.1.Key x1.1.dO else (if x7.1 == 1 then (l7 (⟨c.b,x7.2.1,x7.2.2⟩:cY) ([(-1),99,100]:List Int)).bind fun x9=>o4 x9.2.1 x9.2.2 x1.1.Kind x9.1 x1.1.dO else (if x7.1 == 2 then (l7 (⟨c.b,x7.2.1,x7.2.2⟩:cY) ([(-1),65536,1,0]:List Int)).bind fun x10=>o4 x10.2.1 x10.2.2 x1.1.Kind x1.1.Key x10.1 else o4 x7.2.1 x7.2.2 x1.1.Kind x1.1.Key x1.1.dO)))
def jO(x2:List aI)(x3 x4:Int):Option ((List aI)×(Int×Int)):=
 some (x2,(x3,x4))
def IT(x13:List aI)(x14 x15:Int):Option ((List aI)×(Int×Int)):=
 jO x13 x14 x15
def zU(x10:List aI)(x16:Bool)(x17 x18:Int):Option (Step ((List aI)×Int×Int) ((List aI)×Int×Int)):=
 (if x16 then (idx x10 1).bind fun x19=>need (x19.List.length+([(⟨true,[]⟩:Batch)]).length<=1073741824) (some (.next (x10.set ((1:Int).toNat) (⟨x19.List++([(⟨true,[]⟩:Batch)])⟩:aI),x17,x18))) else some (.stop ((x10,x17,x18))))
def IU(c:cY):((List aI)×Int×Int)->Option (Step ((List aI)×Int×Int) ((List aI)×Int×Int))
 | (x10,x11,x12)=>(idx x10 1).bind fun x20=>(eT (⟨c.b,x11,x12⟩:cY) 2).bind fun x21=>zU x10 (decide ((x20.List.length:Int) < (aX (12+x21.1)))) x21.2.1 x21.2.2
def U1:((List aI)×Int×Int)->Option ((List aI)×(Int×Int))
 | (x13,x14,x15)=>IT x13 x14 x15
def zV(x22:List aI)(x23 x24:Int):Option ((List aI)×(Int×Int)):=
 jO x22 x23 x24
def yK(c:cY):Option ((List aI)×(Int×Int)):=
 (tS c 5).bind fun x1=>(eT (⟨c.b,x1.2.1,x1.2.2⟩:cY) 20).bind fun x5=>(if x5.1 == 0 then need (0<=(2:Int)/\(2:Int)<=(x1.1.length:Int)) (some ((x1.1.take ((2:Int).toNat)).drop 0,(x5.2.1,x5.2.2))) else (if x5.1 == 1 then (idx x1.1 0).bind fun x6=>need (x6.List.length+([(⟨false,[]⟩:Batch)]).length<=1073741824) (jO (x1.1.set ((0:Int).toNat) (⟨x6.List++([(⟨false,[]⟩:Batch)])⟩:aI)) x5.2.1 x5.2.2) else (if x5.1 == 2 then (loop (IU c) (x1.1,x5.2.1,x5.2.2)).bind (U1) else (if x5.1 == 3 then (idx x1.1 2).bind fun x25=>(KQ (⟨c.b,x5.2.1,x5.2.2⟩:cY)).bind fun x26=>need (x25.List.length+([(⟨false,[x26.1]⟩:Batch)]).length<=1073741824)<|zV (x1.1.set ((2:Int).toNat) (⟨x25.List++([(⟨false,[x26.1]⟩:Batch)])⟩:aI)) x26.2.1 x26.2.2 else jO x1.1 x5.2.1 x5.2.2))))
def jL(x4:List aI)(x5:List Int):Option vJ:=
 some (⟨x4,x5⟩:vJ)
def qF(code:List UInt8):Option vJ:=
 (OD code).bind fun x1=>(tS (⟨code,x1.1,x1.2⟩:cY) 6).bind fun x2=>(EA (⟨code,x2.2.1,x2.2.2⟩:cY) 60).bind fun x3=>(eT (⟨code,x3.2.1,x3.2.2⟩:cY) 16).bind fun x6=>(if x6.1 == 0 then (yK (⟨code,x6.2.1,x6.2.2⟩:cY)).bind fun x7=>jL x7.1 x3.1 else (if x6.1 == 1 then need (x3.1.length+([(-1),3,1]:List Int).length<=1073741824) (jL x2.1 (x3.1++([(-1),3,1]:List Int))) else jL x2.1 x3.1))
def HE(x1:Bool):Option Bool:=
 some x1
def bN(x low high:Int):Option Bool:=
 (if decide (low<=x) then HE (decide (x<=high)) else HE false)
def EB(c:iG)(x2:Bool):Option Bool:=
 (if x2 then (bN c.dO 0 65535).bind fun x3=>some x3 else some (c.dO == 0))
def EC(c:iG)(x1:Bool):Option Bool:=
 (if x1 then some false else (if c.Kind == 2 then EB c true else EB c (c.Kind == 4)))
def OE(c:iG):Option Bool:=
 (bN c.Kind 1 4).bind fun x4=>(if !x4 then EC c true else (bN c.Key 0 99).bind fun x5=>EC c (!x5))
def PK(b:Batch):Option Bool:=
 (bN (b.bK.length:Int) 1 6).bind fun x3=>some x3
def mZ(b:Batch):Int->Option (Step Int (Out Unit Bool))
 | x2=>(if decide (x2 < (b.bK.length:Int)) then (idx b.bK x2).bind fun x4=>(OE x4).bind fun x5=>(if !x5 then some (.stop (Out.ret false)) else some (.next (aX (x2+1)))) else some (.stop (Out.brk ())))
def PL(b:Batch):(Out Unit Bool)->Option Bool
 | .brk ()=>PK b
 | .ret r=>some r
def BG(b:Batch):Option Bool:=
 (if b.Collect then some ((b.bK.length:Int) == 0) else (loop (mZ b) 0).bind (PL b))
def PM(todo:List aI):Option Bool:=
 some ((todo.length:Int) == 3)
def PN(x2:Int):Option (Step Int (Out Unit Bool)):=
 some (.next (aX (x2+1)))
def m0(todo:List aI)(x2:Int):Int->Option (Step Int (Out Unit Bool))
 | x5=>(idx todo x2).bind fun x6=>(if decide (x5 < (x6.List.length:Int)) then (idx todo x2).bind fun x7=>(idx x7.List x5).bind fun x8=>(BG x8).bind fun x9=>(if !x9 then some (.stop (Out.ret false)) else some (.next (aX (x5+1)))) else some (.stop (Out.brk ())))
def PO(x2:Int):(Out Unit Bool)->Option (Step Int (Out Unit Bool))
 | .brk ()=>PN x2
 | .ret r=>some (.stop (Out.ret r))
def m4(todo:List aI):Int->Option (Step Int (Out Unit Bool))
 | x2=>(if decide (x2 < (todo.length:Int)) then (idx todo x2).bind fun x3=>(if decide (12 < (x3.List.length:Int)) then some (.stop (Out.ret false)) else (loop (m0 todo x2) 0).bind (PO x2)) else some (.stop (Out.brk ())))
def PQ(todo:List aI):(Out Unit Bool)->Option Bool
 | .brk ()=>PM todo
 | .ret r=>some r
def BH(todo:List aI):Option Bool:=
 (loop (m4 todo) 0).bind (PQ todo)
def ZW(x5:List Int):Option Heap:=
 some (⟨List.replicate ((384:Int).toNat) 0,x5⟩:Heap)
def rE:(Int×(List Int))->Option (Step (Int×(List Int)) (List Int))
 | (x3,x4)=>(if decide (x3 < 6) then need (x4.length+([(-1)]).length<=1073741824) (some (.next (aX (x3+1),x4++([(-1)])))) else some (.stop (x4)))
def ZX:(List Int)->Option Heap
 | x5=>ZW x5
def HF:Option Heap:=
 need (0<=(384:Int)/\(384:Int)<=4294967296) ((loop (rE) (0,[])).bind (ZX))
def NG:Option aA:=
 some (⟨List.replicate ((3:Int).toNat) (⟨[]⟩:aO),List.replicate ((9:Int).toNat) (⟨[]⟩:aO)⟩:aA)
def LN:Option aA:=
 need (0<=(3:Int)/\(3:Int)<=4294967296)<|need (0<=(9:Int)/\(9:Int)<=4294967296)<|NG
def RB:Option Mem:=
 (HF).bind fun x1=>(LN).bind fun x2=>some (⟨x1,x2⟩:Mem)
def LO:Option aH:=
 need (0<=(3:Int)/\(3:Int)<=4294967296) (some (⟨0,List.replicate ((3:Int).toNat) (⟨false,0,false,0⟩:sC)⟩:aH))
def LP:Option (List bB):=
 need (0<=(3:Int)/\(3:Int)<=4294967296) (some (List.replicate ((3:Int).toNat) (⟨[]⟩:bB)))
def RC:Option (List Int):=
 need (0<=(3:Int)/\(3:Int)<=4294967296) (some (List.replicate ((3:Int).toNat) 0))
def HH:Option aB:=
 (RB).bind fun x1=>(LO).bind fun x2=>(LP).bind fun x3=>(RC).bind fun x4=>some (⟨x1,x2,x3,x4⟩:aB)
def OF(l:List iG):Option (List iG):=
 need (([]:List iG).length+l.length<=1073741824) (some (([]:List iG)++l))
def ED(b:Batch):Option Batch:=
 (OF b.bK).bind fun x1=>some (⟨b.Collect,x1⟩:Batch)
def WD(x5:List aI):Option (List aI):=
 some x5
def KR(x3:List aI)(x4:Int)(x10:List Batch):Option (Step ((List aI)×Int) (List aI)):=
 need (x3.length+([(⟨x10⟩:aI)]).length<=1073741824) (some (.next (x3++([(⟨x10⟩:aI)]),aX (x4+1))))
def BI(x8:Int)(x12:List Batch):Option (Step (Int×(List Batch)) (List Batch)):=
 some (.next (aX (x8+1),x12))
def BJ(l:List aI)(x4:Int):(Int×(List Batch))->Option (Step (Int×(List Batch)) (List Batch))
 | (x8,x9)=>(idx l x4).bind fun x11=>(if decide (x8 < (x11.List.length:Int)) then (idx l x4).bind fun x13=>(idx x13.List x8).bind fun x14=>(ED x14).bind fun x15=>need (x9.length+([x15]).length<=1073741824)<|BI x8 (x9++([x15])) else some (.stop (x9)))
def KS(x3:List aI)(x4:Int):(List Batch)->Option (Step ((List aI)×Int) (List aI))
 | x10=>KR x3 x4 x10
def BK(l:List aI):((List aI)×Int)->Option (Step ((List aI)×Int) (List aI))
 | (x3,x4)=>(if decide (x4 < (l.length:Int)) then (loop (BJ l x4) (0,[])).bind (KS x3 x4) else some (.stop (x3)))
def WE:(List aI)->Option (List aI)
 | x5=>WD x5
def BL(l:List aI):Option (List aI):=
 (loop (BK l) (([]:List aI),0)).bind (WE)
def NH(x2:Table):Option Table:=
 some ({x2 with Log:=[]}:Table)
def EE(todo:List aI):Option Table:=
 (BH todo).bind fun x1=>(if !x1 then some (⟨(⟨(⟨(⟨[],[]⟩:Heap),(⟨[],[]⟩:aA)⟩:Mem),(⟨0,[]⟩:aH),[],[]⟩:aB),[],[],[],[],0⟩:Table) else (HH).bind fun x3=>need (0<=(2:Int)/\(2:Int)<=4294967296)<|need (0<=(3:Int)/\(3:Int)<=4294967296)<|(BL todo).bind fun x4=>NH (⟨x3,List.replicate ((2:Int).toNat) (⟨0,0,0⟩:bT),List.replicate ((3:Int).toNat) (⟨false,(⟨false,[]⟩:Batch),0,0,0,0,0,0,0,0,(⟨0,0,0⟩:bP),false,0,(⟨0,0,0,0,0,0,0,0,0,false⟩:Sub),[],[],[],[],[],[]⟩:aE),x4,[],0⟩:Table))
def KT(x:vJ):Option Bool:=
 (EE x.gZ).bind fun x1=>some ((x1.aN.length:Int) == 3)
def IV:Option Int:=
 some (-1)
def l8(s:List aI)(f:(aI->Option Bool)):Int->Option (Step Int (Out Unit Int))
 | x2=>(if decide (x2 < (s.length:Int)) then (idx s x2).bind fun x3=>(f x3).bind fun x4=>(if x4 then some (.stop (Out.ret x2)) else some (.next (aX (x2+1)))) else some (.stop (Out.brk ())))
def tT:(Out Unit Int)->Option Int
 | .brk ()=>IV
 | .ret r=>some r
def AR(s:List aI)(f:(aI->Option Bool)):Option Int:=
 (loop (l8 s f) 0).bind (tT)
def l9(s:List aI)(f:(aI->Option Bool)):Option Bool:=
 (AR s f).bind fun x1=>some (decide (0<=x1))
def J2:Option Int:=
 some (-1)
def mT(s:List Batch)(f:(Batch->Option Bool)):Int->Option (Step Int (Out Unit Int))
 | x2=>(if decide (x2 < (s.length:Int)) then (idx s x2).bind fun x3=>(f x3).bind fun x4=>(if x4 then some (.stop (Out.ret x2)) else some (.next (aX (x2+1)))) else some (.stop (Out.brk ())))
def wJ:(Out Unit Int)->Option Int
 | .brk ()=>J2
 | .ret r=>some r
def BM(s:List Batch)(f:(Batch->Option Bool)):Option Int:=
 (loop (mT s f) 0).bind (wJ)
def mU(s:List Batch)(f:(Batch->Option Bool)):Option Bool:=
 (BM s f).bind fun x1=>some (decide (0<=x1))
def o5(x1:Bool):Option Bool:=
 some x1
def bW(n low high:Int):Option Bool:=
 (if decide (low<=n) then o5 (decide (n<=high)) else o5 false)
def NI:Option Int:=
 some (-1)
def o6(s:List iG)(f:(iG->Option Bool)):Int->Option (Step Int (Out Unit Int))
 | x2=>(if decide (x2 < (s.length:Int)) then (idx s x2).bind fun x3=>(f x3).bind fun x4=>(if x4 then some (.stop (Out.ret x2)) else some (.next (aX (x2+1)))) else some (.stop (Out.brk ())))
def AS:(Out Unit Int)->Option Int
 | .brk ()=>NI
 | .ret r=>some r
def E5(s:List iG)(f:(iG->Option Bool)):Option Int:=
 (loop (o6 s f) 0).bind (AS)
def o7(s:List iG)(f:(iG->Option Bool)):Option Bool:=
 (E5 s f).bind fun x1=>some (decide (0<=x1))
def nX(x2:Bool):Option Bool:=
 some x2
def sD(c:iG)(x1:Bool):Option Bool:=
 (bW c.Kind 1 4).bind fun x3=>(if x3 then (bW c.Key 0 99).bind fun x4=>(if x4 then (if x1 then (bW c.dO 0 65535).bind fun x5=>(if x5 then nX true else nX (c.dO == 0)) else nX (c.dO == 0)) else nX false) else nX false)
def OG(c:iG):Option Bool:=
 (if c.Kind == 2 then sD c true else sD c (c.Kind == 4))
def IW(c:iG):Option Bool:=
 (OG c).bind fun x1=>some (!x1)
def rF(x1:Bool):Option Bool:=
 some x1
def HI(b:Batch):Option Bool:=
 (if b.Collect then some ((b.bK.length:Int) == 0) else (bW (b.bK.length:Int) 1 6).bind fun x2=>(if x2 then (o7 b.bK (fun y0=>IW y0)).bind fun x3=>rF (!x3) else rF false))
def DX(b:Batch):Option Bool:=
 (HI b).bind fun x1=>some (!x1)
def sZ(x1:Bool):Option Bool:=
 some x1
def BN(q:aI):Option Bool:=
 (if decide (12 < (q.List.length:Int)) then sZ true else (mU q.List (fun y0=>DX y0)).bind fun x2=>sZ x2)
def yL(x1:Bool):Option Bool:=
 some x1
def HJ(todo:List aI):Option Bool:=
 (if (todo.length:Int) == 3 then (l9 todo (fun y0=>BN y0)).bind fun x2=>yL (!x2) else yL false)
def PR(x y:Int):Option (Int×Int):=
 some (IntKind.u64.wrap ((IntKind.u64.wrap ((IntKind.u64.wrap ((nH .u64 x 32) * (nH .u64 y 32)))+(nH .u64 (IntKind.u64.wrap ((IntKind.u64.wrap ((nH .u64 x 32) * (gI .and .u64 y 4294967295)))+(nH .u64 (IntKind.u64.wrap ((gI .and .u64 x 4294967295) * (gI .and .u64 y 4294967295))) 32))) 32)))+(nH .u64 (IntKind.u64.wrap ((gI .and .u64 (IntKind.u64.wrap ((IntKind.u64.wrap ((nH .u64 x 32) * (gI .and .u64 y 4294967295)))+(nH .u64 (IntKind.u64.wrap ((gI .and .u64 x 4294967295) * (gI .and .u64 y 4294967295))) 32))) 4294967295)+(IntKind.u64.wrap ((gI .and .u64 x 4294967295) * (nH .u64 y 32))))) 32)),IntKind.u64.wrap (x * y))
def LQ(x y:Int):Option (Int×Int):=
 (PR x y).bind fun x1=>some (x1.1,x1.2)
def RD(x7:List Int):Option (List Int):=
 some x7
def j4:((List Int)×Int)->Option (Step ((List Int)×Int) (List Int))
 | (x5,x6)=>(if decide (x6 < (x5.length:Int)) then need (0<=(x6:Int)/\(x6:Int)<=(x5.length:Int)) (need (0<=(x6:Int)/\(x6:Int)<=(x5.length:Int)) (some (.next (cM x5 x6.toNat ((x5.take x6.toNat).drop 0),aX (x6+((min ((x5.take x6.toNat).drop 0).length (x5.length - x6.toNat):Nat):Int)))))) else some (.stop (x5)))
def RE:(List Int)->Option (List Int)
 | x7=>RD x7
def nJ(x:List Int)(x1:Int×Int)(x2:Bool):Option (List Int):=
 (if x2 then none else need (0<=(IntKind.i64.wrap x1.2:Int)/\(IntKind.i64.wrap x1.2:Int)<=4294967296) ((loop (j4) (cM (List.replicate ((IntKind.i64.wrap x1.2).toNat) 0) 0 x,((min x.length ((List.replicate ((IntKind.i64.wrap x1.2).toNat) 0:List Int).length - 0):Nat):Int))).bind (RE)))
def tC(x:List Int)(count:Int):Option (List Int):=
 (if decide (count < 0) then none else (LQ (IntKind.u64.wrap (x.length:Int)) (IntKind.u64.wrap count)).bind fun x1=>(if decide (0 < x1.1) then nJ x x1 true else nJ x x1 (decide (9223372036854775807 < x1.2))))
def PT(x1:List Int):Option Heap:=
 some (⟨List.replicate ((384:Int).toNat) 0,x1⟩:Heap)
def HK:Option Heap:=
 need (0<=(384:Int)/\(384:Int)<=4294967296)<|(tC ([(-1)]) 6).bind fun x2=>PT x2
def NJ:Option aA:=
 some (⟨List.replicate ((3:Int).toNat) (⟨[]⟩:aO),List.replicate ((9:Int).toNat) (⟨[]⟩:aO)⟩:aA)
def LR:Option aA:=
 need (0<=(3:Int)/\(3:Int)<=4294967296)<|need (0<=(9:Int)/\(9:Int)<=4294967296)<|NJ
def RF:Option Mem:=
 (HK).bind fun x1=>(LR).bind fun x2=>some (⟨x1,x2⟩:Mem)
def LS:Option aH:=
 need (0<=(3:Int)/\(3:Int)<=4294967296) (some (⟨0,List.replicate ((3:Int).toNat) (⟨false,0,false,0⟩:sC)⟩:aH))
def LU:Option (List bB):=
 need (0<=(3:Int)/\(3:Int)<=4294967296) (some (List.replicate ((3:Int).toNat) (⟨[]⟩:bB)))
def RG:Option (List Int):=
 need (0<=(3:Int)/\(3:Int)<=4294967296) (some (List.replicate ((3:Int).toNat) 0))
def HL:Option aB:=
 (RF).bind fun x1=>(LS).bind fun x2=>(LU).bind fun x3=>(RG).bind fun x4=>some (⟨x1,x2,x3,x4⟩:aB)
def o8(s:List iG):Option (List iG):=
 need (([]:List iG).length+s.length<=1073741824) (some (([]:List iG)++s))
def BO(b:Batch):Option Batch:=
 (o8 b.bK).bind fun x1=>some (⟨b.Collect,x1⟩:Batch)
def WG(x5:List aI):Option (List aI):=
 some x5
def KU(x3:List aI)(x4:Int)(x11:List Batch):Option (Step ((List aI)×Int) (List aI)):=
 need (x3.length+([(⟨x11⟩:aI)]).length<=1073741824) (some (.next (x3++([(⟨x11⟩:aI)]),aX (x4+1))))
def BP(x9:Int)(x13:List Batch):Option (Step (Int×(List Batch)) (List Batch)):=
 some (.next (aX (x9+1),x13))
def BQ(x6:aI):(Int×(List Batch))->Option (Step (Int×(List Batch)) (List Batch))
 | (x9,x10)=>(if decide (x9 < (x6.List.length:Int)) then (idx x6.List x9).bind fun x12=>(BO x12).bind fun x14=>need (x10.length+([x14]).length<=1073741824)<|BP x9 (x10++([x14])) else some (.stop (x10)))
def KV(x3:List aI)(x4:Int):(List Batch)->Option (Step ((List aI)×Int) (List aI))
 | x11=>KU x3 x4 x11
def BR(todo:List aI):((List aI)×Int)->Option (Step ((List aI)×Int) (List aI))
 | (x3,x4)=>(if decide (x4 < (todo.length:Int)) then (idx todo x4).bind fun x6=>(loop (BQ x6) (0,[])).bind (KV x3 x4) else some (.stop (x3)))
def WH:(List aI)->Option (List aI)
 | x5=>WG x5
def BS(todo:List aI):Option (List aI):=
 (loop (BR todo) (([]:List aI),0)).bind (WH)
def NL(x2:Table):Option Table:=
 some ({x2 with Log:=[]}:Table)
def EF(todo:List aI):Option Table:=
 (HJ todo).bind fun x1=>(if !x1 then some (⟨(⟨(⟨(⟨[],[]⟩:Heap),(⟨[],[]⟩:aA)⟩:Mem),(⟨0,[]⟩:aH),[],[]⟩:aB),[],[],[],[],0⟩:Table) else (HL).bind fun x3=>need (0<=(2:Int)/\(2:Int)<=4294967296)<|need (0<=(3:Int)/\(3:Int)<=4294967296)<|(BS todo).bind fun x4=>NL (⟨x3,List.replicate ((2:Int).toNat) (⟨0,0,0⟩:bT),List.replicate ((3:Int).toNat) (⟨false,(⟨false,[]⟩:Batch),0,0,0,0,0,0,0,0,(⟨0,0,0⟩:bP),false,0,(⟨0,0,0,0,0,0,0,0,0,false⟩:Sub),[],[],[],[],[],[]⟩:aE),x4,[],0⟩:Table))
def fP(w_:Int):Option Bool:=
 (bW w_ 0 2).bind fun x1=>some x1
def GY(s:List Batch)(i j:Int):Option (List Batch):=
 need (0<=i/\i<=j/\j<=(s.length:Int)) (some (s.take i.toNat++s.drop j.toNat))
def j5(kind a_:Int):Option Sub:=
 some (⟨kind,a_,0,0,0,0,0,0,0,false⟩:Sub)
def wS(t:Table)(w_:Int)(x2:aI)(x3:Batch)(x6:aE)(x8:List LM):Option Table:=
 some (⟨t.aB,t.cS,t.aN.set w_.toNat ({x6 with Batch:=(⟨x6.Batch.Collect,x3.bK⟩:Batch),Reads:=[],aJ:=[],eA:=[],fL:=[],aW:=[],cG:=[]}:aE),t.gZ.set w_.toNat (⟨x2.List.drop 1⟩:aI),x8,aX (t.aS+1)⟩:Table)
def kY(t:Table)(w_:Int)(x2:aI)(x3:Batch)(x6:aE):Option Table:=
 (idx t.aN w_).bind fun x7=>(o8 x3.bK).bind fun x9=>need (t.Log.length+([(⟨1,w_,x6.aS,0,x9,[]⟩:LM)]).length<=1073741824)<|wS t w_ x2 x3 x6 (t.Log++([(⟨1,w_,x6.aS,0,x9,[]⟩:LM)]))
def wT(t:Table)(w_:Int)(x2:aI)(x3:Batch)(x5:aE):Option Table:=
 (if x3.Collect then (j5 3 0).bind fun x10=>kY t w_ x2 x3 ({x5 with Batch:=(⟨x5.Batch.Collect,x3.bK⟩:Batch),Pc:=20,Sub:=x10,Reads:=[],aJ:=[],eA:=[],fL:=[],aW:=[],cG:=[]}:aE) else kY t w_ x2 x3 ({x5 with Batch:=(⟨x5.Batch.Collect,x3.bK⟩:Batch),Reads:=[],aJ:=[],eA:=[],fL:=[],aW:=[],cG:=[]}:aE))
def kZ(t:Table)(w_:Int)(x1:Bool):Option Table:=
 (if x1 then some t else (idx t.gZ w_).bind fun x2=>(idx x2.List 0).bind fun x3=>(GY x2.List 0 1).bind fun x4=>(j5 5 0).bind fun x11=>wT t w_ x2 x3 (⟨true,x3,aX (t.aS+1),0,0,0,0,0,0,0,(⟨0,0,0⟩:bP),false,0,x11,[],[],[],[],[],[]⟩:aE))
def vK(t:Table)(w_:Int):Option Table:=
 (idx t.gZ w_).bind fun x12=>(if (x12.List.length:Int) == 0 then kZ t w_ true else kZ t w_ (t.aS == 1000000))
def a8(s:Sub)(code:Int):Option Sub:=
 some ({s with Code:=code,dJ:=true}:Sub)
def jT(c:Int):Option Bool:=
 (bW c 0 2).bind fun x1=>some x1
def AT(c:Int):Option Int:=
 (jT c).bind fun x1=>(if !x1 then some 0 else (idx ([8,16,40]:List Int) c).bind fun x2=>some x2)
def ZY:Option Int:=
 some (-1)
def yN(x2:Int)(x3:Bool):Option (Step Int (Out Unit Int)):=
 (if x3 then some (.stop (Out.ret x2)) else some (.next (aX (x2+1))))
def jB(size:Int):Int->Option (Step Int (Out Unit Int))
 | x2=>(if decide (x2 < 3) then (if decide (1<=size) then (AT x2).bind fun x4=>yN x2 (decide (size<=x4)) else yN x2 false) else some (.stop (Out.brk ())))
def ZZ:(Out Unit Int)->Option Int
 | .brk ()=>ZY
 | .ret r=>some r
def HM(size:Int):Option Int:=
 (loop (jB size) 0).bind (ZZ)
def jP(s:List Int):Option (List Int):=
 need (([]:List Int).length+s.length<=1073741824) (some (([]:List Int)++s))
def WI(x5 x10:List aO):Option aA:=
 some (⟨x5,x10⟩:aA)
def BT(x8:Int)(x12:List aO):Option (Step (Int×(List aO)) (List aO)):=
 some (.next (aX (x8+1),x12))
def BU(l:aA):(Int×(List aO))->Option (Step (Int×(List aO)) (List aO))
 | (x8,x9)=>(if decide (x8 < (l.Own.length:Int)) then (idx l.Own x8).bind fun x11=>(jP x11.aQ).bind fun x13=>need (x9.length+([(⟨x13⟩:aO)]).length<=1073741824)<|BT x8 (x9++([(⟨x13⟩:aO)])) else some (.stop (x9)))
def WJ(x5:List aO):(List aO)->Option aA
 | x10=>WI x5 x10
def KW(l:aA)(x5:List aO):Option aA:=
 (loop (BU l) (0,[])).bind (WJ x5)
def BV(x3:Int)(x15:List aO):Option (Step (Int×(List aO)) (List aO)):=
 some (.next (aX (x3+1),x15))
def BW(l:aA):(Int×(List aO))->Option (Step (Int×(List aO)) (List aO))
 | (x3,x4)=>(if decide (x3 < (l.Global.length:Int)) then (idx l.Global x3).bind fun x14=>(jP x14.aQ).bind fun x16=>need (x4.length+([(⟨x16⟩:aO)]).length<=1073741824)<|BV x3 (x4++([(⟨x16⟩:aO)])) else some (.stop (x4)))
def KX(l:aA):(List aO)->Option aA
 | x5=>KW l x5
def g8(l:aA):Option aA:=
 (loop (BW l) (0,[])).bind (KX l)
def lN(slot:Int):Option Bool:=
 (bW slot 0 23).bind fun x1=>some x1
def qG(x10:List Raw):Option (List Raw):=
 some x10
def gQ(slices:List (List Raw)):((List Raw)×Int)->Option (Step ((List Raw)×Int) (List Raw))
 | (x8,x9)=>(if decide (x9 < (slices.length:Int)) then (idx slices x9).bind fun x11=>need (x8.length+x11.length<=1073741824) (some (.next (x8++x11,aX (x9+1)))) else some (.stop (x8)))
def OH:(List Raw)->Option (List Raw)
 | x10=>qG x10
def lI(slices:List (List Raw))(x5:Int):Option (List Raw):=
 need (0<=x5/\x5<=1073741824) ((loop (gQ slices) ([],0)).bind (OH))
def fN(slices:List (List Raw)):(Int×Int)->Option (Step (Int×Int) Int)
 | (x3,x4)=>(if decide (x4 < (slices.length:Int)) then (idx slices x4).bind fun x12=>(if decide ((aX (x3+(x12.length:Int))) < 0) then none else some (.next (aX (x3+(x12.length:Int)),aX (x4+1)))) else some (.stop (x3)))
def BX(slices:List (List Raw)):Int->Option (List Raw)
 | x5=>lI slices x5
def oN(slices:List (List Raw)):Option (List Raw):=
 (loop (fN slices) (0,0)).bind (BX slices)
theorem J3{u1 u2:List Raw}(h:u1.length+u2.length<=1073741824):loop (fN [u1,u2]) (0,0)=some ((u1.length+u2.length:Nat):Int):=by
 have e1:aX (u1.length:Int)=u1.length:=IQ (by omega)
 have e2:aX ((u1.length:Int)+(u2.length:Int))=((u1.length+u2.length:Nat):Int):=by rw [IQ (by omega)];rfl
 have e3:aX (0+1)=1:=IQ (by omega)
 have e4:aX 2=2:=IQ (by omega)
 have n1:¬(u1.length:Int) < 0:=by omega
 have n2:¬((u1.length+u2.length:Nat):Int) < 0:=by omega
 rw [bQ (s':=((u1.length:Int),1)) ?_,bQ (s':=(((u1.length+u2.length:Nat):Int),2)) ?_,bG (r:=((u1.length+u2.length:Nat):Int)) ?_]
 ·simp [fN]
 ·simp [fN,idx,e2,e4]
  omega
 ·simp [fN,idx,e1,n1]
  exact e3
theorem NM{u1 u2:List Raw}{n1 n2:Nat}(hl:u1.length=n1/\u2.length=n2)(h:n1+n2<=1073741824):oN [u1,u2]=some (u1++u2):=by
 obtain⟨rfl,rfl⟩:=hl
 have e3:aX (0+1)=1:=IQ (by omega)
 have e4:aX 2=2:=IQ (by omega)
 unfold oN
 rw [J3 h]
 simp only [aG,BX,lI]
 rw [aK (by omega),bQ (s':=(u1,1)) ?_,bQ (s':=(u1++u2,2)) ?_,bG (r:=u1++u2) ?_]
 ·rfl
 ·simp [gQ]
 ·simp [gQ,idx,e4,aK h]
 ·have h1:u1.length<=1073741824:=by omega
  simp [gQ,idx,aK h1]
  exact e3
def FZ:Option Bool:=
 some true
def yO(x4:Int)(x12:List Bool):Option (Step (Int×(List Bool)) (Out Unit Bool)):=
 some (.next (aX (x4+1),x12))
def m5(x10:Int)(x11:List Bool)(x13:Int)(x14:Bool):Option (Step (Int×(List Bool)) (Out (List Bool) Bool)):=
 (if x14 then some (.stop (Out.ret false)) else need (0<=(x13:Int)/\(x13:Int) < 24) ((idx (x11:List Bool) x13).bind fun x15=>some (.next (aX (x10+1),x11.set (x13.toNat) true))))
def kJ(x6:aO):(Int×(List Bool))->Option (Step (Int×(List Bool)) (Out (List Bool) Bool))
 | (x10,x11)=>(if decide (x10 < (x6.aQ.length:Int)) then (idx x6.aQ x10).bind fun x13=>(lN x13).bind fun x16=>(if !x16 then m5 x10 x11 x13 true else need (0<=(x13:Int)/\(x13:Int) < 24) ((idx (x11:List Bool) x13).bind fun x17=>m5 x10 x11 x13 x17)) else some (.stop (Out.brk x11)))
def PU(x4:Int):(Out (List Bool) Bool)->Option (Step (Int×(List Bool)) (Out Unit Bool))
 | .brk x12=>yO x4 x12
 | .ret r=>some (.stop (Out.ret r))
def kK(x4:Int)(x5:List Bool)(x6:aO)(x7:Bool):Option (Step (Int×(List Bool)) (Out Unit Bool)):=
 (if x7 then some (.stop (Out.ret false)) else (loop (kJ x6) (0,x5)).bind (PU x4))
def kL(l:aA):(Int×(List Bool))->Option (Step (Int×(List Bool)) (Out Unit Bool))
 | (x4,x5)=>(if decide (x4 < ((l.Own++l.Global).length:Int)) then (idx (l.Own++l.Global) x4).bind fun x6=>(if decide (x4 < (l.Own.length:Int)) then kK x4 x5 x6 (decide (2 < (x6.aQ.length:Int))) else kK x4 x5 x6 false) else some (.stop (Out.brk ())))
def Z0:(Out Unit Bool)->Option Bool
 | .brk ()=>FZ
 | .ret r=>some r
def rG(l:aA)(x1:Bool):Option Bool:=
 (if x1 then some false else need (l.Own.length+l.Global.length<=1073741824) ((loop (kL l) (0,[false,false,false,false,false,false,false,false,false,false,false,false,false,false,false,false,false,false,false,false,false,false,false,false])).bind (Z0)))
def jU(l:aA):Option Bool:=
 (if (l.Global.length:Int) != 3 then rG l true else rG l ((l.Own.length:Int) != 9))
def EG(w_ c:Int)(x1:Bool):Option Int:=
 (if x1 then some (-1) else some (aX ((aX (w_ * 3))+c)))
def IX(w_ c:Int):Option Int:=
 (fP w_).bind fun x2=>(if !x2 then EG w_ c true else (jT c).bind fun x3=>EG w_ c (!x3))
def tU(s:aO):Option (Int×aO):=
 (if decide ((aX ((s.aQ.length:Int) - 1)) < 0) then some ((-1),s) else (idx s.aQ (aX ((s.aQ.length:Int) - 1))).bind fun x1=>need (0<=(aX ((s.aQ.length:Int) - 1):Int)/\(aX ((s.aQ.length:Int) - 1):Int)<=(aX ((s.aQ.length:Int) - 1):Int)/\(aX ((s.aQ.length:Int) - 1):Int)<=(s.aQ.length:Int)) (some (x1,(⟨(s.aQ.take ((aX ((s.aQ.length:Int) - 1)).toNat)).drop 0⟩:aO))))
def yP(x1:aA)(x2:Int)(x3:Bool):Option (aA×Int):=
 (if x3 then some (x1,(-1)) else (idx x1.Own x2).bind fun x4=>(tU x4).bind fun x5=>some ((⟨x1.Global,x1.Own.set x2.toNat x5.2⟩:aA),x5.1))
def HN(l:aA)(w_ c:Int):Option (aA×Int):=
 (g8 l).bind fun x1=>(IX w_ c).bind fun x2=>(jU l).bind fun x6=>(if !x6 then yP x1 x2 true else yP x1 x2 (decide (x2 < 0)))
def qH(c:Int)(x1:aA)(x2:Bool):Option (aA×Int):=
 (if x2 then some (x1,(-1)) else (idx x1.Global c).bind fun x3=>(tU x3).bind fun x4=>some ((⟨x1.Global.set c.toNat x4.2,x1.Own⟩:aA),x4.1))
def yQ(l:aA)(c:Int):Option (aA×Int):=
 (g8 l).bind fun x1=>(jU l).bind fun x5=>(if !x5 then qH c x1 true else (jT c).bind fun x6=>qH c x1 (!x6))
def GZ:Option Int:=
 some (-1)
def dZ(s:List Int)(v:Int):Int->Option (Step Int (Out Unit Int))
 | x2=>(if decide (x2 < (s.length:Int)) then (idx s x2).bind fun x3=>(if v == x3 then some (.stop (Out.ret x2)) else some (.next (aX (x2+1)))) else some (.stop (Out.brk ())))
def wU:(Out Unit Int)->Option Int
 | .brk ()=>GZ
 | .ret r=>some r
def lT(s:List Int)(v:Int):Option Int:=
 (loop (dZ s v) 0).bind (wU)
def IY(b x5:List Int):Option (List Int):=
 need (x5.length=b.length) (some x5)
def j6(b:List Int)(at_:Int)(text:List UInt8):((List Int)×Int)->Option (Step ((List Int)×Int) (List Int))
 | (x3,x4)=>need (x3.length=b.length) ((if decide (x4 < (text.length:Int)) then (idx text x4).bind fun x6=>(idx x3 (aX (at_+x4))).bind fun x7=>some (.next (x3.set ((aX (at_+x4)).toNat) (x6.toNat:Int),aX (x4+1))) else some (.stop (x3))))
def IZ(b:List Int):(List Int)->Option (List Int)
 | x5=>IY b x5
def lO(b:List Int)(at_:Int)(text:List UInt8):Option (List Int):=
 (loop (j6 b at_ text) (b,0)).bind (IZ b)
def vL(width:Int):Option Bool:=
 (bW width 1 7).bind fun x1=>some x1
def aF1(x8:List UInt8):Option (List UInt8):=
 some x8
def nY:(Int×(List UInt8)×Int)->Option (Step (Int×(List UInt8)×Int) (List UInt8))
 | (x5,x6,x7)=>(if decide (0<=x7) then (idx x6 x7).bind fun x9=>some (.next (nH .i64 x5 8,x6.set x7.toNat (u8 x5),aX (x7 - 1))) else some (.stop (x6)))
def aF2:(List UInt8)->Option (List UInt8)
 | x8=>aF1 x8
def sE(n width:Int)(x1:Bool):Option (List UInt8):=
 (if x1 then some ([]) else need (0<=(width:Int)/\(width:Int)<=4294967296) ((loop (nY) (n,List.replicate (width.toNat) 0,aX (width - 1))).bind (aF2)))
def kM(n width:Int):Option (List UInt8):=
 (vL width).bind fun x10=>(if !x10 then sE n width true else (if decide (n < 0) then sE n width true else need (0<=(IntKind.u64.wrap (aX (8 * width)):Int)) (sE n width (decide ((aCK .i64 1 (IntKind.u64.wrap (aX (8 * width))))<=n)))))
def sG(c:Int):Option Int:=
 (jT c).bind fun x1=>(if !x1 then some 0 else (AT c).bind fun x2=>some (aX (4+x2)))
def nK(c:Int):Option Int:=
 (jT c).bind fun x1=>(if !x1 then some 0 else (sG c).bind fun x2=>need (x2≠0) (some (aX (Int.tdiv 56 x2))))
def xJ(slot c:Int)(x1:Bool):Option Int:=
 (if x1 then some (-1) else (sG c).bind fun x2=>some (aX ((aX ((aX ((aX (Int.tdiv slot 4)) * 64))+8))+(aX ((Int.tmod slot 4) * x2)))))
def tV(slot c:Int):Option Int:=
 (lN slot).bind fun x3=>(if !x3 then xJ slot c true else (jT c).bind fun x4=>(if !x4 then xJ slot c true else (nK c).bind fun x5=>xJ slot c (decide (x5<=(Int.tmod slot 4)))))
def sH(h:Heap):Option Heap:=
 (jP h.Bytes).bind fun x1=>(jP h.Class).bind fun x2=>some (⟨x1,x2⟩:Heap)
def AU:Option Int:=
 some (-1)
def iH(s:List Int)(f:(Int->Option Bool)):Int->Option (Step Int (Out Unit Int))
 | x2=>(if decide (x2 < (s.length:Int)) then (idx s x2).bind fun x3=>(f x3).bind fun x4=>(if x4 then some (.stop (Out.ret x2)) else some (.next (aX (x2+1)))) else some (.stop (Out.brk ())))
def o9:(Out Unit Int)->Option Int
 | .brk ()=>AU
 | .ret r=>some r
def tW(s:List Int)(f:(Int->Option Bool)):Option Int:=
 (loop (iH s f) 0).bind (o9)
def gD(s:List Int)(f:(Int->Option Bool)):Option Bool:=
 (tW s f).bind fun x1=>some (decide (0<=x1))
def RH(x:Int):Option Bool:=
 (bW x 0 255).bind fun x1=>some x1
def BY(x:Int):Option Bool:=
 (RH x).bind fun x1=>some (!x1)
def yR(x1:Bool):Option Bool:=
 some x1
def HO(b:List Int):Option Bool:=
 (if decide ((b.length:Int)<=1000) then (gD b (fun y0=>BY y0)).bind fun x2=>yR (!x2) else yR false)
def EH(c:Int):Option Bool:=
 (bW c (-1) 2).bind fun x1=>some (!x1)
def pA(x1:Bool):Option Bool:=
 some x1
def E6(h:Heap):Option Bool:=
 (if (h.Bytes.length:Int) == 384 then (HO h.Bytes).bind fun x2=>(if x2 then (if (h.Class.length:Int) == 6 then (gD h.Class (fun y0=>EH y0)).bind fun x3=>pA (!x3) else pA false) else pA false) else pA false)
def Z1(x5:Int):Option Int:=
 some x5
def rH(b:List Int)(at_ width:Int):(Int×Int)->Option (Step (Int×Int) Int)
 | (x3,x4)=>(if decide (x4 < (((b.take ((aX (at_+width)).toNat)).drop at_.toNat).length:Int)) then (idx ((b.take ((aX (at_+width)).toNat)).drop at_.toNat) x4).bind fun x6=>some (.next (aX ((aX (256 * x3))+x6),aX (x4+1))) else some (.stop (x3)))
def Z2:Int->Option Int
 | x5=>Z1 x5
def nL(b:List Int)(at_ width:Int):Option Int:=
 need (0<=(at_:Int)/\(at_:Int)<=(aX (at_+width):Int)/\(aX (at_+width):Int)<=(b.length:Int)) ((loop (rH b at_ width) (0,0)).bind (Z2))
def EI(x:Int):Option Bool:=
 some (x != 0)
def E7(b:List Int):Option Bool:=
 (gD b (fun y0=>EI y0)).bind fun x1=>some (!x1)
def aDA:Option Bool:=
 some true
def pB(h:Heap)(page x1 x4:Int):Int->Option (Step Int (Out Unit Bool))
 | x6=>(if decide (x6 < x4) then (sG x1).bind fun x7=>(nL ((h.Bytes.take ((aX ((aX (page+1)) * 64)).toNat)).drop ((aX (page * 64)).toNat)) (aX (8+(aX (x6 * x7)))) 4).bind fun x8=>(bW x8 1 7).bind fun x9=>(if !x9 then some (.stop (Out.ret false)) else some (.next (aX (x6+1)))) else some (.stop (Out.brk ())))
def aDB:(Out Unit Bool)->Option Bool
 | .brk ()=>aDA
 | .ret r=>some r
def iZ(h:Heap)(page x1:Int)(x3:Bool):Option Bool:=
 (if x3 then some false else (nK x1).bind fun x4=>(loop (pB h page x1 x4) 0).bind (aDB))
def KY(h:Heap)(page:Int):Option Bool:=
 (idx h.Class page).bind fun x1=>need (0<=(aX (page * 64):Int)/\(aX (page * 64):Int)<=(aX ((aX (page+1)) * 64):Int)/\(aX ((aX (page+1)) * 64):Int)<=(h.Bytes.length:Int)) ((if decide (x1 < 0) then (E7 ((h.Bytes.take ((aX ((aX (page+1)) * 64)).toNat)).drop ((aX (page * 64)).toNat))).bind fun x2=>some x2 else (idx ((h.Bytes.take ((aX ((aX (page+1)) * 64)).toNat)).drop ((aX (page * 64)).toNat)) 0).bind fun x10=>(if x10 != 171 then iZ h page x1 true else (idx ((h.Bytes.take ((aX ((aX (page+1)) * 64)).toNat)).drop ((aX (page * 64)).toNat)) 1).bind fun x11=>(if x11 != x1 then iZ h page x1 true else (idx ((h.Bytes.take ((aX ((aX (page+1)) * 64)).toNat)).drop ((aX (page * 64)).toNat)) 2).bind fun x12=>(nK x1).bind fun x13=>(if x12 != x13 then iZ h page x1 true else need (0<=(3:Int)/\(3:Int)<=(8:Int)/\(8:Int)<=(((h.Bytes.take ((aX ((aX (page+1)) * 64)).toNat)).drop ((aX (page * 64)).toNat)).length:Int)) ((E7 ((((h.Bytes.take ((aX ((aX (page+1)) * 64)).toNat)).drop ((aX (page * 64)).toNat)).take ((8:Int).toNat)).drop ((3:Int).toNat))).bind fun x14=>iZ h page x1 (!x14)))))))
def aDC:Option Bool:=
 some true
def tX(h:Heap):Int->Option (Step Int (Out Unit Bool))
 | x3=>(if decide (x3 < 6) then (KY h x3).bind fun x4=>(if !x4 then some (.stop (Out.ret false)) else some (.next (aX (x3+1)))) else some (.stop (Out.brk ())))
def aDD:(Out Unit Bool)->Option Bool
 | .brk ()=>aDC
 | .ret r=>some r
def E8(h:Heap):Option Bool:=
 (E6 h).bind fun x1=>(if !x1 then some false else (loop (tX h) 0).bind (aDD))
def BZ(page index:Int)(x1:Bool):Option Int:=
 (if x1 then some (-1) else some (aX ((aX (page * 4))+index)))
def KZ(page index:Int):Option Int:=
 (bW page 0 5).bind fun x2=>(if !x2 then BZ page index true else (bW index 0 3).bind fun x3=>BZ page index (!x3))
def aF3(c:Int)(x1:Heap)(x2:Int)(x13 x14:List Int):Option (Heap×(List Int)):=
 some ((⟨x14,x1.Class.set x2.toNat c⟩:Heap),x13)
def LV(x10:List Int)(x11 x15:Int)(x16:List Int):Option (Step ((List Int)×Int×(List Int)) ((List Int)×(List Int))):=
 need (x10.length+([x15]).length<=1073741824) (some (.next (x10++([x15]),aX (x11+1),x16)))
def EJ(c x2 x6:Int):((List Int)×Int×(List Int))->Option (Step ((List Int)×Int×(List Int)) ((List Int)×(List Int)))
 | (x10,x11,x12)=>(if decide (x11 < x6) then (KZ x2 x11).bind fun x15=>(tV x15 c).bind fun x17=>(kM 1 4).bind fun x18=>(lO x12 x17 x18).bind fun x19=>LV x10 x11 x15 x19 else some (.stop ((x10,x12))))
def aF4(c:Int)(x1:Heap)(x2:Int):((List Int)×(List Int))->Option (Heap×(List Int))
 | (x13,x14)=>aF3 c x1 x2 x13 x14
def LW(c:Int)(x1:Heap)(x2:Int)(x5:List Int):Option (Heap×(List Int)):=
 (nK c).bind fun x6=>(loop (EJ c x2 x6) (([]:List Int),0,x5)).bind (aF4 c x1 x2)
def xK(c:Int)(x1:Heap)(x2:Int)(x3:Bool):Option (Heap×(List Int)):=
 (if x3 then some (x1,([]:List Int)) else (idx x1.Class x2).bind fun x4=>need (0<=(aX (x2 * 64):Int)/\(aX (x2 * 64):Int)<=(x1.Bytes.length:Int))<|(nK c).bind fun x20=>LW c x1 x2 (cM x1.Bytes ((aX (x2 * 64)).toNat) ([171,c,x20]:List Int)))
def DY(h:Heap)(c:Int):Option (Heap×(List Int)):=
 (sH h).bind fun x1=>(lT h.Class (-1)).bind fun x2=>(E8 h).bind fun x21=>(if !x21 then xK c x1 x2 true else (jT c).bind fun x22=>(if !x22 then xK c x1 x2 true else xK c x1 x2 (decide (x2 < 0))))
def F5(x4:Int)(x5:Mem):Option (Mem×Int):=
 some (x5,x4)
def F6(c:Int)(x1:Heap×(List Int))(x2:Mem):Option (Mem×Int):=
 (if (x1.2.length:Int) == 0 then some (x2,(-1)) else (idx x2.aA.Global c).bind fun x3=>need (0<=(1:Int)/\(1:Int)<=(x1.2.length:Int)) (need (x3.aQ.length+((x1.2.take x1.2.length).drop ((1:Int).toNat)).length<=1073741824) ((idx x1.2 0).bind fun x6=>F5 x6 (⟨x2.Heap,(⟨x2.aA.Global.set c.toNat (⟨x3.aQ++((x1.2.take x1.2.length).drop ((1:Int).toNat))⟩:aO),x2.aA.Own⟩:aA)⟩:Mem))))
def HP(m:Mem)(c:Int):Option (Mem×Int):=
 (DY m.Heap c).bind fun x1=>(g8 m.aA).bind fun x7=>F6 c x1 (⟨x1.1,x7⟩:Mem)
def yS(h:Heap)(slot:Int)(x1:Bool):Option Int:=
 (if x1 then some (-1) else (idx h.Class (aX (Int.tdiv slot 4))).bind fun x2=>some x2)
def jV(h:Heap)(slot:Int):Option Int:=
 (lN slot).bind fun x3=>(if !x3 then yS h slot true else (idx h.Class (aX (Int.tdiv slot 4))).bind fun x4=>(tV slot x4).bind fun x5=>yS h slot (decide (x5 < 0)))
def B3(h:Heap)(slot:Int):Option Int:=
 (E6 h).bind fun x1=>(if !x1 then some (-1) else (jV h slot).bind fun x2=>some x2)
def zW(h:Heap)(slot:Int):Option Int:=
 (B3 h slot).bind fun x1=>(if decide (x1 < 0) then some 0 else (tV slot x1).bind fun x2=>(nL h.Bytes x2 4).bind fun x3=>some x3)
def vM(slot gen:Int)(x1:Bool):Option Int:=
 (if x1 then some 0 else some (aX ((aX (gen * 32))+slot)))
def LX(slot gen:Int):Option Int:=
 (lN slot).bind fun x2=>(if !x2 then vM slot gen true else (bW gen 1 6).bind fun x3=>vM slot gen (!x3))
def EK(m:Mem)(slot:Int):Option Int:=
 (zW m.Heap slot).bind fun x1=>(LX slot x1).bind fun x2=>some x2
def g7(s:Sub)(x3:Int)(x4:aB):Option (Sub×aB):=
 (if decide (0<=x3) then (EK x4.Mem x3).bind fun x5=>(a8 ({s with Out:=x5}:Sub) 0).bind fun x6=>some (x6,x4) else (if s.Pc == 3 then (a8 s 3).bind fun x7=>some (x7,x4) else some (({s with Pc:=aX (s.Pc+1)}:Sub),x4)))
def mL(s:Sub)(b:aB)(x1:Int)(x9:Bool):Option (Sub×aB):=
 (if x9 then (yQ b.Mem.aA x1).bind fun x10=>g7 s x10.2 ({b with Mem:=(⟨b.Mem.Heap,x10.1⟩:Mem)}:aB) else (if s.Pc == 2 then (HP b.Mem x1).bind fun x11=>g7 s x11.2 ({b with Mem:=x11.1}:aB) else (a8 s 1).bind fun x12=>some (x12,b)))
def qI(s:Sub)(b:aB)(w_:Int):Option (Sub×aB):=
 (HM s.A).bind fun x1=>(if decide (x1 < 0) then (a8 s 2).bind fun x2=>some (x2,b) else (if s.Pc == 0 then (HN b.Mem.aA w_ x1).bind fun x8=>g7 s x8.2 ({b with Mem:=(⟨b.Mem.Heap,x8.1⟩:Mem)}:aB) else (if s.Pc == 1 then mL s b x1 true else mL s b x1 (s.Pc == 3))))
def wK:Option Int:=
 some (-1)
def jG(s:List bB)(f:(bB->Option Bool)):Int->Option (Step Int (Out Unit Int))
 | x2=>(if decide (x2 < (s.length:Int)) then (idx s x2).bind fun x3=>(f x3).bind fun x4=>(if x4 then some (.stop (Out.ret x2)) else some (.next (aX (x2+1)))) else some (.stop (Out.brk ())))
def wL:(Out Unit Int)->Option Int
 | .brk ()=>wK
 | .ret r=>some r
def qJ(s:List bB)(f:(bB->Option Bool)):Option Int:=
 (loop (jG s f) 0).bind (wL)
def jH(s:List bB)(f:(bB->Option Bool)):Option Bool:=
 (qJ s f).bind fun x1=>some (decide (0<=x1))
def xL:Option Int:=
 some (-1)
def jW(s:List dE)(f:(dE->Option Bool)):Int->Option (Step Int (Out Unit Int))
 | x2=>(if decide (x2 < (s.length:Int)) then (idx s x2).bind fun x3=>(f x3).bind fun x4=>(if x4 then some (.stop (Out.ret x2)) else some (.next (aX (x2+1)))) else some (.stop (Out.brk ())))
def xM:(Out Unit Int)->Option Int
 | .brk ()=>xL
 | .ret r=>some r
def sP(s:List dE)(f:(dE->Option Bool)):Option Int:=
 (loop (jW s f) 0).bind (xM)
def jX(s:List dE)(f:(dE->Option Bool)):Option Bool:=
 (sP s f).bind fun x1=>some (decide (0<=x1))
def lU(x1:Bool):Option Bool:=
 some x1
def fQ(h:Int):Option Bool:=
 (bW h 32 223).bind fun x2=>(if x2 then lU (decide ((Int.tmod h 32) < 24)) else lU false)
def oO(x1:Bool):Option Bool:=
 some x1
def pC(r_:dE)(k0:Int):Option Bool:=
 (fQ r_.Handle).bind fun x2=>(if x2 then oO ((Int.tmod r_.Handle 32) == k0) else oO false)
def B4(own:bB)(k0:Int):Option Bool:=
 (jX own.Rows (fun y0=>pC y0 k0)).bind fun x1=>some x1
def B5(l:List bB)(slot:Int):Option Bool:=
 (jH l (fun y0=>B4 y0 slot)).bind fun x1=>some x1
def k9(s:List Int)(v:Int):Option Bool:=
 (lT s v).bind fun x1=>some (decide (0<=x1))
def nZ(s:aO)(k0:Int):Option Bool:=
 (k9 s.aQ k0).bind fun x1=>some x1
def wM:Option Int:=
 some (-1)
def jI(s:List aO)(f:(aO->Option Bool)):Int->Option (Step Int (Out Unit Int))
 | x2=>(if decide (x2 < (s.length:Int)) then (idx s x2).bind fun x3=>(f x3).bind fun x4=>(if x4 then some (.stop (Out.ret x2)) else some (.next (aX (x2+1)))) else some (.stop (Out.brk ())))
def wN:(Out Unit Int)->Option Int
 | .brk ()=>wM
 | .ret r=>some r
def qK(s:List aO)(f:(aO->Option Bool)):Option Int:=
 (loop (jI s f) 0).bind (wN)
def gX(s:List aO)(f:(aO->Option Bool)):Option Bool:=
 (qK s f).bind fun x1=>some (decide (0<=x1))
def B6(x1:Bool):Option Bool:=
 some x1
def E9(l:aA)(slot:Int):Option Bool:=
 (gX l.Global (fun y0=>nZ y0 slot)).bind fun x2=>(if x2 then B6 true else (gX l.Own (fun y0=>nZ y0 slot)).bind fun x3=>B6 x3)
def HQ(m:Mem)(slot:Int):Option Int:=
 (jV m.Heap slot).bind fun x1=>(if decide (x1 < 0) then some 0 else (E9 m.aA slot).bind fun x2=>(if x2 then some 1 else (zW m.Heap slot).bind fun x3=>(if decide (6 < x3) then some 2 else some 3)))
def tY(x1:Bool):Option Bool:=
 some x1
def AV(m:Mem)(h:Int):Option Bool:=
 (fQ h).bind fun x2=>(if x2 then (HQ m (Int.tmod h 32)).bind fun x3=>(if x3 == 3 then (zW m.Heap (Int.tmod h 32)).bind fun x4=>tY (x4 == (aX (Int.tdiv h 32))) else tY false) else tY false)
def B7(x5:Int):Option Int:=
 some x5
def i4(l:List bB):(Int×Int)->Option (Step (Int×Int) Int)
 | (x3,x4)=>(if decide (x4 < (l.length:Int)) then (idx l x4).bind fun x6=>some (.next (aX (x3+(x6.Rows.length:Int)),aX (x4+1))) else some (.stop (x3)))
def WK:Int->Option Int
 | x5=>B7 x5
def tZ(l:List bB):Option Int:=
 (loop (i4 l) (0,0)).bind (WK)
def yT(l:List bB):Option Bool:=
 (tZ l).bind fun x5=>some (decide (x5<=24))
def yU(x3:Int)(x11:List Bool):Option (Step (Int×(List Bool)) (Out Unit Bool)):=
 some (.next (aX (x3+1),x11))
def jC(x9:Int)(x10:List Bool)(x12:dE)(x13:Bool):Option (Step (Int×(List Bool)) (Out (List Bool) Bool)):=
 (if x13 then some (.stop (Out.ret false)) else need (0<=(Int.tmod x12.Handle 32:Int)/\(Int.tmod x12.Handle 32:Int) < 24) ((idx (x10:List Bool) (Int.tmod x12.Handle 32)).bind fun x14=>some (.next (aX (x9+1),x10.set ((Int.tmod x12.Handle 32).toNat) true))))
def kN(x6:bB):(Int×(List Bool))->Option (Step (Int×(List Bool)) (Out (List Bool) Bool))
 | (x9,x10)=>(if decide (x9 < (x6.Rows.length:Int)) then (idx x6.Rows x9).bind fun x12=>(fQ x12.Handle).bind fun x15=>(if !x15 then jC x9 x10 x12 true else (bW x12.aM 0 100000).bind fun x16=>(if !x16 then jC x9 x10 x12 true else need (0<=(Int.tmod x12.Handle 32:Int)/\(Int.tmod x12.Handle 32:Int) < 24) ((idx (x10:List Bool) (Int.tmod x12.Handle 32)).bind fun x17=>jC x9 x10 x12 x17))) else some (.stop (Out.brk x10)))
def PW(x3:Int):(Out (List Bool) Bool)->Option (Step (Int×(List Bool)) (Out Unit Bool))
 | .brk x11=>yU x3 x11
 | .ret r=>some (.stop (Out.ret r))
def kO(l:List bB):(Int×(List Bool))->Option (Step (Int×(List Bool)) (Out Unit Bool))
 | (x3,x4)=>(if decide (x3 < (l.length:Int)) then (idx l x3).bind fun x6=>(loop (kN x6) (0,x4)).bind (PW x3) else some (.stop (Out.brk ())))
def PX(l:List bB):(Out Unit Bool)->Option Bool
 | .brk ()=>yT l
 | .ret r=>some r
def nM(l:List bB):Option Bool:=
 (if (l.length:Int) != 3 then some false else (loop (kO l) (0,[false,false,false,false,false,false,false,false,false,false,false,false,false,false,false,false,false,false,false,false,false,false,false,false])).bind (PX l))
def tD(s:List dE):Option (List dE):=
 need (([]:List dE).length+s.length<=1073741824) (some (([]:List dE)++s))
def WL(x5:List bB):Option (List bB):=
 some x5
def B8(l:List bB):((List bB)×Int)->Option (Step ((List bB)×Int) (List bB))
 | (x3,x4)=>(if decide (x4 < (l.length:Int)) then (idx l x4).bind fun x6=>(tD x6.Rows).bind fun x7=>need (x3.length+([(⟨x7⟩:bB)]).length<=1073741824) (some (.next (x3++([(⟨x7⟩:bB)]),aX (x4+1)))) else some (.stop (x3)))
def WM:(List bB)->Option (List bB)
 | x5=>WL x5
def mA(l:List bB):Option (List bB):=
 (loop (B8 l) (([]:List bB),0)).bind (WM)
def vN(l:List bB)(w_ h e_:Int)(x1:Bool):Option ((List bB)×Bool):=
 (if x1 then (mA l).bind fun x2=>some (x2,false) else (mA l).bind fun x3=>(idx x3 w_).bind fun x4=>need (x4.Rows.length+([(⟨h,e_⟩:dE)]).length<=1073741824) ((nM (x3.set w_.toNat (⟨x4.Rows++([(⟨h,e_⟩:dE)])⟩:bB))).bind fun x5=>(if !x5 then (mA l).bind fun x6=>some (x6,false) else some (x3.set w_.toNat (⟨x4.Rows++([(⟨h,e_⟩:dE)])⟩:bB),true))))
def EL(l:List bB)(w_ h e_:Int):Option ((List bB)×Bool):=
 (nM l).bind fun x7=>(if !x7 then vN l w_ h e_ true else (fP w_).bind fun x8=>vN l w_ h e_ (!x8))
def lJ(s:Sub)(b:aB)(w_:Int)(x3:Bool):Option (Sub×aB):=
 (if x3 then (a8 s 4).bind fun x4=>some (x4,b) else (EL b.bJ w_ s.A s.E).bind fun x5=>(a8 s 0).bind fun x6=>some (x6,({b with bJ:=x5.1}:aB)))
def lK(s:Sub)(b:aB)(w_:Int)(x1:Bool):Option (Sub×aB):=
 (if x1 then (a8 s 1).bind fun x2=>some (x2,b) else (AV b.Mem s.A).bind fun x7=>(if !x7 then lJ s b w_ true else (B5 b.bJ (Int.tmod s.A 32)).bind fun x8=>lJ s b w_ x8))
def oP(s:Sub)(b:aB)(w_:Int):Option (Sub×aB):=
 (if s.Pc == 0 then some (({s with Pc:=1,E:=b.aH.aM}:Sub),b) else (if s.Pc != 1 then lK s b w_ true else (bW s.E 0 b.aH.aM).bind fun x9=>lK s b w_ (!x9)))
def vO(s:List sC):Option (List sC):=
 need (([]:List sC).length+s.length<=1073741824) (some (([]:List sC)++s))
def mB(c:aH):Option aH:=
 (vO c.cV).bind fun x1=>some (⟨c.aM,x1⟩:aH)
def AW:Option Int:=
 some (-1)
def iI(s:List sC)(f:(sC->Option Bool)):Int->Option (Step Int (Out Unit Int))
 | x2=>(if decide (x2 < (s.length:Int)) then (idx s x2).bind fun x3=>(f x3).bind fun x4=>(if x4 then some (.stop (Out.ret x2)) else some (.next (aX (x2+1)))) else some (.stop (Out.brk ())))
def pD:(Out Unit Int)->Option Int
 | .brk ()=>AW
 | .ret r=>some r
def uA(s:List sC)(f:(sC->Option Bool)):Option Int:=
 (loop (iI s f) 0).bind (pD)
def kE(s:List sC)(f:(sC->Option Bool)):Option Bool:=
 (uA s f).bind fun x1=>some (decide (0<=x1))
def kG(x1:Bool):Option Bool:=
 some x1
def uB(p:sC)(k0:aH):Option Bool:=
 (bW p.aM 0 k0.aM).bind fun x2=>(if !x2 then kG true else (bW p.Seen 0 2).bind fun x3=>(if !x3 then kG true else (if !p.On then kG (!(decide (p=(⟨false,0,false,0⟩:sC)))) else kG false)))
def rI(x1:Bool):Option Bool:=
 some x1
def qL(c:aH):Option Bool:=
 (bW c.aM 0 100000).bind fun x2=>(if x2 then (if (c.cV.length:Int) == 3 then (kE c.cV (fun y0=>uB y0 c)).bind fun x3=>rI (!x3) else rI false) else rI false)
def pE(w_:Int)(x1:aH)(x4:Bool):Option (aH×Bool):=
 (if x4 then some (x1,true) else (idx x1.cV w_).bind fun x5=>(if decide (x5.Seen < 2) then some ((⟨x1.aM,x1.cV.set w_.toNat ({x5 with Seen:=aX (x5.Seen+1)}:sC)⟩:aH),false) else some ((⟨x1.aM,x1.cV.set w_.toNat ({x5 with gP:=true,Seen:=0}:sC)⟩:aH),true)))
def B9(w_ e_:Int)(x1:aH)(x2:Bool):Option (aH×Bool):=
 (if x2 then some (x1,false) else (idx x1.cV w_).bind fun x3=>(if !x3.On then pE w_ x1 true else (if x3.gP then pE w_ x1 true else pE w_ x1 (x3.aM == e_))))
def K0(c:aH)(w_ e_:Int):Option (aH×Bool):=
 (mB c).bind fun x1=>(qL c).bind fun x6=>(if !x6 then B9 w_ e_ x1 true else (fP w_).bind fun x7=>B9 w_ e_ x1 (!x7))
def CA(x1:aH)(x2:Bool):Option (aH×Bool):=
 (if x2 then some (x1,false) else some ((⟨aX (x1.aM+1),x1.cV⟩:aH),true))
def S3(c:aH)(e_:Int):Option (aH×Bool):=
 (mB c).bind fun x1=>(qL c).bind fun x3=>(if !x3 then CA x1 true else (if c.aM != e_ then CA x1 true else CA x1 (c.aM == 100000)))
def kH(s:Sub)(b:aB)(x4:aH×Bool)(x5:Int):Option (Sub×aB):=
 (a8 ({s with Out:=x5}:Sub) 0).bind fun x6=>some (x6,({b with aH:=x4.1}:aB))
def kI(s:Sub)(b:aB)(x1:Bool):Option (Sub×aB):=
 (if x1 then (K0 b.aH s.B s.E).bind fun x2=>(if !x2.2 then (a8 s 8).bind fun x3=>some (x3,({b with aH:=x2.1}:aB)) else (if (aX (s.B+1)) == 3 then some (({s with Pc:=2,B:=aX (s.B+1)}:Sub),({b with aH:=x2.1}:aB)) else some (({s with B:=aX (s.B+1)}:Sub),({b with aH:=x2.1}:aB)))) else (if s.Pc == 2 then (S3 b.aH s.E).bind fun x4=>(if x4.2 then kH s b x4 1 else kH s b x4 s.Out) else (a8 s 1).bind fun x7=>some (x7,b)))
def nN(s:Sub)(b:aB):Option (Sub×aB):=
 (if s.Pc == 0 then some (({s with Pc:=1,E:=b.aH.aM,B:=0}:Sub),b) else (if s.Pc == 1 then (fP s.B).bind fun x8=>kI s b x8 else kI s b false))
def I0(x3 x5:List Int):Option (Heap×Bool):=
 some ((⟨x5,x3⟩:Heap),true)
def CB(slot gen x1:Int)(x2 x3:List Int)(x4:Bool):Option (Heap×Bool):=
 (if x4 then some ((⟨x2,x3⟩:Heap),false) else (tV slot x1).bind fun x6=>(kM gen 4).bind fun x7=>(lO x2 x6 x7).bind fun x8=>I0 x3 x8)
def I1(slot gen x1:Int)(x2 x3:List Int):Option (Heap×Bool):=
 (if decide (x1 < 0) then CB slot gen x1 x2 x3 true else (bW gen 1 7).bind fun x9=>CB slot gen x1 x2 x3 (!x9))
def RI(h:Heap)(slot gen:Int):Option (Heap×Bool):=
 (sH h).bind fun x10=>(B3 h slot).bind fun x11=>I1 slot gen x11 x10.Bytes x10.Class
def vP(c slot:Int)(x1:aA)(x2:Int)(x3:Bool):Option (aA×Bool):=
 (if x3 then some (x1,false) else (idx x1.Own x2).bind fun x4=>(if decide (2<=(x4.aQ.length:Int)) then (idx x1.Global c).bind fun x5=>need (x5.aQ.length+([slot]).length<=1073741824) (some ((⟨x1.Global.set c.toNat (⟨x5.aQ++([slot])⟩:aO),x1.Own⟩:aA),true)) else need (x4.aQ.length+([slot]).length<=1073741824) (some ((⟨x1.Global,x1.Own.set x2.toNat (⟨x4.aQ++([slot])⟩:aO)⟩:aA),true))))
def YE(l:aA)(w_ c slot:Int):Option (aA×Bool):=
 (g8 l).bind fun x1=>(IX w_ c).bind fun x2=>(jU l).bind fun x6=>(if !x6 then vP c slot x1 x2 true else (if decide (x2 < 0) then vP c slot x1 x2 true else (lN slot).bind fun x7=>(if !x7 then vP c slot x1 x2 true else (E9 l slot).bind fun x8=>vP c slot x1 x2 x8)))
def LY(x3:Mem):Option Mem:=
 some x3
def LZ(m:Mem)(w_ h:Int)(x2:Mem):Option Mem:=
 (if decide ((aX ((aX (Int.tdiv h 32))+1))<=6) then (jV m.Heap (Int.tmod h 32)).bind fun x4=>(YE m.aA w_ x4 (Int.tmod h 32)).bind fun x5=>LY (⟨x2.Heap,x5.1⟩:Mem) else LY x2)
def I2(m:Mem)(w_ h:Int):Option Mem:=
 (RI m.Heap (Int.tmod h 32) (aX ((aX (Int.tdiv h 32))+1))).bind fun x1=>(g8 m.aA).bind fun x6=>LZ m w_ h (⟨x1.1,x6⟩:Mem)
def CC(x1:Bool):Option Bool:=
 some x1
def FA(l:List bB)(w_ i:Int):Option Bool:=
 (fP w_).bind fun x2=>(if x2 then (idx l w_).bind fun x3=>(bW i 0 (aX ((x3.Rows.length:Int) - 1))).bind fun x4=>CC x4 else CC false)
def HR(x1:Bool):Option Bool:=
 some x1
def NN(r_:dE)(e_:Int):Option Bool:=
 (if decide (2<=e_) then HR (decide (r_.aM<=(aX (e_ - 2)))) else HR false)
def FB(s:Sub)(b:aB):Option (Sub×aB):=
 (a8 s 0).bind fun x3=>some (x3,b)
def eJ(s:Sub)(b:aB)(w_:Int):Int->Option (Step Int (Out Unit (Sub×aB)))
 | x2=>(idx b.bJ w_).bind fun x4=>(if decide (x2 < (x4.Rows.length:Int)) then (idx x4.Rows x2).bind fun x5=>(NN x5 s.E).bind fun x6=>(if x6 then some (.stop (Out.ret (({s with Pc:=2,Row:=x2,B:=0,H:=x5.Handle}:Sub),b))) else some (.next (aX (x2+1)))) else some (.stop (Out.brk ())))
def RJ(s:Sub)(b:aB):(Out Unit (Sub×aB))->Option (Sub×aB)
 | .brk ()=>FB s b
 | .ret r=>some r
def nO(s:Sub)(b:aB)(w_:Int):Option (Sub×aB):=
 (loop (eJ s b w_) (if s.Row < 0 then 0 else s.Row)).bind (RJ s b)
def zX(s:List dE)(i j:Int):Option (List dE):=
 need (0<=(i:Int)/\(i:Int)<=(j:Int)/\(j:Int)<=((s.length:Int):Int)/\((s.length:Int):Int)<=(s.length:Int)) ((if i == j then some s else need (0<=(i:Int)/\(i:Int)<=(s.length:Int)) (need (0<=(j:Int)/\(j:Int)<=(s.length:Int)) (need (i.toNat<=j.toNat) (need (0<=(((((cM s i.toNat (s.drop j.toNat)).take (i.toNat+(s.length - j.toNat))).drop 0).length:Int):Int)/\(((((cM s i.toNat (s.drop j.toNat)).take (i.toNat+(s.length - j.toNat))).drop 0).length:Int):Int)<=((s.length:Int):Int)/\((s.length:Int):Int)<=((cM s i.toNat (s.drop j.toNat)).length:Int)) (some (((cM s i.toNat (s.drop j.toNat)).take (i.toNat+(s.length - j.toNat))).drop 0)))))))
def yV(w_ i:Int)(x1:(List bB))(x2:Bool):Option ((List bB)×Bool):=
 (if x2 then some (x1,false) else (idx x1 w_).bind fun x3=>(zX x3.Rows i (aX (i+1))).bind fun x4=>some (x1.set w_.toNat (⟨x4⟩:bB),true))
def HT(l:List bB)(w_ i:Int):Option ((List bB)×Bool):=
 (mA l).bind fun x1=>(nM l).bind fun x5=>(if !x5 then yV w_ i x1 true else (FA l w_ i).bind fun x6=>yV w_ i x1 (!x6))
def cZ(s:Sub)(b:aB)(w_:Int)(x5:Bool):Option (Sub×aB):=
 (if x5 then (HT b.bJ w_ s.Row).bind fun x6=>(I2 b.Mem w_ s.H).bind fun x7=>some (({s with Pc:=1,Out:=aX (s.Out+1)}:Sub),({b with Mem:=x7,bJ:=x6.1}:aB)) else (a8 s 1).bind fun x8=>some (x8,b))
def dX(s:Sub)(b:aB)(w_:Int)(x1 x3:Bool):Option (Sub×aB):=
 (if x3 then (idx b.A4 s.B).bind fun x4=>(if x4 == s.H then some (({s with Pc:=1,Row:=aX (s.Row+1)}:Sub),b) else (if (aX (s.B+1)) == 3 then some (({s with Pc:=3,B:=aX (s.B+1)}:Sub),b) else some (({s with B:=aX (s.B+1)}:Sub),b))) else (if s.Pc == 3 then (if x1 then (idx b.bJ w_).bind fun x9=>(idx x9.Rows s.Row).bind fun x10=>(NN x10 s.E).bind fun x11=>cZ s b w_ x11 else cZ s b w_ false) else cZ s b w_ false))
def eY(s:Sub)(b:aB)(w_:Int)(x1:Bool):Option (Sub×aB):=
 (if s.Pc == 0 then some (({s with Pc:=1,E:=b.aH.aM,Row:=0}:Sub),b) else (if s.Pc == 1 then (nO s b w_).bind fun x2=>some (x2.1,x2.2) else (if s.Pc == 2 then (fP s.B).bind fun x12=>(if x12 then dX s b w_ x1 x1 else dX s b w_ x1 false) else dX s b w_ x1 false)))
def nP(s:Sub)(b:aB)(w_:Int):Option (Sub×aB):=
 (FA b.bJ w_ s.Row).bind fun x13=>(if x13 then (idx b.bJ w_).bind fun x14=>(idx x14.Rows s.Row).bind fun x15=>eY s b w_ (x15.Handle == s.H) else eY s b w_ false)
def xN(w_ e_:Int)(x1:aH)(x2:Bool):Option (aH×Bool):=
 (if x2 then some (x1,false) else (idx x1.cV w_).bind fun x3=>some ((⟨x1.aM,x1.cV.set w_.toNat (⟨true,e_,false,0⟩:sC)⟩:aH),true))
def OI(c:aH)(w_ e_:Int):Option (aH×Bool):=
 (mB c).bind fun x1=>(qL c).bind fun x4=>(if !x4 then xN w_ e_ x1 true else (fP w_).bind fun x5=>(if !x5 then xN w_ e_ x1 true else (bW e_ 0 c.aM).bind fun x6=>xN w_ e_ x1 (!x6)))
def wV(s:Sub)(b:aB)(x1:Bool)(x2:Int)(x3:List sC):Option (Sub×aB):=
 (if !x1 then (a8 s 1).bind fun x4=>some (x4,b) else some (({s with Pc:=2}:Sub),({b with aH:=(⟨x2,x3⟩:aH)}:aB)))
def vQ(s:Sub)(b:aB)(w_:Int):Option (Sub×aB):=
 (if s.Pc == 0 then some (({s with Pc:=1,E:=b.aH.aM}:Sub),b) else (if s.Pc == 1 then (OI b.aH w_ s.E).bind fun x5=>wV s b x5.2 x5.1.aM x5.1.cV else (if s.Pc == 2 then (if b.aH.aM == s.E then (a8 s 0).bind fun x6=>some (x6,b) else some (({s with Pc:=0}:Sub),b)) else (a8 s 1).bind fun x7=>some (x7,b))))
def oA(s:Sub)(b:aB)(w_:Int):Option (Sub×aB):=
 (if s.dJ then some (s,b) else (if s.Kind == 1 then (qI s b w_).bind fun x1=>some (x1.1,x1.2) else (if s.Kind == 2 then (oP s b w_).bind fun x2=>some (x2.1,x2.2) else (if s.Kind == 3 then (nN s b).bind fun x3=>some (x3.1,x3.2) else (if s.Kind == 4 then (nP s b w_).bind fun x4=>some (x4.1,x4.2) else (if s.Kind == 5 then (vQ s b w_).bind fun x5=>some (x5.1,x5.2) else (a8 s 1).bind fun x6=>some (x6,b)))))))
def qM(t:Table)(w_:Int):Option Table:=
 (idx t.aN w_).bind fun x1=>(oA x1.Sub t.aB w_).bind fun x2=>(if !x2.1.dJ then some ({t with aB:=x2.2,aN:=t.aN.set w_.toNat ({x1 with Sub:=x2.1}:aE)}:Table) else (if x1.Pc == 0 then some ({t with aB:=x2.2,aN:=t.aN.set w_.toNat ({x1 with Pc:=1,Sub:=x2.1}:aE)}:Table) else (if x1.Pc == 20 then (j5 4 0).bind fun x3=>some ({t with aB:=x2.2,aN:=t.aN.set w_.toNat ({x1 with Pc:=21,Sub:=x3}:aE)}:Table) else some ({t with aB:=x2.2,aN:=t.aN.set w_.toNat ({x1 with Pc:=19,Sub:=x2.1}:aE)}:Table))))
def nQ(j:aE):Option (iG×Bool×aE):=
 (bW j.At 0 (aX ((j.Batch.bK.length:Int) - 1))).bind fun x1=>(if !x1 then some ((⟨0,0,0⟩:iG),false,j) else (idx j.Batch.bK j.At).bind fun x2=>some (x2,true,j))
def cH(j:aE)(code:Int):Option aE:=
 some ({j with Pc:=16,Code:=code}:aE)
def J4:Option Int:=
 some (-1)
def mV(s:List aU)(f:(aU->Option Bool)):Int->Option (Step Int (Out Unit Int))
 | x2=>(if decide (x2 < (s.length:Int)) then (idx s x2).bind fun x3=>(f x3).bind fun x4=>(if x4 then some (.stop (Out.ret x2)) else some (.next (aX (x2+1)))) else some (.stop (Out.brk ())))
def J5:(Out Unit Int)->Option Int
 | .brk ()=>J4
 | .ret r=>some r
def cN(s:List aU)(f:(aU->Option Bool)):Option Int:=
 (loop (mV s f) 0).bind (J5)
def uC(x8:List aU)(x9:Int):Option (List aU):=
 need (0<=(x9:Int)/\(x9:Int)<=(x8.length:Int)) (need (0<=(x9:Int)/\(x9:Int)<=((cM x8 x9.toNat (List.replicate (x8.length - x9.toNat) (⟨0,false,0⟩:aU))).length:Int)) (some (((cM x8 x9.toNat (List.replicate (x8.length - x9.toNat) (⟨0,false,0⟩:aU))).take x9.toNat).drop 0)))
def gJ(x7:Int)(x10:List aU)(x11:Int):Option (Step ((List aU)×Int×Int) ((List aU)×Int)):=
 some (.next (x10,x11,aX (x7+1)))
def i5(del:(aU->Option Bool)):((List aU)×Int×Int)->Option (Step ((List aU)×Int×Int) ((List aU)×Int))
 | (x5,x6,x7)=>(if decide (x7 < (x5.length:Int)) then (idx x5 x7).bind fun x12=>(del x12).bind fun x13=>(if !x13 then (idx x5 x6).bind fun x14=>gJ x7 (x5.set x6.toNat x12) (aX (x6+1)) else gJ x7 x5 x6) else some (.stop ((x5,x6))))
def uD:((List aU)×Int)->Option (List aU)
 | (x8,x9)=>uC x8 x9
def iJ(s:List aU)(del:(aU->Option Bool)):Option (List aU):=
 (cN s del).bind fun x1=>(if x1 == (-1) then some s else (loop (i5 del) (s,x1,aX (x1+1))).bind (uD))
def zY(s:List aU):Option (List aU):=
 need (([]:List aU).length+s.length<=1073741824) (some (([]:List aU)++s))
def F7(x k0:aU):Option Bool:=
 some (x.Key == k0.Key)
def yW(x k0:aU):Option Bool:=
 some (decide (k0.Key < x.Key))
def oQ(s:List aU)(i:Int)(v:List aU):Option (List aU):=
 need (0<=i/\i<=(s.length:Int)/\s.length+v.length<=1073741824) (some (s.take i.toNat++v++s.drop i.toNat))
def pG(w_:aU)(x2:(List aU))(x4:Int):Option (List aU):=
 (oQ x2 x4 ([w_])).bind fun x5=>some x5
def EM(l:List aU)(w_:aU):Option (List aU):=
 (zY l).bind fun x1=>(iJ x1 (fun y0=>F7 y0 w_)).bind fun x2=>(cN x2 (fun y0=>yW y0 w_)).bind fun x3=>(if decide (x3 < 0) then pG w_ x2 (x2.length:Int) else pG w_ x2 x3)
def pH(j:aE)(x:aU):Option (Bool×aE):=
 (EM j.aJ x).bind fun x1=>(if decide (6 < (x1.length:Int)) then (cH j 1).bind fun x2=>some (false,x2) else some (true,({j with aJ:=x1}:aE)))
def CD(x:aU)(k0:Int):Option Bool:=
 some (x.Key == k0)
def HU(l:List aU)(key:Int):Option (aU×Bool):=
 (cN l (fun y0=>CD y0 key)).bind fun x1=>(if decide (x1 < 0) then some ((⟨0,false,0⟩:aU),false) else (idx l x1).bind fun x2=>some (x2,true))
def U2(a_ b:Int):Option Int:=
 some (Int.tmod (aX (a_+b)) 65536)
def oR(x5:aE):Option aE:=
 some ({x5 with Pc:=1,At:=aX (x5.At+1)}:aE)
def lA(x2:aE)(x3:Bool)(x4:Int):Option aE:=
 need (x2.eA.length+([(⟨x3,x4⟩:eA)]).length<=1073741824)<|oR ({x2 with eA:=x2.eA++([(⟨x3,x4⟩:eA)])}:aE)
def lB(j:aE)(c:iG)(is:Bool)(x1:Int):Option aE:=
 (if c.Kind == 4 then (U2 x1 c.dO).bind fun x6=>(pH j (⟨c.Key,false,x6⟩:aU)).bind fun x7=>(if !x7.1 then some x7.2 else lA x7.2 true x6) else lA j is x1)
def pI(j:aE)(c:iG)(val:Int)(is:Bool):Option aE:=
 (if !is then lB j c is 0 else lB j c is val)
def DZ(key:Int):Option Int:=
 (bW key 0 99).bind fun x1=>(if !x1 then some (-1) else some (Int.tmod key 2))
def CE(x1:iG×Bool×aE)(x6:Bool)(x7:aE)(x8:Int)(x9:Bool)(x10:Int):Option aE:=
 (if x6 then (pI x7 x1.1 x10 (!x9)).bind fun x11=>some x11 else (DZ x1.1.Key).bind fun x12=>some ({x7 with Pc:=2,bT:=x12}:aE))
def i6(x1:iG×Bool×aE)(x3:Bool)(x4:aE):Option aE:=
 (if x3 then (pH x4 (⟨x1.1.Key,x1.1.Kind == 3,x1.1.dO⟩:aU)).bind fun x5=>(if x5.1 then need (x5.2.eA.length+([(⟨false,0⟩:eA)]).length<=1073741824) (some (⟨x5.2.iY,x5.2.Batch,x5.2.aS,x5.2.Pc,aX (x5.2.At+1),x5.2.K,x5.2.bT,x5.2.fM,x5.2.H,x5.2.fF,x5.2.Node,x5.2.Found,x5.2.Code,x5.2.Sub,x5.2.Reads,x5.2.aJ,x5.2.eA++([(⟨false,0⟩:eA)]),x5.2.fL,x5.2.aW,x5.2.cG⟩:aE)) else some x5.2) else (HU x4.aJ x1.1.Key).bind fun x13=>CE x1 x13.2 x4 x13.1.Key x13.1.GX x13.1.dO)
def CF(j:aE):Option aE:=
 (nQ j).bind fun x1=>(if !x1.2.1 then (j5 1 16).bind fun x2=>some (⟨x1.2.2.iY,x1.2.2.Batch,x1.2.2.aS,6,x1.2.2.At,0,x1.2.2.bT,x1.2.2.fM,x1.2.2.H,x1.2.2.fF,x1.2.2.Node,x1.2.2.Found,x1.2.2.Code,x2,x1.2.2.Reads,x1.2.2.aJ,x1.2.2.eA,x1.2.2.fL,x1.2.2.aW,x1.2.2.cG⟩:aE) else (if x1.1.Kind == 2 then i6 x1 true x1.2.2 else i6 x1 (x1.1.Kind == 3) x1.2.2))
def CG(h:Heap)(slot:Int):Option Bool:=
 (jV h slot).bind fun x1=>(AT x1).bind fun x2=>some (decide (10<=x2))
def HV(slot c:Int):Option Int:=
 (tV slot c).bind fun x1=>(if decide (x1 < 0) then some (-1) else some (aX (x1+4)))
def vR(h:Heap)(slot:Int):Option Int:=
 (jV h slot).bind fun x1=>(HV slot x1).bind fun x2=>some x2
def K1(h:Heap)(slot:Int):Option bP:=
 (vR h slot).bind fun x1=>(nL h.Bytes x1 2).bind fun x2=>(nL h.Bytes (aX (x1+2)) 4).bind fun x3=>(nL h.Bytes (aX (x1+6)) 4).bind fun x4=>some (⟨x2,x3,x4⟩:bP)
def CH(m:Mem)(h:Int)(x1:Bool):Option (bP×Int):=
 (if x1 then some ((⟨0,0,0⟩:bP),4) else (CG m.Heap (Int.tmod h 32)).bind fun x2=>(if !x2 then some ((⟨0,0,0⟩:bP),2) else (K1 m.Heap (Int.tmod h 32)).bind fun x3=>some (x3,0)))
def FC(m:Mem)(h:Int):Option (bP×Int):=
 (fQ h).bind fun x4=>(if !x4 then CH m h true else (jV m.Heap (Int.tmod h 32)).bind fun x5=>CH m h (decide (x5 < 0)))
def mM(x1:Bool):Option Bool:=
 some x1
def zZ(p:sC):Option Bool:=
 (if p.On then mM (!p.gP) else mM false)
def fW(n:bP):Option Int:=
 (fQ n.Next).bind fun x1=>(if !x1 then some 0 else some n.Next)
def CI(s:List Seen):Option (List Seen):=
 need (([]:List Seen).length+s.length<=1073741824) (some (([]:List Seen)++s))
def L4:Option Int:=
 some (-1)
def oB(s:List Seen)(f:(Seen->Option Bool)):Int->Option (Step Int (Out Unit Int))
 | x2=>(if decide (x2 < (s.length:Int)) then (idx s x2).bind fun x3=>(f x3).bind fun x4=>(if x4 then some (.stop (Out.ret x2)) else some (.next (aX (x2+1)))) else some (.stop (Out.brk ())))
def L5:(Out Unit Int)->Option Int
 | .brk ()=>L4
 | .ret r=>some r
def dV(s:List Seen)(f:(Seen->Option Bool)):Option Int:=
 (loop (oB s f) 0).bind (L5)
def CJ(s:Seen)(k0:Int):Option Bool:=
 some (s.bT == k0)
def HW(l:List Seen)(b v:Int):Option ((List Seen)×Bool):=
 (CI l).bind fun x1=>(dV l (fun y0=>CJ y0 b)).bind fun x2=>(if decide (x2 < 0) then need (x1.length+([(⟨b,v⟩:Seen)]).length<=1073741824) (some (x1++([(⟨b,v⟩:Seen)]),true)) else (idx l x2).bind fun x3=>some (x1,x3.fM == v))
def qN(t:Table)(w_:Int)(x13:List aE)(x14:Bool):Option Table:=
 (if x14 then (idx x13 w_).bind fun x15=>some ({t with aN:=x13.set w_.toNat ({x15 with Pc:=5}:aE)}:Table) else some ({t with aN:=x13}:Table))
def z5(t:Table)(w_:Int)(x13:List aE):Option Table:=
 (idx x13 w_).bind fun x16=>(if x16.Found then qN t w_ x13 true else qN t w_ x13 (x16.H == 0))
def I3(t:Table)(x26:List aE):Option Table:=
 some ({t with aN:=x26}:Table)
def z6(t:Table)(w_:Int)(x6:iG×Bool×aE)(x21:List Seen)(x22:Bool):Option Table:=
 (idx (t.aN.set w_.toNat x6.2.2) w_).bind fun x23=>(if !x22 then (cH ({x23 with Reads:=x21}:aE) 7).bind fun x24=>some ({t with aN:=(t.aN.set w_.toNat x6.2.2).set w_.toNat x24}:Table) else (if !x6.2.1 then (cH ({x23 with Reads:=x21}:aE) 1).bind fun x25=>some ({t with aN:=(t.aN.set w_.toNat x6.2.2).set w_.toNat x25}:Table) else (pI ({x23 with Reads:=x21}:aE) x6.1 x23.Node.dO x23.Found).bind fun x27=>I3 t ((t.aN.set w_.toNat x6.2.2).set w_.toNat x27)))
def hY(t:Table)(w_:Int)(x6:iG×Bool×aE)(x18:Bool):Option Table:=
 (if x18 then (idx (t.aN.set w_.toNat x6.2.2) w_).bind fun x19=>(cH x19 7).bind fun x20=>some ({t with aN:=(t.aN.set w_.toNat x6.2.2).set w_.toNat x20}:Table) else (idx (t.aN.set w_.toNat x6.2.2) w_).bind fun x28=>(HW x28.Reads x28.bT x28.fM).bind fun x29=>z6 t w_ x6 x29.1 x29.2)
def z7(t:Table)(w_ x2 x3 x4:Int):Option Table:=
 (idx t.aN w_).bind fun x5=>(nQ x5).bind fun x6=>(if x6.2.2.Pc == 2 then (if x4 != 0 then (cH x6.2.2 7).bind fun x7=>some ({t with aN:=t.aN.set w_.toNat x7}:Table) else (if x2 == 0 then some ({t with aN:=t.aN.set w_.toNat (⟨x6.2.2.iY,x6.2.2.Batch,x6.2.2.aS,5,x6.2.2.At,x6.2.2.K,x6.2.2.bT,x3,x2,x6.2.2.fF,(⟨0,0,0⟩:bP),false,x6.2.2.Code,x6.2.2.Sub,x6.2.2.Reads,x6.2.2.aJ,x6.2.2.eA,x6.2.2.fL,x6.2.2.aW,x6.2.2.cG⟩:aE)}:Table) else some ({t with aN:=t.aN.set w_.toNat (⟨x6.2.2.iY,x6.2.2.Batch,x6.2.2.aS,3,x6.2.2.At,x6.2.2.K,x6.2.2.bT,x3,x2,x6.2.2.fF,(⟨0,0,0⟩:bP),false,x6.2.2.Code,x6.2.2.Sub,x6.2.2.Reads,x6.2.2.aJ,x6.2.2.eA,x6.2.2.fL,x6.2.2.aW,x6.2.2.cG⟩:aE)}:Table))) else (if x6.2.2.Pc == 3 then (FC t.aB.Mem x6.2.2.H).bind fun x8=>some ({t with aN:=t.aN.set w_.toNat (⟨x6.2.2.iY,x6.2.2.Batch,x6.2.2.aS,4,x6.2.2.At,x6.2.2.K,x6.2.2.bT,x6.2.2.fM,x6.2.2.H,x6.2.2.fF,x8.1,x6.2.2.Found,x6.2.2.Code,x6.2.2.Sub,x6.2.2.Reads,x6.2.2.aJ,x6.2.2.eA,x6.2.2.fL,x6.2.2.aW,x6.2.2.cG⟩:aE)}:Table) else (if x6.2.2.Pc == 4 then (idx t.aB.aH.cV w_).bind fun x9=>(zZ x9).bind fun x10=>(if !x10 then (cH x6.2.2 6).bind fun x11=>some ({t with aN:=t.aN.set w_.toNat x11}:Table) else (if !x6.2.1 then (cH x6.2.2 1).bind fun x12=>some ({t with aN:=t.aN.set w_.toNat x12}:Table) else (fW x6.2.2.Node).bind fun x17=>z5 t w_ (t.aN.set w_.toNat (⟨x6.2.2.iY,x6.2.2.Batch,x6.2.2.aS,3,x6.2.2.At,x6.2.2.K,x6.2.2.bT,x6.2.2.fM,x17,x6.2.2.fF,x6.2.2.Node,x6.2.2.Node.Key == x6.1.Key,x6.2.2.Code,x6.2.2.Sub,x6.2.2.Reads,x6.2.2.aJ,x6.2.2.eA,x6.2.2.fL,x6.2.2.aW,x6.2.2.cG⟩:aE)))) else (if x4 != 0 then hY t w_ x6 true else hY t w_ x6 (x3 != x6.2.2.fM)))))
def yX(t:Table)(w_:Int):Option Table:=
 (idx t.aN w_).bind fun x1=>(idx t.cS x1.bT).bind fun x30=>z7 t w_ x30.Head x30.fM x30.fO
def aJD(x5:Int):Option Int:=
 some x5
def CK(x4 x6:Int):Option (Step (Int×Int) Int):=
 some (.next (x6,aX (x4+1)))
def OJ(l:List aU)(n:Int):(Int×Int)->Option (Step (Int×Int) Int)
 | (x3,x4)=>(if decide (x4 < (((l.take ((if (if (l.length:Int) < n then (l.length:Int) else n) < 0 then 0 else (if (l.length:Int) < n then (l.length:Int) else n)).toNat)).drop 0).length:Int)) then (idx ((l.take ((if (if (l.length:Int) < n then (l.length:Int) else n) < 0 then 0 else (if (l.length:Int) < n then (l.length:Int) else n)).toNat)).drop 0) x4).bind fun x7=>(if !x7.GX then CK x4 (aX (x3+1)) else CK x4 x3) else some (.stop (x3)))
def aJE:Int->Option Int
 | x5=>aJD x5
def NO(l:List aU)(n:Int):Option Int:=
 need (0<=(if (if (l.length:Int) < n then (l.length:Int) else n) < 0 then 0 else (if (l.length:Int) < n then (l.length:Int) else n):Int)/\(if (if (l.length:Int) < n then (l.length:Int) else n) < 0 then 0 else (if (l.length:Int) < n then (l.length:Int) else n):Int)<=(l.length:Int)) ((loop (OJ l n) (0,0)).bind (aJE))
def wW(x11:Table):Option Table:=
 some x11
def wX(w_:Int)(x10:Table):Option Table:=
 (idx x10.aN w_).bind fun x12=>(j5 1 16).bind fun x13=>wW ({x10 with aN:=x10.aN.set w_.toNat ({x12 with K:=aX (x12.K+1),Sub:=x13}:aE)}:Table)
def fX(w_:Int)(x6:Bool)(x7:Table):Option Table:=
 (if x6 then (idx x7.aN w_).bind fun x8=>(cH x8 x8.Sub.Code).bind fun x9=>some ({x7 with aN:=x7.aN.set w_.toNat x9}:Table) else (idx x7.aN w_).bind fun x14=>need (x14.fL.length+([x14.Sub.Out]).length<=1073741824)<|wX w_ ({x7 with aN:=x7.aN.set w_.toNat ({x14 with fL:=x14.fL++([x14.Sub.Out])}:aE)}:Table))
def wY(t:Table)(w_:Int)(x2:Bool):Option Table:=
 (if x2 then (idx t.aN w_).bind fun x3=>some ({t with aN:=t.aN.set w_.toNat ({x3 with Pc:=7,K:=0}:aE)}:Table) else (idx t.aN w_).bind fun x4=>(oA x4.Sub t.aB w_).bind fun x5=>(if !x5.1.dJ then some ({t with aB:=x5.2,aN:=t.aN.set w_.toNat ({x4 with Sub:=x5.1}:aE)}:Table) else (if x5.1.Code != 0 then fX w_ true ({t with aB:=x5.2,aN:=t.aN.set w_.toNat ({x4 with Sub:=x5.1}:aE)}:Table) else (fQ x5.1.Out).bind fun x15=>(if !x15 then fX w_ true ({t with aB:=x5.2,aN:=t.aN.set w_.toNat ({x4 with Sub:=x5.1}:aE)}:Table) else fX w_ (decide (6<=(x4.fL.length:Int))) ({t with aB:=x5.2,aN:=t.aN.set w_.toNat ({x4 with Sub:=x5.1}:aE)}:Table)))))
def vS(t:Table)(w_:Int):Option Table:=
 (idx t.aN w_).bind fun x1=>(NO x1.aJ (x1.aJ.length:Int)).bind fun x16=>wY t w_ (decide (x16<=x1.K))
def cmp_isNaN_int(x:Int):Option Bool:=
 some (x != x)
def rJ(x1:Bool):Option Bool:=
 some x1
def cmp_Less_int(x y:Int):Option Bool:=
 (cmp_isNaN_int x).bind fun x2=>(if x2 then (cmp_isNaN_int y).bind fun x3=>(if !x3 then rJ true else rJ (decide (x < y))) else rJ (decide (x < y)))
def iA(data x5:List Int):Option (List Int):=
 need (x5.length=data.length) (some x5)
def mC(data:List Int)(x4:Int)(x10:List Int):Option (Step ((List Int)×Int) (List Int)):=
 need (x10.length=data.length) (some (.next (x10,aX (x4+1))))
def iB(data:List Int)(x9:Int)(x12:List Int):Option (Step ((List Int)×Int) (List Int)):=
 need (x12.length=data.length) (some (.next (x12,aX (x9 - 1))))
def dA(data x8:List Int)(x9:Int)(x11:Bool):Option (Step ((List Int)×Int) (List Int)):=
 need (x8.length=data.length) ((if x11 then (idx x8 (aX (x9 - 1))).bind fun x13=>(idx x8 x9).bind fun x14=>(idx (x8.set x9.toNat x13) (aX (x9 - 1))).bind fun x15=>iB data x9 ((x8.set x9.toNat x13).set ((aX (x9 - 1)).toNat) x14) else some (.stop (x8))))
def dB(data:List Int)(a_:Int):((List Int)×Int)->Option (Step ((List Int)×Int) (List Int))
 | (x8,x9)=>need (x8.length=data.length) ((if decide (a_ < x9) then (idx x8 x9).bind fun x16=>(idx x8 (aX (x9 - 1))).bind fun x17=>(cmp_Less_int x16 x17).bind fun x18=>dA data x8 x9 x18 else dA data x8 x9 false))
def mD(data:List Int)(x4:Int):(List Int)->Option (Step ((List Int)×Int) (List Int))
 | x10=>mC data x4 x10
def cQ(data:List Int)(a_ b:Int):((List Int)×Int)->Option (Step ((List Int)×Int) (List Int))
 | (x3,x4)=>need (x3.length=data.length) ((if decide (x4 < b) then (loop (dB data a_) (x3,x4)).bind (mD data x4) else some (.stop (x3))))
def iC(data:List Int):(List Int)->Option (List Int)
 | x5=>iA data x5
def gG(data:List Int)(a_ b:Int):Option (List Int):=
 (loop (cQ data a_ b) (data,aX (a_+1))).bind (iC data)
def rK(data:List Int)(a_ b limit:Int):Unit->Option (Step Unit (List Int))
 | ()=>(if decide ((aX (b - a_))<=12) then (gG data a_ b).bind fun x1=>some (.stop (x1)) else (if limit == 0 then none else none))
def F8:(List Int)->Option (List Int)
 | r=>some r
def mW(data:List Int)(a_ b limit:Int):Option (List Int):=
 (loop (rK data a_ b limit) ()).bind (F8)
def z8(x5 x6:Int):Option Int:=
 (idx ([0,1,2,2,3,3,3,3,4,4,4,4,4,4,4,4,5,5,5,5,5,5,5,5,5,5,5,5,5,5,5,5,6,6,6,6,6,6,6,6,6,6,6,6,6,6,6,6,6,6,6,6,6,6,6,6,6,6,6,6,6,6,6,6,7,7,7,7,7,7,7,7,7,7,7,7,7,7,7,7,7,7,7,7,7,7,7,7,7,7,7,7,7,7,7,7,7,7,7,7,7,7,7,7,7,7,7,7,7,7,7,7,7,7,7,7,7,7,7,7,7,7,7,7,7,7,7,7,8,8,8,8,8,8,8,8,8,8,8,8,8,8,8,8,8,8,8,8,8,8,8,8,8,8,8,8,8,8,8,8,8,8,8,8,8,8,8,8,8,8,8,8,8,8,8,8,8,8,8,8,8,8,8,8,8,8,8,8,8,8,8,8,8,8,8,8,8,8,8,8,8,8,8,8,8,8,8,8,8,8,8,8,8,8,8,8,8,8,8,8,8,8,8,8,8,8,8,8,8,8,8,8,8,8,8,8,8,8,8,8,8,8,8,8,8,8,8,8,8,8,8,8,8,8,8,8]:List UInt8) ((u8 x5).toNat:Int)).bind fun x7=>some (aX (x6+(x7.toNat:Int)))
def AA(x3 x4:Int):Option Int:=
 (if decide (256<=x3) then z8 (nH .u64 x3 8) (aX (x4+8)) else z8 x3 x4)
def AB(x1 x2:Int):Option Int:=
 (if decide (65536<=x1) then AA (nH .u64 x1 16) (aX (x2+16)) else AA x1 x2)
def PY(x:Int):Option Int:=
 (if decide (4294967296<=x) then AB (nH .u64 x 32) 32 else AB x 0)
def xO(x:Int):Option Int:=
 (PY x).bind fun x1=>some x1
def yY(x:List Int):Option (List Int):=
 (xO (IntKind.u64.wrap (x.length:Int))).bind fun x1=>(mW x 0 (x.length:Int) x1).bind fun x2=>some x2
def F9(x5:List Int):Option (List Int):=
 (yY x5).bind fun x6=>(slices_Compact_int x6).bind fun x7=>some x7
def yZ(x4:Int)(x8:List Int):Option (Step ((List Int)×Int) (List Int)):=
 some (.next (x8,aX (x4+1)))
def GA(l:List aU):((List Int)×Int)->Option (Step ((List Int)×Int) (List Int))
 | (x3,x4)=>(if decide (x4 < (l.length:Int)) then (idx l x4).bind fun x9=>(DZ x9.Key).bind fun x10=>(if decide (0<=x10) then need (x3.length+([x10]).length<=1073741824) (yZ x4 (x3++([x10]))) else yZ x4 x3) else some (.stop (x3)))
def PZ:(List Int)->Option (List Int)
 | x5=>F9 x5
def HX(l:List aU):Option (List Int):=
 (loop (GA l) (([]:List Int),0)).bind (PZ)
def g9(s:List Seen)(f:(Seen->Option Bool)):Option Bool:=
 (dV s f).bind fun x1=>some (decide (0<=x1))
def nR(x1:Bool):Option Bool:=
 some x1
def tE(s:Seen)(k0:Int)(k1:bT):Option Bool:=
 (if s.bT == k0 then nR (s.fM != k1.fM) else nR false)
def qO(t:Table)(w_:Int)(x3:List bT)(x4:List aE)(x5:aE):Option Table:=
 (idx x4 w_).bind fun x6=>some ({t with cS:=x3,aN:=x4.set w_.toNat ({x6 with Pc:=8,K:=0}:aE),Log:=t.Log++([(⟨2,w_,x5.aS,0,[],[]⟩:LM)])}:Table)
def mE(t:Table)(w_:Int)(x2:(List Int))(x3:List bT)(x4:List aE):Option Table:=
 (idx x4 w_).bind fun x5=>(if decide ((x2.length:Int)<=x5.K) then need (t.Log.length+([(⟨2,w_,x5.aS,0,[],[]⟩:LM)]).length<=1073741824)<|qO t w_ x3 x4 x5 else some ({t with cS:=x3,aN:=x4}:Table))
def mF(t:Table)(w_:Int)(x2:(List Int))(x7:Int)(x12:bT)(x15:List aE):Option Table:=
 (idx x15 w_).bind fun x16=>mE t w_ x2 (t.cS.set x7.toNat ({x12 with fO:=aX (w_+1)}:bT)) (x15.set w_.toNat ({x16 with K:=aX (x16.K+1)}:aE))
def AD(t:Table)(w_:Int)(x2:(List Int))(x7:Int)(x12:bT)(x17:aE):Option Table:=
 mF t w_ x2 x7 x12 (t.aN.set w_.toNat ({x17 with aW:=x17.aW++([x7])}:aE))
def gK(t:Table)(w_:Int)(x2:(List Int))(x7:Int)(x9:Bool):Option Table:=
 (if x9 then (idx t.aN w_).bind fun x10=>(cH x10 7).bind fun x11=>some ({t with aN:=t.aN.set w_.toNat x11}:Table) else (idx t.cS x7).bind fun x12=>(if x12.fM == 1000000 then (idx t.aN w_).bind fun x13=>(cH x13 3).bind fun x14=>some ({t with aN:=t.aN.set w_.toNat x14}:Table) else (idx t.aN w_).bind fun x17=>(k9 x17.aW x7).bind fun x18=>(if !x18 then need (x17.aW.length+([x7]).length<=1073741824)<|AD t w_ x2 x7 x12 x17 else mF t w_ x2 x7 x12 t.aN)))
def y5(t:Table)(w_:Int):Option Table:=
 (idx t.aN w_).bind fun x1=>(HX x1.aJ).bind fun x2=>(if decide (x1.K < (x2.length:Int)) then (idx x2 x1.K).bind fun x7=>(idx t.cS x7).bind fun x8=>(if x8.fO != 0 then gK t w_ x2 x7 true else (g9 x1.Reads (fun y0=>tE y0 x7 x8)).bind fun x19=>gK t w_ x2 x7 x19) else mE t w_ x2 t.cS t.aN)
def eK(t:Table)(w_:Int)(x8:Bool):Option Table:=
 (if x8 then (idx t.aN w_).bind fun x9=>(cH x9 7).bind fun x10=>some ({t with aN:=t.aN.set w_.toNat x10}:Table) else (idx t.aN w_).bind fun x11=>some ({t with aN:=t.aN.set w_.toNat ({x11 with K:=aX (x11.K+1)}:aE)}:Table))
def qP(t:Table)(w_ x4 x5 x6 x7:Int):Option Table:=
 (if x7 != 0 then (if x7 != (aX (w_+1)) then eK t w_ true else eK t w_ (x6 != x4)) else eK t w_ (x6 != x4))
def qQ(t:Table)(w_ x3 x4:Int):Option Table:=
 (idx t.cS x3).bind fun x12=>qP t w_ x4 x12.Head x12.fM x12.fO
def qR(t:Table)(w_:Int)(x1:aE):Option Table:=
 (if decide ((x1.Reads.length:Int)<=x1.K) then (idx t.aN w_).bind fun x2=>some ({t with aN:=t.aN.set w_.toNat ({x2 with Pc:=9,K:=0}:aE)}:Table) else (idx t.aN w_).bind fun x13=>(idx x13.Reads x13.K).bind fun x14=>qQ t w_ x14.bT x14.fM)
def oS(t:Table)(w_:Int):Option Table:=
 (idx t.aN w_).bind fun x1=>qR t w_ x1
def m6(j:aE)(x:aU):Option aE:=
 (if x.GX then some ({j with Pc:=9,K:=aX (j.K+1)}:aE) else some ({j with Pc:=12}:aE))
def qS(m:Mem):Option Mem:=
 (sH m.Heap).bind fun x1=>(g8 m.aA).bind fun x2=>some (⟨x1,x2⟩:Mem)
def YF:Option Bool:=
 some true
def vT(x2:Int)(x4:Bool):Option (Step Int (Out Unit Bool)):=
 (if x4 then some (.stop (Out.ret false)) else some (.next (aX (x2+1))))
def lV(h:Heap)(s:aO)(c:Int):Int->Option (Step Int (Out Unit Bool))
 | x2=>(if decide (x2 < (s.aQ.length:Int)) then (idx s.aQ x2).bind fun x3=>(jV h x3).bind fun x5=>(if x5 != c then vT x2 true else (zW h x3).bind fun x6=>vT x2 (decide (6 < x6))) else some (.stop (Out.brk ())))
def YG:(Out Unit Bool)->Option Bool
 | .brk ()=>YF
 | .ret r=>some r
def xP(h:Heap)(s:aO)(c:Int):Option Bool:=
 (loop (lV h s c) 0).bind (YG)
def aF5:Option Bool:=
 some true
def sI(m:Mem):Int->Option (Step Int (Out Unit Bool))
 | x5=>(if decide (x5 < (m.aA.Own.length:Int)) then (idx m.aA.Own x5).bind fun x6=>(xP m.Heap x6 (Int.tmod x5 3)).bind fun x7=>(if !x7 then some (.stop (Out.ret false)) else some (.next (aX (x5+1)))) else some (.stop (Out.brk ())))
def aF6:(Out Unit Bool)->Option Bool
 | .brk ()=>aF5
 | .ret r=>some r
def T3(m:Mem):Option Bool:=
 (loop (sI m) 0).bind (aF6)
def sJ(m:Mem):Int->Option (Step Int (Out Unit Bool))
 | x3=>(if decide (x3 < (m.aA.Global.length:Int)) then (idx m.aA.Global x3).bind fun x8=>(xP m.Heap x8 x3).bind fun x9=>(if !x9 then some (.stop (Out.ret false)) else some (.next (aX (x3+1)))) else some (.stop (Out.brk ())))
def T4(m:Mem):(Out Unit Bool)->Option Bool
 | .brk ()=>T3 m
 | .ret r=>some r
def EN(m:Mem)(x1:Bool):Option Bool:=
 (if x1 then some false else (loop (sJ m) 0).bind (T4 m))
def D0(m:Mem):Option Bool:=
 (E8 m.Heap).bind fun x10=>(if !x10 then EN m true else (jU m.aA).bind fun x11=>EN m (!x11))
def CL(x1:Bool):Option Bool:=
 some x1
def FD(h:Int):Option Bool:=
 (if h == 0 then CL true else (fQ h).bind fun x2=>CL x2)
def xQ(m:Mem)(h:Int):Option Int:=
 (AV m h).bind fun x1=>(if !x1 then some 4 else (CG m.Heap (Int.tmod h 32)).bind fun x2=>(if !x2 then some 2 else some 0))
def I4(x4:Int)(x5:Mem):Option (Mem×Int):=
 some (x5,x4)
def RK(x4:Int)(x6:Mem):Option (Mem×Int):=
 I4 x4 x6
def CM(m:Mem)(h next_:Int)(x2:Bool)(x3:Mem):Option (Mem×Int):=
 (if x2 then some (x3,1) else (xQ m h).bind fun x4=>(if x4 == 0 then (vR m.Heap (Int.tmod h 32)).bind fun x7=>(kM next_ 4).bind fun x8=>(lO x3.Heap.Bytes (aX (x7+6)) x8).bind fun x9=>RK x4 (⟨(⟨x9,x3.Heap.Class⟩:Heap),x3.aA⟩:Mem) else I4 x4 x3))
def K2(m:Mem)(h next_:Int):Option (Mem×Int):=
 (qS m).bind fun x1=>(D0 m).bind fun x10=>(if !x10 then CM m h next_ true x1 else (FD next_).bind fun x11=>CM m h next_ (!x11) x1)
def uE(x1:Bool):Option Bool:=
 some x1
def K3(n:bP):Option Bool:=
 (bW n.Key 0 99).bind fun x2=>(if x2 then (bW n.dO 0 65535).bind fun x3=>(if x3 then (FD n.Next).bind fun x4=>uE x4 else uE false) else uE false)
def GB(x4:Int)(x5:Mem):Option (Mem×Int):=
 some (x5,x4)
def P0(x4:Int)(x6:Mem):Option (Mem×Int):=
 GB x4 x6
def y6(m:Mem)(h:Int)(n:bP)(x2:Bool)(x3:Mem):Option (Mem×Int):=
 (if x2 then some (x3,1) else (xQ m h).bind fun x4=>(if x4 == 0 then (vR m.Heap (Int.tmod h 32)).bind fun x7=>(kM n.Key 2).bind fun x8=>(kM n.dO 4).bind fun x9=>need (x8.length+x9.length<=9223372036854775807)<|(kM n.Next 4).bind fun x10=>need ((x8++x9).length+x10.length<=9223372036854775807)<|(lO x3.Heap.Bytes x7 ((x8++x9)++x10)).bind fun x11=>P0 x4 (⟨(⟨x11,x3.Heap.Class⟩:Heap),x3.aA⟩:Mem) else GB x4 x3))
def HY(m:Mem)(h:Int)(n:bP):Option (Mem×Int):=
 (qS m).bind fun x1=>(D0 m).bind fun x12=>(if !x12 then y6 m h n true x1 else (K3 n).bind fun x13=>y6 m h n (!x13) x1)
def AE(t:Table)(j:aE)(b:bT)(x3:Table):Option (Table×aE×bT):=
 some (({x3 with cS:=t.cS,aN:=t.aN}:Table),({j with Pc:=13}:aE),b)
def GC(t:Table)(j:aE)(x:aU)(b:bT):Option (Table×aE×bT):=
 (NO j.aJ j.K).bind fun x1=>(if decide ((j.fL.length:Int)<=x1) then (cH j 1).bind fun x2=>some (t,x2,b) else (if j.Pc == 12 then (idx j.fL x1).bind fun x4=>(HY t.aB.Mem x4 ({x with Next:=b.Head}:bP)).bind fun x5=>AE t j b ({t with aB:=(⟨x5.1,t.aB.aH,t.aB.bJ,t.aB.A4⟩:aB)}:Table) else (idx j.fL x1).bind fun x6=>some (t,({j with Pc:=9,K:=aX (j.K+1)}:aE),({b with Head:=x6}:bT))))
def wZ(t:Table)(x13:List aE):Option Table:=
 some ({t with aN:=x13}:Table)
def lC(w_ x3:Int)(x4:Bool)(x5:Int)(x16:Table):Option Table:=
 (idx x16.aN w_).bind fun x17=>(m6 x17 (⟨x3,x4,x5⟩:aU)).bind fun x18=>some ({x16 with aN:=x16.aN.set w_.toNat x18}:Table)
def xA(w_ x3:Int)(x4:Bool)(x5:Int)(x21:Table):Option Table:=
 lC w_ x3 x4 x5 x21
def oT(w_ x3:Int)(x4:Bool)(x5:Int)(x19:Bool)(x20:Table):Option Table:=
 (if x19 then (idx x20.aN w_).bind fun x22=>need (x22.cG.length+([x22.H]).length<=1073741824)<|xA w_ x3 x4 x5 ({x20 with aN:=x20.aN.set w_.toNat ({x22 with cG:=x22.cG++([x22.H])}:aE)}:Table) else lC w_ x3 x4 x5 x20)
def lD(w_ x3:Int)(x4:Bool)(x5:Int)(x15:Table):Option Table:=
 (idx x15.aN w_).bind fun x23=>(fQ x23.H).bind fun x24=>(if x24 then oT w_ x3 x4 x5 (decide ((x23.cG.length:Int) < 6)) x15 else oT w_ x3 x4 x5 false x15)
def xB(w_ x3:Int)(x4:Bool)(x5:Int)(x26:Table):Option Table:=
 lD w_ x3 x4 x5 x26
def xC(t:Table)(w_ x3:Int)(x4:Bool)(x5:Int):Option Table:=
 (DZ x3).bind fun x6=>(idx t.cS x6).bind fun x7=>(idx t.aN w_).bind fun x8=>(if x8.Pc == 9 then (if x7.Head == 0 then (m6 ({x8 with Pc:=10,H:=x7.Head,fF:=0}:aE) (⟨x3,x4,x5⟩:aU)).bind fun x9=>some ({t with aN:=t.aN.set w_.toNat x9}:Table) else some ({t with aN:=t.aN.set w_.toNat ({x8 with Pc:=10,H:=x7.Head,fF:=0}:aE)}:Table)) else (if x8.Pc == 10 then (FC t.aB.Mem x8.H).bind fun x10=>(if x10.1.Key == x3 then some ({t with aN:=t.aN.set w_.toNat ({x8 with Pc:=11,Node:=x10.1}:aE)}:Table) else (fW x10.1).bind fun x11=>(if x11 == 0 then (m6 ({x8 with Node:=x10.1}:aE) (⟨x3,x4,x5⟩:aU)).bind fun x12=>some ({t with aN:=t.aN.set w_.toNat x12}:Table) else (fW x10.1).bind fun x14=>wZ t (t.aN.set w_.toNat ({x8 with H:=x14,fF:=x8.H,Node:=x10.1}:aE)))) else (if x8.Pc == 11 then (if x8.fF == 0 then (fW x8.Node).bind fun x25=>lD w_ x3 x4 x5 ({t with cS:=t.cS.set x6.toNat ({x7 with Head:=x25}:bT)}:Table) else (fW x8.Node).bind fun x27=>(K2 t.aB.Mem x8.fF x27).bind fun x28=>xB w_ x3 x4 x5 ({t with aB:=(⟨x28.1,t.aB.aH,t.aB.bJ,t.aB.A4⟩:aB)}:Table)) else (GC t x8 (⟨x3,x4,x5⟩:aU) x7).bind fun x29=>some (⟨x29.1.aB,t.cS.set x6.toNat x29.2.2,t.aN.set w_.toNat x29.2.1,x29.1.gZ,x29.1.Log,x29.1.aS⟩:Table))))
def xD(t:Table)(w_:Int)(x1:aE):Option Table:=
 (if decide ((x1.aJ.length:Int)<=x1.K) then (idx t.aN w_).bind fun x2=>some ({t with aN:=t.aN.set w_.toNat ({x2 with Pc:=14}:aE)}:Table) else (idx t.aN w_).bind fun x30=>(idx x30.aJ x30.K).bind fun x31=>xC t w_ x31.Key x31.GX x31.dO)
def vU(t:Table)(w_:Int):Option Table:=
 (idx t.aN w_).bind fun x1=>xD t w_ x1
def nS(s:List Int)(i j:Int):Option (List Int):=
 need (0<=(i:Int)/\(i:Int)<=(j:Int)/\(j:Int)<=((s.length:Int):Int)/\((s.length:Int):Int)<=(s.length:Int)) ((if i == j then some s else need (0<=(i:Int)/\(i:Int)<=(s.length:Int)) (need (0<=(j:Int)/\(j:Int)<=(s.length:Int)) (need (i.toNat<=j.toNat) (need (0<=(((((cM s i.toNat (s.drop j.toNat)).take (i.toNat+(s.length - j.toNat))).drop 0).length:Int):Int)/\(((((cM s i.toNat (s.drop j.toNat)).take (i.toNat+(s.length - j.toNat))).drop 0).length:Int):Int)<=((s.length:Int):Int)/\((s.length:Int):Int)<=((cM s i.toNat (s.drop j.toNat)).length:Int)) (some (((cM s i.toNat (s.drop j.toNat)).take (i.toNat+(s.length - j.toNat))).drop 0)))))))
def pJ(x1:aE):Option aE:=
 some x1
def j7(j:aE):Option aE:=
 (if decide (j.K < (j.cG.length:Int)) then (idx j.cG j.K).bind fun x2=>(j5 2 x2).bind fun x3=>pJ ({j with Sub:=x3}:aE) else some j)
def j8(t:Table)(w_:Int)(x4:List bT):Option Table:=
 (idx t.aN w_).bind fun x5=>(nS x5.aW 0 1).bind fun x6=>some ({t with cS:=x4,aN:=t.aN.set w_.toNat ({x5 with aW:=x6}:aE)}:Table)
def tF(t:Table)(w_:Int):Option Table:=
 (idx t.aN w_).bind fun x1=>(if decide (0 < (x1.aW.length:Int)) then (idx x1.aW 0).bind fun x2=>(idx t.cS x2).bind fun x3=>(if x1.Pc == 14 then j8 t w_ (t.cS.set x2.toNat (⟨x3.Head,if 1000000 < (aX (x3.fM+1)) then 1000000 else (aX (x3.fM+1)),0⟩:bT)) else j8 t w_ (t.cS.set x2.toNat ({x3 with fO:=0}:bT))) else (if x1.Pc == 16 then some ({t with aN:=t.aN.set w_.toNat ({x1 with Pc:=17}:aE)}:Table) else (j7 ({x1 with Pc:=15,K:=0}:aE)).bind fun x7=>some ({t with aN:=t.aN.set w_.toNat x7}:Table)))
def uF(t:Table)(w_:Int)(x1:aE):Option Table:=
 (if decide ((x1.cG.length:Int)<=x1.K) then (idx t.aN w_).bind fun x2=>some ({t with aN:=t.aN.set w_.toNat ({x2 with Pc:=18}:aE)}:Table) else (idx t.aN w_).bind fun x3=>(oA x3.Sub t.aB w_).bind fun x4=>(if x4.1.dJ then (j7 ({x3 with K:=aX (x3.K+1),Sub:=x4.1}:aE)).bind fun x5=>some ({t with aB:=x4.2,aN:=t.aN.set w_.toNat x5}:Table) else some ({t with aB:=x4.2,aN:=t.aN.set w_.toNat ({x3 with Sub:=x4.1}:aE)}:Table)))
def tG(t:Table)(w_:Int):Option Table:=
 (idx t.aN w_).bind fun x1=>uF t w_ x1
def y7(m:Mem)(w_ h:Int)(x1:Bool):Option (Mem×Int):=
 (if x1 then (qS m).bind fun x2=>some (x2,1) else (AV m h).bind fun x3=>(if !x3 then (qS m).bind fun x4=>some (x4,4) else (I2 m w_ h).bind fun x5=>some (x5,0)))
def HZ(m:Mem)(w_ h:Int):Option (Mem×Int):=
 (D0 m).bind fun x6=>(if !x6 then y7 m w_ h true else (fP w_).bind fun x7=>y7 m w_ h (!x7))
def y8(t:Table)(w_:Int):Option Table:=
 (idx t.aN w_).bind fun x1=>(if (x1.fL.length:Int) == 0 then some ({t with aN:=t.aN.set w_.toNat ({x1 with Pc:=18}:aE)}:Table) else (idx x1.fL 0).bind fun x2=>(nS x1.fL 0 1).bind fun x3=>(B5 t.aB.bJ (Int.tmod x2 32)).bind fun x4=>(if !x4 then (HZ t.aB.Mem w_ x2).bind fun x5=>some ({t with aB:=(⟨x5.1,t.aB.aH,t.aB.bJ,t.aB.A4⟩:aB),aN:=t.aN.set w_.toNat ({x1 with fL:=x3}:aE)}:Table) else some ({t with aN:=t.aN.set w_.toNat ({x1 with fL:=x3}:aE)}:Table)))
def xR(w_:Int)(x1:aH)(x2:Bool):Option (aH×Bool):=
 (if x2 then some (x1,false) else (idx x1.cV w_).bind fun x3=>some ((⟨x1.aM,x1.cV.set w_.toNat (⟨false,0,false,0⟩:sC)⟩:aH),true))
def OK(c:aH)(w_:Int):Option (aH×Bool):=
 (mB c).bind fun x1=>(qL c).bind fun x4=>(if !x4 then xR w_ x1 true else (fP w_).bind fun x5=>(if !x5 then xR w_ x1 true else (idx c.cV w_).bind fun x6=>xR w_ x1 (!x6.On)))
def y9(b:aB)(w_:Int):Option (Bool×aB):=
 (OK b.aH w_).bind fun x1=>some (x1.2,({b with aH:=x1.1}:aB))
def DN(t:Table)(w_:Int)(x1:aE):Option Table:=
 some ({t with aN:=t.aN.set w_.toNat (⟨false,(⟨false,[]⟩:Batch),0,0,0,0,0,0,0,0,(⟨0,0,0⟩:bP),false,0,(⟨0,0,0,0,0,0,0,0,0,false⟩:Sub),[],[],[],[],[],[]⟩:aE),Log:=t.Log++([({x1 with Kind:=3,Who:=w_,bK:=[]}:LM)])}:Table)
def DO(t:Table)(w_:Int)(x1:aE):Option Table:=
 some ({t with aN:=t.aN.set w_.toNat (⟨false,(⟨false,[]⟩:Batch),0,0,0,0,0,0,0,0,(⟨0,0,0⟩:bP),false,0,(⟨0,0,0,0,0,0,0,0,0,false⟩:Sub),[],[],[],[],[],[]⟩:aE),Log:=t.Log++([(⟨3,w_,x1.aS,x1.Code,[],[]⟩:LM)])}:Table)
def qT(t:Table)(w_:Int):Option Table:=
 (idx t.aN w_).bind fun x1=>(if x1.Code == 0 then need (t.Log.length+([({x1 with Kind:=3,Who:=w_,bK:=[]}:LM)]).length<=1073741824)<|DN t w_ x1 else need (t.Log.length+([(⟨3,w_,x1.aS,x1.Code,[],[]⟩:LM)]).length<=1073741824)<|DO t w_ x1)
def jQ(t:Table)(w_:Int)(x1:aE)(x14:Bool):Option Table:=
 (if x14 then (tF t w_).bind fun x15=>some x15 else (if x1.Pc == 15 then (tG t w_).bind fun x16=>some x16 else (if x1.Pc == 17 then (y8 t w_).bind fun x17=>some x17 else (if x1.Pc == 18 then (y9 t.aB w_).bind fun x18=>(idx t.aN w_).bind fun x19=>some ({t with aB:=x18.2,aN:=t.aN.set w_.toNat ({x19 with Pc:=19}:aE)}:Table) else (if x1.Pc == 19 then (qT t w_).bind fun x20=>some x20 else (idx t.aN w_).bind fun x21=>(cH x21 1).bind fun x22=>some ({t with aN:=t.aN.set w_.toNat x22}:Table))))))
def iD(t:Table)(w_:Int)(x1:aE)(x3:Bool):Option Table:=
 (if x3 then (qM t w_).bind fun x4=>some x4 else (if x1.Pc == 1 then (idx t.aN w_).bind fun x5=>(CF x5).bind fun x6=>some ({t with aN:=t.aN.set w_.toNat x6}:Table) else (bW x1.Pc 2 5).bind fun x7=>(if x7 then (yX t w_).bind fun x8=>some x8 else (if x1.Pc == 6 then (vS t w_).bind fun x9=>some x9 else (if x1.Pc == 7 then (y5 t w_).bind fun x10=>some x10 else (if x1.Pc == 8 then (oS t w_).bind fun x11=>some x11 else (bW x1.Pc 9 13).bind fun x12=>(if x12 then (vU t w_).bind fun x13=>some x13 else (if x1.Pc == 14 then jQ t w_ x1 true else jQ t w_ x1 (x1.Pc == 16)))))))))
def zA(t:Table)(w_:Int):Option Table:=
 (idx t.aN w_).bind fun x1=>(if !x1.iY then (vK t w_).bind fun x2=>some x2 else (if x1.Pc == 0 then iD t w_ x1 true else (if x1.Pc == 20 then iD t w_ x1 true else iD t w_ x1 (x1.Pc == 21))))
def WN(x6:Table):Option Table:=
 some x6
def tH(x4:Int)(x7:Table):Option (Step (Int×Table) Table):=
 some (.next (aX (x4+1),x7))
def nT(x:vJ):(Int×Table)->Option (Step (Int×Table) Table)
 | (x4,x5)=>(if decide (x4 < (((x.iX.take ((if 400 < (x.iX.length:Int) then 400 else (x.iX.length:Int)).toNat)).drop 0).length:Int)) then (idx ((x.iX.take ((if 400 < (x.iX.length:Int) then 400 else (x.iX.length:Int)).toNat)).drop 0) x4).bind fun x8=>(fP x8).bind fun x9=>(if x9 then (zA x5 x8).bind fun x10=>tH x4 x10 else tH x4 x5) else some (.stop (x5)))
def WO:Table->Option Table
 | x6=>WN x6
def CN(x:vJ):Option Table:=
 (EF x.gZ).bind fun x1=>(if (x1.aN.length:Int) == 0 then some x1 else need (0<=(if 400 < (x.iX.length:Int) then 400 else (x.iX.length:Int):Int)/\(if 400 < (x.iX.length:Int) then 400 else (x.iX.length:Int):Int)<=(x.iX.length:Int)) ((loop (nT x) (0,x1)).bind (WO)))
def aLS:Option Bool:=
 some false
def AX(l:List Int)(x:Int):Int->Option (Step Int (Out Unit Bool))
 | x2=>(if decide (x2 < (l.length:Int)) then (idx l x2).bind fun x3=>(if x3 == x then some (.stop (Out.ret true)) else some (.next (aX (x2+1)))) else some (.stop (Out.brk ())))
def aLT:(Out Unit Bool)->Option Bool
 | .brk ()=>aLS
 | .ret r=>some r
def WQ(l:List Int)(x:Int):Option Bool:=
 (loop (AX l x) 0).bind (aLT)
def P1(b:List Int):Option Bool:=
 some (decide ((b.length:Int)<=1000))
def m7(b:List Int):Int->Option (Step Int (Out Unit Bool))
 | x2=>(if decide (x2 < (b.length:Int)) then (idx b x2).bind fun x3=>(bN x3 0 255).bind fun x4=>(if !x4 then some (.stop (Out.ret false)) else some (.next (aX (x2+1)))) else some (.stop (Out.brk ())))
def GD(b:List Int):(Out Unit Bool)->Option Bool
 | .brk ()=>P1 b
 | .ret r=>some r
def H0(b:List Int):Option Bool:=
 (loop (m7 b) 0).bind (GD b)
def Z3:Option Bool:=
 some true
def m8(h:Heap):Int->Option (Step Int (Out Unit Bool))
 | x3=>(if decide (x3 < 6) then (idx h.Class x3).bind fun x4=>(bN x4 (-1) 2).bind fun x5=>(if !x5 then some (.stop (Out.ret false)) else some (.next (aX (x3+1)))) else some (.stop (Out.brk ())))
def Z4:(Out Unit Bool)->Option Bool
 | .brk ()=>Z3
 | .ret r=>some r
def rL(h:Heap)(x1:Bool):Option Bool:=
 (if x1 then some false else (loop (m8 h) 0).bind (Z4))
def H3(h:Heap):Option Bool:=
 (if (h.Bytes.length:Int) != 384 then rL h true else (if (h.Class.length:Int) != 6 then rL h true else (H0 h.Bytes).bind fun x6=>rL h (!x6)))
def aDE(x5:Int):Option Int:=
 some x5
def uG(b:List Int)(at_ width:Int):(Int×Int)->Option (Step (Int×Int) Int)
 | (x3,x4)=>(if decide (x4 < width) then (idx b (aX (at_+x4))).bind fun x6=>some (.next (aX ((aX (x3 * 256))+x6),aX (x4+1))) else some (.stop (x3)))
def aDF:Int->Option Int
 | x5=>aDE x5
def FE(b:List Int)(at_ width:Int):Option Int:=
 (loop (uG b at_ width) (0,0)).bind (aDF)
def FF(c:Int):Option Int:=
 (if c == 0 then some 8 else (if c == 1 then some 16 else (if c == 2 then some 40 else some 0)))
def xS(c:Int):Option Int:=
 (bN c 0 2).bind fun x1=>(if !x1 then some 0 else (FF c).bind fun x2=>some (aX (4+x2)))
def lL(c:Int):Option Int:=
 (bN c 0 2).bind fun x1=>(if !x1 then some 0 else (xS c).bind fun x2=>need (x2≠0) (some (aX (Int.tdiv 56 x2))))
def AY(slot:Int):Option Int:=
 (bN slot 0 23).bind fun x1=>(if !x1 then some (-1) else some (aX (Int.tdiv slot 4)))
def vV(slot:Int):Option Int:=
 (bN slot 0 23).bind fun x1=>(if !x1 then some (-1) else some (Int.tmod slot 4))
def EO(slot c:Int)(x1:Bool):Option Int:=
 (if x1 then some (-1) else (AY slot).bind fun x2=>(vV slot).bind fun x3=>(xS c).bind fun x4=>some (aX ((aX ((aX (x2 * 64))+8))+(aX (x3 * x4)))))
def uH(slot c:Int):Option Int:=
 (AY slot).bind fun x5=>(if decide (x5 < 0) then EO slot c true else (vV slot).bind fun x6=>(lL c).bind fun x7=>(bN x6 0 (aX (x7 - 1))).bind fun x8=>EO slot c (!x8))
def uI(page index:Int)(x1:Bool):Option Int:=
 (if x1 then some (-1) else some (aX ((aX (page * 4))+index)))
def qD(page index:Int):Option Int:=
 (bN page 0 5).bind fun x2=>(if !x2 then uI page index true else (bN index 0 3).bind fun x3=>uI page index (!x3))
def aDG:Option Bool:=
 some true
def pK(h:Heap)(p:Int):Int->Option (Step Int (Out Unit Bool))
 | x3=>(if decide (x3 < (aX ((aX (p * 64))+64))) then (idx h.Bytes x3).bind fun x4=>(if x4 != 0 then some (.stop (Out.ret false)) else some (.next (aX (x3+1)))) else some (.stop (Out.brk ())))
def aDH:(Out Unit Bool)->Option Bool
 | .brk ()=>aDG
 | .ret r=>some r
def aDI:Option Bool:=
 some true
def pL(h:Heap)(p x1:Int):Int->Option (Step Int (Out Unit Bool))
 | x9=>(lL x1).bind fun x10=>(if decide (x9 < x10) then (qD p x9).bind fun x11=>(uH x11 x1).bind fun x12=>(FE h.Bytes x12 4).bind fun x13=>(bN x13 1 7).bind fun x14=>(if !x14 then some (.stop (Out.ret false)) else some (.next (aX (x9+1)))) else some (.stop (Out.brk ())))
def aDJ:(Out Unit Bool)->Option Bool
 | .brk ()=>aDI
 | .ret r=>some r
def RL(h:Heap)(p x1:Int):Option Bool:=
 (loop (pL h p x1) 0).bind (aDJ)
def pM(h:Heap)(p:Int):Int->Option (Step Int (Out Unit Bool))
 | x7=>(if decide (x7 < (aX ((aX (p * 64))+8))) then (idx h.Bytes x7).bind fun x15=>(if x15 != 0 then some (.stop (Out.ret false)) else some (.next (aX (x7+1)))) else some (.stop (Out.brk ())))
def RM(h:Heap)(p x1:Int):(Out Unit Bool)->Option Bool
 | .brk ()=>RL h p x1
 | .ret r=>some r
def j9(h:Heap)(p x1:Int)(x5:Bool):Option Bool:=
 (if x5 then some false else (loop (pM h p) (aX ((aX (p * 64))+3))).bind (RM h p x1))
def K4(h:Heap)(p:Int):Option Bool:=
 (idx h.Class p).bind fun x1=>(if decide (x1 < 0) then (loop (pK h p) (aX (p * 64))).bind (aDH) else (idx h.Bytes (aX (p * 64))).bind fun x16=>(if x16 != 171 then j9 h p x1 true else (idx h.Bytes (aX ((aX (p * 64))+1))).bind fun x17=>(if x17 != x1 then j9 h p x1 true else (idx h.Bytes (aX ((aX (p * 64))+2))).bind fun x18=>(lL x1).bind fun x19=>j9 h p x1 (x18 != x19))))
def aDK:Option Bool:=
 some true
def uJ(h:Heap):Int->Option (Step Int (Out Unit Bool))
 | x3=>(if decide (x3 < 6) then (K4 h x3).bind fun x4=>(if !x4 then some (.stop (Out.ret false)) else some (.next (aX (x3+1)))) else some (.stop (Out.brk ())))
def aDL:(Out Unit Bool)->Option Bool
 | .brk ()=>aDK
 | .ret r=>some r
def K5(h:Heap):Option Bool:=
 (H3 h).bind fun x1=>(if !x1 then some false else (loop (uJ h) 0).bind (aDL))
def aF7:Option Bool:=
 some false
def sK(l:List Int)(x:Int):Int->Option (Step Int (Out Unit Bool))
 | x2=>(if decide (x2 < (l.length:Int)) then (idx l x2).bind fun x3=>(if x3 == x then some (.stop (Out.ret true)) else some (.next (aX (x2+1)))) else some (.stop (Out.brk ())))
def aF8:(Out Unit Bool)->Option Bool
 | .brk ()=>aF7
 | .ret r=>some r
def AF(l:List Int)(x:Int):Option Bool:=
 (loop (sK l x) 0).bind (aF8)
def aF9(x10:List Int):Option (List Int):=
 some x10
def xT(l:aA):((List Int)×Int)->Option (Step ((List Int)×Int) (List Int))
 | (x8,x9)=>(if decide (x9 < (l.Own.length:Int)) then (idx l.Own x9).bind fun x11=>need (x8.length+x11.aQ.length<=1073741824) (some (.next (x8++x11.aQ,aX (x9+1)))) else some (.stop (x8)))
def aGA:(List Int)->Option (List Int)
 | x10=>aF9 x10
def T5(l:aA)(x5:List Int):Option (List Int):=
 (loop (xT l) (x5,0)).bind (aGA)
def xU(l:aA):((List Int)×Int)->Option (Step ((List Int)×Int) (List Int))
 | (x3,x4)=>(if decide (x4 < (l.Global.length:Int)) then (idx l.Global x4).bind fun x12=>need (x3.length+x12.aQ.length<=1073741824) (some (.next (x3++x12.aQ,aX (x4+1)))) else some (.stop (x3)))
def T6(l:aA):(List Int)->Option (List Int)
 | x5=>T5 l x5
def I5(l:aA):Option (List Int):=
 (loop (xU l) (([]:List Int),0)).bind (T6 l)
def Z5:Option Bool:=
 some true
def zC(x6:Int)(x7:Bool):Option (Step Int (Out Unit Bool)):=
 (if x7 then some (.stop (Out.ret false)) else some (.next (aX (x6+1))))
def m9(x4:(List Int)):Int->Option (Step Int (Out Unit Bool))
 | x6=>(if decide (x6 < (x4.length:Int)) then (idx x4 x6).bind fun x8=>(bN x8 0 23).bind fun x9=>(if !x9 then zC x6 true else need (0<=(x6:Int)/\(x6:Int)<=(x4.length:Int)) ((AF ((x4.take x6.toNat).drop 0) x8).bind fun x10=>zC x6 x10)) else some (.stop (Out.brk ())))
def Z6:(Out Unit Bool)->Option Bool
 | .brk ()=>Z5
 | .ret r=>some r
def P2(l:aA):Option Bool:=
 (I5 l).bind fun x4=>(loop (m9 x4) 0).bind (Z6)
def nA(l:aA):Int->Option (Step Int (Out Unit Bool))
 | x3=>(if decide (x3 < (l.Own.length:Int)) then (idx l.Own x3).bind fun x11=>(if decide (2 < (x11.aQ.length:Int)) then some (.stop (Out.ret false)) else some (.next (aX (x3+1)))) else some (.stop (Out.brk ())))
def P3(l:aA):(Out Unit Bool)->Option Bool
 | .brk ()=>P2 l
 | .ret r=>some r
def zD(l:aA)(x1:Bool):Option Bool:=
 (if x1 then some false else (loop (nA l) 0).bind (P3 l))
def H4(l:aA):Option Bool:=
 (if (l.Global.length:Int) != 3 then zD l true else zD l ((l.Own.length:Int) != 9))
def rM(h:Heap)(x1:Int)(x2:Bool):Option Int:=
 (if x2 then some (-1) else (idx h.Class x1).bind fun x3=>some x3)
def qU(h:Heap)(slot:Int):Option Int:=
 (AY slot).bind fun x1=>(if decide (x1 < 0) then rM h x1 true else (idx h.Class x1).bind fun x4=>(if decide (x4 < 0) then rM h x1 true else (idx h.Class x1).bind fun x5=>(vV slot).bind fun x6=>(lL x5).bind fun x7=>rM h x1 (decide (x7<=x6))))
def uK(h:Heap)(slot:Int):Option Int:=
 (qU h slot).bind fun x1=>(uH slot x1).bind fun x2=>(FE h.Bytes x2 4).bind fun x3=>some x3
def YH:Option Bool:=
 some true
def vW(x2:Int)(x3:Bool):Option (Step Int (Out Unit Bool)):=
 (if x3 then some (.stop (Out.ret false)) else some (.next (aX (x2+1))))
def lW(h:Heap)(l:List Int)(c:Int):Int->Option (Step Int (Out Unit Bool))
 | x2=>(if decide (x2 < (l.length:Int)) then (idx l x2).bind fun x4=>(qU h x4).bind fun x5=>(if x5 != c then vW x2 true else (idx l x2).bind fun x6=>(uK h x6).bind fun x7=>vW x2 (decide (6 < x7))) else some (.stop (Out.brk ())))
def YI:(Out Unit Bool)->Option Bool
 | .brk ()=>YH
 | .ret r=>some r
def xV(h:Heap)(l:List Int)(c:Int):Option Bool:=
 (loop (lW h l c) 0).bind (YI)
def xW(w_ c:Int)(x1:Bool):Option Int:=
 (if x1 then some (-1) else some (aX ((aX (w_ * 3))+c)))
def uL(w_ c:Int):Option Int:=
 (bN w_ 0 2).bind fun x2=>(if !x2 then xW w_ c true else (bN c 0 2).bind fun x3=>xW w_ c (!x3))
def aGB:Option Bool:=
 some true
def T7(x3:Int):Option (Step Int (Out Unit Bool)):=
 some (.next (aX (x3+1)))
def xX(m:Mem)(x3:Int):Int->Option (Step Int (Out Unit Bool))
 | x7=>(if decide (x7 < 3) then (uL x7 x3).bind fun x8=>(idx m.aA.Own x8).bind fun x9=>(xV m.Heap x9.aQ x3).bind fun x10=>(if !x10 then some (.stop (Out.ret false)) else some (.next (aX (x7+1)))) else some (.stop (Out.brk ())))
def T8(x3:Int):(Out Unit Bool)->Option (Step Int (Out Unit Bool))
 | .brk ()=>T7 x3
 | .ret r=>some (.stop (Out.ret r))
def xY(m:Mem):Int->Option (Step Int (Out Unit Bool))
 | x3=>(if decide (x3 < 3) then (idx m.aA.Global x3).bind fun x4=>(xV m.Heap x4.aQ x3).bind fun x5=>(if !x5 then some (.stop (Out.ret false)) else (loop (xX m x3) 0).bind (T8 x3)) else some (.stop (Out.brk ())))
def aGC:(Out Unit Bool)->Option Bool
 | .brk ()=>aGB
 | .ret r=>some r
def EP(m:Mem)(x1:Bool):Option Bool:=
 (if x1 then some false else (loop (xY m) 0).bind (aGC))
def OL(m:Mem):Option Bool:=
 (K5 m.Heap).bind fun x11=>(if !x11 then EP m true else (H4 m.aA).bind fun x12=>EP m (!x12))
def P4:Option Bool:=
 some true
def kP(x3:Int)(x5:Bool):Option (Step Int (Out Unit Bool)):=
 (if x5 then some (.stop (Out.ret false)) else some (.next (aX (x3+1))))
def rN(c:aH):Int->Option (Step Int (Out Unit Bool))
 | x3=>(if decide (x3 < 3) then (idx c.cV x3).bind fun x4=>(if !x4.On then (if !(decide (x4=(⟨false,0,false,0⟩:sC))) then kP x3 true else (bN x4.aM 0 c.aM).bind fun x6=>(if !x6 then kP x3 true else (bN x4.Seen 0 2).bind fun x7=>kP x3 (!x7))) else (bN x4.aM 0 c.aM).bind fun x8=>(if !x8 then kP x3 true else (bN x4.Seen 0 2).bind fun x9=>kP x3 (!x9))) else some (.stop (Out.brk ())))
def GF:(Out Unit Bool)->Option Bool
 | .brk ()=>P4
 | .ret r=>some r
def nB(c:aH)(x1:Bool):Option Bool:=
 (if x1 then some false else (loop (rN c) 0).bind (GF))
def nU(c:aH):Option Bool:=
 (bN c.aM 0 100000).bind fun x10=>(if !x10 then nB c true else nB c ((c.cV.length:Int) != 3))
def aDM(x5:List dE):Option (List dE):=
 some x5
def uM(l:List bB):((List dE)×Int)->Option (Step ((List dE)×Int) (List dE))
 | (x3,x4)=>(if decide (x4 < (l.length:Int)) then (idx l x4).bind fun x6=>need (x3.length+x6.Rows.length<=1073741824) (some (.next (x3++x6.Rows,aX (x4+1)))) else some (.stop (x3)))
def aDN:(List dE)->Option (List dE)
 | x5=>aDM x5
def AZ(l:List bB):Option (List dE):=
 (loop (uM l) (([]:List dE),0)).bind (aDN)
def vX(x1:Bool):Option Bool:=
 some x1
def iQ(h:Int):Option Bool:=
 (bN h 32 223).bind fun x2=>(if x2 then vX (decide ((Int.tmod h 32) < 24)) else vX false)
def hJ(h:Int):Option Int:=
 (iQ h).bind fun x1=>(if !x1 then some (-1) else some (Int.tmod h 32))
def Z7:Option Bool:=
 some true
def rO(x5:List Int)(x6 x8:Int)(x9:Bool):Option (Step ((List Int)×Int) (Out Unit Bool)):=
 (if x9 then some (.stop (Out.ret false)) else need (x5.length+([x8]).length<=1073741824) (some (.next (x5++([x8]),aX (x6+1)))))
def rP(x1:(List dE)):((List Int)×Int)->Option (Step ((List Int)×Int) (Out Unit Bool))
 | (x5,x6)=>(if decide (x6 < (x1.length:Int)) then (idx x1 x6).bind fun x7=>(hJ x7.Handle).bind fun x8=>(if decide (x8 < 0) then rO x5 x6 x8 true else (bN x7.aM 0 100000).bind fun x10=>(if !x10 then rO x5 x6 x8 true else (AF x5 x8).bind fun x11=>rO x5 x6 x8 x11)) else some (.stop (Out.brk ())))
def Z8:(Out Unit Bool)->Option Bool
 | .brk ()=>Z7
 | .ret r=>some r
def zE(x1:(List dE))(x2:Bool):Option Bool:=
 (if x2 then some false else (loop (rP x1) (([]:List Int),0)).bind (Z8))
def H5(l:List bB):Option Bool:=
 (AZ l).bind fun x1=>(if (l.length:Int) != 3 then zE x1 true else zE x1 (decide (24 < (x1.length:Int))))
def T9(z:List Int):Option Bool:=
 some ((z.length:Int) == 3)
def ER(x2:Int)(x3:Bool):Option (Step Int (Out Unit Bool)):=
 (if x3 then some (.stop (Out.ret false)) else some (.next (aX (x2+1))))
def xZ(z:List Int):Int->Option (Step Int (Out Unit Bool))
 | x2=>(if decide (x2 < (z.length:Int)) then (idx z x2).bind fun x4=>(if x4 != 0 then (idx z x2).bind fun x5=>(iQ x5).bind fun x6=>ER x2 (!x6) else ER x2 false) else some (.stop (Out.brk ())))
def UA(z:List Int):(Out Unit Bool)->Option Bool
 | .brk ()=>T9 z
 | .ret r=>some r
def OM(z:List Int):Option Bool:=
 (loop (xZ z) 0).bind (UA z)
def K6(l:aA)(slot:Int):Option Bool:=
 (I5 l).bind fun x1=>(AF x1 slot).bind fun x2=>some x2
def H6(m:Mem)(slot:Int):Option Int:=
 (qU m.Heap slot).bind fun x1=>(if decide (x1 < 0) then some 0 else (K6 m.aA slot).bind fun x2=>(if x2 then some 1 else (uK m.Heap slot).bind fun x3=>(if decide (6 < x3) then some 2 else some 3)))
def CP(h:Int):Option Int:=
 (iQ h).bind fun x1=>(if !x1 then some 0 else some (aX (Int.tdiv h 32)))
def rQ(x1:Bool):Option Bool:=
 some x1
def CQ(m:Mem)(h:Int):Option Bool:=
 (iQ h).bind fun x2=>(if x2 then (hJ h).bind fun x3=>(H6 m x3).bind fun x4=>(if x4 == 3 then (hJ h).bind fun x5=>(uK m.Heap x5).bind fun x6=>(CP h).bind fun x7=>rQ (x6 == x7) else rQ false) else rQ false)
def aDO:Option Bool:=
 some true
def CR(x4:Int)(x5:Bool):Option (Step Int (Out Unit Bool)):=
 (if x5 then some (.stop (Out.ret false)) else some (.next (aX (x4+1))))
def uN(b:aB)(x2:(List dE)):Int->Option (Step Int (Out Unit Bool))
 | x4=>(if decide (x4 < (x2.length:Int)) then (idx x2 x4).bind fun x6=>(CQ b.Mem x6.Handle).bind fun x7=>(if !x7 then CR x4 true else CR x4 (decide (b.aH.aM < x6.aM))) else some (.stop (Out.brk ())))
def aDP:(Out Unit Bool)->Option Bool
 | .brk ()=>aDO
 | .ret r=>some r
def pN(b:aB)(x1:Bool):Option Bool:=
 (if x1 then some false else (AZ b.bJ).bind fun x2=>(loop (uN b x2) 0).bind (aDP))
def K7(b:aB):Option Bool:=
 (OL b.Mem).bind fun x8=>(if !x8 then pN b true else (nU b.aH).bind fun x9=>(if !x9 then pN b true else (H5 b.bJ).bind fun x10=>(if !x10 then pN b true else (OM b.A4).bind fun x11=>pN b (!x11))))
def zF(x1:Bool):Option Bool:=
 some x1
def vY(h:Int):Option Bool:=
 (if h == 0 then zF true else (iQ h).bind fun x2=>zF x2)
def yA(x1:Bool):Option Bool:=
 some x1
def ON(b:bT):Option Bool:=
 (vY b.Head).bind fun x2=>(if x2 then (bN b.fM 0 1000000).bind fun x3=>(if x3 then (bN b.fO 0 3).bind fun x4=>yA x4 else yA false) else yA false)
def I6(l:List Int):Option Bool:=
 some (decide ((l.length:Int)<=6))
def mG(l:List Int):Int->Option (Step Int (Out Unit Bool))
 | x2=>(if decide (x2 < (l.length:Int)) then (idx l x2).bind fun x3=>(iQ x3).bind fun x4=>(if !x4 then some (.stop (Out.ret false)) else some (.next (aX (x2+1)))) else some (.stop (Out.brk ())))
def I7(l:List Int):(Out Unit Bool)->Option Bool
 | .brk ()=>I6 l
 | .ret r=>some r
def rR(l:List Int):Option Bool:=
 (loop (mG l) 0).bind (I7 l)
def YJ:Option Bool:=
 some true
def lX(x7:Int)(x8:Bool):Option (Step Int (Out Unit Bool)):=
 (if x8 then some (.stop (Out.ret false)) else some (.next (aX (x7+1))))
def pO(j:aE):Int->Option (Step Int (Out Unit Bool))
 | x7=>(if decide (x7 < (j.aJ.length:Int)) then (idx j.aJ x7).bind fun x9=>(bN x9.Key 0 99).bind fun x10=>(if !x10 then lX x7 true else (idx j.aJ x7).bind fun x11=>(bN x11.dO 0 65535).bind fun x12=>(if !x12 then lX x7 true else (if decide (0 < x7) then (idx j.aJ x7).bind fun x13=>(idx j.aJ (aX (x7 - 1))).bind fun x14=>lX x7 (decide (x13.Key<=x14.Key)) else lX x7 false))) else some (.stop (Out.brk ())))
def YK:(Out Unit Bool)->Option Bool
 | .brk ()=>YJ
 | .ret r=>some r
def D1(j:aE):Option Bool:=
 (loop (pO j) 0).bind (YK)
def pP(j:aE):Int->Option (Step Int (Out Unit Bool))
 | x5=>(if decide (x5 < (j.Reads.length:Int)) then (idx j.Reads x5).bind fun x15=>(bN x15.bT 0 1).bind fun x16=>(if !x16 then some (.stop (Out.ret false)) else some (.next (aX (x5+1)))) else some (.stop (Out.brk ())))
def YL(j:aE):(Out Unit Bool)->Option Bool
 | .brk ()=>D1 j
 | .ret r=>some r
def D2(j:aE):Option Bool:=
 (loop (pP j) 0).bind (YL j)
def vZ(x3:Int)(x17:Bool):Option (Step Int (Out Unit Bool)):=
 (if x17 then some (.stop (Out.ret false)) else some (.next (aX (x3+1))))
def pQ(j:aE):Int->Option (Step Int (Out Unit Bool))
 | x3=>(if decide (x3 < (j.aW.length:Int)) then (idx j.aW x3).bind fun x18=>(bN x18 0 1).bind fun x19=>(if !x19 then vZ x3 true else need (0<=(x3:Int)/\(x3:Int)<=(j.aW.length:Int)) ((idx j.aW x3).bind fun x20=>(AF ((j.aW.take x3.toNat).drop 0) x20).bind fun x21=>vZ x3 x21)) else some (.stop (Out.brk ())))
def YM(j:aE):(Out Unit Bool)->Option Bool
 | .brk ()=>D2 j
 | .ret r=>some r
def eE(j:aE)(x1:Bool):Option Bool:=
 (if x1 then some false else (loop (pQ j) 0).bind (YM j))
def ES(j:aE):Option Bool:=
 (BG j.Batch).bind fun x22=>(if !x22 then eE j true else (vY j.H).bind fun x23=>(if !x23 then eE j true else (vY j.fF).bind fun x24=>(if !x24 then eE j true else (bN j.bT 0 1).bind fun x25=>(if !x25 then eE j true else (bN j.At 0 (j.Batch.bK.length:Int)).bind fun x26=>(if !x26 then eE j true else (bN j.K 0 100).bind fun x27=>(if !x27 then eE j true else (rR j.fL).bind fun x28=>(if !x28 then eE j true else (rR j.cG).bind fun x29=>(if !x29 then eE j true else eE j (decide (6 < (j.aJ.length:Int)))))))))))
def TC:Option Bool:=
 some true
def G0(a_ b:List iG):Int->Option (Step Int (Out Unit Bool))
 | x2=>(if decide (x2 < (a_.length:Int)) then (idx a_ x2).bind fun x3=>(idx b x2).bind fun x4=>(if !(decide (x3=x4)) then some (.stop (Out.ret false)) else some (.next (aX (x2+1)))) else some (.stop (Out.brk ())))
def TD:(Out Unit Bool)->Option Bool
 | .brk ()=>TC
 | .ret r=>some r
def pR(a_ b:List iG):Option Bool:=
 (if (a_.length:Int) != (b.length:Int) then some false else (loop (G0 a_ b) 0).bind (TD))
def uO(x1:Bool):Option Bool:=
 some x1
def tI(a_ b:Batch):Option Bool:=
 (if a_.Collect == b.Collect then (pR a_.bK b.bK).bind fun x2=>uO x2 else uO false)
def TE:Option Bool:=
 some true
def G3(a_ b:aE):Int->Option (Step Int (Out Unit Bool))
 | x5=>(if decide (x5 < (a_.aJ.length:Int)) then (idx a_.aJ x5).bind fun x6=>(idx b.aJ x5).bind fun x7=>(if !(decide (x6=x7)) then some (.stop (Out.ret false)) else some (.next (aX (x5+1)))) else some (.stop (Out.brk ())))
def TF:(Out Unit Bool)->Option Bool
 | .brk ()=>TE
 | .ret r=>some r
def G4(a_ b:aE):Option Bool:=
 (loop (G3 a_ b) 0).bind (TF)
def G5(a_ b:aE):Int->Option (Step Int (Out Unit Bool))
 | x3=>(if decide (x3 < (a_.Reads.length:Int)) then (idx a_.Reads x3).bind fun x8=>(idx b.Reads x3).bind fun x9=>(if !(decide (x8=x9)) then some (.stop (Out.ret false)) else some (.next (aX (x3+1)))) else some (.stop (Out.brk ())))
def G6(a_ b:aE):(Out Unit Bool)->Option Bool
 | .brk ()=>G4 a_ b
 | .ret r=>some r
def oV(a_ b:aE)(x1:Bool):Option Bool:=
 (if x1 then some false else (loop (G5 a_ b) 0).bind (G6 a_ b))
def v7(a_ b:aE):Option Bool:=
 (if (a_.Reads.length:Int) != (b.Reads.length:Int) then oV a_ b true else oV a_ b ((a_.aJ.length:Int) != (b.aJ.length:Int)))
def U3:Option Bool:=
 some true
def I8(a_ b:List eA):Int->Option (Step Int (Out Unit Bool))
 | x2=>(if decide (x2 < (a_.length:Int)) then (idx a_ x2).bind fun x3=>(idx b x2).bind fun x4=>(if !(decide (x3=x4)) then some (.stop (Out.ret false)) else some (.next (aX (x2+1)))) else some (.stop (Out.brk ())))
def U4:(Out Unit Bool)->Option Bool
 | .brk ()=>U3
 | .ret r=>some r
def zG(a_ b:List eA):Option Bool:=
 (if (a_.length:Int) != (b.length:Int) then some false else (loop (I8 a_ b) 0).bind (U4))
def WR:Option Bool:=
 some true
def K8(a_ b:List Int):Int->Option (Step Int (Out Unit Bool))
 | x2=>(if decide (x2 < (a_.length:Int)) then (idx a_ x2).bind fun x3=>(idx b x2).bind fun x4=>(if x3 != x4 then some (.stop (Out.ret false)) else some (.next (aX (x2+1)))) else some (.stop (Out.brk ())))
def WS:(Out Unit Bool)->Option Bool
 | .brk ()=>WR
 | .ret r=>some r
def pS(a_ b:List Int):Option Bool:=
 (if (a_.length:Int) != (b.length:Int) then some false else (loop (K8 a_ b) 0).bind (WS))
def bL(x1:Bool):Option Bool:=
 some x1
def nC(a_ b:aE):Option Bool:=
 (if a_.iY == b.iY then (tI a_.Batch b.Batch).bind fun x2=>(if x2 then (if a_.aS == b.aS then (if a_.Pc == b.Pc then (if a_.At == b.At then (if a_.K == b.K then (if a_.bT == b.bT then (if a_.fM == b.fM then (if a_.H == b.H then (if a_.fF == b.fF then (if decide (a_.Node=b.Node) then (if a_.Found == b.Found then (if a_.Code == b.Code then (if decide (a_.Sub=b.Sub) then (v7 a_ b).bind fun x3=>(if x3 then (zG a_.eA b.eA).bind fun x4=>(if x4 then (pS a_.fL b.fL).bind fun x5=>(if x5 then (pS a_.aW b.aW).bind fun x6=>(if x6 then (pS a_.cG b.cG).bind fun x7=>bL x7 else bL false) else bL false) else bL false) else bL false) else bL false) else bL false) else bL false) else bL false) else bL false) else bL false) else bL false) else bL false) else bL false) else bL false) else bL false) else bL false) else bL false) else bL false)
def Z9:Option Bool:=
 some true
def kQ(x5:Int)(x6:Bool):Option (Step Int (Out Unit Bool)):=
 (if x6 then some (.stop (Out.ret false)) else some (.next (aX (x5+1))))
def rS(t:Table):Int->Option (Step Int (Out Unit Bool))
 | x5=>(if decide (x5 < 3) then (idx t.aN x5).bind fun x7=>(if x7.iY then (idx t.aN x5).bind fun x8=>(ES x8).bind fun x9=>(if !x9 then kQ x5 true else (idx t.aN x5).bind fun x10=>(if !x10.iY then (idx t.aN x5).bind fun x11=>(nC x11 (⟨false,(⟨false,[]⟩:Batch),0,0,0,0,0,0,0,0,(⟨0,0,0⟩:bP),false,0,(⟨0,0,0,0,0,0,0,0,0,false⟩:Sub),[],[],[],[],[],[]⟩:aE)).bind fun x12=>kQ x5 (!x12) else kQ x5 false)) else (idx t.aN x5).bind fun x13=>(if !x13.iY then (idx t.aN x5).bind fun x14=>(nC x14 (⟨false,(⟨false,[]⟩:Batch),0,0,0,0,0,0,0,0,(⟨0,0,0⟩:bP),false,0,(⟨0,0,0,0,0,0,0,0,0,false⟩:Sub),[],[],[],[],[],[]⟩:aE)).bind fun x15=>kQ x5 (!x15) else kQ x5 false)) else some (.stop (Out.brk ())))
def aAA:(Out Unit Bool)->Option Bool
 | .brk ()=>Z9
 | .ret r=>some r
def GG(t:Table):Option Bool:=
 (loop (rS t) 0).bind (aAA)
def rT(t:Table):Int->Option (Step Int (Out Unit Bool))
 | x3=>(if decide (x3 < 2) then (idx t.cS x3).bind fun x16=>(ON x16).bind fun x17=>(if !x17 then some (.stop (Out.ret false)) else some (.next (aX (x3+1)))) else some (.stop (Out.brk ())))
def aAB(t:Table):(Out Unit Bool)->Option Bool
 | .brk ()=>GG t
 | .ret r=>some r
def jD(t:Table)(x1:Bool):Option Bool:=
 (if x1 then some false else (loop (rT t) 0).bind (aAB t))
def H7(t:Table):Option Bool:=
 (K7 t.aB).bind fun x18=>(if !x18 then jD t true else (if (t.cS.length:Int) != 2 then jD t true else (if (t.aN.length:Int) != 3 then jD t true else (BH t.gZ).bind fun x19=>(if !x19 then jD t true else (bN t.aS 0 1000000).bind fun x20=>jD t (!x20)))))
def P5(x11:Table):Option Bool:=
 (H7 x11).bind fun x12=>some x12
def P6(x9:Int)(x17:Table):Option (Step (Int×Table) (Out Table Bool)):=
 some (.next (aX (x9+1),x17))
def GH(x15:Int)(x18:Bool)(x19:Table):Option (Step (Int×Table) (Out Table Bool)):=
 (if x18 then some (.stop (Out.ret false)) else some (.next (aX (x15+1),x19)))
def rU(x9:Int):(Int×Table)->Option (Step (Int×Table) (Out Table Bool))
 | (x15,x16)=>(if decide (x15 < 3) then (idx x16.aN x15).bind fun x20=>(idx x16.cS x9).bind fun x21=>(WQ x20.aW x9).bind fun x22=>GH x15 (!(x22 == (x21.fO == (aX (x15+1))))) x16 else some (.stop (Out.brk x16)))
def P7(x9:Int):(Out Table Bool)->Option (Step (Int×Table) (Out Table Bool))
 | .brk x17=>P6 x9 x17
 | .ret r=>some (.stop (Out.ret r))
def rV:(Int×Table)->Option (Step (Int×Table) (Out Table Bool))
 | (x9,x10)=>(if decide (x9 < 2) then (loop (rU x9) (0,x10)).bind (P7 x9) else some (.stop (Out.brk x10)))
def P8:(Out Table Bool)->Option Bool
 | .brk x11=>P5 x11
 | .ret r=>some r
def zH(x5:Bool)(x6:Table):Option Bool:=
 (if x5 then some false else (loop (rV) (0,x6)).bind (P8))
def OO(code:List UInt8):Option Bool:=
 (aC9 code).bind fun x1=>(if x1 then some true else (qF code).bind fun x2=>(KT x2).bind fun x3=>(if !x3 then some true else (CN x2).bind fun x4=>(if (x4.aN.length:Int) != 3 then zH true x4 else zH ((x4.cS.length:Int) != 2) x4)))
def aAC:Option Bool:=
 some false
def zI(x3:Int)(x4:Bool):Option (Step Int (Out Unit Bool)):=
 (if x4 then some (.stop (Out.ret true)) else some (.next (aX (x3+1))))
def nD(slot:Int)(x1:(List dE)):Int->Option (Step Int (Out Unit Bool))
 | x3=>(if decide (x3 < (x1.length:Int)) then (idx x1 x3).bind fun x5=>(iQ x5.Handle).bind fun x6=>(if x6 then (hJ x5.Handle).bind fun x7=>zI x3 (x7 == slot) else zI x3 false) else some (.stop (Out.brk ())))
def aAD:(Out Unit Bool)->Option Bool
 | .brk ()=>aAC
 | .ret r=>some r
def OQ(l:List bB)(slot:Int):Option Bool:=
 (AZ l).bind fun x1=>(loop (nD slot x1) 0).bind (aAD)
def aAE:Option Int:=
 some (-1)
def eU(size:Int):Int->Option (Step Int (Out Unit Int))
 | x2=>(if decide (x2 < 3) then (FF x2).bind fun x3=>(bN size 1 x3).bind fun x4=>(if x4 then some (.stop (Out.ret x2)) else some (.next (aX (x2+1)))) else some (.stop (Out.brk ())))
def aAF:(Out Unit Int)->Option Int
 | .brk ()=>aAE
 | .ret r=>some r
def CS(size:Int):Option Int:=
 (loop (eU size) 0).bind (aAF)
def WT(slot c:Int):Option Int:=
 (uH slot c).bind fun x1=>(if decide (x1 < 0) then some (-1) else some (aX (x1+4)))
def L6(s:aO)(x1:Int):Option (aO×Int):=
 some ((⟨(s.aQ.take ((aX ((s.aQ.length:Int) - 1)).toNat)).drop 0⟩:aO),x1)
def qV(s:aO):Option (aO×Int):=
 (if (s.aQ.length:Int) == 0 then some (s,(-1)) else need (0<=(aX ((s.aQ.length:Int) - 1):Int)/\(aX ((s.aQ.length:Int) - 1):Int)<=(s.aQ.length:Int)) ((idx s.aQ (aX ((s.aQ.length:Int) - 1))).bind fun x2=>L6 s x2))
def aAG(x7:List Int):Option (List Int):=
 some x7
def zJ(at_:Int):((List Int)×Int×Int)->Option (Step ((List Int)×Int×Int) (List Int))
 | (x4,x5,x6)=>(if decide (0<=x6) then (idx x4 (aX (at_+x6))).bind fun x8=>some (.next (x4.set ((aX (at_+x6)).toNat) (Int.tmod x5 256),aX (Int.tdiv x5 256),aX (x6 - 1))) else some (.stop (x4)))
def aAH:(List Int)->Option (List Int)
 | x7=>aAG x7
def CT(b:List Int)(at_ width n:Int):Option (List Int):=
 (loop (zJ at_) (b,n,aX (width - 1))).bind (aAH)
def aAI(h:Heap):Option (Heap×(List Int)):=
 some (h,([]:List Int))
def GI(x2:Int):Option (Step Int (Out Unit (Heap×(List Int)))):=
 some (.next (aX (x2+1)))
def aAJ(h:Heap)(c x2:Int)(x14 x15:List Int):Option (Step Int (Out Unit (Heap×(List Int)))):=
 some (.stop (Out.ret ((⟨x15,h.Class.set x2.toNat c⟩:Heap),x14)))
def P9(x2:Int)(x11:List Int)(x12:Int)(x17:List Int):Option (Step ((List Int)×Int×(List Int)) ((List Int)×(List Int))):=
 (qD x2 x12).bind fun x18=>need (x11.length+([x18]).length<=1073741824) (some (.next (x11++([x18]),aX (x12+1),x17)))
def zK(c x2:Int):((List Int)×Int×(List Int))->Option (Step ((List Int)×Int×(List Int)) ((List Int)×(List Int)))
 | (x11,x12,x13)=>(lL c).bind fun x16=>(if decide (x12 < x16) then (qD x2 x12).bind fun x19=>(uH x19 c).bind fun x20=>(CT x13 x20 4 1).bind fun x21=>P9 x2 x11 x12 x21 else some (.stop ((x11,x13))))
def aAK(h:Heap)(c x2:Int):((List Int)×(List Int))->Option (Step Int (Out Unit (Heap×(List Int))))
 | (x14,x15)=>aAJ h c x2 x14 x15
def eF(h:Heap)(c:Int):Int->Option (Step Int (Out Unit (Heap×(List Int))))
 | x2=>(if decide (x2 < 6) then (idx h.Class x2).bind fun x3=>(if x3 != (-1) then GI x2 else (idx h.Bytes (aX (x2 * 64))).bind fun x4=>(idx (h.Bytes.set ((aX (x2 * 64)).toNat) 171) (aX ((aX (x2 * 64))+1))).bind fun x5=>(lL c).bind fun x6=>(idx ((h.Bytes.set ((aX (x2 * 64)).toNat) 171).set ((aX ((aX (x2 * 64))+1)).toNat) c) (aX ((aX (x2 * 64))+2))).bind fun x7=>(loop (zK c x2) (([]:List Int),0,((h.Bytes.set ((aX (x2 * 64)).toNat) 171).set ((aX ((aX (x2 * 64))+1)).toNat) c).set ((aX ((aX (x2 * 64))+2)).toNat) x6)).bind (aAK h c x2)) else some (.stop (Out.brk ())))
def aAL(h:Heap):(Out Unit (Heap×(List Int)))->Option (Heap×(List Int))
 | .brk ()=>aAI h
 | .ret r=>some r
def qW(h:Heap)(c:Int):Option (Heap×(List Int)):=
 (loop (eF h c) 0).bind (aAL h)
def GJ(m:Mem)(c:Int)(x1:Heap×(List Int))(x2:aO)(x3:Int):Option (Mem×Int):=
 some ((⟨x1.1,(⟨m.aA.Global.set c.toNat (⟨x2.aQ++((x1.2.take x1.2.length).drop ((1:Int).toNat))⟩:aO),m.aA.Own⟩:aA)⟩:Mem),x3)
def CU(m:Mem)(c:Int):Option (Mem×Int):=
 (qW m.Heap c).bind fun x1=>(if (x1.2.length:Int) == 0 then some ((⟨x1.1,m.aA⟩:Mem),(-1)) else (idx m.aA.Global c).bind fun x2=>need (0<=(1:Int)/\(1:Int)<=(x1.2.length:Int)) (need (x2.aQ.length+((x1.2.take x1.2.length).drop ((1:Int).toNat)).length<=1073741824) ((idx x1.2 0).bind fun x4=>GJ m c x1 x2 x4)))
def v8(slot gen:Int)(x1:Bool):Option Int:=
 (if x1 then some 0 else some (aX ((aX (gen * 32))+slot)))
def L7(slot gen:Int):Option Int:=
 (bN slot 0 23).bind fun x2=>(if !x2 then v8 slot gen true else (bN gen 1 6).bind fun x3=>v8 slot gen (!x3))
def yC(m:Mem)(slot:Int):Option Int:=
 (uK m.Heap slot).bind fun x1=>(L7 slot x1).bind fun x2=>some x2
def I9(x2 x3:List aO):Option aA:=
 some (⟨x2,x3⟩:aA)
def RN(x:aA)(slot x1:Int)(x4:aO):Option aA:=
 I9 x.Global (x.Own.set x1.toNat (⟨x4.aQ++([slot])⟩:aO))
def RO(x:aA)(x5:List aO):Option aA:=
 I9 x5 x.Own
def RP(x:aA)(w_ c slot:Int):Option aA:=
 (uL w_ c).bind fun x1=>(idx x.Own x1).bind fun x4=>(if decide ((x4.aQ.length:Int) < 2) then need (x4.aQ.length+([slot]).length<=1073741824)<|RN x slot x1 x4 else (idx x.Global c).bind fun x6=>need (x6.aQ.length+([slot]).length<=1073741824)<|RO x (x.Global.set c.toNat (⟨x6.aQ++([slot])⟩:aO)))
def JA(x:Mem)(x3:List Int)(x4 x5:List aO):Option Mem:=
 some (⟨(⟨x3,x.Heap.Class⟩:Heap),(⟨x4,x5⟩:aA)⟩:Mem)
def JC(x:Mem)(w_ slot x1 x2:Int)(x3:List Int):Option Mem:=
 (if decide ((aX (x2+1))<=6) then (RP x.aA w_ x1 slot).bind fun x6=>JA x x3 x6.Global x6.Own else JA x x3 x.aA.Global x.aA.Own)
def FG(x:Mem)(w_ slot:Int):Option Mem:=
 (qU x.Heap slot).bind fun x1=>(uK x.Heap slot).bind fun x2=>(uH slot x1).bind fun x7=>(CT x.Heap.Bytes x7 4 (aX (x2+1))).bind fun x8=>JC x w_ slot x1 x2 x8
def wA(c:aH):Option aH:=
 need (([]:List sC).length+c.cV.length<=1073741824) (some (⟨c.aM,([]:List sC)++c.cV⟩:aH))
def bE(s:Sub)(code:Int):Option Sub:=
 some ({s with Code:=code,dJ:=true}:Sub)
def OR(b:aB)(s:Sub)(slot pc:Int):Option Sub:=
 (if decide (0<=slot) then (yC b.Mem slot).bind fun x1=>(bE ({s with Out:=x1}:Sub) 0).bind fun x2=>some x2 else some ({s with Pc:=pc}:Sub))
def wB(s:Sub)(x3:Int)(x5:Bool)(x6:aB):Option (aB×Sub):=
 (if x5 then (bE s 3).bind fun x7=>some (x6,x7) else (OR x6 s x3 (aX (s.Pc+1))).bind fun x8=>some (x6,x8))
def iK(s:Sub)(x3:Int)(x4:aB):Option (aB×Sub):=
 (if decide (x3 < 0) then wB s x3 (s.Pc == 3) x4 else wB s x3 false x4)
def wC(b:aB)(s:Sub)(x1:Int)(x12:Bool):Option (aB×Sub):=
 (if x12 then (idx b.Mem.aA.Global x1).bind fun x13=>(qV x13).bind fun x14=>iK s x14.2 ({b with Mem:=(⟨b.Mem.Heap,(⟨b.Mem.aA.Global.set x1.toNat x14.1,b.Mem.aA.Own⟩:aA)⟩:Mem)}:aB) else (if s.Pc == 2 then (CU b.Mem x1).bind fun x15=>iK s x15.2 ({b with Mem:=x15.1}:aB) else (bE s 1).bind fun x16=>some (b,x16)))
def yD(b:aB)(w_:Int)(s:Sub):Option (aB×Sub):=
 (CS s.A).bind fun x1=>(if decide (x1 < 0) then (bE s 2).bind fun x2=>some (b,x2) else (if s.Pc == 0 then (uL w_ x1).bind fun x9=>(idx b.Mem.aA.Own x9).bind fun x10=>(qV x10).bind fun x11=>iK s x11.2 ({b with Mem:=(⟨b.Mem.Heap,(⟨b.Mem.aA.Global,b.Mem.aA.Own.set x9.toNat x11.1⟩:aA)⟩:Mem)}:aB) else (if s.Pc == 1 then wC b s x1 true else wC b s x1 (s.Pc == 3))))
def CV(b:aB)(s:Sub)(x5:List bB):Option (aB×Sub):=
 (bE s 0).bind fun x6=>some (({b with bJ:=x5}:aB),x6)
def tJ(b:aB)(w_:Int)(s:Sub)(x3:Bool):Option (aB×Sub):=
 (if x3 then (bE s 4).bind fun x4=>some (b,x4) else (idx b.bJ w_).bind fun x7=>need (x7.Rows.length+([(⟨s.A,s.E⟩:dE)]).length<=1073741824)<|CV b s (b.bJ.set w_.toNat (⟨x7.Rows++([(⟨s.A,s.E⟩:dE)])⟩:bB)))
def uP(b:aB)(w_:Int)(s:Sub):Option (aB×Sub):=
 (if s.Pc == 0 then some (b,({s with Pc:=1,E:=b.aH.aM}:Sub)) else (if s.Pc == 1 then (bN s.E 0 b.aH.aM).bind fun x1=>(if !x1 then (bE s 1).bind fun x2=>some (b,x2) else (CQ b.Mem s.A).bind fun x8=>(if !x8 then tJ b w_ s true else (hJ s.A).bind fun x9=>(OQ b.bJ x9).bind fun x10=>tJ b w_ s x10)) else (bE s 1).bind fun x11=>some (b,x11)))
def pT(w_:Int)(x1:aH)(x3:sC)(x4:Bool):Option (aH×Bool):=
 (if x4 then some (x1,true) else (if x3.Seen == 2 then (idx x1.cV w_).bind fun x5=>some ((⟨x1.aM,x1.cV.set w_.toNat ({x5 with gP:=true,Seen:=0}:sC)⟩:aH),true) else (idx x1.cV w_).bind fun x6=>some ((⟨x1.aM,x1.cV.set w_.toNat ({x6 with Seen:=aX (x3.Seen+1)}:sC)⟩:aH),false)))
def CX(c:aH)(w_ e_:Int)(x1:aH)(x2:Bool):Option (aH×Bool):=
 (if x2 then some (x1,false) else (idx c.cV w_).bind fun x3=>(if !x3.On then pT w_ x1 x3 true else (if x3.gP then pT w_ x1 x3 true else pT w_ x1 x3 (x3.aM == e_))))
def FH(c:aH)(w_ e_:Int):Option (aH×Bool):=
 (wA c).bind fun x1=>(nU c).bind fun x7=>(if !x7 then CX c w_ e_ x1 true else (bN w_ 0 2).bind fun x8=>CX c w_ e_ x1 (!x8))
def CY(e_:Int)(x1:aH)(x2:Bool):Option (aH×Bool):=
 (if x2 then some (x1,false) else some ((⟨aX (e_+1),x1.cV⟩:aH),true))
def NP(c:aH)(e_:Int):Option (aH×Bool):=
 (wA c).bind fun x1=>(nU c).bind fun x3=>(if !x3 then CY e_ x1 true else (if c.aM != e_ then CY e_ x1 true else CY e_ x1 (e_ == 100000)))
def qX(b:aB)(s:Sub)(x3:aH×Bool)(x5:Int):Option (aB×Sub):=
 some (({b with aH:=x3.1}:aB),({s with Pc:=x5,B:=aX (s.B+1)}:Sub))
def qY(b:aB)(s:Sub)(x6:aH×Bool)(x7:Int):Option (aB×Sub):=
 (bE ({s with Out:=x7}:Sub) 0).bind fun x8=>some (({b with aH:=x6.1}:aB),x8)
def rW(b:aB)(s:Sub):Option (aB×Sub):=
 (if s.Pc == 0 then some (b,({s with Pc:=1,E:=b.aH.aM,B:=0}:Sub)) else (if s.Pc == 1 then (bN s.B 0 2).bind fun x1=>(if !x1 then (bE s 1).bind fun x2=>some (b,x2) else (FH b.aH s.B s.E).bind fun x3=>(if !x3.2 then (bE s 8).bind fun x4=>some (({b with aH:=x3.1}:aB),x4) else (if (aX (s.B+1)) == 3 then qX b s x3 2 else qX b s x3 s.Pc))) else (if s.Pc == 2 then (NP b.aH s.E).bind fun x6=>(if x6.2 then qY b s x6 1 else qY b s x6 s.Out) else (bE s 1).bind fun x9=>some (b,x9))))
def H8(x1:Bool):Option Bool:=
 some x1
def IH(r_:dE)(e_:Int):Option Bool:=
 (if decide (2<=e_) then H8 (decide (r_.aM<=(aX (e_ - 2)))) else H8 false)
def aAM:Option Int:=
 some (-1)
def eG(l:List dE)(e_:Int):Int->Option (Step Int (Out Unit Int))
 | x2=>(if decide (x2 < (l.length:Int)) then (idx l x2).bind fun x3=>(IH x3 e_).bind fun x4=>(if x4 then some (.stop (Out.ret x2)) else some (.next (aX (x2+1)))) else some (.stop (Out.brk ())))
def aAN:(Out Unit Int)->Option Int
 | .brk ()=>aAM
 | .ret r=>some r
def wD(l:List dE)(from_ e_:Int):Option Int:=
 (loop (eG l e_) (if 0 < from_ then from_ else 0)).bind (aAN)
def qZ(b:aB)(s:Sub)(x8:Int):Option (aB×Sub):=
 some (b,({s with Pc:=x8,B:=aX (s.B+1)}:Sub))
def eO(b:aB)(s:Sub)(x5:Bool):Option (aB×Sub):=
 (if x5 then (bE s 1).bind fun x6=>some (b,x6) else (idx b.A4 s.B).bind fun x7=>(if x7 == s.H then some (b,({s with Pc:=1,Row:=aX (s.Row+1)}:Sub)) else (if (aX (s.B+1)) == 3 then qZ b s 3 else qZ b s s.Pc)))
def AG(s:Sub)(x14:aB):Option (aB×Sub):=
 some (x14,({s with Pc:=1,Out:=aX (s.Out+1)}:Sub))
def eP(b:aB)(w_:Int)(s:Sub)(x1:bB)(x12:Bool):Option (aB×Sub):=
 (if x12 then (bE s 1).bind fun x13=>some (b,x13) else need (0<=(s.Row:Int)/\(s.Row:Int)<=(x1.Rows.length:Int)) (need (0<=(aX (s.Row+1):Int)/\(aX (s.Row+1):Int)<=(x1.Rows.length:Int)) (need (s.Row.toNat<=(aX (s.Row+1)).toNat) ((hJ s.H).bind fun x15=>(FG b.Mem w_ x15).bind fun x16=>AG s ({b with Mem:=x16,bJ:=b.bJ.set w_.toNat (⟨((cM x1.Rows s.Row.toNat (x1.Rows.drop ((aX (s.Row+1)).toNat))).take (s.Row.toNat+(x1.Rows.length - ((aX (s.Row+1)).toNat)))).drop 0⟩:bB)}:aB)))))
def rX(b:aB)(w_:Int)(s:Sub):Option (aB×Sub):=
 (idx b.bJ w_).bind fun x1=>(if s.Pc == 0 then some (b,({s with Pc:=1,E:=b.aH.aM,Row:=0}:Sub)) else (if s.Pc == 1 then (wD x1.Rows s.Row s.E).bind fun x2=>(if decide (x2 < 0) then (bE s 0).bind fun x3=>some (b,x3) else (idx x1.Rows x2).bind fun x4=>some (b,({s with Pc:=2,Row:=x2,B:=0,H:=x4.Handle}:Sub))) else (if s.Pc == 2 then (bN s.B 0 2).bind fun x9=>(if !x9 then eO b s true else (bN s.Row 0 (aX ((x1.Rows.length:Int) - 1))).bind fun x10=>(if !x10 then eO b s true else (idx x1.Rows s.Row).bind fun x11=>eO b s (x11.Handle != s.H))) else (if s.Pc == 3 then (bN s.Row 0 (aX ((x1.Rows.length:Int) - 1))).bind fun x17=>(if !x17 then eP b w_ s x1 true else (idx x1.Rows s.Row).bind fun x18=>(if x18.Handle != s.H then eP b w_ s x1 true else (IH x18 s.E).bind fun x19=>eP b w_ s x1 (!x19))) else (bE s 1).bind fun x20=>some (b,x20)))))
def yE(w_ e_:Int)(x1:aH)(x2:Bool):Option (aH×Bool):=
 (if x2 then some (x1,false) else (idx x1.cV w_).bind fun x3=>some ((⟨x1.aM,x1.cV.set w_.toNat (⟨true,e_,false,0⟩:sC)⟩:aH),true))
def JD(c:aH)(w_ e_:Int):Option (aH×Bool):=
 (wA c).bind fun x1=>(nU c).bind fun x4=>(if !x4 then yE w_ e_ x1 true else (bN w_ 0 2).bind fun x5=>(if !x5 then yE w_ e_ x1 true else (bN e_ 0 c.aM).bind fun x6=>yE w_ e_ x1 (!x6)))
def FI(b:aB)(w_:Int)(s:Sub):Option (aB×Sub):=
 (if s.Pc == 0 then some (b,({s with Pc:=1,E:=b.aH.aM}:Sub)) else (if s.Pc == 1 then (JD b.aH w_ s.E).bind fun x1=>(if !x1.2 then (bE s 1).bind fun x2=>some (({b with aH:=x1.1}:aB),x2) else some (({b with aH:=x1.1}:aB),({s with Pc:=2}:Sub))) else (if s.Pc == 2 then (if b.aH.aM == s.E then (bE s 0).bind fun x3=>some (b,x3) else some (b,({s with Pc:=0}:Sub))) else (bE s 1).bind fun x4=>some (b,x4))))
def OS(b:aB)(w_:Int)(s:Sub):Option (aB×Sub):=
 (if s.dJ then some (b,s) else (if s.Kind == 1 then (yD b w_ s).bind fun x1=>some (x1.1,x1.2) else (if s.Kind == 2 then (uP b w_ s).bind fun x2=>some (x2.1,x2.2) else (if s.Kind == 3 then (rW b s).bind fun x3=>some (x3.1,x3.2) else (if s.Kind == 4 then (rX b w_ s).bind fun x4=>some (x4.1,x4.2) else (if s.Kind == 5 then (FI b w_ s).bind fun x5=>some (x5.1,x5.2) else (bE s 1).bind fun x6=>some (b,x6)))))))
def yF(w_:Int)(x1:aH)(x2:Bool):Option (aH×Bool):=
 (if x2 then some (x1,false) else (idx x1.cV w_).bind fun x3=>some ((⟨x1.aM,x1.cV.set w_.toNat (⟨false,0,false,0⟩:sC)⟩:aH),true))
def OT(c:aH)(w_:Int):Option (aH×Bool):=
 (wA c).bind fun x1=>(nU c).bind fun x4=>(if !x4 then yF w_ x1 true else (bN w_ 0 2).bind fun x5=>(if !x5 then yF w_ x1 true else (idx c.cV w_).bind fun x6=>yF w_ x1 (!x6.On)))
end
end Go.Gv
end
noncomputable section
set_option maxHeartbeats 4000000
set_option maxRecDepth 100000
namespace Go.Proofs.YtejjbceagmbdhaaGreat
open Go.Gv Tryz
theorem bH:QW prog 3 1 (.int .i64 0):=wP (b:=8) (by kernel_rfl) rfl
theorem mH:QW prog 96 3 (.agg #[.int .i64 0,.int .i64 0,.int .i64 0]):=wP (b:=24) (by kernel_rfl) rfl
theorem rA:QW prog 92 1 (.agg #[.slice none 0 0]):=wP (b:=24) (by kernel_rfl) rfl
theorem dS:QW prog 56 2 (.agg #[.bool false,.slice none 0 0]):=wP (b:=32) (by kernel_rfl) rfl
theorem eR:QW prog 172 1 (.agg #[.slice none 0 0]):=wP (b:=24) (by kernel_rfl) rfl
theorem K9:QW prog 150 4 (.agg #[.bool false,.int .i64 0,.bool false,.int .i64 0]):=wP (b:=32) (by kernel_rfl) rfl
theorem FJ:QW prog 175 1 (.agg #[.slice none 0 0]):=wP (b:=24) (by kernel_rfl) rfl
theorem fZ:QW prog 67 3 (.agg #[.int .i64 0,.int .i64 0,.int .i64 0]):=wP (b:=24) (by kernel_rfl) rfl
theorem gA:QW prog 65 32 (.agg #[.bool false,.bool false,.slice none 0 0,.int .i64 0,.int .i64 0,.int .i64 0,.int .i64 0,.int .i64 0,.int .i64 0,.int .i64 0,.int .i64 0,.int .i64 0,.int .i64 0,.int .i64 0,.bool false,.int .i64 0,.int .i64 0,.int .i64 0,.int .i64 0,.int .i64 0,.int .i64 0,.int .i64 0,.int .i64 0,.int .i64 0,.int .i64 0,.bool false,.slice none 0 0,.slice none 0 0,.slice none 0 0,.slice none 0 0,.slice none 0 0,.slice none 0 0]):=wP (b:=368) (by kernel_rfl) rfl
theorem kR:QW prog 79 6 (.agg #[.int .i64 0,.int .i64 0,.int .i64 0,.int .i64 0,.slice none 0 0,.slice none 0 0]):=wP (b:=80) (by kernel_rfl) rfl
theorem aN4:QW prog 32 1 (.slice none 0 0):=wP (b:=24) (by kernel_rfl) rfl
theorem aRW:QW prog 5 1 (.int .u8 0):=wP (b:=1) (by kernel_rfl) rfl
theorem uQ:QW prog 114 2 (.agg #[.int .i64 0,.int .i64 0]):=wP (b:=16) (by kernel_rfl) rfl
theorem uR:QW prog 119 3 (.agg #[.int .i64 0,.bool false,.int .i64 0]):=wP (b:=24) (by kernel_rfl) rfl
theorem LA:QW prog 142 2 (.agg #[.bool false,.int .i64 0]):=wP (b:=16) (by kernel_rfl) rfl
theorem LB:QW prog 117 2 (.agg #[.int .i64 0,.int .i64 0]):=wP (b:=16) (by kernel_rfl) rfl
theorem aC:prog.follows .mixedOrders=true:=by kernel_rfl
theorem ZH(D:Nat)(d d':sC)(w:World):(Op.eqFields (D+2) #[.bool (d.On),.int .i64 (d.aM),.bool (d.gP),.int .i64 (d.Seen)] #[.bool (d'.On),.int .i64 (d'.aM),.bool (d'.gP),.int .i64 (d'.Seen)] (match prog.underlying 150 with | some (.struct fs)=>fs | _=>#[]).toList).run prog w=.ok (decide (d=d')) w:=by
 rw [underlying150]
 have h:(d.On == d'.On && (d.aM == d'.aM && (d.gP == d'.gP && (d.Seen == d'.Seen && true))))=decide (d=d'):=by
  cases d;cases d';rw [FR];simp
 rw [<-h]
 exact eW _ _ _ _ _ rfl (fI isAgg4 rfl) (fI isAgg4 rfl) (VV underlying4)<|
  eW _ _ _ _ _ rfl (fI isAgg3 rfl) (fI isAgg3 rfl) (mS underlying3)<|
  eW _ _ _ _ _ rfl (fI isAgg4 rfl) (fI isAgg4 rfl) (VV underlying4)<|
  eW _ _ _ _ _ rfl (fI isAgg3 rfl) (fI isAgg3 rfl) (mS underlying3)<|
  N5 _ _ _
theorem aN5(D:Nat)(d d':iG)(w:World):(Op.eqFields (D+2) #[.int .i64 (d.Kind),.int .i64 (d.Key),.int .i64 (d.dO)] #[.int .i64 (d'.Kind),.int .i64 (d'.Key),.int .i64 (d'.dO)] (match prog.underlying 96 with | some (.struct fs)=>fs | _=>#[]).toList).run prog w=.ok (decide (d=d')) w:=by
 rw [underlying96]
 have h:(d.Kind == d'.Kind && (d.Key == d'.Key && (d.dO == d'.dO && true)))=decide (d=d'):=by
  cases d;cases d';rw [FR];simp
 rw [<-h]
 exact eW _ _ _ _ _ rfl (fI isAgg3 rfl) (fI isAgg3 rfl) (mS underlying3)<|
  eW _ _ _ _ _ rfl (fI isAgg3 rfl) (fI isAgg3 rfl) (mS underlying3)<|
  eW _ _ _ _ _ rfl (fI isAgg3 rfl) (fI isAgg3 rfl) (mS underlying3)<|
  N5 _ _ _
theorem aLU(D:Nat)(d d':Seen)(w:World):(Op.eqFields (D+2) #[.int .i64 (d.bT),.int .i64 (d.fM)] #[.int .i64 (d'.bT),.int .i64 (d'.fM)] (match prog.underlying 117 with | some (.struct fs)=>fs | _=>#[]).toList).run prog w=.ok (decide (d=d')) w:=by
 rw [underlying117]
 have h:(d.bT == d'.bT && (d.fM == d'.fM && true))=decide (d=d'):=by
  cases d;cases d';rw [FR];simp
 rw [<-h]
 exact eW _ _ _ _ _ rfl (fI isAgg3 rfl) (fI isAgg3 rfl) (mS underlying3)<|
  eW _ _ _ _ _ rfl (fI isAgg3 rfl) (fI isAgg3 rfl) (mS underlying3)<|
  N5 _ _ _
theorem aLV(D:Nat)(d d':aU)(w:World):(Op.eqFields (D+2) #[.int .i64 (d.Key),.bool (d.GX),.int .i64 (d.dO)] #[.int .i64 (d'.Key),.bool (d'.GX),.int .i64 (d'.dO)] (match prog.underlying 119 with | some (.struct fs)=>fs | _=>#[]).toList).run prog w=.ok (decide (d=d')) w:=by
 rw [underlying119]
 have h:(d.Key == d'.Key && (d.GX == d'.GX && (d.dO == d'.dO && true)))=decide (d=d'):=by
  cases d;cases d';rw [FR];simp
 rw [<-h]
 exact eW _ _ _ _ _ rfl (fI isAgg3 rfl) (fI isAgg3 rfl) (mS underlying3)<|
  eW _ _ _ _ _ rfl (fI isAgg4 rfl) (fI isAgg4 rfl) (VV underlying4)<|
  eW _ _ _ _ _ rfl (fI isAgg3 rfl) (fI isAgg3 rfl) (mS underlying3)<|
  N5 _ _ _
theorem aLW(D:Nat)(d d':eA)(w:World):(Op.eqFields (D+2) #[.bool (d.Is),.int .i64 (d.dO)] #[.bool (d'.Is),.int .i64 (d'.dO)] (match prog.underlying 142 with | some (.struct fs)=>fs | _=>#[]).toList).run prog w=.ok (decide (d=d')) w:=by
 rw [underlying142]
 have h:(d.Is == d'.Is && (d.dO == d'.dO && true))=decide (d=d'):=by
  cases d;cases d';rw [FR];simp
 rw [<-h]
 exact eW _ _ _ _ _ rfl (fI isAgg4 rfl) (fI isAgg4 rfl) (VV underlying4)<|
  eW _ _ _ _ _ rfl (fI isAgg3 rfl) (fI isAgg3 rfl) (mS underlying3)<|
  N5 _ _ _
theorem aN6(D:Nat)(d d':bP)(w:World):(Op.eqFields (D+2) #[.int .i64 (d.Key),.int .i64 (d.dO),.int .i64 (d.Next)] #[.int .i64 (d'.Key),.int .i64 (d'.dO),.int .i64 (d'.Next)] (match prog.underlying 58 with | some (.struct fs)=>fs | _=>#[]).toList).run prog w=.ok (decide (d=d')) w:=by
 rw [underlying58]
 have h:(d.Key == d'.Key && (d.dO == d'.dO && (d.Next == d'.Next && true)))=decide (d=d'):=by
  cases d;cases d';rw [FR];simp
 rw [<-h]
 exact eW _ _ _ _ _ rfl (fI isAgg3 rfl) (fI isAgg3 rfl) (mS underlying3)<|
  eW _ _ _ _ _ rfl (fI isAgg3 rfl) (fI isAgg3 rfl) (mS underlying3)<|
  eW _ _ _ _ _ rfl (fI isAgg3 rfl) (fI isAgg3 rfl) (mS underlying3)<|
  N5 _ _ _
theorem aN7(D:Nat)(d d':Sub)(w:World):(Op.eqFields (D+2) #[.int .i64 (d.Kind),.int .i64 (d.A),.int .i64 (d.Pc),.int .i64 (d.E),.int .i64 (d.Row),.int .i64 (d.B),.int .i64 (d.H),.int .i64 (d.Out),.int .i64 (d.Code),.bool (d.dJ)] #[.int .i64 (d'.Kind),.int .i64 (d'.A),.int .i64 (d'.Pc),.int .i64 (d'.E),.int .i64 (d'.Row),.int .i64 (d'.B),.int .i64 (d'.H),.int .i64 (d'.Out),.int .i64 (d'.Code),.bool (d'.dJ)] (match prog.underlying 60 with | some (.struct fs)=>fs | _=>#[]).toList).run prog w=.ok (decide (d=d')) w:=by
 rw [underlying60]
 have h:(d.Kind == d'.Kind && (d.A == d'.A && (d.Pc == d'.Pc && (d.E == d'.E && (d.Row == d'.Row && (d.B == d'.B && (d.H == d'.H && (d.Out == d'.Out && (d.Code == d'.Code && (d.dJ == d'.dJ && true))))))))))=decide (d=d'):=by
  cases d;cases d';rw [FR];simp
 rw [<-h]
 exact eW _ _ _ _ _ rfl (fI isAgg3 rfl) (fI isAgg3 rfl) (mS underlying3)<|
  eW _ _ _ _ _ rfl (fI isAgg3 rfl) (fI isAgg3 rfl) (mS underlying3)<|
  eW _ _ _ _ _ rfl (fI isAgg3 rfl) (fI isAgg3 rfl) (mS underlying3)<|
  eW _ _ _ _ _ rfl (fI isAgg3 rfl) (fI isAgg3 rfl) (mS underlying3)<|
  eW _ _ _ _ _ rfl (fI isAgg3 rfl) (fI isAgg3 rfl) (mS underlying3)<|
  eW _ _ _ _ _ rfl (fI isAgg3 rfl) (fI isAgg3 rfl) (mS underlying3)<|
  eW _ _ _ _ _ rfl (fI isAgg3 rfl) (fI isAgg3 rfl) (mS underlying3)<|
  eW _ _ _ _ _ rfl (fI isAgg3 rfl) (fI isAgg3 rfl) (mS underlying3)<|
  eW _ _ _ _ _ rfl (fI isAgg3 rfl) (fI isAgg3 rfl) (mS underlying3)<|
  eW _ _ _ _ _ rfl (fI isAgg4 rfl) (fI isAgg4 rfl) (VV underlying4)<|
  N5 _ _ _
set_option maxRecDepth 100000 in
theorem NQ{w0:World}{n:Int}(hn:0<=n/\n<=1073741824) :
  Calls prog 280 #[.slice none 0 0,.int .i64 n] w0 (Ret fun v w'=>∃s0_0:Value,v=s0_0/\St (bZ w0) w' [aZ [s0_0] ([]:List Raw)] []):=by
 have hS:St (bZ w0) w0 [] []:=St.enter (by intro f hf;cases hf)
 have hw:aX (n - aX (0 - 0))=n:=by
  rw [IQ (x:=0 - 0) (by omega),IQ (by omega)];omega
 refine aS9 (args:=[_,_]) func280 rfl ntmps280 rfl ?_
 intro a hA
 refine bO ?_
 refine cD hA ?_
 clear hA
 refine eV (DT rfl rfl) (bS rfl) rfl rfl ?_
 refine bD ?_
 intro a hA
 refine bO ?_
 refine bO ?_
 refine cD hA ?_
 clear hA
 refine eV (nG rfl rfl) (bS rfl) rfl rfl ?_
 refine eV (FU rfl rfl rfl) (bS rfl) rfl rfl ?_
 refine bD ?_
 intro a hA
 refine lF hA rfl (fun hc=>?_) (fun hc=>?_)
 ·exfalso;simp at hc;omega
 refine oJ ?_
 refine bO ?_
 refine bO ?_
 refine cD hA ?_
 clear hA
 refine eV (nG rfl rfl) (bS rfl) rfl rfl ?_
 refine eV (nG rfl rfl) (bS rfl) rfl rfl ?_
 refine eV (aHK underlying32 rfl rfl) (bS rfl) rfl rfl ?_
 refine eV (nG rfl rfl) (bS rfl) rfl rfl ?_
 refine eV (oK (aNG (α:=Raw) (S:=F0)) underlying32 rfl rfl) (bS rfl) rfl rfl ?_
 refine eV (aNB rfl rfl rfl) (bS rfl) rfl rfl ?_
 refine eV (aNB rfl rfl rfl) (bS rfl) rfl rfl ?_
 refine eV (DT rfl rfl) (bS rfl) rfl rfl ?_
 refine bD ?_
 intro a hA
 refine bO ?_
 refine cD hA ?_
 clear hA
 refine eV (nG rfl rfl) (bS rfl) rfl rfl ?_
 refine eV (aNE rfl rfl rfl) (bS rfl) rfl rfl ?_
 refine bD ?_
 intro a hA
 refine lF hA rfl (fun hc=>?_) (fun hc=>?_)
 ·have hn1:0 < n:=by
   have h2:decide (0 < aX (n - aX (0 - 0)))=true:=hc
   rw [hw] at h2;simpa using h2
  refine cD hA ?_
  clear hA
  refine eV (nG rfl rfl) (bS rfl) rfl rfl ?_
  refine eV (nG rfl rfl) (bS rfl) rfl rfl ?_
  refine eV (aHK underlying32 rfl rfl) (bS rfl) rfl rfl ?_
  refine eV (aPP (s:=.slice none 0 0) ⟨_,_,_,rfl⟩ underlying32 sizeOf172 rfl rfl rfl) (bS rfl) rfl rfl ?_
  refine eV (nG rfl rfl) (bS rfl) rfl rfl ?_
  refine LI (aX7 (i:=aX (n - aX (0 - 0))) hS underlying32 underlying3 eR rfl rfl (by rw [hw];omega) rfl rfl rfl) (bS rfl) rfl rfl ?_
  clear hS
  intro s w hS
  refine eV (nG rfl rfl) (bS rfl) rfl rfl ?_
  refine eV (oK (aNG (α:=Raw) (S:=F0)) underlying32 rfl rfl) (bS rfl) rfl rfl ?_
  refine eV (aPP (hS.aTX 0 rfl) underlying32 sizeOf172 rfl rfl rfl) (bS rfl) rfl rfl ?_
  refine eV (DT rfl rfl) (bS rfl) rfl rfl ?_
  refine bD ?_
  intro a hA
  replace hS:=hS.a1C (α:=Raw) 0 rfl rfl
  refine bO ?_
  refine cD hA ?_
  clear hA
  refine eV (nG rfl rfl) (bS rfl) rfl rfl ?_
  refine eV (DT rfl rfl) (bS rfl) rfl rfl ?_
  refine bD ?_
  intro a hA
  refine zR ?_
  exact aXW results280 hA (aBN rfl) ⟨_,rfl,(hS.MZ [0] rfl).weaken (R':=[]) (fun _ h=>nomatch h)⟩
 ·refine oJ ?_
  replace hS:=hS.a05 (α:=Raw)
  refine bO ?_
  refine cD hA ?_
  clear hA
  refine eV (nG rfl rfl) (bS rfl) rfl rfl ?_
  refine eV (DT rfl rfl) (bS rfl) rfl rfl ?_
  refine bD ?_
  intro a hA
  refine zR ?_
  exact aXW results280 hA (aBN rfl) ⟨_,rfl,(hS.MZ [0] rfl).weaken (R':=[]) (fun _ h=>nomatch h)⟩
theorem QO{w0:World}{slices:List (List Raw)}{s1:Value}{r:(List Raw)}(h1:aD.rd (MT w0) w0 [s1] (slices:List (List Raw)))(hF:oN slices=some r) :
    Calls prog 260 #[s1] w0 (Ret fun v w'=>∃(s0_0:Value),v=s0_0/\St (bZ w0) w' [aZ [s0_0] (r:List Raw)] []):=by
 have hS:St (bZ w0) w0 [] [zQ [s1] (slices:List (List Raw))]:=St.enter (by
   intro f hf
   simp only [gW,MR,or_false] at hf
   subst hf;exact h1)
 refine AO (args:=[_]) func260 rfl ntmps260 rfl ?_
 unfold oN at hF
 intro a hA
 refine bO<|cD hA ?_
 clear hA
 refine oa rfl rfl<|bD fun a hA=>bO<|cD hA ?_
 clear hA
 refine oa rfl rfl<|bD fun a hA=>bO<|bO<|cD hA ?_
 clear hA
 refine om rfl rfl<|oy (oK (hS.rd 0 rfl) underlying277 rfl rfl) rfl<|om rfl rfl<|bD fun a hA=>?_
 obtain⟨o1,hl1,hF⟩:=sV hF
 refine DU (J:=fun a' w'=>∃(x5:Int),o1=x5/\kW 36 [(0,s1),(3,.int .i64 (x5))] a'/\St (bZ w0) w' [] [zQ [s1] (slices:List (List Raw))]) ?_ ?_
 ·refine kX ?_
  refine KE (body:=fN slices) (r:=o1) (fun sg a' w'=>kW 36 [(0,s1),(3,.int .i64 (sg.1)),(9,s1),(10,.int .i64 ((slices.length:Int))),(11,.int .i64 (sg.2))] a'/\St (bZ w0) w' [] [zQ [s1] (slices:List (List Raw))]) ?_ hl1 ⟨hA.part ⟨rfl,rfl,rfl,rfl,rfl,trivial⟩,((hS).MZ [] rfl).vD [0] rfl⟩
  clear hA hS hl1
  rintro⟨x3,x4⟩ a w q1 ⟨hA,hS⟩ hG1 hr1
  try dsimp only at hA hS
  unfold fN at hG1
  refine bO<|cD hA ?_
  clear hA
  refine oy (FU rfl rfl rfl) rfl<|bD fun a hA=>bO<|lF hA rfl (fun hc2=>?_) (fun hc2=>?_)
  ·replace hG1:=MX hc2 hG1
   refine oJ<|bO<|kX<|bO<|cD hA ?_
   clear hA
   obtain⟨x12,hx12,hG1⟩:=sV hG1
   refine oy (Q3 (m:=1) (hS.rd 0 rfl) rfl hx12 underlying277 sizeOf32 rfl rfl rfl) rfl ?_
   obtain⟨s8,hel,hS⟩:=hS.aKR 0 rfl (jZ hx12).2.2
   refine oy (iT rfl rfl isAgg32 (aTC hel)) rfl<|oa rfl rfl<|bD fun a hA=>bO<|cD hA ?_
   clear hA
   refine om rfl rfl<|om rfl rfl<|oy (oK (hS.rd 1 rfl) underlying32 rfl rfl) rfl<|oy (LJ rfl rfl rfl) rfl<|oa rfl rfl<|bD fun a hA=>bO<|cD hA ?_
   clear hA
   refine om rfl rfl<|oy (FU rfl rfl rfl) rfl<|bD fun a hA=>lF hA rfl (fun hc3=>?_) (fun hc3=>?_)
   ·replace hG1:=MX hc3 hG1
    refine cD hA ?_
    clear hA
    cases hG1
   ·replace hG1:=MY hc3 hG1
    refine oJ<|cD hA ?_
    clear hA
    refine oy (LJ rfl rfl rfl) rfl<|om rfl rfl<|bD fun a hA=>?_
    cases hG1
    exact⟨_,rfl,⟨hA.part ⟨rfl,rfl,rfl,rfl,rfl,trivial⟩,((hS).MZ [] rfl).vD [0] rfl⟩⟩
  ·replace hG1:=MY hc2 hG1
   refine KD<|DS ?_
   cases hG1
   have ho:=hr1 _ rfl;subst ho
   exact⟨x3,rfl,hA.part ⟨rfl,rfl,trivial⟩,((hS).MZ [] rfl).vD [0] rfl⟩
 ·skip
  clear hA hS hl1
  rintro a w ⟨x5,heq,hA,hS⟩
  replace hF:lI slices x5=some r:=by rw [heq] at hF;exact hF
  clear heq
  unfold lI at hF
  refine bO<|cD hA ?_
  clear hA
  refine om rfl rfl ?_
  obtain⟨hn1,hF⟩:=iU hF
  refine ZC (KG call280 rfl rfl) (bS rfl) rfl rfl (NQ hn1) ?_
  rintro s2 w ⟨_,rfl,hk⟩
  replace hS:=hS.after hk;clear hk
  refine oa rfl rfl<|bD fun a hA=>bO<|bO<|cD hA ?_
  clear hA
  refine om rfl rfl<|oy (oK (hS.rd 0 rfl) underlying277 rfl rfl) rfl<|om rfl rfl<|bD fun a hA=>?_
  obtain⟨o2,hl2,hF⟩:=sV hF
  refine DU (J:=fun a' w'=>∃(x10:List Raw) (s5:Value),o2=x10/\kW 36 [(6,s5)] a'/\St (bZ w0) w' [aZ [s5] (x10:List Raw)] []) ?_ ?_
  ·refine kX ?_
   refine KE (body:=gQ slices) (r:=o2) (fun sg a' w'=>∃(s4:Value),kW 36 [(6,s4),(25,s1),(26,.int .i64 ((slices.length:Int))),(27,.int .i64 (sg.2))] a'/\St (bZ w0) w' [aZ [s4] (sg.1:List Raw)] [zQ [s1] (slices:List (List Raw))]) ?_ hl2 ⟨s2,hA.part ⟨rfl,rfl,rfl,rfl,trivial⟩,((hS).MZ [0] rfl).vD [0] rfl⟩
   clear hA hS hl2
   rintro⟨x8,x9⟩ a w q2 ⟨s4,hA,hS⟩ hG2 hr2
   try dsimp only at hA hS
   unfold gQ at hG2
   refine bO<|cD hA ?_
   clear hA
   refine oy (FU rfl rfl rfl) rfl<|bD fun a hA=>bO<|lF hA rfl (fun hc1=>?_) (fun hc1=>?_)
   ·replace hG2:=MX hc1 hG2
    refine oJ<|bO<|kX<|bO<|cD hA ?_
    clear hA
    obtain⟨x11,hx11,hG2⟩:=sV hG2
    refine oy (Q3 (m:=1) (hS.rd 0 rfl) rfl hx11 underlying277 sizeOf32 rfl rfl rfl) rfl ?_
    obtain⟨s6,hel,hS⟩:=hS.aKR 0 rfl (jZ hx11).2.2
    refine oy (iT rfl rfl isAgg32 (aTC hel)) rfl<|oa rfl rfl<|bD fun a hA=>cD hA ?_
    clear hA
    refine om rfl rfl<|om rfl rfl ?_
    obtain⟨hn2,hG2⟩:=iU hG2
    refine LI (aHI (α:=Raw) 0 hS rfl (hS.rd 1 rfl) rfl underlying32 eR rfl hn2 rfl rfl rfl) (bS rfl) rfl rfl ?_
    clear hS
    rintro s7 w hS
    refine oa rfl rfl<|bD fun a hA=>cD hA ?_
    clear hA
    refine oy (LJ rfl rfl rfl) rfl<|om rfl rfl<|bD fun a hA=>?_
    cases hG2
    exact⟨_,rfl,⟨s7,hA.part ⟨rfl,rfl,rfl,rfl,trivial⟩,((hS).MZ [0] rfl).vD [0] rfl⟩⟩
   ·replace hG2:=MY hc1 hG2
    refine KD<|DS ?_
    cases hG2
    have ho:=hr2 _ rfl;subst ho
    exact⟨x8,s4,rfl,hA.part ⟨rfl,trivial⟩,((hS).MZ [0] rfl).vD [] rfl⟩
  ·skip
   clear hA hS hl2
   rintro a w ⟨x10,s5,heq,hA,hS⟩
   replace hF:qG x10=some r:=by rw [heq] at hF;exact hF
   clear heq
   unfold qG at hF
   refine bO<|cD hA ?_
   clear hA
   refine om rfl rfl<|oa rfl rfl<|bD fun a hA=>zR ?_
   cases hF
   exact aXW results260 hA (aBN rfl) ⟨s5,rfl,(hS.MZ [0] rfl).weaken (R':=[]) (fun _ h=>nomatch h)⟩
theorem L8{w0:World}{n:Int}{low:Int}{high:Int}{r:Bool}(hF:bW n low high=some r) :
    Calls prog 46 #[.int .i64 (n),.int .i64 (low),.int .i64 (high)] w0 (Ret fun v w'=>v=.bool (r)/\St (bZ w0) w' [] []):=by
 have hS:St (bZ w0) w0 [] []:=St.enter (by
   intro f hf;cases hf)
 refine AO (args:=[_,_,_]) func46 rfl ntmps46 rfl ?_
 unfold bW at hF
 intro a hA
 refine bO<|cD hA ?_
 clear hA
 refine oa rfl rfl<|bD fun a hA=>bO<|DU (J:=fun a' w'=>∃(x1:Bool),o5 x1=some r/\kW 15 [(6,.bool (x1))] a'/\St (bZ w0) w' [] []) ?_ ?_
 ·skip
  refine cD hA ?_
  clear hA
  refine om rfl rfl<|om rfl rfl<|oy (aS5 rfl rfl rfl) rfl<|om rfl rfl<|IL (s:=10) rfl (fun hc1=>?_) (fun hc1=>?_)
  ·replace hF:=MX hc1 hF
   refine eV (nG rfl rfl) (b7 rfl rfl rfl (by rw [hc1];rfl)) rfl rfl ?_
   refine eV (nG rfl rfl) (b7 rfl rfl rfl (by rw [hc1];rfl)) rfl rfl ?_
   refine eV (aND rfl rfl rfl) (b7 rfl rfl rfl (by rw [hc1];rfl)) rfl rfl ?_
   refine oy (vC rfl rfl hc1 rfl) rfl<|oa rfl rfl<|bD fun a hA=>?_
   exact⟨decide (n<=high),hF,hA.part ⟨rfl,trivial⟩,((hS).MZ [] rfl).vD [] rfl⟩
  ·replace hF:=MY hc1 hF
   refine fH (b7 rfl rfl rfl (by rw [hc1];rfl)) rfl rfl ?_
   refine fH (b7 rfl rfl rfl (by rw [hc1];rfl)) rfl rfl ?_
   refine fH (b7 rfl rfl rfl (by rw [hc1];rfl)) rfl rfl ?_
   refine oy (AN rfl rfl hc1 rfl) rfl<|oa rfl rfl<|bD fun a hA=>?_
   exact⟨false,hF,hA.part ⟨rfl,trivial⟩,((hS).MZ [] rfl).vD [] rfl⟩
 ·skip
  clear hA hS hF
  rintro a w ⟨x1,hF,hA,hS⟩
  unfold o5 at hF
  refine zR ?_
  cases hF
  exact fy results46 hA rfl hS
theorem aGD{w0:World}{slot:Int}{r:Bool}(hF:lN slot=some r) :
    Calls prog 204 #[.int .i64 (slot)] w0 (Ret fun v w'=>v=.bool (r)/\St (bZ w0) w' [] []):=by
 have hS:St (bZ w0) w0 [] []:=St.enter (by
   intro f hf;cases hf)
 refine AO (args:=[_]) func204 rfl ntmps204 rfl ?_
 unfold lN at hF
 intro a hA
 refine bO<|cD hA ?_
 clear hA
 refine oa rfl rfl<|bD fun a hA=>bO<|cD hA ?_
 clear hA
 refine om rfl rfl ?_
 obtain⟨x1,hx1,hF⟩:=sV hF
 refine ZC (KG call46 rfl rfl) (bS rfl) rfl rfl (L8 (n:=slot) (low:=0) (high:=23) hx1) ?_
 rintro _ w ⟨rfl,hk⟩
 replace hS:=hS.after hk;clear hk
 refine oa rfl rfl<|bD fun a hA=>zR ?_
 cases hF
 exact fy results204 hA rfl hS
theorem aDQ{w0:World}{l:aA}{s1:Value}{s2:Value}{r:Bool}(h1:aD.rd (MT w0) w0 [s1] (l.Global:List aO))(h2:aD.rd (MT w0) w0 [s2] (l.Own:List aO))(hF:jU l=some r) :
    Calls prog 213 #[.agg #[s1,s2]] w0 (Ret fun v w'=>v=.bool (r)/\St (bZ w0) w' [] []):=by
 have hS:St (bZ w0) w0 [] [zQ [s1] (l.Global:List aO),zQ [s2] (l.Own:List aO)]:=St.enter (by
   intro f hf
   simp only [gW,MR,or_false] at hf
   rcases hf with rfl | rfl
   · exact h1
   · exact h2)
 refine AO (args:=[_]) func213 rfl ntmps213 rfl ?_
 unfold jU at hF
 intro a hA
 refine bO<|cD hA ?_
 clear hA
 refine LI (a01 (cs:=[s1,s2]) hS rfl rfl rfl) (bS rfl) rfl rfl ?_
 clear hS
 rintro _ w ⟨b1,rfl,hS⟩
 refine oa rfl rfl<|bD fun a hA=>bO<|bO<|DU (J:=fun a' w'=>∃(x1:Bool),rG l x1=some r/\kW 61 [(1,.pointer (some ⟨b1,0,none⟩)),(17,.bool (x1))] a'/\St (bZ w0) w' [DA b1 [s1,s2]] [zQ [s1] (l.Global:List aO),zQ [s2] (l.Own:List aO)]) ?_ ?_
 ·skip
  refine cD hA ?_
  clear hA
  refine oy (zS (m:=0) underlying34 rfl rfl sizeOf32 rfl rfl) rfl<|oy (iT rfl rfl isAgg32 (hS.cell 0 rfl rfl)) rfl<|oy (oK (hS.rd 0 rfl) underlying32 rfl rfl) rfl<|oy (aIL rfl rfl rfl) rfl<|om rfl rfl<|IL (s:=12) rfl (fun hc8=>?_) (fun hc8=>?_)
  ·replace hF:=MX hc8 hF
   refine fH (b7 rfl rfl rfl (by rw [hc8];rfl)) rfl rfl ?_
   refine fH (b7 rfl rfl rfl (by rw [hc8];rfl)) rfl rfl ?_
   refine fH (b7 rfl rfl rfl (by rw [hc8];rfl)) rfl rfl ?_
   refine fH (b7 rfl rfl rfl (by rw [hc8];rfl)) rfl rfl ?_
   refine oy (vC rfl rfl hc8 rfl) rfl<|bD fun a hA=>?_
   exact⟨true,hF,hA.part ⟨rfl,rfl,trivial⟩,((hS).MZ [0] rfl).vD [0,1] rfl⟩
  ·replace hF:=MY hc8 hF
   refine eV (zS (m:=0) underlying34 rfl rfl sizeOf32 rfl rfl) (b7 rfl rfl rfl (by rw [hc8];rfl)) rfl rfl ?_
   refine eV (iT rfl rfl isAgg32 (hS.cell 0 rfl rfl)) (b7 rfl rfl rfl (by rw [hc8];rfl)) rfl rfl ?_
   refine eV (oK (hS.rd 1 rfl) underlying32 rfl rfl) (b7 rfl rfl rfl (by rw [hc8];rfl)) rfl rfl ?_
   refine eV (aIL rfl rfl rfl) (b7 rfl rfl rfl (by rw [hc8];rfl)) rfl rfl ?_
   refine oy (AN rfl rfl hc8 rfl) rfl<|bD fun a hA=>?_
   exact⟨(l.Own.length:Int) != 9,hF,hA.part ⟨rfl,rfl,trivial⟩,((hS).MZ [0] rfl).vD [0,1] rfl⟩
 ·skip
  clear hA hS hF
  rintro a w ⟨x1,hF,hA,hS⟩
  unfold rG at hF
  refine lF hA rfl (fun hc1=>?_) (fun hc1=>?_)
  ·replace hF:=MX hc1 hF
   refine bO<|cD hA ?_
   clear hA
   refine oa rfl rfl<|bD fun a hA=>zR ?_
   cases hF
   exact fy results213 hA rfl hS
  ·replace hF:=MY hc1 hF
   refine oJ<|bO<|cD hA ?_
   clear hA
   refine oy (X3 (cells:=#[.bool (false),.bool (false),.bool (false),.bool (false),.bool (false),.bool (false),.bool (false),.bool (false),.bool (false),.bool (false),.bool (false),.bool (false),.bool (false),.bool (false),.bool (false),.bool (false),.bool (false),.bool (false),.bool (false),.bool (false),.bool (false),.bool (false),.bool (false),.bool (false)]) rfl zeroValue261 underlying261 sizeOf4 rfl rfl) rfl<|LI (MV (cs:=List.map (fun q:Bool=>Value.bool q) [false,false,false,false,false,false,false,false,false,false,false,false,false,false,false,false,false,false,false,false,false,false,false,false]) hS rfl zeroValue261 rfl) (bS rfl) rfl rfl ?_
   clear hS
   rintro _ w ⟨b2,rfl,hS⟩
   refine Q1 (UQ (vs:=[.bool (false),.bool (false),.bool (false),.bool (false),.bool (false),.bool (false),.bool (false),.bool (false),.bool (false),.bool (false),.bool (false),.bool (false),.bool (false),.bool (false),.bool (false),.bool (false),.bool (false),.bool (false),.bool (false),.bool (false),.bool (false),.bool (false),.bool (false),.bool (false)]) hS (i:=1) rfl rfl rfl rfl rfl sizeOf261 rfl rfl rfl) (bS rfl) rfl ?_
   clear hS
   intro w hS
   refine bD fun a hA=>bO<|bO<|cD hA ?_
   clear hA
   refine oy (zS (m:=0) underlying34 rfl rfl sizeOf32 rfl rfl) rfl<|oy (iT rfl rfl isAgg32 (hS.cell 0 rfl rfl)) rfl<|oy (zS (m:=0) underlying34 rfl rfl sizeOf32 rfl rfl) rfl<|oy (iT rfl rfl isAgg32 (hS.cell 0 rfl rfl)) rfl<|LI (aNL hS (hS.rd 1 rfl) (hS.rd 0 rfl) underlying277 aN4 rfl rfl rfl) (bS rfl) rfl rfl ?_
   clear hS
   rintro s3 w hS
   obtain⟨hn1,hF⟩:=iU hF
   replace hS:=hS.a3B 2 rfl
   obtain⟨u1,u2,hu1,hl1,hS⟩:=hS.aX8 rfl 2 1 0 rfl rfl rfl
   refine ZC (KG call260 rfl rfl) (bS rfl) rfl rfl (QO hu1 (NM hl1 hn1)) ?_
   rintro s4 w ⟨_,rfl,hk⟩
   replace hS:=hS.after hk;clear hk
   replace hS:=hS.a3B 3 rfl
   replace hS:=hS.a3G rfl 4 3 rfl rfl
   refine oy (oK (hS.rd 5 rfl) underlying32 rfl rfl) rfl<|om rfl rfl<|bD fun a hA=>?_
   obtain⟨o1,hl2,hF⟩:=sV hF
   refine DU (J:=fun a' w'=>o1=Out.brk ()/\kW 61 [] a'/\St (bZ w0) w' [] []) ?_ ?_
   ·refine kX ?_
    refine KE (body:=kL l) (r:=o1) (fun sg a' w'=>kW 61 [(1,.pointer (some ⟨b1,0,none⟩)),(3,.pointer (some ⟨b2,0,none⟩)),(24,s4),(25,.int .i64 (((l.Own++l.Global).length:Int))),(26,.int .i64 (sg.1))] a'/\St (bZ w0) w' [DA b1 [s1,s2],DA b2 (List.map (fun q:Bool=>Value.bool q) (sg.2:List Bool))] [zQ [s4] (l.Own++l.Global:List aO),zQ [s1] (l.Global:List aO),zQ [s2] (l.Own:List aO)]) ?_ hl2 ⟨hA.part ⟨rfl,rfl,rfl,rfl,rfl,trivial⟩,((hS).MZ [0,1] rfl).vD [5,0,1] rfl⟩
    clear hA hS hl2
    rintro⟨x4,x5⟩ a w q2 ⟨hA,hS⟩ hG2 hr2
    try dsimp only at hA hS
    unfold kL at hG2
    refine bO<|cD hA ?_
    clear hA
    refine oy (FU rfl rfl rfl) rfl<|bD fun a hA=>bO<|lF hA rfl (fun hc2=>?_) (fun hc2=>?_)
    ·replace hG2:=MX hc2 hG2
     refine oJ<|bO<|kX<|bO<|cD hA ?_
     clear hA
     refine om rfl rfl ?_
     obtain⟨x6,hx6,hG2⟩:=sV hG2
     refine oy (Q3 (m:=1) (hS.rd 0 rfl) rfl hx6 underlying32 sizeOf172 rfl rfl rfl) rfl ?_
     obtain⟨s5,hel,hS⟩:=hS.aVZ 0 rfl (jZ hx6).2.2
     refine oy (Q2 rfl rfl isAgg172 sizeOf172 rfl hel) rfl<|LI (MV (cs:=[(.slice none 0 0)]) hS rfl zeroValue172 rfl) (bS rfl) rfl rfl ?_
     clear hS
     rintro _ w ⟨b3,rfl,hS⟩
     refine oa rfl rfl<|Q1 (UQ (vs:=[s5]) hS (i:=2) rfl rfl rfl rfl rfl sizeOf172 rfl rfl (a06 (aCR (hS.rd 3 rfl)) rfl)) (bS rfl) rfl ?_
     clear hS
     intro w hS
     refine bD fun a hA=>bO<|bO<|DU (J:=fun a' w'=>∃(x7:Bool),kK x4 x5 x6 x7=some q2/\kW 61 [(1,.pointer (some ⟨b1,0,none⟩)),(3,.pointer (some ⟨b2,0,none⟩)),(5,.pointer (some ⟨b3,0,none⟩)),(24,s4),(25,.int .i64 (((l.Own++l.Global).length:Int))),(26,.int .i64 (x4)),(41,.bool (x7))] a'/\St (bZ w0) w' [DA b1 [s1,s2],DA b2 (List.map (fun q:Bool=>Value.bool q) (x5:List Bool)),DA b3 [s5]] [zQ [s4] (l.Own++l.Global:List aO),zQ [s1] (l.Global:List aO),zQ [s2] (l.Own:List aO),zQ [s5] (x6.aQ:List Int)]) ?_ ?_
     ·skip
      refine cD hA ?_
      clear hA
      refine om rfl rfl<|oy (zS (m:=0) underlying34 rfl rfl sizeOf32 rfl rfl) rfl<|oy (iT rfl rfl isAgg32 (hS.cell 0 rfl rfl)) rfl<|oy (oK (hS.rd 2 rfl) underlying32 rfl rfl) rfl<|oy (FU rfl rfl rfl) rfl<|om rfl rfl<|IL (s:=36) rfl (fun hc7=>?_) (fun hc7=>?_)
      ·replace hG2:=MX hc7 hG2
       refine eV (zS (m:=0) underlying172 rfl rfl sizeOf25 rfl rfl) (b7 rfl rfl rfl (by rw [hc7];rfl)) rfl rfl ?_
       refine eV (iT rfl rfl isAgg25 (hS.cell 2 rfl rfl)) (b7 rfl rfl rfl (by rw [hc7];rfl)) rfl rfl ?_
       refine eV (oK (hS.rd 3 rfl) underlying25 rfl rfl) (b7 rfl rfl rfl (by rw [hc7];rfl)) rfl rfl ?_
       refine eV (aNE rfl rfl rfl) (b7 rfl rfl rfl (by rw [hc7];rfl)) rfl rfl ?_
       refine oy (vC rfl rfl hc7 rfl) rfl<|bD fun a hA=>?_
       exact⟨decide (2 < (x6.aQ.length:Int)),hG2,hA.part ⟨rfl,rfl,rfl,rfl,rfl,rfl,rfl,trivial⟩,((hS).MZ [0,1,2] rfl).vD [0,1,2,3] rfl⟩
      ·replace hG2:=MY hc7 hG2
       refine fH (b7 rfl rfl rfl (by rw [hc7];rfl)) rfl rfl ?_
       refine fH (b7 rfl rfl rfl (by rw [hc7];rfl)) rfl rfl ?_
       refine fH (b7 rfl rfl rfl (by rw [hc7];rfl)) rfl rfl ?_
       refine fH (b7 rfl rfl rfl (by rw [hc7];rfl)) rfl rfl ?_
       refine oy (AN rfl rfl hc7 rfl) rfl<|bD fun a hA=>?_
       exact⟨false,hG2,hA.part ⟨rfl,rfl,rfl,rfl,rfl,rfl,rfl,trivial⟩,((hS).MZ [0,1,2] rfl).vD [0,1,2,3] rfl⟩
     ·skip
      clear hA hS hG2
      rintro a w ⟨x7,hG2,hA,hS⟩
      unfold kK at hG2
      refine lF hA rfl (fun hc3=>?_) (fun hc3=>?_)
      ·replace hG2:=MX hc3 hG2
       refine bO<|cD hA ?_
       clear hA
       refine oa rfl rfl<|bD fun a hA=>zR ?_
       cases hG2
       have ho:=hr2 _ rfl;subst ho
       replace hF:some false=some r:=hF
       cases hF
       exact fy results213 hA rfl hS
      ·replace hG2:=MY hc3 hG2
       refine oJ<|bO<|cD hA ?_
       clear hA
       refine oy (zS (m:=0) underlying172 rfl rfl sizeOf25 rfl rfl) rfl<|oy (iT rfl rfl isAgg25 (hS.cell 2 rfl rfl)) rfl<|oy (oK (hS.rd 3 rfl) underlying25 rfl rfl) rfl<|om rfl rfl<|bD fun a hA=>?_
       obtain⟨o2,hl3,hG2⟩:=sV hG2
       refine DU (J:=fun a' w'=>∃(x12:List Bool),o2=Out.brk x12/\kW 61 [(1,.pointer (some ⟨b1,0,none⟩)),(3,.pointer (some ⟨b2,0,none⟩)),(24,s4),(25,.int .i64 (((l.Own++l.Global).length:Int))),(26,.int .i64 (x4))] a'/\St (bZ w0) w' [DA b1 [s1,s2],DA b2 (List.map (fun q:Bool=>Value.bool q) (x12:List Bool))] [zQ [s4] (l.Own++l.Global:List aO),zQ [s1] (l.Global:List aO),zQ [s2] (l.Own:List aO)]) ?_ ?_
       ·refine kX ?_
        refine KE (body:=kJ x6) (r:=o2) (fun sg a' w'=>kW 61 [(1,.pointer (some ⟨b1,0,none⟩)),(3,.pointer (some ⟨b2,0,none⟩)),(24,s4),(25,.int .i64 (((l.Own++l.Global).length:Int))),(26,.int .i64 (x4)),(43,s5),(44,.int .i64 ((x6.aQ.length:Int))),(45,.int .i64 (sg.1))] a'/\St (bZ w0) w' [DA b1 [s1,s2],DA b2 (List.map (fun q:Bool=>Value.bool q) (sg.2:List Bool))] [zQ [s4] (l.Own++l.Global:List aO),zQ [s5] (x6.aQ:List Int),zQ [s1] (l.Global:List aO),zQ [s2] (l.Own:List aO)]) ?_ hl3 ⟨hA.part ⟨rfl,rfl,rfl,rfl,rfl,rfl,rfl,rfl,trivial⟩,((hS).MZ [0,1] rfl).vD [0,3,1,2] rfl⟩
        clear hA hS hl3
        rintro⟨x10,x11⟩ a w q4 ⟨hA,hS⟩ hG4 hr4
        try dsimp only at hA hS
        unfold kJ at hG4
        refine bO<|cD hA ?_
        clear hA
        refine oy (FU rfl rfl rfl) rfl<|bD fun a hA=>bO<|lF hA rfl (fun hc4=>?_) (fun hc4=>?_)
        ·replace hG4:=MX hc4 hG4
         refine oJ<|bO<|kX<|bO<|cD hA ?_
         clear hA
         obtain⟨x13,hx13,hG4⟩:=sV hG4
         refine oy (Q3 (m:=1) (hS.rd 1 rfl) rfl hx13 underlying25 sizeOf3 rfl rfl rfl) rfl<|oy (iT rfl rfl isAgg3 (aTC (a03 (hS.rd 1 rfl) (jZ hx13).2.2))) rfl<|oa rfl rfl<|bD fun a hA=>bO<|bO<|DU (J:=fun a' w'=>∃(x14:Bool),m5 x10 x11 x13 x14=some q4/\kW 61 [(1,.pointer (some ⟨b1,0,none⟩)),(3,.pointer (some ⟨b2,0,none⟩)),(7,.int .i64 (x13)),(24,s4),(25,.int .i64 (((l.Own++l.Global).length:Int))),(26,.int .i64 (x4)),(43,s5),(44,.int .i64 ((x6.aQ.length:Int))),(45,.int .i64 (x10)),(56,.bool (x14))] a'/\St (bZ w0) w' [DA b1 [s1,s2],DA b2 (List.map (fun q:Bool=>Value.bool q) (x11:List Bool))] [zQ [s4] (l.Own++l.Global:List aO),zQ [s5] (x6.aQ:List Int),zQ [s1] (l.Global:List aO),zQ [s2] (l.Own:List aO)]) ?_ ?_
         ·skip
          refine cD hA ?_
          clear hA
          refine om rfl rfl ?_
          obtain⟨x16,hx16,hG4⟩:=sV hG4
          refine ZC (KG call204 rfl rfl) (bS rfl) rfl rfl (aGD (slot:=x13) hx16) ?_
          rintro _ w ⟨rfl,hk⟩
          replace hS:=hS.after hk;clear hk
          refine oy (aCJ rfl rfl) rfl<|om rfl rfl<|IL (s:=52) rfl (fun hc6=>?_) (fun hc6=>?_)
          ·replace hG4:=MX hc6 hG4
           refine fH (b7 rfl rfl rfl (by rw [hc6];rfl)) rfl rfl ?_
           refine fH (b7 rfl rfl rfl (by rw [hc6];rfl)) rfl rfl ?_
           refine fH (b7 rfl rfl rfl (by rw [hc6];rfl)) rfl rfl ?_
           refine oy (vC rfl rfl hc6 rfl) rfl<|bD fun a hA=>?_
           exact⟨true,hG4,hA.part ⟨rfl,rfl,rfl,rfl,rfl,rfl,rfl,rfl,rfl,rfl,trivial⟩,((hS).MZ [0,1] rfl).vD [0,1,2,3] rfl⟩
          ·replace hG4:=MY hc6 hG4
           refine eV (nG rfl rfl) (b7 rfl rfl rfl (by rw [hc6];rfl)) rfl rfl ?_
           obtain⟨hn3,hG4⟩:=iU hG4
           refine eV (aBP underlying261 sizeOf4 hn3 rfl rfl rfl) (b7 rfl rfl rfl (by rw [hc6];rfl)) rfl rfl ?_
           obtain⟨x17,hx17,hG4⟩:=sV hG4
           refine eV (iT rfl rfl isAgg4 (hS.aPO 1 rfl hx17)) (b7 rfl rfl rfl (by rw [hc6];rfl)) rfl rfl ?_
           refine oy (AN rfl rfl hc6 rfl) rfl<|bD fun a hA=>?_
           exact⟨x17,hG4,hA.part ⟨rfl,rfl,rfl,rfl,rfl,rfl,rfl,rfl,rfl,rfl,trivial⟩,((hS).MZ [0,1] rfl).vD [0,1,2,3] rfl⟩
         ·skip
          clear hA hS hG4
          rintro a w ⟨x14,hG4,hA,hS⟩
          unfold m5 at hG4
          refine lF hA rfl (fun hc5=>?_) (fun hc5=>?_)
          ·replace hG4:=MX hc5 hG4
           refine bO<|cD hA ?_
           clear hA
           refine oa rfl rfl<|bD fun a hA=>zR ?_
           cases hG4
           have ho:=hr4 _ rfl;subst ho
           replace hG2:some (.stop (Out.ret false))=some q2:=hG2
           cases hG2
           have ho:=hr2 _ rfl;subst ho
           replace hF:some false=some r:=hF
           cases hF
           exact fy results213 hA rfl hS
          ·replace hG4:=MY hc5 hG4
           refine oJ<|cD hA ?_
           clear hA
           refine om rfl rfl ?_
           obtain⟨hn2,hG4⟩:=iU hG4
           refine oy (aBP underlying261 sizeOf4 hn2 rfl rfl rfl) rfl ?_
           obtain⟨x15,hx15,hG4⟩:=sV hG4
           refine Q1 (aTT (xd:=true) hS (m:=1) rfl hx15 sizeOf4 rfl rfl rfl rfl rfl rfl) (bS rfl) rfl ?_
           clear hS
           intro w hS
           refine bD fun a hA=>cD hA ?_
           clear hA
           refine oy (LJ rfl rfl rfl) rfl<|om rfl rfl<|bD fun a hA=>?_
           cases hG4
           exact⟨_,rfl,⟨hA.part ⟨rfl,rfl,rfl,rfl,rfl,rfl,rfl,rfl,trivial⟩,((hS).MZ [0,1] rfl).vD [0,1,2,3] rfl⟩⟩
        ·replace hG4:=MY hc4 hG4
         refine KD<|DS ?_
         cases hG4
         have ho:=hr4 _ rfl;subst ho
         exact⟨x11,rfl,hA.part ⟨rfl,rfl,rfl,rfl,rfl,trivial⟩,((hS).MZ [0,1] rfl).vD [0,2,3] rfl⟩
       ·skip
        clear hA hS hl3
        rintro a w ⟨x12,heq,hA,hS⟩
        replace hG2:yO x4 x12=some q2:=by rw [heq] at hG2;exact hG2
        clear heq
        unfold yO at hG2
        refine cD hA ?_
        clear hA
        refine oy (LJ rfl rfl rfl) rfl<|om rfl rfl<|bD fun a hA=>?_
        cases hG2
        exact⟨_,rfl,⟨hA.part ⟨rfl,rfl,rfl,rfl,rfl,trivial⟩,((hS).MZ [0,1] rfl).vD [0,1,2] rfl⟩⟩
    ·replace hG2:=MY hc2 hG2
     refine KD<|DS ?_
     cases hG2
     have ho:=hr2 _ rfl;subst ho
     exact⟨rfl,hA.part trivial,((hS).MZ [] rfl).vD [] rfl⟩
   ·skip
    clear hA hS hl2
    rintro a w ⟨heq,hA,hS⟩
    replace hF:FZ=some r:=by rw [heq] at hF;exact hF
    clear heq
    unfold FZ at hF
    refine bO<|cD hA ?_
    clear hA
    refine oa rfl rfl<|bD fun a hA=>zR ?_
    cases hF
    exact fy results213 hA rfl hS
theorem aAO{w0:World}{h:Int}{r:Bool}(hF:fQ h=some r) :
    Calls prog 110 #[.int .i64 (h)] w0 (Ret fun v w'=>v=.bool (r)/\St (bZ w0) w' [] []):=by
 have hS:St (bZ w0) w0 [] []:=St.enter (by
   intro f hf;cases hf)
 refine AO (args:=[_]) func110 rfl ntmps110 rfl ?_
 unfold fQ at hF
 intro a hA
 refine bO<|cD hA ?_
 clear hA
 refine oa rfl rfl<|bD fun a hA=>bO<|DU (J:=fun a' w'=>∃(x1:Bool),lU x1=some r/\kW 10 [(2,.bool (x1))] a'/\St (bZ w0) w' [] []) ?_ ?_
 ·skip
  refine cD hA ?_
  clear hA
  refine om rfl rfl ?_
  obtain⟨x2,hx2,hF⟩:=sV hF
  refine ZC (KG call46 rfl rfl) (bS rfl) rfl rfl (L8 (n:=h) (low:=32) (high:=223) hx2) ?_
  rintro _ w ⟨rfl,hk⟩
  replace hS:=hS.after hk;clear hk
  refine om rfl rfl<|IL (s:=5) rfl (fun hc1=>?_) (fun hc1=>?_)
  ·replace hF:=MX hc1 hF
   refine eV (nG rfl rfl) (b7 rfl rfl rfl (by rw [hc1];rfl)) rfl rfl ?_
   refine eV (X0 rfl rfl rfl (by decide)) (b7 rfl rfl rfl (by rw [hc1];rfl)) rfl rfl ?_
   refine eV (FU rfl rfl rfl) (b7 rfl rfl rfl (by rw [hc1];rfl)) rfl rfl ?_
   refine oy (vC rfl rfl hc1 rfl) rfl<|oa rfl rfl<|bD fun a hA=>?_
   exact⟨decide ((Int.tmod h 32) < 24),hF,hA.part ⟨rfl,trivial⟩,((hS).MZ [] rfl).vD [] rfl⟩
  ·replace hF:=MY hc1 hF
   refine fH (b7 rfl rfl rfl (by rw [hc1];rfl)) rfl rfl ?_
   refine fH (b7 rfl rfl rfl (by rw [hc1];rfl)) rfl rfl ?_
   refine fH (b7 rfl rfl rfl (by rw [hc1];rfl)) rfl rfl ?_
   refine oy (AN rfl rfl hc1 rfl) rfl<|oa rfl rfl<|bD fun a hA=>?_
   exact⟨false,hF,hA.part ⟨rfl,trivial⟩,((hS).MZ [] rfl).vD [] rfl⟩
 ·skip
  clear hA hS hF
  rintro a w ⟨x1,hF,hA,hS⟩
  unfold lU at hF
  refine zR ?_
  cases hF
  exact fy results110 hA rfl hS
theorem YN{w0:World}{l:List bB}{s1:Value}{r:Int}(h1:aD.rd (MT w0) w0 [s1] (l:List bB))(hF:tZ l=some r) :
    Calls prog 268 #[s1] w0 (Ret fun v w'=>v=.int .i64 (r)/\St (bZ w0) w' [] []):=by
 have hS:St (bZ w0) w0 [] [zQ [s1] (l:List bB)]:=St.enter (by
   intro f hf
   simp only [gW,MR,or_false] at hf
   subst hf;exact h1)
 refine AO (args:=[_]) func268 rfl ntmps268 rfl ?_
 unfold tZ at hF
 intro a hA
 refine bO<|cD hA ?_
 clear hA
 refine oa rfl rfl<|bD fun a hA=>bO<|cD hA ?_
 clear hA
 refine oa rfl rfl<|bD fun a hA=>bO<|bO<|cD hA ?_
 clear hA
 refine om rfl rfl<|oy (oK (hS.rd 0 rfl) underlying40 rfl rfl) rfl<|om rfl rfl<|bD fun a hA=>?_
 obtain⟨o1,hl1,hF⟩:=sV hF
 refine DU (J:=fun a' w'=>∃(x5:Int),o1=x5/\kW 19 [(3,.int .i64 (x5))] a'/\St (bZ w0) w' [] []) ?_ ?_
 ·refine kX ?_
  refine KE (body:=i4 l) (r:=o1) (fun sg a' w'=>kW 19 [(3,.int .i64 (sg.1)),(6,s1),(7,.int .i64 ((l.length:Int))),(8,.int .i64 (sg.2))] a'/\St (bZ w0) w' [] [zQ [s1] (l:List bB)]) ?_ hl1 ⟨hA.part ⟨rfl,rfl,rfl,rfl,trivial⟩,((hS).MZ [] rfl).vD [0] rfl⟩
  clear hA hS hl1
  rintro⟨x3,x4⟩ a w q1 ⟨hA,hS⟩ hG1 hr1
  try dsimp only at hA hS
  unfold i4 at hG1
  refine bO<|cD hA ?_
  clear hA
  refine oy (FU rfl rfl rfl) rfl<|bD fun a hA=>bO<|lF hA rfl (fun hc1=>?_) (fun hc1=>?_)
  ·replace hG1:=MX hc1 hG1
   refine oJ<|bO<|kX<|bO<|cD hA ?_
   clear hA
   obtain⟨x6,hx6,hG1⟩:=sV hG1
   refine oy (Q3 (m:=1) (hS.rd 0 rfl) rfl hx6 underlying40 sizeOf175 rfl rfl rfl) rfl ?_
   obtain⟨s2,hel,hS⟩:=hS.aLR 0 rfl (jZ hx6).2.2
   refine oy (Q2 rfl rfl isAgg175 sizeOf175 rfl hel) rfl<|LI (MV (cs:=[(.slice none 0 0)]) hS rfl zeroValue175 rfl) (bS rfl) rfl rfl ?_
   clear hS
   rintro _ w ⟨b1,rfl,hS⟩
   refine Q1 (UQ (vs:=[s2]) hS (i:=0) rfl rfl rfl rfl rfl sizeOf175 rfl rfl (a06 (aCR (hS.rd 1 rfl)) rfl)) (bS rfl) rfl ?_
   clear hS
   intro w hS
   refine bD fun a hA=>cD hA ?_
   clear hA
   refine om rfl rfl<|oy (zS (m:=0) underlying175 rfl rfl sizeOf110 rfl rfl) rfl<|oy (iT rfl rfl isAgg110 (hS.cell 0 rfl rfl)) rfl<|oy (oK (hS.rd 1 rfl) underlying110 rfl rfl) rfl<|oy (LJ rfl rfl rfl) rfl<|oa rfl rfl<|bD fun a hA=>cD hA ?_
   clear hA
   refine oy (LJ rfl rfl rfl) rfl<|om rfl rfl<|bD fun a hA=>?_
   cases hG1
   exact⟨_,rfl,⟨hA.part ⟨rfl,rfl,rfl,rfl,trivial⟩,((hS).MZ [] rfl).vD [0] rfl⟩⟩
  ·replace hG1:=MY hc1 hG1
   refine KD<|DS ?_
   cases hG1
   have ho:=hr1 _ rfl;subst ho
   exact⟨x3,rfl,hA.part ⟨rfl,trivial⟩,((hS).MZ [] rfl).vD [] rfl⟩
 ·skip
  clear hA hS hl1
  rintro a w ⟨x5,heq,hA,hS⟩
  replace hF:B7 x5=some r:=by rw [heq] at hF;exact hF
  clear heq
  unfold B7 at hF
  refine bO<|cD hA ?_
  clear hA
  refine om rfl rfl<|oa rfl rfl<|bD fun a hA=>zR ?_
  cases hF
  exact fy results268 hA rfl hS
theorem aDR{w0:World}{l:List bB}{s1:Value}{r:Bool}(h1:aD.rd (MT w0) w0 [s1] (l:List bB))(hF:nM l=some r) :
    Calls prog 239 #[s1] w0 (Ret fun v w'=>v=.bool (r)/\St (bZ w0) w' [] []):=by
 have hS:St (bZ w0) w0 [] [zQ [s1] (l:List bB)]:=St.enter (by
   intro f hf
   simp only [gW,MR,or_false] at hf
   subst hf;exact h1)
 refine AO (args:=[_]) func239 rfl ntmps239 rfl ?_
 unfold nM at hF
 intro a hA
 refine bO<|cD hA ?_
 clear hA
 refine oa rfl rfl<|bD fun a hA=>bO<|bO<|cD hA ?_
 clear hA
 refine om rfl rfl<|oy (oK (hS.rd 0 rfl) underlying40 rfl rfl) rfl<|oy (aIL rfl rfl rfl) rfl<|bD fun a hA=>lF hA rfl (fun hc1=>?_) (fun hc1=>?_)
 ·replace hF:=MX hc1 hF
  refine bO<|cD hA ?_
  clear hA
  refine oa rfl rfl<|bD fun a hA=>zR ?_
  cases hF
  exact fy results239 hA rfl hS
 ·replace hF:=MY hc1 hF
  refine oJ<|bO<|cD hA ?_
  clear hA
  refine oy (X3 (cells:=#[.bool (false),.bool (false),.bool (false),.bool (false),.bool (false),.bool (false),.bool (false),.bool (false),.bool (false),.bool (false),.bool (false),.bool (false),.bool (false),.bool (false),.bool (false),.bool (false),.bool (false),.bool (false),.bool (false),.bool (false),.bool (false),.bool (false),.bool (false),.bool (false)]) rfl zeroValue261 underlying261 sizeOf4 rfl rfl) rfl<|LI (MV (cs:=List.map (fun q:Bool=>Value.bool q) [false,false,false,false,false,false,false,false,false,false,false,false,false,false,false,false,false,false,false,false,false,false,false,false]) hS rfl zeroValue261 rfl) (bS rfl) rfl rfl ?_
  clear hS
  rintro _ w ⟨b1,rfl,hS⟩
  refine Q1 (UQ (vs:=[.bool (false),.bool (false),.bool (false),.bool (false),.bool (false),.bool (false),.bool (false),.bool (false),.bool (false),.bool (false),.bool (false),.bool (false),.bool (false),.bool (false),.bool (false),.bool (false),.bool (false),.bool (false),.bool (false),.bool (false),.bool (false),.bool (false),.bool (false),.bool (false)]) hS (i:=0) rfl rfl rfl rfl rfl sizeOf261 rfl rfl rfl) (bS rfl) rfl ?_
  clear hS
  intro w hS
  refine bD fun a hA=>bO<|bO<|cD hA ?_
  clear hA
  refine om rfl rfl<|oy (oK (hS.rd 0 rfl) underlying40 rfl rfl) rfl<|om rfl rfl<|bD fun a hA=>?_
  obtain⟨o1,hl1,hF⟩:=sV hF
  refine DU (J:=fun a' w'=>o1=Out.brk ()/\kW 51 [(0,s1)] a'/\St (bZ w0) w' [] [zQ [s1] (l:List bB)]) ?_ ?_
  ·refine kX ?_
   refine KE (body:=kO l) (r:=o1) (fun sg a' w'=>kW 51 [(0,s1),(3,.pointer (some ⟨b1,0,none⟩)),(12,s1),(13,.int .i64 ((l.length:Int))),(14,.int .i64 (sg.1))] a'/\St (bZ w0) w' [DA b1 (List.map (fun q:Bool=>Value.bool q) (sg.2:List Bool))] [zQ [s1] (l:List bB)]) ?_ hl1 ⟨hA.part ⟨rfl,rfl,rfl,rfl,rfl,trivial⟩,((hS).MZ [0] rfl).vD [0] rfl⟩
   clear hA hS hl1
   rintro⟨x3,x4⟩ a w q1 ⟨hA,hS⟩ hG1 hr1
   try dsimp only at hA hS
   unfold kO at hG1
   refine bO<|cD hA ?_
   clear hA
   refine oy (FU rfl rfl rfl) rfl<|bD fun a hA=>bO<|lF hA rfl (fun hc2=>?_) (fun hc2=>?_)
   ·replace hG1:=MX hc2 hG1
    refine oJ<|bO<|kX<|bO<|cD hA ?_
    clear hA
    obtain⟨x6,hx6,hG1⟩:=sV hG1
    refine oy (Q3 (m:=1) (hS.rd 0 rfl) rfl hx6 underlying40 sizeOf175 rfl rfl rfl) rfl ?_
    obtain⟨s2,hel,hS⟩:=hS.aLR 0 rfl (jZ hx6).2.2
    refine oy (Q2 rfl rfl isAgg175 sizeOf175 rfl hel) rfl<|LI (MV (cs:=[(.slice none 0 0)]) hS rfl zeroValue175 rfl) (bS rfl) rfl rfl ?_
    clear hS
    rintro _ w ⟨b2,rfl,hS⟩
    refine Q1 (UQ (vs:=[s2]) hS (i:=1) rfl rfl rfl rfl rfl sizeOf175 rfl rfl (a06 (aCR (hS.rd 1 rfl)) rfl)) (bS rfl) rfl ?_
    clear hS
    intro w hS
    refine bD fun a hA=>bO<|cD hA ?_
    clear hA
    refine oy (zS (m:=0) underlying175 rfl rfl sizeOf110 rfl rfl) rfl<|oy (iT rfl rfl isAgg110 (hS.cell 1 rfl rfl)) rfl<|oy (oK (hS.rd 1 rfl) underlying110 rfl rfl) rfl<|om rfl rfl<|bD fun a hA=>?_
    obtain⟨o2,hl2,hG1⟩:=sV hG1
    refine DU (J:=fun a' w'=>∃(x11:List Bool),o2=Out.brk x11/\kW 51 [(0,s1),(3,.pointer (some ⟨b1,0,none⟩)),(12,s1),(13,.int .i64 ((l.length:Int))),(14,.int .i64 (x3))] a'/\St (bZ w0) w' [DA b1 (List.map (fun q:Bool=>Value.bool q) (x11:List Bool))] [zQ [s1] (l:List bB)]) ?_ ?_
    ·refine kX ?_
     refine KE (body:=kN x6) (r:=o2) (fun sg a' w'=>kW 51 [(0,s1),(3,.pointer (some ⟨b1,0,none⟩)),(12,s1),(13,.int .i64 ((l.length:Int))),(14,.int .i64 (x3)),(19,s2),(20,.int .i64 ((x6.Rows.length:Int))),(21,.int .i64 (sg.1))] a'/\St (bZ w0) w' [DA b1 (List.map (fun q:Bool=>Value.bool q) (sg.2:List Bool))] [zQ [s1] (l:List bB),zQ [s2] (x6.Rows:List dE)]) ?_ hl2 ⟨hA.part ⟨rfl,rfl,rfl,rfl,rfl,rfl,rfl,rfl,trivial⟩,((hS).MZ [0] rfl).vD [0,1] rfl⟩
     clear hA hS hl2
     rintro⟨x9,x10⟩ a w q2 ⟨hA,hS⟩ hG2 hr2
     try dsimp only at hA hS
     unfold kN at hG2
     refine bO<|cD hA ?_
     clear hA
     refine oy (FU rfl rfl rfl) rfl<|bD fun a hA=>bO<|lF hA rfl (fun hc3=>?_) (fun hc3=>?_)
     ·replace hG2:=MX hc3 hG2
      refine oJ<|bO<|kX<|bO<|cD hA ?_
      clear hA
      obtain⟨x12,hx12,hG2⟩:=sV hG2
      refine oy (Q3 (m:=2) (hS.rd 1 rfl) rfl hx12 underlying110 sizeOf114 rfl rfl rfl) rfl<|oy (Q2 rfl rfl isAgg114 sizeOf114 rfl (aZA (hS.rd 1 rfl) (jZ hx12).2.2)) rfl<|LI (MV (cs:=[.int .i64 (0),.int .i64 (0)]) hS rfl zeroValue114 rfl) (bS rfl) rfl rfl ?_
      clear hS
      rintro _ w ⟨b3,rfl,hS⟩
      refine Q1 (UQ (vs:=[.int .i64 (x12.Handle),.int .i64 (x12.aM)]) hS (i:=1) rfl rfl rfl rfl rfl sizeOf114 rfl rfl rfl) (bS rfl) rfl ?_
      clear hS
      intro w hS
      refine bD fun a hA=>bO<|bO<|DU (J:=fun a' w'=>∃(x13:Bool),jC x9 x10 x12 x13=some q2/\kW 51 [(0,s1),(3,.pointer (some ⟨b1,0,none⟩)),(7,.pointer (some ⟨b3,0,none⟩)),(12,s1),(13,.int .i64 ((l.length:Int))),(14,.int .i64 (x3)),(19,s2),(20,.int .i64 ((x6.Rows.length:Int))),(21,.int .i64 (x9)),(41,.bool (x13))] a'/\St (bZ w0) w' [DA b1 (List.map (fun q:Bool=>Value.bool q) (x10:List Bool)),DA b3 [.int .i64 (x12.Handle),.int .i64 (x12.aM)]] [zQ [s1] (l:List bB),zQ [s2] (x6.Rows:List dE)]) ?_ ?_
      ·skip
       refine cD hA ?_
       clear hA
       refine oy (zS (m:=0) underlying114 rfl rfl sizeOf3 rfl rfl) rfl<|oy (iT rfl rfl isAgg3 (hS.cell 1 rfl rfl)) rfl ?_
       obtain⟨x15,hx15,hG2⟩:=sV hG2
       refine ZC (KG call110 rfl rfl) (bS rfl) rfl rfl (aAO (h:=x12.Handle) hx15) ?_
       rintro _ w ⟨rfl,hk⟩
       replace hS:=hS.after hk;clear hk
       refine oy (aCJ rfl rfl) rfl<|om rfl rfl<|IL (s:=29) rfl (fun hc5=>?_) (fun hc5=>?_)
       ·replace hG2:=MX hc5 hG2
        refine fH (b7 rfl rfl rfl (by rw [hc5];rfl)) rfl rfl ?_
        refine fH (b7 rfl rfl rfl (by rw [hc5];rfl)) rfl rfl ?_
        refine fH (b7 rfl rfl rfl (by rw [hc5];rfl)) rfl rfl ?_
        refine fH (b7 rfl rfl rfl (by rw [hc5];rfl)) rfl rfl ?_
        refine oy (vC rfl rfl hc5 rfl) rfl<|om rfl rfl<|fH (b7 rfl rfl rfl rfl) rfl rfl<|fH (b7 rfl rfl rfl rfl) rfl rfl<|fH (b7 rfl rfl rfl rfl) rfl rfl<|fH (b7 rfl rfl rfl rfl) rfl rfl<|fH (b7 rfl rfl rfl rfl) rfl rfl<|oy (vC rfl rfl rfl rfl) rfl<|bD fun a hA=>?_
        exact⟨true,hG2,hA.part ⟨rfl,rfl,rfl,rfl,rfl,rfl,rfl,rfl,rfl,rfl,trivial⟩,((hS).MZ [0,1] rfl).vD [0,1] rfl⟩
       ·replace hG2:=MY hc5 hG2
        refine eV (zS (m:=0) underlying114 rfl rfl sizeOf3 rfl rfl) (b7 rfl rfl rfl (by rw [hc5];rfl)) rfl rfl ?_
        refine eV (iT rfl rfl isAgg3 (hS.cell 1 rfl rfl)) (b7 rfl rfl rfl (by rw [hc5];rfl)) rfl rfl ?_
        obtain⟨x16,hx16,hG2⟩:=sV hG2
        refine ZC (KG call46 rfl rfl) (b7 rfl rfl rfl (by rw [hc5];rfl)) rfl rfl (L8 (n:=x12.aM) (low:=0) (high:=100000) hx16) ?_
        rintro _ w ⟨rfl,hk⟩
        replace hS:=hS.after hk;clear hk
        refine eV (aCJ rfl rfl) (b7 rfl rfl rfl (by rw [hc5];rfl)) rfl rfl ?_
        refine oy (AN rfl rfl hc5 rfl) rfl<|om rfl rfl<|IL (s:=35) rfl (fun hc6=>?_) (fun hc6=>?_)
        ·replace hG2:=MX hc6 hG2
         refine fH (b7 rfl rfl rfl (by rw [hc6];rfl)) rfl rfl ?_
         refine fH (b7 rfl rfl rfl (by rw [hc6];rfl)) rfl rfl ?_
         refine fH (b7 rfl rfl rfl (by rw [hc6];rfl)) rfl rfl ?_
         refine fH (b7 rfl rfl rfl (by rw [hc6];rfl)) rfl rfl ?_
         refine fH (b7 rfl rfl rfl (by rw [hc6];rfl)) rfl rfl ?_
         refine oy (vC rfl rfl hc6 rfl) rfl<|bD fun a hA=>?_
         exact⟨true,hG2,hA.part ⟨rfl,rfl,rfl,rfl,rfl,rfl,rfl,rfl,rfl,rfl,trivial⟩,((hS).MZ [0,1] rfl).vD [0,1] rfl⟩
        ·replace hG2:=MY hc6 hG2
         refine eV (zS (m:=0) underlying114 rfl rfl sizeOf3 rfl rfl) (b7 rfl rfl rfl (by rw [hc6];rfl)) rfl rfl ?_
         refine eV (iT rfl rfl isAgg3 (hS.cell 1 rfl rfl)) (b7 rfl rfl rfl (by rw [hc6];rfl)) rfl rfl ?_
         refine eV (X0 rfl rfl rfl (by decide)) (b7 rfl rfl rfl (by rw [hc6];rfl)) rfl rfl ?_
         obtain⟨hn2,hG2⟩:=iU hG2
         refine eV (aBP underlying261 sizeOf4 hn2 rfl rfl rfl) (b7 rfl rfl rfl (by rw [hc6];rfl)) rfl rfl ?_
         obtain⟨x17,hx17,hG2⟩:=sV hG2
         refine eV (iT rfl rfl isAgg4 (hS.aPO 0 rfl hx17)) (b7 rfl rfl rfl (by rw [hc6];rfl)) rfl rfl ?_
         refine oy (AN rfl rfl hc6 rfl) rfl<|bD fun a hA=>?_
         exact⟨x17,hG2,hA.part ⟨rfl,rfl,rfl,rfl,rfl,rfl,rfl,rfl,rfl,rfl,trivial⟩,((hS).MZ [0,1] rfl).vD [0,1] rfl⟩
      ·skip
       clear hA hS hG2
       rintro a w ⟨x13,hG2,hA,hS⟩
       unfold jC at hG2
       refine lF hA rfl (fun hc4=>?_) (fun hc4=>?_)
       ·replace hG2:=MX hc4 hG2
        refine bO<|cD hA ?_
        clear hA
        refine oa rfl rfl<|bD fun a hA=>zR ?_
        cases hG2
        have ho:=hr2 _ rfl;subst ho
        replace hG1:some (.stop (Out.ret false))=some q1:=hG1
        cases hG1
        have ho:=hr1 _ rfl;subst ho
        replace hF:some false=some r:=hF
        cases hF
        exact fy results239 hA rfl hS
       ·replace hG2:=MY hc4 hG2
        refine oJ<|cD hA ?_
        clear hA
        refine oy (zS (m:=0) underlying114 rfl rfl sizeOf3 rfl rfl) rfl<|oy (iT rfl rfl isAgg3 (hS.cell 1 rfl rfl)) rfl<|oy (X0 rfl rfl rfl (by decide)) rfl ?_
        obtain⟨hn1,hG2⟩:=iU hG2
        refine oy (aBP underlying261 sizeOf4 hn1 rfl rfl rfl) rfl ?_
        obtain⟨x14,hx14,hG2⟩:=sV hG2
        refine Q1 (aTT (xd:=true) hS (m:=0) rfl hx14 sizeOf4 rfl rfl rfl rfl rfl rfl) (bS rfl) rfl ?_
        clear hS
        intro w hS
        refine bD fun a hA=>cD hA ?_
        clear hA
        refine oy (LJ rfl rfl rfl) rfl<|om rfl rfl<|bD fun a hA=>?_
        cases hG2
        exact⟨_,rfl,⟨hA.part ⟨rfl,rfl,rfl,rfl,rfl,rfl,rfl,rfl,trivial⟩,((hS).MZ [0] rfl).vD [0,1] rfl⟩⟩
     ·replace hG2:=MY hc3 hG2
      refine KD<|DS ?_
      cases hG2
      have ho:=hr2 _ rfl;subst ho
      exact⟨x10,rfl,hA.part ⟨rfl,rfl,rfl,rfl,rfl,trivial⟩,((hS).MZ [0] rfl).vD [0] rfl⟩
    ·skip
     clear hA hS hl2
     rintro a w ⟨x11,heq,hA,hS⟩
     replace hG1:yU x3 x11=some q1:=by rw [heq] at hG1;exact hG1
     clear heq
     unfold yU at hG1
     refine cD hA ?_
     clear hA
     refine oy (LJ rfl rfl rfl) rfl<|om rfl rfl<|bD fun a hA=>?_
     cases hG1
     exact⟨_,rfl,⟨hA.part ⟨rfl,rfl,rfl,rfl,rfl,trivial⟩,((hS).MZ [0] rfl).vD [0] rfl⟩⟩
   ·replace hG1:=MY hc2 hG1
    refine KD<|DS ?_
    cases hG1
    have ho:=hr1 _ rfl;subst ho
    exact⟨rfl,hA.part ⟨rfl,trivial⟩,((hS).MZ [] rfl).vD [0] rfl⟩
  ·skip
   clear hA hS hl1
   rintro a w ⟨heq,hA,hS⟩
   replace hF:yT l=some r:=by rw [heq] at hF;exact hF
   clear heq
   unfold yT at hF
   refine bO<|cD hA ?_
   clear hA
   refine om rfl rfl ?_
   obtain⟨x5,hx5,hF⟩:=sV hF
   refine ZC (KG call268 rfl rfl) (bS rfl) rfl rfl (YN (l:=l) (hS.rd 0 rfl) hx5) ?_
   rintro _ w ⟨rfl,hk⟩
   replace hS:=hS.after hk;clear hk
   refine oy (aND rfl rfl rfl) rfl<|oa rfl rfl<|bD fun a hA=>zR ?_
   cases hF
   exact fy results239 hA rfl hS
noncomputable section
open Go.RowKit Go.Shelf Go.Lib Go.Gv
set_option maxRecDepth 100000
set_option maxHeartbeats 4000000
theorem aLX(b off n c i vb:Nat)(cs vs:List Value)(w:World)(hi:i < n)(hroom:n+1<=c)(hc63:c<=9223372036854775807)(hvb:vb≠b)(hcl:cs.length=n * 3)(hvl:vs.length=3)
  (hcs:aV w b off cs) (hsp:∀j,j < c * 3->(w.cell? ⟨b,off+j,none⟩).isSome=true) (hfz:∀j,j < c * 3->w.frozen? ⟨b,off+j,none⟩=false)
  (hvs:aV w vb 0 vs) (h1c:∀v∈cs,v.oneCell'=true) (h1v:∀v∈vs,v.oneCell'=true)
  (tA tB:TypeId) (kA kB:Nat) (hsa:w.shape? vb=some (tA,kA)) (hsb:w.shape? b=some (tB,kB)) (hkB:kB≠0) (hfa:w.frozen? ⟨vb,0,none⟩=false) (hfe:w.frozen? ⟨vb,kA,none⟩=false) :
  Calls prog 203 #[.slice (some ⟨b,off,none⟩) n c,.int .i64 i,.slice (some ⟨vb,0,none⟩) 1 1] w fun e w'=>
   e=.returned (.slice (some ⟨b,off,none⟩) (n+1) c)/\w'=(w.drew.setCells b (off+(i+1) * 3) (cs.drop (i * 3))).setCells b (off+i * 3) vs:=by
 have u0:=run_underlying underlying62
 have hz2:¬((i:Int)=(n:Int)):=by omega
 have hsz:(prog.info? 119).map (·.size)=some 3:=by kernel_rfl
 have hov:∀lb cb,(callFunc 242 #[.slice (some ⟨vb,0,none⟩) 1 1,.slice (some ⟨b,off+(i+1) * 3,none⟩) lb cb]).run prog w=.ok (.value (.bool false)) w:=fun lb cb=>by
  rw [run_callFunc_extern func242 (by kernel_rfl) (by kernel_rfl) (by kernel_rfl) (e:=Extern.SlicesOverlaps.overlaps #[62,62] #[4]) (by kernel_rfl),
   Lib.run_overlaps_apart w 62 4 119 underlying62 3 sizeOf119 ⟨vb,0,none⟩ ⟨b,off+(i+1) * 3,none⟩ 1 1 lb cb hvb tA tB kA kB hsa hsb hkB hfa hfe]
  rfl
 have hdl:(cs.drop (i * 3)).length=(n - i) * 3:=by rw [GV,hcl];omega
 have mixed:=aC
 have hw1:IntKind.i64.wrap ((i:Int)+1)=(i:Int)+1:=by rw [IntKind.wrap_i64];omega
 have hw2:IntKind.i64.wrap ((n:Int)+1)=(n:Int)+1:=by rw [IntKind.wrap_i64];omega
 have hb1:(0:Int)<=(i:Int)+1:=by omega
 have hin:i<=n:=by omega
 have htn:((i:Int)+1).toNat=i+1:=by omega
 have htm:((n:Int)+1).toNat=n+1:=by omega
 have hb2:¬(c=i+1):=by omega
 have hb3:(i:Int)<=(n:Int)+1:=by omega
 have hb4:¬(c=i):=by omega
 have hcp1:∀ty dc sc,(Builtin.copy_ #[62,62] ty #[.slice (some ⟨b,off+(i+1) * 3,none⟩) (n - i) dc,.slice (some ⟨b,off+i * 3,none⟩) (n+1 - i) sc]).run prog w.drew=.ok (goInt (n - i:Nat)) (w.drew.setCells b (off+(i+1) * 3) (cs.drop (i * 3))):=fun ty dc sc=>
  OC w.drew _ _ ty 119 3 b (off+(i+1) * 3) (n - i) dc ⟨b,off+i * 3,none⟩ (n+1 - i) sc (n - i) (cs.drop (i * 3)) underlying62 hsz (by simp only [Nat.min_def];split <;> omega) hdl
   (fun j v hj=>by rw [Addr.add_lit,E0];exact hcs (i * 3+j) v (by rwa [QY] at hj))
   (fun j hj=>by rw [E0];exact hsp _ (by omega)) (fun j hj=>by rw [E0];exact hfz _ (by omega)) (fun v hv=>h1c v (aCF hv))
 obtain⟨W1,hW1⟩:∃W1,W1=w.drew.setCells b (off+(i+1) * 3) (cs.drop (i * 3)):=⟨_,rfl⟩
 have hsp1:∀k,k < c * 3->(W1.cell? ⟨b,off+k,none⟩).isSome=true:=fun k hk=>by
  rw [hW1]
  exact isSome_setCells b _ _ _ (fun j hj=>by rw [E0];exact hsp _ (by omega)) _ (hsp k hk)
 have hcp2:∀(W:World),(∀x,W.cell? x=W1.cell? x)->(∀x,W.frozen? x=W1.frozen? x)->∀ty dc,(Builtin.copy_ #[62,62] ty #[.slice (some ⟨b,off+i * 3,none⟩) (n+1 - i) dc,.slice (some ⟨vb,0,none⟩) 1 1]).run prog W=.ok (goInt 1) (W.setCells b (off+i * 3) vs):=fun W hWc hWf ty dc=>
  OC W _ _ ty 119 3 b (off+i * 3) (n+1 - i) dc ⟨vb,0,none⟩ 1 1 1 vs underlying62 hsz (by simp only [Nat.min_def];split <;> omega) (by rw [hvl])
   (fun j v hj=>by
    rw [Addr.add_lit,hWc,hW1,World.cell?_setCells_out b _ _ _ _ (fun h _=>absurd h hvb)]
    exact hvs j v hj)
   (fun j hj=>by rw [hWc,E0];exact hsp1 _ (by omega)) (fun j hj=>by rw [hWf,hW1,World.frozen?_setCells,E0];exact hfz _ (by omega)) h1v
 rw [<-hW1] at hcp1
 go_enter func203,ntmps203
 go_wp2_with (simp only [hov])
 go_region_law_o (refine step_copy_runI rfl _ _ 62 62 rfl _ _ (by simp [Act.eval,Act.put]) (by simp [Act.eval,Act.put]) (hcp1 _ _ _) ?_)
 go_wp2_with (at_builtin;refine wpList_copy_runI _ rfl _ _ 62 62 rfl _ _ rfl rfl (hcp2 _ (fun _=>rfl) (fun _=>rfl) _ _) ?_)
 go_ret
 first | exact⟨rfl,rfl⟩ | exact⟨rfl,by rw [hW1]⟩
end
noncomputable section
open Go.RowKit Go.Shelf Go.Lib Go.Gv
set_option maxRecDepth 100000
set_option maxHeartbeats 4000000
theorem aN8(b off n c vb:Nat)(vs:List Value)(w:World)(hroom:n+1<=c)(hc63:c<=9223372036854775807)(hvl:vs.length=3)
  (hsp:∀j,j < c * 3->(w.cell? ⟨b,off+j,none⟩).isSome=true) (hfz:∀j,j < c * 3->w.frozen? ⟨b,off+j,none⟩=false) (hvs:aV w vb 0 vs) (h1v:∀v∈vs,v.oneCell'=true) :
  Calls prog 203 #[.slice (some ⟨b,off,none⟩) n c,.int .i64 n,.slice (some ⟨vb,0,none⟩) 1 1] w fun e w'=>
   e=.returned (.slice (some ⟨b,off,none⟩) (n+1) c)/\w'=w.setCells b (off+n * 3) vs:=by
 have u0:=run_underlying underlying62
 have mixed:=aC
 obtain⟨i0,hi0,hz0,hzs,hzb⟩:=uR
 have hsrc:Src prog i0.size 62 (.slice (some ⟨vb,0,none⟩) 1 1) 1 vs w:=by rw [hzs];exact Src.ofSlice w underlying62 ⟨vb,0,none⟩ 1 1 vs (by omega) (fun j u hj=>by rw [Addr.add_lit];exact hvs j u hj) h1v
 have hrun:=run_append_room_src w 62 62 62 119 i0 underlying62 hi0 b off n c (.slice (some ⟨vb,0,none⟩) 1 1) 1 vs hsrc hroom (by rw [hzs,hvl];exact fun j hj=>by rw [E0];exact hsp _ (by omega)) (by rw [hzs,hvl];exact fun j hj=>by rw [E0];exact hfz _ (by omega))
 rw [hzs] at hrun
 go_enter func203,ntmps203
 go_wp2_with (at_builtin;refine Lib.wpList_append_run _ rfl _ _ _ _ rfl _ _ rfl rfl _ _ hrun ?_)
 go_ret
 exact⟨rfl,rfl⟩
theorem aRX(base:Option Addr)(n c vb:Nat)(cs vs:List Value)(w:World)(hnc:n<=c)(hroom:c < n+1)(hbig:n+1<=1073741824)(hcl:cs.length=n * 3)(hvl:vs.length=3)(hnil:base=none->n=0)
  (hcs:∀a,base=some a->∀j v,cs[j]?=some v->w.cell? (a.add j)=some v) (hvs:aV w vb 0 vs) (h1v:∀v∈vs,v.oneCell'=true) :
  Calls prog 203 #[.slice base n c,.int .i64 n,.slice (some ⟨vb,0,none⟩) 1 1] w fun e w'=>
   e=.returned (.slice (some ⟨w.heap.size,0,none⟩) (n+1) (grownCap w (n+1) c 119)) /\
   w'=w.drew.alloc (.cells ((cs++vs).toArray++Builtin.zeroCells (.agg #[.int .i64 0,.bool false,.int .i64 0]:Value).cells (grownCap w (n+1) c 119 - (n+1))) 119):=by
 have u0:=run_underlying underlying62
 have mixed:=aC
 obtain⟨i0,hi0,hz0,hzs,hzb⟩:=uR
 have hsrc:Src prog i0.size 62 (.slice (some ⟨vb,0,none⟩) 1 1) 1 vs w:=by rw [hzs];exact Src.ofSlice w underlying62 ⟨vb,0,none⟩ 1 1 vs (by omega) (fun j u hj=>by rw [Addr.add_lit];exact hvs j u hj) h1v
 have hold:(Builtin.firstCells i0.size n (.slice base n c)).run prog w.drew=.ok cs.toArray w.drew:=by
  rw [hzs]
  cases base with
  | none =>
   have h0:=hnil rfl
   subst h0
   rw [List.length_eq_zero_iff.1 (by omega:cs.length=0)]
   exact run_firstCells_none w.drew 3 0 0 c
  | some a=>exact run_firstCells_some w.drew 3 n a n c cs hcl (fun j v hj=>hcs a rfl j v hj)
 have hfit:Builtin.nextslicecap (n+1) c * i0.bytes<=281474976710656:=growslice_fits hroom (sS (Nat.mul_le_mul hbig hzb) (by decide))
 have hrun:=run_append_grow_src w 62 62 62 119 i0 _ underlying62 hi0 hz0 base n c cs hold _ 1 vs hsrc hroom (by omega) hfit
 go_enter func203,ntmps203
 cases base with
 | none =>
  have h0:=hnil rfl
  subst h0
  go_wp2_with (at_builtin;refine Lib.wpList_append_run _ rfl _ _ _ _ rfl _ _ rfl rfl _ _ hrun ?_)
  go_ret
  exact⟨rfl,rfl⟩
 | some a =>
  obtain⟨ab,ao,asp⟩:=a
  go_wp2_with (at_builtin;refine Lib.wpList_append_run _ rfl _ _ _ _ rfl _ _ rfl rfl _ _ hrun ?_)
  all_goals (go_ret;exact⟨rfl,rfl⟩)
theorem aN9(b off n c i vb:Nat)(cs vs:List Value)(w:World)(hi:i < n)(hnc:n<=c)(hroom:c < n+1)(hbig:n+1<=1073741824)(hcl:cs.length=n * 3)(hvl:vs.length=3)
  (hcs:aV w b off cs) (hvs:aV w vb 0 vs) (h1c:∀v∈cs,v.oneCell'=true) (h1v:∀v∈vs,v.oneCell'=true) :
  Calls prog 203 #[.slice (some ⟨b,off,none⟩) n c,.int .i64 i,.slice (some ⟨vb,0,none⟩) 1 1] w fun e w'=>
   e=.returned (.slice (some ⟨w.heap.size,0,none⟩) (n+1) (grownCap w (n+1) c 119)) /\
   w'=(((w.alloc (.cells ((cs.take (i * 3)).toArray++Builtin.zeroCells (.agg #[.int .i64 0,.bool false,.int .i64 0]:Value).cells (n+1 - i)++Builtin.zeroCells (.agg #[.int .i64 0,.bool false,.int .i64 0]:Value).cells (grownCap w (n+1) c 119 - (n+1))) 119)).drew.setCells w.heap.size (i * 3) vs).drew).setCells w.heap.size ((i+1) * 3) (cs.drop (i * 3)):=by
 have u0:=run_underlying underlying62
 have u3:=run_underlying underlying3
 have mixed:=aC
 obtain⟨i0,hi0,hz0,hzs,hzb⟩:=uR
 have hz2:¬((i:Int)=(n:Int)):=by omega
 have hz3:(c:Int) < (n:Int)+1:=by omega
 have hsz:(prog.info? 119).map (·.size)=some 3:=by rw [hi0];simp [hzs]
 have hbw:b < w.heap.size:=block_lt_of_cell (hcs 0 _ (fT (by omega)))
 have hvw:vb < w.heap.size:=block_lt_of_cell (hvs 0 _ (fT (by omega)))
 have hkk:(n:Int)+1 - (i:Int)=((n+1 - i:Nat):Int):=by omega
 have hik:i+(n+1 - i)=n+1:=by omega
 have htl:(cs.take (i * 3)).length=i * 3:=by rw [AL];omega
 have hold:(Builtin.firstCells i0.size i (.slice (some ⟨b,off,none⟩) i c)).run prog w.drew=.ok (cs.take (i * 3)).toArray w.drew:=by
  rw [hzs]
  exact run_firstCells_some w.drew 3 i ⟨b,off,none⟩ i c (cs.take (i * 3)) htl (fun j v hj=>by
   rw [Addr.add_lit]
   rw [DK] at hj
   split at hj
   ·exact hcs j v hj
   ·cases hj)
 have hfit:Builtin.nextslicecap (n+1) c * i0.bytes<=281474976710656:=growslice_fits hroom (sS (Nat.mul_le_mul hbig hzb) (by decide))
 have hrz:∀ty,(Builtin.append_ #[62,3] ty #[.slice (some ⟨b,off,none⟩) i c,.int .i64 ((n:Int)+1 - (i:Int))]).run prog w =
   .ok (.slice (some ⟨w.heap.size,0,none⟩) (n+1) (grownCap w (n+1) c 119)) (w.drew.alloc (.cells ((cs.take (i * 3)).toArray++Builtin.zeroCells (.agg #[.int .i64 0,.bool false,.int .i64 0]:Value).cells (n+1 - i)++Builtin.zeroCells (.agg #[.int .i64 0,.bool false,.int .i64 0]:Value).cells (grownCap w (n+1) c 119 - (n+1))) 119)):=fun ty=>by
  have h:=Lib.run_append_grow_zeros w 62 3 ty 119 i0 _ .i64 .i64 underlying62 underlying3 hi0 hz0 (some ⟨b,off,none⟩) i c (cs.take (i * 3)) hold (n+1 - i) (by omega) (by omega) (by omega) (by omega) (sS (Nat.mul_le_mul (show n+1 - i<=1073741824 by omega) hzb) (by decide)) (by rw [hik];exact hfit)
  rw [hik] at h
  rw [hkk]
  exact h
 obtain⟨G,hG⟩:∃G,G=grownCap w (n+1) c 119:=⟨_,rfl⟩
 obtain⟨ROW,hROW⟩:∃ROW:Array Value,ROW=(cs.take (i * 3)).toArray++Builtin.zeroCells (.agg #[.int .i64 0,.bool false,.int .i64 0]:Value).cells (n+1 - i)++Builtin.zeroCells (.agg #[.int .i64 0,.bool false,.int .i64 0]:Value).cells (G - (n+1)):=⟨_,rfl⟩
 rw [<-hG] at hrz ⊢
 rw [<-hROW] at hrz ⊢
 have hRl:(n+1) * 3<=ROW.size:=by
  rw [hROW]
  simp only [Array.size_append,List.size_toArray,htl,size_zeroCells]
  have:(.agg #[.int .i64 0,.bool false,.int .i64 0]:Value).cells.size=3:=rfl
  rw [this]
  omega
 obtain⟨W1,hW1⟩:∃W1,W1=w.drew.alloc (.cells ROW 119):=⟨_,rfl⟩
 rw [<-hW1] at hrz
 have hN:∀j,j < (n+1) * 3->(W1.cell? ⟨w.heap.size,j,none⟩).isSome=true:=fun j hj=>by
  rw [hW1,World.cell?_alloc_at (w:=w.drew) ROW _ w.heap.size j rfl,Array.getElem?_eq_getElem (by omega)];rfl
 have hNf:∀j,W1.frozen? ⟨w.heap.size,j,none⟩=false:=fun j=>by rw [hW1];exact World.frozen?_alloc_at (w:=w.drew) ROW _ w.heap.size j rfl
 have hOb:∀j v,w.cell? ⟨b,j,none⟩=some v->W1.cell? ⟨b,j,none⟩=some v:=fun j v h=>by rw [hW1,World.cell?_alloc_past (w:=w.drew) _ b j hbw];exact h
 have hOv:∀j v,w.cell? ⟨vb,j,none⟩=some v->W1.cell? ⟨vb,j,none⟩=some v:=fun j v h=>by rw [hW1,World.cell?_alloc_past (w:=w.drew) _ vb j hvw];exact h
 have hcpA:∀(W:World),(∀x,W.cell? x=W1.cell? x)->(∀x,W.frozen? x=W1.frozen? x)->∀ty dc,(Builtin.copy_ #[62,62] ty #[.slice (some ⟨w.heap.size,i * 3,none⟩) (n+1 - i) dc,.slice (some ⟨vb,0,none⟩) 1 1]).run prog W=.ok (goInt 1) (W.setCells w.heap.size (i * 3) vs):=fun W hWc hWf ty dc=>
  OC W _ _ ty 119 3 w.heap.size (i * 3) (n+1 - i) dc ⟨vb,0,none⟩ 1 1 1 vs underlying62 hsz (by simp only [Nat.min_def];split <;> omega) (by rw [hvl])
   (fun j v hj=>by rw [Addr.add_lit,hWc];exact hOv _ v (hvs j v hj))
   (fun j hj=>by rw [hWc];exact hN _ (by omega)) (fun j hj=>by rw [hWf];exact hNf _) h1v
 have hGn:n+1<=G:=by rw [hG];exact grownCap_ge w _ _ _
 have hG63:G<=9223372036854775807:=by
  have:=grownCap_le_maxLen w (n+1) c 119 (by unfold maxLen;omega)
  rw [<-hG] at this
  unfold maxLen at this
  omega
 have hGi:¬(G=i):=by omega
 have hGim:¬(G=i+1):=by omega
 have hci:¬(c=i):=by omega
 have hbN:b≠w.heap.size:=by omega
 have hdl:(cs.drop (i * 3)).length=(n - i) * 3:=by rw [GV,hcl];omega
 have hcpB:∀(W:World),(∀x,W.cell? x=(W1.setCells w.heap.size (i * 3) vs).cell? x)->(∀x,W.frozen? x=(W1.setCells w.heap.size (i * 3) vs).frozen? x)->∀ty dc sc,(Builtin.copy_ #[62,62] ty #[.slice (some ⟨w.heap.size,(i+1) * 3,none⟩) (n - i) dc,.slice (some ⟨b,off+i * 3,none⟩) (n - i) sc]).run prog W=.ok (goInt (n - i:Nat)) (W.setCells w.heap.size ((i+1) * 3) (cs.drop (i * 3))):=fun W hWc hWf ty dc sc=>
  OC W _ _ ty 119 3 w.heap.size ((i+1) * 3) (n - i) dc ⟨b,off+i * 3,none⟩ (n - i) sc (n - i) (cs.drop (i * 3)) underlying62 hsz (by simp only [Nat.min_def];split <;> omega) hdl
   (fun j v hj=>by
    rw [Addr.add_lit,hWc,World.cell?_setCells_out _ _ _ _ _ (fun h _=>absurd h hbN),E0]
    exact hOb _ v (hcs (i * 3+j) v (by rwa [QY] at hj)))
   (fun j hj=>by rw [hWc];exact isSome_setCells _ _ _ _ (fun t ht=>hN _ (by omega)) _ (hN _ (by omega)))
   (fun j hj=>by rw [hWf,World.frozen?_setCells];exact hNf _) (fun v hv=>h1c v (aCF hv))
 subst hW1
 have hE1:∀x,((w.alloc (.cells ROW 119)).drew).cell? x=(w.drew.alloc (.cells ROW 119)).cell? x:=fun x=>rfl
 have hE2:∀x,((w.alloc (.cells ROW 119)).drew).frozen? x=(w.drew.alloc (.cells ROW 119)).frozen? x:=fun x=>rfl
 have hF1:∀x,(((w.alloc (.cells ROW 119)).drew.setCells w.heap.size (i * 3) vs).drew).cell? x=((w.drew.alloc (.cells ROW 119)).setCells w.heap.size (i * 3) vs).cell? x:=fun x=>rfl
 have hF2:∀x,(((w.alloc (.cells ROW 119)).drew.setCells w.heap.size (i * 3) vs).drew).frozen? x=((w.drew.alloc (.cells ROW 119)).setCells w.heap.size (i * 3) vs).frozen? x:=fun x=>rfl
 have hw1:IntKind.i64.wrap ((i:Int)+1)=(i:Int)+1:=by rw [IntKind.wrap_i64];omega
 have hw2:IntKind.i64.wrap ((n:Int)+1)=(n:Int)+1:=by rw [IntKind.wrap_i64];omega
 have hw3:IntKind.i64.wrap ((n:Int)+1 - (i:Int))=(n:Int)+1 - (i:Int):=by rw [IntKind.wrap_i64];omega
 have hb1:(0:Int)<=(i:Int)+1:=by omega
 have hin:i<=n:=by omega
 have htn:((i:Int)+1).toNat=i+1:=by omega
 have hb3:(i:Int)<=(n:Int):=by omega
 clear hkk hik hold hROW hG hRl htl
 go_enter func203,ntmps203
 go_wp2_with (first
  | (at_builtin;refine Lib.wpList_append_run _ rfl _ _ _ _ rfl _ _ rfl rfl _ _ (hrz _) ?_)
  | (at_builtin;refine wpList_copy_runI _ rfl _ _ 62 62 rfl _ _ rfl rfl (hcpA _ hE1 hE2 _ _) ?_)
  | (at_builtin;refine wpList_copy_runI _ rfl _ _ 62 62 rfl _ _ rfl rfl (hcpB _ (fun _=>rfl) (fun _=>rfl) _ _ _) ?_))
 go_region_law_o (refine step_copy_runI rfl _ _ 62 62 rfl (.slice (some ⟨w.heap.size,(i+1) * 3,none⟩) (n - i) (G - (i+1))) (.slice (some ⟨b,off+i * 3,none⟩) (n - i) (c - i)) (by simp [Act.eval,Act.put]) (by simp [Act.eval,Act.put]) (hcpB _ hF1 hF2 3 (G - (i+1)) (c - i)) ?_)
 go_wp2
 go_ret
 exact⟨rfl,rfl⟩
end
end Go.Proofs.YtejjbceagmbdhaaGreat
end
