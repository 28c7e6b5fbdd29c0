import Derived.Test.YtkinioiglogchaaGreatXUB
import Derived.Test.YtkinioiglogchaaGreatProg
set_option linter.unusedVariables false
set_option linter.unusedSimpArgs false
set_option linter.unusedSectionVars false
set_option linter.constructorNameAsVariable false
set_option linter.unnecessarySimpa false
noncomputable section
namespace Go.Gv
section
def aKV(code:List UInt8):Option Bool:=
 some (decide (1048576<(code.length:Int)))
def aOG(x5:Int):Option (Int×Int):=
 some (0,x5)
def IL(code:List UInt8)(x3 x4:Int)(x6:Bool):Option (Step (Int×Int) Int):=
 (if x6 then(idx code x4).bind λx7=>some (.next (iF .and .i64 (bE ((bE ((bE (x3*131))+(x7.toNat:Int)))+7)) 1073741823,bE (x4+1))) else some (.stop (x3)))
def aAE(code:List UInt8):(Int×Int)->Option (Step (Int×Int) Int)
 |(x3,x4)=>(if decide (x4<(code.length:Int)) then IL code x3 x4 (decide (x4<4000)) else IL code x3 x4 false)
def aOH:Int->Option (Int×Int)
 |x5=>aOG x5
def TP(code:List UInt8):Option (Int×Int):=
 (loop (aAE code) (bE (10101+(code.length:Int)),0)).bind (aOH)
def EI(c:dK)(x1 x2:Int):Option (Int×(Int×Int)):=
 some (x1,(x2,bE ((bE (c.h*6364136223846793005))+1442695040888963407)))
def sJ(c:dK):Option (Int×(Int×Int)):=
 (if decide (c.i<(c.b.length:Int)) then(idx c.b c.i).bind λx3=>EI c (iF .and .i64 (bE ((iF .and .i64 (iF .xor .i64 (oX .i64 (bE ((bE (c.h*6364136223846793005))+1442695040888963407)) 33) (oX .i64 (bE ((bE (c.h*6364136223846793005))+1442695040888963407)) 45)) 255)+(x3.toNat:Int))) 255) (bE (c.i+1)) else EI c (iF .and .i64 (iF .xor .i64 (oX .i64 (bE ((bE (c.h*6364136223846793005))+1442695040888963407)) 33) (oX .i64 (bE ((bE (c.h*6364136223846793005))+1442695040888963407)) 45)) 255) c.i)
def fY(c:dK)(n:Int):Option (Int×(Int×Int)):=
 (if decide (n<=0) then some (0,(c.i,c.h)) else(if decide (n<=256) then(sJ c).bind λx1=>need (n≠0) (some (Int.tmod x1.1 n,(x1.2.1,x1.2.2))) else(sJ c).bind λx2=>(sJ (⟨c.b,x2.2.1,x2.2.2⟩:dK)).bind λx3=>(sJ (⟨c.b,x3.2.1,x3.2.2⟩:dK)).bind λx4=>(sJ (⟨c.b,x4.2.1,x4.2.2⟩:dK)).bind λx5=>need (n≠0) (some (Int.tmod (bE ((bE ((bE ((bE (x2.1*16777216))+(bE (x3.1*65536))))+(bE (x4.1*256))))+x5.1)) n,(x5.2.1,x5.2.2)))))
def W9(c:dK)(n:Int):Option (Bool×(Int×Int)):=
 (fY c n).bind λx1=>some (x1.1 == 0,(x1.2.1,x1.2.2))
def nC(c:dK)(list:List Int):Option (Int×(Int×Int)):=
 (fY c (list.length:Int)).bind λx1=>(idx list x1.1).bind λx2=>some (x2,(x1.2.1,x1.2.2))
def EJ(x1 x2:Int×(Int×Int))(x3 x4 x5:Int):Option (iB×(Int×Int)):=
 some ((⟨x1.1,x2.1,x5⟩:iB),(x3,x4))
def EK(c:dK)(x1 x2:Int×(Int×Int))(x6:Bool):Option (iB×(Int×Int)):=
 (if x6 then(fY (⟨c.b,x2.2.1,x2.2.2⟩:dK) 60000).bind λx7=>(nC (⟨c.b,x7.2.1,x7.2.2⟩:dK) ([1,65535,x7.1]:List Int)).bind λx8=>EJ x1 x2 x8.2.1 x8.2.2 x8.1 else EJ x1 x2 x2.2.1 x2.2.2 0)
def JQ(c:dK):Option (iB×(Int×Int)):=
 (nC c ([1,1,2,2,3,4,4]:List Int)).bind λx1=>(fY (⟨c.b,x1.2.1,x1.2.2⟩:dK) 6).bind λx2=>(if x1.1 == 2 then EK c x1 x2 true else EK c x1 x2 (x1.1 == 4))
def aGY(x11 x12:Int)(x13:List iB):Option (Batch×(Int×Int)):=
 some ((⟨false,x13⟩:Batch),(x11,x12))
def KN(x7 x14 x15:Int)(x16:List iB):Option (Step (Int×Int×Int×(List iB)) (Int×Int×(List iB))):=
 some (.next (bE (x7-1),x14,x15,x16))
def VC(c:dK):(Int×Int×Int×(List iB))->Option (Step (Int×Int×Int×(List iB)) (Int×Int×(List iB)))
 |(x7,x8,x9,x10)=>(if decide (0<x7) then(JQ (⟨c.b,x8,x9⟩:dK)).bind λx17=>need (x10.length+([x17.1]).length<=1073741824)<|KN x7 x17.2.1 x17.2.2 (x10++([x17.1])) else some (.stop ((x8,x9,x10))))
def aGZ:(Int×Int×(List iB))->Option (Batch×(Int×Int))
 |(x11,x12,x13)=>aGY x11 x12 x13
def LP(c:dK):Option (Batch×(Int×Int)):=
 (W9 c 4).bind λx1=>(if x1.1 then some ((⟨true,[]⟩:Batch),(x1.2.1,x1.2.2)) else(fY (⟨c.b,x1.2.1,x1.2.2⟩:dK) 3).bind λx2=>(loop (VC c) (bE (1+x2.1),x2.2.1,x2.2.2,[])).bind (aGZ))
def aCS(x9:List aO)(x10 x11:Int):Option ((List aO)×(Int×Int)):=
 some (x9,(x10,x11))
def O2(x5:List aO)(x6 x21 x22:Int)(x23:List Batch):Option (Step ((List aO)×Int×Int×Int) ((List aO)×Int×Int)):=
 need (x5.length+([(⟨x23⟩:aO)]).length<=1073741824) (some (.next (x5++([(⟨x23⟩:aO)]),bE (x6+1),x21,x22)))
def EL(x17 x24 x25:Int)(x26:List Batch):Option (Step (Int×Int×Int×(List Batch)) (Int×Int×(List Batch))):=
 some (.next (bE (x17-1),x24,x25,x26))
def O3(c:dK):(Int×Int×Int×(List Batch))->Option (Step (Int×Int×Int×(List Batch)) (Int×Int×(List Batch)))
 |(x17,x18,x19,x20)=>(if decide (0<x17) then(LP (⟨c.b,x18,x19⟩:dK)).bind λx27=>need (x20.length+([x27.1]).length<=1073741824)<|EL x17 x27.2.1 x27.2.2 (x20++([x27.1])) else some (.stop ((x18,x19,x20))))
def O4(x5:List aO)(x6:Int):(Int×Int×(List Batch))->Option (Step ((List aO)×Int×Int×Int) ((List aO)×Int×Int))
 |(x21,x22,x23)=>O2 x5 x6 x21 x22 x23
def O5(c:dK)(most:Int):((List aO)×Int×Int×Int)->Option (Step ((List aO)×Int×Int×Int) ((List aO)×Int×Int))
 |(x5,x6,x7,x8)=>(if decide (x6<3) then(fY (⟨c.b,x7,x8⟩:dK) (bE (most+1))).bind λx12=>(loop (O3 c) (x12.1,x12.2.1,x12.2.2,[])).bind (O4 x5 x6) else some (.stop ((x5,x7,x8))))
def aCT:((List aO)×Int×Int)->Option ((List aO)×(Int×Int))
 |(x9,x10,x11)=>aCS x9 x10 x11
def wY(c:dK)(most:Int):Option ((List aO)×(Int×Int)):=
 (loop (O5 c most) (([]:List aO),0,c.i,c.h)).bind (aCT)
def aE5(x10:List Int)(x11 x12:Int):Option ((List Int)×(Int×Int)):=
 some (x10,(x11,x12))
def R1(x7:Int)(x14:Int×(Int×Int))(x19:List Int):Option (Step ((List Int)×Int×Int×Int) ((List Int)×Int×Int)):=
 some (.next (x19,bE (x7-1),x14.2.1,x14.2.2))
def R3(x13:Int×(Int×Int)):((List Int)×Int)->Option (Step ((List Int)×Int) (List Int))
 |(x17,x18)=>(if decide (0<x18) then need (x17.length+([x13.1]).length<=1073741824) (some (.next (x17++([x13.1]),bE (x18-1)))) else some (.stop (x17)))
def R4(x7:Int)(x14:Int×(Int×Int)):(List Int)->Option (Step ((List Int)×Int×Int×Int) ((List Int)×Int×Int))
 |x19=>R1 x7 x14 x19
def R5(c:dK):((List Int)×Int×Int×Int)->Option (Step ((List Int)×Int×Int×Int) ((List Int)×Int×Int))
 |(x6,x7,x8,x9)=>(if decide (0<x7) then(fY (⟨c.b,x8,x9⟩:dK) 3).bind λx13=>(fY (⟨c.b,x13.2.1,x13.2.2⟩:dK) 8).bind λx14=>(loop (R3 x13) (x6,bE (1+x14.1))).bind (R4 x7 x14) else some (.stop ((x6,x8,x9))))
def aE6:((List Int)×Int×Int)->Option ((List Int)×(Int×Int))
 |(x10,x11,x12)=>aE5 x10 x11 x12
def IM(c:dK)(most:Int):Option ((List Int)×(Int×Int)):=
 (fY c most).bind λx1=>(loop (R5 c) (([]:List Int),x1.1,x1.2.1,x1.2.2)).bind (aE6)
def qZ(x2 x3 x4 x5 x6:Int):Option (iB×(Int×Int)):=
 some ((⟨x4,x5,x6⟩:iB),(x2,x3))
def O6(c:dK):Option (iB×(Int×Int)):=
 (JQ c).bind λx1=>(fY (⟨c.b,x1.2.1,x1.2.2⟩:dK) 14).bind λx7=>(if x7.1 == 0 then(nC (⟨c.b,x7.2.1,x7.2.2⟩:dK) ([0,5]:List Int)).bind λx8=>qZ x8.2.1 x8.2.2 x8.1 x1.1.Key x1.1.dM else(if x7.1 == 1 then(nC (⟨c.b,x7.2.1,x7.2.2⟩:dK) ([(-1),99,100]:List Int)).bind λx9=>qZ x9.2.1 x9.2.2 x1.1.Kind x9.1 x1.1.dM else(if x7.1 == 2 then(nC (⟨c.b,x7.2.1,x7.2.2⟩:dK) ([(-1),65536,1,0]:List Int)).bind λx10=>qZ x10.2.1 x10.2.2 x1.1.Kind x1.1.Key x10.1 else qZ x7.2.1 x7.2.2 x1.1.Kind x1.1.Key x1.1.dM)))
def kY(x2:List aO)(x3 x4:Int):Option ((List aO)×(Int×Int)):=
 some (x2,(x3,x4))
def M3(x13:List aO)(x14 x15:Int):Option ((List aO)×(Int×Int)):=
 kY x13 x14 x15
def C0(x10:List aO)(x16:Bool)(x17 x18:Int):Option (Step ((List aO)×Int×Int) ((List aO)×Int×Int)):=
 (if x16 then(idx x10 1).bind λx19=>need (x19.List.length+([(⟨true,[]⟩:Batch)]).length<=1073741824) (some (.next (x10.set ((1:Int).toNat) (⟨x19.List++([(⟨true,[]⟩:Batch)])⟩:aO),x17,x18))) else some (.stop ((x10,x17,x18))))
def M4(c:dK):((List aO)×Int×Int)->Option (Step ((List aO)×Int×Int) ((List aO)×Int×Int))
 |(x10,x11,x12)=>(idx x10 1).bind λx20=>(fY (⟨c.b,x11,x12⟩:dK) 2).bind λx21=>C0 x10 (decide ((x20.List.length:Int)<(bE (12+x21.1)))) x21.2.1 x21.2.2
def aA7:((List aO)×Int×Int)->Option ((List aO)×(Int×Int))
 |(x13,x14,x15)=>M3 x13 x14 x15
def C1(x22:List aO)(x23 x24:Int):Option ((List aO)×(Int×Int)):=
 kY x22 x23 x24
def BU(c:dK):Option ((List aO)×(Int×Int)):=
 (wY c 5).bind λx1=>(fY (⟨c.b,x1.2.1,x1.2.2⟩:dK) 20).bind λx5=>(if x5.1 == 0 then need (0<=(2:Int)/\(2:Int)<=(x1.1.length:Int)) (some ((x1.1.take ((2:Int).toNat)).drop 0,(x5.2.1,x5.2.2))) else(if x5.1 == 1 then(idx x1.1 0).bind λx6=>need (x6.List.length+([(⟨false,[]⟩:Batch)]).length<=1073741824) (kY (x1.1.set ((0:Int).toNat) (⟨x6.List++([(⟨false,[]⟩:Batch)])⟩:aO)) x5.2.1 x5.2.2) else(if x5.1 == 2 then(loop (M4 c) (x1.1,x5.2.1,x5.2.2)).bind (aA7) else(if x5.1 == 3 then(idx x1.1 2).bind λx25=>(O6 (⟨c.b,x5.2.1,x5.2.2⟩:dK)).bind λx26=>need (x25.List.length+([(⟨false,[x26.1]⟩:Batch)]).length<=1073741824)<|C1 (x1.1.set ((2:Int).toNat) (⟨x25.List++([(⟨false,[x26.1]⟩:Batch)])⟩:aO)) x26.2.1 x26.2.2 else kY x1.1 x5.2.1 x5.2.2))))
def kU(x4:List aO)(x5:List Int):Option wA:=
 some (⟨x4,x5⟩:wA)
def sU(code:List UInt8):Option wA:=
 (TP code).bind λx1=>(wY (⟨code,x1.1,x1.2⟩:dK) 6).bind λx2=>(IM (⟨code,x2.2.1,x2.2.2⟩:dK) 60).bind λx3=>(fY (⟨code,x3.2.1,x3.2.2⟩:dK) 16).bind λx6=>(if x6.1 == 0 then(BU (⟨code,x6.2.1,x6.2.2⟩:dK)).bind λx7=>kU x7.1 x3.1 else(if x6.1 == 1 then need (x3.1.length+([(-1),3,1]:List Int).length<=1073741824) (kU x2.1 (x3.1++([(-1),3,1]:List Int))) else kU x2.1 x3.1))
def LQ(x1:Bool):Option Bool:=
 some x1
def dF(x low high:Int):Option Bool:=
 (if decide (low<=x) then LQ (decide (x<=high)) else LQ false)
def IN(c:iB)(x2:Bool):Option Bool:=
 (if x2 then(dF c.dM 0 65535).bind λx3=>some x3 else some (c.dM == 0))
def IP(c:iB)(x1:Bool):Option Bool:=
 (if x1 then some false else(if c.Kind == 2 then IN c true else IN c (c.Kind == 4)))
def TQ(c:iB):Option Bool:=
 (dF c.Kind 1 4).bind λx4=>(if !x4 then IP c true else(dF c.Key 0 99).bind λx5=>IP c (!x5))
def VD(b:Batch):Option Bool:=
 (dF (b.bM.length:Int) 1 6).bind λx3=>some x3
def oF(b:Batch):Int->Option (Step Int (Out Unit Bool))
 |x2=>(if decide (x2<(b.bM.length:Int)) then(idx b.bM x2).bind λx4=>(TQ x4).bind λx5=>(if !x5 then some (.stop (Out.ret false)) else some (.next (bE (x2+1)))) else some (.stop (Out.brk ())))
def VE(b:Batch):(Out Unit Bool)->Option Bool
 |.brk ()=>VD b
 |.ret r=>some r
def LR(b:Batch):Option Bool:=
 (if b.Collect then some ((b.bM.length:Int) == 0) else(loop (oF b) 0).bind (VE b))
def VF(todo:List aO):Option Bool:=
 some ((todo.length:Int) == 3)
def VG(x2:Int):Option (Step Int (Out Unit Bool)):=
 some (.next (bE (x2+1)))
def oG(todo:List aO)(x2:Int):Int->Option (Step Int (Out Unit Bool))
 |x5=>(idx todo x2).bind λx6=>(if decide (x5<(x6.List.length:Int)) then(idx todo x2).bind λx7=>(idx x7.List x5).bind λx8=>(LR x8).bind λx9=>(if !x9 then some (.stop (Out.ret false)) else some (.next (bE (x5+1)))) else some (.stop (Out.brk ())))
def VH(x2:Int):(Out Unit Bool)->Option (Step Int (Out Unit Bool))
 |.brk ()=>VG x2
 |.ret r=>some (.stop (Out.ret r))
def oH(todo:List aO):Int->Option (Step Int (Out Unit Bool))
 |x2=>(if decide (x2<(todo.length:Int)) then(idx todo x2).bind λx3=>(if decide (12<(x3.List.length:Int)) then some (.stop (Out.ret false)) else(loop (oG todo x2) 0).bind (VH x2)) else some (.stop (Out.brk ())))
def VJ(todo:List aO):(Out Unit Bool)->Option Bool
 |.brk ()=>VF todo
 |.ret r=>some r
def LS(todo:List aO):Option Bool:=
 (loop (oH todo) 0).bind (VJ todo)
def aG0(x5:List Int):Option Heap:=
 some (⟨List.replicate ((384:Int).toNat) 0,x5⟩:Heap)
def uI:(Int×(List Int))->Option (Step (Int×(List Int)) (List Int))
 |(x3,x4)=>(if decide (x3<6) then need (x4.length+([(-1)]).length<=1073741824) (some (.next (bE (x3+1),x4++([(-1)])))) else some (.stop (x4)))
def aG1:(List Int)->Option Heap
 |x5=>aG0 x5
def LU:Option Heap:=
 need (0<=(384:Int)/\(384:Int)<=4294967296) ((loop (uI) (0,[])).bind (aG1))
def R6:Option aD:=
 some (⟨List.replicate ((3:Int).toNat) (⟨[]⟩:bB),List.replicate ((9:Int).toNat) (⟨[]⟩:bB)⟩:aD)
def P9:Option aD:=
 need (0<=(3:Int)/\(3:Int)<=4294967296)<|need (0<=(9:Int)/\(9:Int)<=4294967296)<|R6
def XA:Option Mem:=
 (LU).bind λx1=>(P9).bind λx2=>some (⟨x1,x2⟩:Mem)
def QA:Option aC:=
 need (0<=(3:Int)/\(3:Int)<=4294967296) (some (⟨0,List.replicate ((3:Int).toNat) (⟨false,0,false,0⟩:wB)⟩:aC))
def QB:Option (List bT):=
 need (0<=(3:Int)/\(3:Int)<=4294967296) (some (List.replicate ((3:Int).toNat) (⟨[]⟩:bT)))
def XB:Option (List Int):=
 need (0<=(3:Int)/\(3:Int)<=4294967296) (some (List.replicate ((3:Int).toNat) 0))
def LV:Option aA:=
 (XA).bind λx1=>(QA).bind λx2=>(QB).bind λx3=>(XB).bind λx4=>some (⟨x1,x2,x3,x4⟩:aA)
def TS(l:List iB):Option (List iB):=
 need (([]:List iB).length+l.length<=1073741824) (some (([]:List iB)++l))
def IQ(b:Batch):Option Batch:=
 (TS b.bM).bind λx1=>some (⟨b.Collect,x1⟩:Batch)
def aCU(x5:List aO):Option (List aO):=
 some x5
def O7(x3:List aO)(x4:Int)(x10:List Batch):Option (Step ((List aO)×Int) (List aO)):=
 need (x3.length+([(⟨x10⟩:aO)]).length<=1073741824) (some (.next (x3++([(⟨x10⟩:aO)]),bE (x4+1))))
def EM(x8:Int)(x12:List Batch):Option (Step (Int×(List Batch)) (List Batch)):=
 some (.next (bE (x8+1),x12))
def EN(l:List aO)(x4:Int):(Int×(List Batch))->Option (Step (Int×(List Batch)) (List Batch))
 |(x8,x9)=>(idx l x4).bind λx11=>(if decide (x8<(x11.List.length:Int)) then(idx l x4).bind λx13=>(idx x13.List x8).bind λx14=>(IQ x14).bind λx15=>need (x9.length+([x15]).length<=1073741824)<|EM x8 (x9++([x15])) else some (.stop (x9)))
def O8(x3:List aO)(x4:Int):(List Batch)->Option (Step ((List aO)×Int) (List aO))
 |x10=>O7 x3 x4 x10
def EO(l:List aO):((List aO)×Int)->Option (Step ((List aO)×Int) (List aO))
 |(x3,x4)=>(if decide (x4<(l.length:Int)) then(loop (EN l x4) (0,[])).bind (O8 x3 x4) else some (.stop (x3)))
def aCV:(List aO)->Option (List aO)
 |x5=>aCU x5
def EP(l:List aO):Option (List aO):=
 (loop (EO l) (([]:List aO),0)).bind (aCV)
def R7(x2:Table):Option Table:=
 some ({x2 with Log:=[]}:Table)
def IS(todo:List aO):Option Table:=
 (LS todo).bind λx1=>(if !x1 then some (⟨(⟨(⟨(⟨[],[]⟩:Heap),(⟨[],[]⟩:aD)⟩:Mem),(⟨0,[]⟩:aC),[],[]⟩:aA),[],[],[],[],0⟩:Table) else(LV).bind λx3=>need (0<=(2:Int)/\(2:Int)<=4294967296)<|need (0<=(3:Int)/\(3:Int)<=4294967296)<|(EP todo).bind λx4=>R7 (⟨x3,List.replicate ((2:Int).toNat) (⟨0,0,0⟩:bX),List.replicate ((3:Int).toNat) (⟨false,(⟨false,[]⟩:Batch),0,0,0,0,0,0,0,0,(⟨0,0,0⟩:gN),false,0,(⟨0,0,0,0,0,0,0,0,0,false⟩:Sub),[],[],[],[],[],[]⟩:aI),x4,[],0⟩:Table))
def O9(x:wA):Option Bool:=
 (IS x.eF).bind λx1=>some ((x1.aR.length:Int) == 3)
def kZ(s:List iB):Option (List iB):=
 need (([]:List iB).length+s.length<=1073741824) (some (([]:List iB)++s))
def rA(s:List fV):Option (List fV):=
 need (([]:List fV).length+s.length<=1073741824) (some (([]:List fV)++s))
def KO(e_:iD)(x1:List iB)(x2:List fV):Option iD:=
 some ({e_ with bM:=x1,fV:=x2}:iD)
def ER(e_:iD):Option iD:=
 (kZ e_.bM).bind λx3=>(rA e_.fV).bind λx4=>KO e_ x3 x4
def wZ(b:Batch):Option Batch:=
 (kZ b.bM).bind λx1=>some (⟨b.Collect,x1⟩:Batch)
def aCW(x5:List aO):Option (List aO):=
 some x5
def PA(x3:List aO)(x4:Int)(x11:List Batch):Option (Step ((List aO)×Int) (List aO)):=
 need (x3.length+([(⟨x11⟩:aO)]).length<=1073741824) (some (.next (x3++([(⟨x11⟩:aO)]),bE (x4+1))))
def ES(x9:Int)(x13:List Batch):Option (Step (Int×(List Batch)) (List Batch)):=
 some (.next (bE (x9+1),x13))
def ET(x6:aO):(Int×(List Batch))->Option (Step (Int×(List Batch)) (List Batch))
 |(x9,x10)=>(if decide (x9<(x6.List.length:Int)) then(idx x6.List x9).bind λx12=>(wZ x12).bind λx14=>need (x10.length+([x14]).length<=1073741824)<|ES x9 (x10++([x14])) else some (.stop (x10)))
def PB(x3:List aO)(x4:Int):(List Batch)->Option (Step ((List aO)×Int) (List aO))
 |x11=>PA x3 x4 x11
def EU(todo:List aO):((List aO)×Int)->Option (Step ((List aO)×Int) (List aO))
 |(x3,x4)=>(if decide (x4<(todo.length:Int)) then(idx todo x4).bind λx6=>(loop (ET x6) (0,[])).bind (PB x3 x4) else some (.stop (x3)))
def aCX:(List aO)->Option (List aO)
 |x5=>aCW x5
def xA(todo:List aO):Option (List aO):=
 (loop (EU todo) (([]:List aO),0)).bind (aCX)
def gC(s:List Int):Option (List Int):=
 need (([]:List Int).length+s.length<=1073741824) (some (([]:List Int)++s))
def vK(h:Heap):Option Heap:=
 (gC h.Bytes).bind λx1=>(gC h.Class).bind λx2=>some (⟨x1,x2⟩:Heap)
def aCY(x5 x10:List bB):Option aD:=
 some (⟨x5,x10⟩:aD)
def EV(x8:Int)(x12:List bB):Option (Step (Int×(List bB)) (List bB)):=
 some (.next (bE (x8+1),x12))
def EW(l:aD):(Int×(List bB))->Option (Step (Int×(List bB)) (List bB))
 |(x8,x9)=>(if decide (x8<(l.Own.length:Int)) then(idx l.Own x8).bind λx11=>(gC x11.aV).bind λx13=>need (x9.length+([(⟨x13⟩:bB)]).length<=1073741824)<|EV x8 (x9++([(⟨x13⟩:bB)])) else some (.stop (x9)))
def aCZ(x5:List bB):(List bB)->Option aD
 |x10=>aCY x5 x10
def PC(l:aD)(x5:List bB):Option aD:=
 (loop (EW l) (0,[])).bind (aCZ x5)
def EX(x3:Int)(x15:List bB):Option (Step (Int×(List bB)) (List bB)):=
 some (.next (bE (x3+1),x15))
def EY(l:aD):(Int×(List bB))->Option (Step (Int×(List bB)) (List bB))
 |(x3,x4)=>(if decide (x3<(l.Global.length:Int)) then(idx l.Global x3).bind λx14=>(gC x14.aV).bind λx16=>need (x4.length+([(⟨x16⟩:bB)]).length<=1073741824)<|EX x3 (x4++([(⟨x16⟩:bB)])) else some (.stop (x4)))
def PD(l:aD):(List bB)->Option aD
 |x5=>PC l x5
def i7(l:aD):Option aD:=
 (loop (EY l) (0,[])).bind (PD l)
def o5(m:Mem):Option Mem:=
 (vK m.Heap).bind λx1=>(i7 m.aD).bind λx2=>some (⟨x1,x2⟩:Mem)
def yT(s:List wB):Option (List wB):=
 need (([]:List wB).length+s.length<=1073741824) (some (([]:List wB)++s))
def lN(c:aC):Option aC:=
 (yT c.cE).bind λx1=>some (⟨c.aK,x1⟩:aC)
def wC(s:List eN):Option (List eN):=
 need (([]:List eN).length+s.length<=1073741824) (some (([]:List eN)++s))
def aC0(x5:List bT):Option (List bT):=
 some x5
def EZ(l:List bT):((List bT)×Int)->Option (Step ((List bT)×Int) (List bT))
 |(x3,x4)=>(if decide (x4<(l.length:Int)) then(idx l x4).bind λx6=>(wC x6.Rows).bind λx7=>need (x3.length+([(⟨x7⟩:bT)]).length<=1073741824) (some (.next (x3++([(⟨x7⟩:bT)]),bE (x4+1)))) else some (.stop (x3)))
def aC1:(List bT)->Option (List bT)
 |x5=>aC0 x5
def lO(l:List bT):Option (List bT):=
 (loop (EZ l) (([]:List bT),0)).bind (aC1)
def IT(b:aA):Option aA:=
 (o5 b.Mem).bind λx1=>(lN b.aC).bind λx2=>(lO b.aQ).bind λx3=>(gC b.qJ).bind λx4=>some (⟨x1,x2,x3,x4⟩:aA)
def HU(s:List bX):Option (List bX):=
 need (([]:List bX).length+s.length<=1073741824) (some (([]:List bX)++s))
def o6(s:List Seen):Option (List Seen):=
 need (([]:List Seen).length+s.length<=1073741824) (some (([]:List Seen)++s))
def nD(s:List aT):Option (List aT):=
 need (([]:List aT).length+s.length<=1073741824) (some (([]:List aT)++s))
def R8(x3:aI):Option aI:=
 some x3
def HV(j x2:aI):Option aI:=
 (gC j.gK).bind λx4=>(gC j.bG).bind λx5=>(gC j.b9).bind λx6=>R8 ({x2 with gK:=x4,bG:=x5,b9:=x6}:aI)
def IU(j:aI):Option aI:=
 (wZ j.Batch).bind λx1=>(o6 j.Reads).bind λx7=>(nD j.aH).bind λx8=>(rA j.fV).bind λx9=>HV j ({j with Batch:=x1,Reads:=x7,aH:=x8,fV:=x9}:aI)
def aC2(x11:Table):Option Table:=
 some x11
def E0(x9:Int)(x13:Table):Option (Step (Int×Table) Table):=
 some (.next (bE (x9+1),x13))
def lY(t:Table):(Int×Table)->Option (Step (Int×Table) Table)
 |(x9,x10)=>(if decide (x9<(t.Log.length:Int)) then(idx t.Log x9).bind λx12=>(ER x12).bind λx14=>need (x10.Log.length+([x14]).length<=1073741824)<|E0 x9 ({x10 with Log:=x10.Log++([x14])}:Table) else some (.stop (x10)))
def aC3:Table->Option Table
 |x11=>aC2 x11
def aC4(t x6:Table):Option Table:=
 (loop (lY t) (0,({x6 with Log:=[]}:Table))).bind (aC3)
def E1(x4:Int)(x16:Table):Option (Step (Int×Table) Table):=
 some (.next (bE (x4+1),({x16 with Log:=[]}:Table)))
def lZ(t:Table):(Int×Table)->Option (Step (Int×Table) Table)
 |(x4,x5)=>(if decide (x4<(t.aR.length:Int)) then(idx t.aR x4).bind λx15=>(IU x15).bind λx17=>need (x5.aR.length+([x17]).length<=1073741824)<|E1 x4 ({x5 with aR:=x5.aR++([x17]),Log:=[]}:Table) else some (.stop (({x5 with Log:=[]}:Table))))
def aC5(t:Table):Table->Option Table
 |x6=>aC4 t x6
def E2(t x1:Table):Option Table:=
 (loop (lZ t) (0,({x1 with aR:=[],Log:=[]}:Table))).bind (aC5 t)
def E3(t:Table):Option Table:=
 (IT t.aA).bind λx18=>(HU t.aS).bind λx19=>(xA t.eF).bind λx20=>E2 t (⟨x18,x19,[],x20,[],t.aG⟩:Table)
def M5:Option Int:=
 some (-1)
def nE(s:List aO)(f:(aO->Option Bool)):Int->Option (Step Int (Out Unit Int))
 |x2=>(if decide (x2<(s.length:Int)) then(idx s x2).bind λx3=>(f x3).bind λx4=>(if x4 then some (.stop (Out.ret x2)) else some (.next (bE (x2+1)))) else some (.stop (Out.brk ())))
def xB:(Out Unit Int)->Option Int
 |.brk ()=>M5
 |.ret r=>some r
def DP(s:List aO)(f:(aO->Option Bool)):Option Int:=
 (loop (nE s f) 0).bind (xB)
def j4(s:List aO)(f:(aO->Option Bool)):Option Bool:=
 (DP s f).bind λx1=>some (decide (0<=x1))
def OI:Option Int:=
 some (-1)
def nX(s:List Batch)(f:(Batch->Option Bool)):Int->Option (Step Int (Out Unit Int))
 |x2=>(if decide (x2<(s.length:Int)) then(idx s x2).bind λx3=>(f x3).bind λx4=>(if x4 then some (.stop (Out.ret x2)) else some (.next (bE (x2+1)))) else some (.stop (Out.brk ())))
def zR:(Out Unit Int)->Option Int
 |.brk ()=>OI
 |.ret r=>some r
def E4(s:List Batch)(f:(Batch->Option Bool)):Option Int:=
 (loop (nX s f) 0).bind (zR)
def nY(s:List Batch)(f:(Batch->Option Bool)):Option Bool:=
 (E4 s f).bind λx1=>some (decide (0<=x1))
def E5(x1:Bool):Option Bool:=
 some x1
def bN(n low high:Int):Option Bool:=
 (if decide (low<=n) then E5 (decide (n<=high)) else E5 false)
def R9:Option Int:=
 some (-1)
def rB(s:List iB)(f:(iB->Option Bool)):Int->Option (Step Int (Out Unit Int))
 |x2=>(if decide (x2<(s.length:Int)) then(idx s x2).bind λx3=>(f x3).bind λx4=>(if x4 then some (.stop (Out.ret x2)) else some (.next (bE (x2+1)))) else some (.stop (Out.brk ())))
def DQ:(Out Unit Int)->Option Int
 |.brk ()=>R9
 |.ret r=>some r
def JR(s:List iB)(f:(iB->Option Bool)):Option Int:=
 (loop (rB s f) 0).bind (DQ)
def rC(s:List iB)(f:(iB->Option Bool)):Option Bool:=
 (JR s f).bind λx1=>some (decide (0<=x1))
def mW(x2:Bool):Option Bool:=
 some x2
def pY(c:iB)(x1:Bool):Option Bool:=
 (bN c.Kind 1 4).bind λx3=>(if x3 then(bN c.Key 0 99).bind λx4=>(if x4 then(if x1 then(bN c.dM 0 65535).bind λx5=>(if x5 then mW true else mW (c.dM == 0)) else mW (c.dM == 0)) else mW false) else mW false)
def C2(c:iB):Option Bool:=
 (if c.Kind == 2 then pY c true else pY c (c.Kind == 4))
def M6(c:iB):Option Bool:=
 (C2 c).bind λx1=>some (!x1)
def uJ(x1:Bool):Option Bool:=
 some x1
def E6(b:Batch):Option Bool:=
 (if b.Collect then some ((b.bM.length:Int) == 0) else(bN (b.bM.length:Int) 1 6).bind λx2=>(if x2 then(rC b.bM (λy0=>M6 y0)).bind λx3=>uJ (!x3) else uJ false))
def HW(b:Batch):Option Bool:=
 (E6 b).bind λx1=>some (!x1)
def wD(x1:Bool):Option Bool:=
 some x1
def E7(q:aO):Option Bool:=
 (if decide (12<(q.List.length:Int)) then wD true else(nY q.List (λy0=>HW y0)).bind λx2=>wD x2)
def BV(x1:Bool):Option Bool:=
 some x1
def E8(todo:List aO):Option Bool:=
 (if(todo.length:Int) == 3 then(j4 todo (λy0=>E7 y0)).bind λx2=>BV (!x2) else BV false)
def DR:Option Int:=
 some (-1)
def jQ(s:List Int)(f:(Int->Option Bool)):Int->Option (Step Int (Out Unit Int))
 |x2=>(if decide (x2<(s.length:Int)) then(idx s x2).bind λx3=>(f x3).bind λx4=>(if x4 then some (.stop (Out.ret x2)) else some (.next (bE (x2+1)))) else some (.stop (Out.brk ())))
def rD:(Out Unit Int)->Option Int
 |.brk ()=>DR
 |.ret r=>some r
def xC(s:List Int)(f:(Int->Option Bool)):Option Int:=
 (loop (jQ s f) 0).bind (rD)
def eW(s:List Int)(f:(Int->Option Bool)):Option Bool:=
 (xC s f).bind λx1=>some (decide (0<=x1))
def XC(x:Int):Option Bool:=
 (bN x 0 255).bind λx1=>some x1
def E9(x:Int):Option Bool:=
 (XC x).bind λx1=>some (!x1)
def BW(x1:Bool):Option Bool:=
 some x1
def LW(b:List Int):Option Bool:=
 (if decide ((b.length:Int)<=1000) then(eW b (λy0=>E9 y0)).bind λx2=>BW (!x2) else BW false)
def IV(c:Int):Option Bool:=
 (bN c (-1) 2).bind λx1=>some (!x1)
def rE(x1:Bool):Option Bool:=
 some x1
def JS(h:Heap):Option Bool:=
 (if(h.Bytes.length:Int) == 384 then(LW h.Bytes).bind λx2=>(if x2 then(if(h.Class.length:Int) == 6 then(eW h.Class (λy0=>IV y0)).bind λx3=>rE (!x3) else rE false) else rE false) else rE false)
def aG2(x5:Int):Option Int:=
 some x5
def uK(b:List Int)(at_ width:Int):(Int×Int)->Option (Step (Int×Int) Int)
 |(x3,x4)=>(if decide (x4<(((b.take ((bE (at_+width)).toNat)).drop at_.toNat).length:Int)) then(idx ((b.take ((bE (at_+width)).toNat)).drop at_.toNat) x4).bind λx6=>some (.next (bE ((bE (256*x3))+x6),bE (x4+1))) else some (.stop (x3)))
def aG3:Int->Option Int
 |x5=>aG2 x5
def o7(b:List Int)(at_ width:Int):Option Int:=
 need (0<=(at_:Int)/\(at_:Int)<=(bE (at_+width):Int)/\(bE (at_+width):Int)<=(b.length:Int)) ((loop (uK b at_ width) (0,0)).bind (aG3))
def lH(c:Int):Option Bool:=
 (bN c 0 2).bind λx1=>some x1
def DS(c:Int):Option Int:=
 (lH c).bind λx1=>(if !x1 then some 0 else(idx ([8,16,40]:List Int) c).bind λx2=>some x2)
def vL(c:Int):Option Int:=
 (lH c).bind λx1=>(if !x1 then some 0 else(DS c).bind λx2=>some (bE (4+x2)))
def o8(c:Int):Option Int:=
 (lH c).bind λx1=>(if !x1 then some 0 else(vL c).bind λx2=>need (x2≠0) (some (bE (Int.tdiv 56 x2))))
def IW(x:Int):Option Bool:=
 some (x != 0)
def JT(b:List Int):Option Bool:=
 (eW b (λy0=>IW y0)).bind λx1=>some (!x1)
def aKW:Option Bool:=
 some true
def rF(h:Heap)(page x1 x4:Int):Int->Option (Step Int (Out Unit Bool))
 |x6=>(if decide (x6<x4) then(vL x1).bind λx7=>(o7 ((h.Bytes.take ((bE ((bE (page+1))*64)).toNat)).drop ((bE (page*64)).toNat)) (bE (8+(bE (x6*x7)))) 4).bind λx8=>(bN x8 1 7).bind λx9=>(if !x9 then some (.stop (Out.ret false)) else some (.next (bE (x6+1)))) else some (.stop (Out.brk ())))
def aKX:(Out Unit Bool)->Option Bool
 |.brk ()=>aKW
 |.ret r=>some r
def j5(h:Heap)(page x1:Int)(x3:Bool):Option Bool:=
 (if x3 then some false else(o8 x1).bind λx4=>(loop (rF h page x1 x4) 0).bind (aKX))
def PE(h:Heap)(page:Int):Option Bool:=
 (idx h.Class page).bind λx1=>need (0<=(bE (page*64):Int)/\(bE (page*64):Int)<=(bE ((bE (page+1))*64):Int)/\(bE ((bE (page+1))*64):Int)<=(h.Bytes.length:Int)) ((if decide (x1<0) then(JT ((h.Bytes.take ((bE ((bE (page+1))*64)).toNat)).drop ((bE (page*64)).toNat))).bind λx2=>some x2 else(idx ((h.Bytes.take ((bE ((bE (page+1))*64)).toNat)).drop ((bE (page*64)).toNat)) 0).bind λx10=>(if x10 != 171 then j5 h page x1 true else(idx ((h.Bytes.take ((bE ((bE (page+1))*64)).toNat)).drop ((bE (page*64)).toNat)) 1).bind λx11=>(if x11 != x1 then j5 h page x1 true else(idx ((h.Bytes.take ((bE ((bE (page+1))*64)).toNat)).drop ((bE (page*64)).toNat)) 2).bind λx12=>(o8 x1).bind λx13=>(if x12 != x13 then j5 h page x1 true else need (0<=(3:Int)/\(3:Int)<=(8:Int)/\(8:Int)<=(((h.Bytes.take ((bE ((bE (page+1))*64)).toNat)).drop ((bE (page*64)).toNat)).length:Int)) ((JT ((((h.Bytes.take ((bE ((bE (page+1))*64)).toNat)).drop ((bE (page*64)).toNat)).take ((8:Int).toNat)).drop ((3:Int).toNat))).bind λx14=>j5 h page x1 (!x14)))))))
def aKY:Option Bool:=
 some true
def xD(h:Heap):Int->Option (Step Int (Out Unit Bool))
 |x3=>(if decide (x3<6) then(PE h x3).bind λx4=>(if !x4 then some (.stop (Out.ret false)) else some (.next (bE (x3+1)))) else some (.stop (Out.brk ())))
def aKZ:(Out Unit Bool)->Option Bool
 |.brk ()=>aKY
 |.ret r=>some r
def JU(h:Heap):Option Bool:=
 (JS h).bind λx1=>(if !x1 then some false else(loop (xD h) 0).bind (aKZ))
def sK(slot:Int):Option Bool:=
 (bN slot 0 23).bind λx1=>some x1
def TU(x11:List Raw):Option (List Raw):=
 some x11
def mS(slices:List (List Raw)):((List Raw)×Int)->Option (Step ((List Raw)×Int) (List Raw))
 |(x9,x10)=>(if decide (x10<(slices.length:Int)) then(idx slices x10).bind λx12=>need (x9.length+x12.length<=1073741824) (some (.next (x9++x12,bE (x10+1)))) else some (.stop (x9)))
def TX:(List Raw)->Option (List Raw)
 |x11=>TU x11
def FA(slices:List (List Raw))(x5:Int):Option (List Raw):=
 (aZ0 Raw x5).bind λx6=>(loop (mS slices) (x6,0)).bind (TX)
def j6(slices:List (List Raw)):(Int×Int)->Option (Step (Int×Int) Int)
 |(x3,x4)=>(if decide (x4<(slices.length:Int)) then(idx slices x4).bind λx13=>(if decide ((bE (x3+(x13.length:Int)))<0) then none else some (.next (bE (x3+(x13.length:Int)),bE (x4+1)))) else some (.stop (x3)))
def FB(slices:List (List Raw)):Int->Option (List Raw)
 |x5=>FA slices x5
def zY(slices:List (List Raw)):Option (List Raw):=
 (loop (j6 slices) (0,0)).bind (FB slices)
def aG4:Option Bool:=
 some true
def VK(x4:Int)(x12:List Bool):Option (Step (Int×(List Bool)) (Out Unit Bool)):=
 some (.next (bE (x4+1),x12))
def uL(x10:Int)(x11:List Bool)(x13:Int)(x14:Bool):Option (Step (Int×(List Bool)) (Out (List Bool) Bool)):=
 (if x14 then some (.stop (Out.ret false)) else need (0<=(x13:Int)/\(x13:Int)<24) ((idx (x11:List Bool) x13).bind λx15=>some (.next (bE (x10+1),x11.set (x13.toNat) true))))
def uM(x6:bB):(Int×(List Bool))->Option (Step (Int×(List Bool)) (Out (List Bool) Bool))
 |(x10,x11)=>(if decide (x10<(x6.aV.length:Int)) then(idx x6.aV x10).bind λx13=>(sK x13).bind λx16=>(if !x16 then uL x10 x11 x13 true else need (0<=(x13:Int)/\(x13:Int)<24) ((idx (x11:List Bool) x13).bind λx17=>uL x10 x11 x13 x17)) else some (.stop (Out.brk x11)))
def VL(x4:Int):(Out (List Bool) Bool)->Option (Step (Int×(List Bool)) (Out Unit Bool))
 |.brk x12=>VK x4 x12
 |.ret r=>some (.stop (Out.ret r))
def oJ(x4:Int)(x5:List Bool)(x6:bB)(x7:Bool):Option (Step (Int×(List Bool)) (Out Unit Bool)):=
 (if x7 then some (.stop (Out.ret false)) else(loop (uM x6) (0,x5)).bind (VL x4))
def uN(l:aD):(Int×(List Bool))->Option (Step (Int×(List Bool)) (Out Unit Bool))
 |(x4,x5)=>(if decide (x4<((l.Own++l.Global).length:Int)) then(idx (l.Own++l.Global) x4).bind λx6=>(if decide (x4<(l.Own.length:Int)) then oJ x4 x5 x6 (decide (2<(x6.aV.length:Int))) else oJ x4 x5 x6 false) else some (.stop (Out.brk ())))
def aG5:(Out Unit Bool)->Option Bool
 |.brk ()=>aG4
 |.ret r=>some r
def BX(l:aD)(x1:Bool):Option Bool:=
 (if x1 then some false else need (l.Own.length+l.Global.length<=1073741824) ((loop (uN l) (0,List.replicate 24 false)).bind (aG5)))
def o9(l:aD):Option Bool:=
 (if(l.Global.length:Int) != 3 then BX l true else BX l ((l.Own.length:Int) != 9))
def AV(slot c:Int)(x1:Bool):Option Int:=
 (if x1 then some (-1) else(vL c).bind λx2=>some (bE ((bE ((bE ((bE (Int.tdiv slot 4))*64))+8))+(bE ((Int.tmod slot 4)*x2)))))
def xE(slot c:Int):Option Int:=
 (sK slot).bind λx3=>(if !x3 then AV slot c true else(lH c).bind λx4=>(if !x4 then AV slot c true else(o8 c).bind λx5=>AV slot c (decide (x5<=(Int.tmod slot 4)))))
def BY(h:Heap)(slot:Int)(x1:Bool):Option Int:=
 (if x1 then some (-1) else(idx h.Class (bE (Int.tdiv slot 4))).bind λx2=>some x2)
def lI(h:Heap)(slot:Int):Option Int:=
 (sK slot).bind λx3=>(if !x3 then BY h slot true else(idx h.Class (bE (Int.tdiv slot 4))).bind λx4=>(xE slot x4).bind λx5=>BY h slot (decide (x5<0)))
def FD(h:Heap)(slot:Int):Option Int:=
 (JS h).bind λx1=>(if !x1 then some (-1) else(lI h slot).bind λx2=>some x2)
def C3(h:Heap)(slot:Int):Option Int:=
 (FD h slot).bind λx1=>(if decide (x1<0) then some 0 else(xE slot x1).bind λx2=>(o7 h.Bytes x2 4).bind λx3=>some x3)
def aE7:Option Bool:=
 some true
def yU(x2:Int)(x4:Bool):Option (Step Int (Out Unit Bool)):=
 (if x4 then some (.stop (Out.ret false)) else some (.next (bE (x2+1))))
def m5(h:Heap)(s:bB)(c:Int):Int->Option (Step Int (Out Unit Bool))
 |x2=>(if decide (x2<(s.aV.length:Int)) then(idx s.aV x2).bind λx3=>(lI h x3).bind λx5=>(if x5 != c then yU x2 true else(C3 h x3).bind λx6=>yU x2 (decide (6<x6))) else some (.stop (Out.brk ())))
def aE8:(Out Unit Bool)->Option Bool
 |.brk ()=>aE7
 |.ret r=>some r
def AW(h:Heap)(s:bB)(c:Int):Option Bool:=
 (loop (m5 h s c) 0).bind (aE8)
def aOI:Option Bool:=
 some true
def vM(m:Mem):Int->Option (Step Int (Out Unit Bool))
 |x5=>(if decide (x5<(m.aD.Own.length:Int)) then(idx m.aD.Own x5).bind λx6=>(AW m.Heap x6 (Int.tmod x5 3)).bind λx7=>(if !x7 then some (.stop (Out.ret false)) else some (.next (bE (x5+1)))) else some (.stop (Out.brk ())))
def aOJ:(Out Unit Bool)->Option Bool
 |.brk ()=>aOI
 |.ret r=>some r
def aAF(m:Mem):Option Bool:=
 (loop (vM m) 0).bind (aOJ)
def vN(m:Mem):Int->Option (Step Int (Out Unit Bool))
 |x3=>(if decide (x3<(m.aD.Global.length:Int)) then(idx m.aD.Global x3).bind λx8=>(AW m.Heap x8 x3).bind λx9=>(if !x9 then some (.stop (Out.ret false)) else some (.next (bE (x3+1)))) else some (.stop (Out.brk ())))
def aAG(m:Mem):(Out Unit Bool)->Option Bool
 |.brk ()=>aAF m
 |.ret r=>some r
def IX(m:Mem)(x1:Bool):Option Bool:=
 (if x1 then some false else(loop (vN m) 0).bind (aAG m))
def xF(m:Mem):Option Bool:=
 (JU m.Heap).bind λx10=>(if !x10 then IX m true else(o9 m.aD).bind λx11=>IX m (!x11))
def DT:Option Int:=
 some (-1)
def jR(s:List wB)(f:(wB->Option Bool)):Int->Option (Step Int (Out Unit Int))
 |x2=>(if decide (x2<(s.length:Int)) then(idx s x2).bind λx3=>(f x3).bind λx4=>(if x4 then some (.stop (Out.ret x2)) else some (.next (bE (x2+1)))) else some (.stop (Out.brk ())))
def rG:(Out Unit Int)->Option Int
 |.brk ()=>DT
 |.ret r=>some r
def xG(s:List wB)(f:(wB->Option Bool)):Option Int:=
 (loop (jR s f) 0).bind (rG)
def l4(s:List wB)(f:(wB->Option Bool)):Option Bool:=
 (xG s f).bind λx1=>some (decide (0<=x1))
def l5(x1:Bool):Option Bool:=
 some x1
def xH(p:wB)(k0:aC):Option Bool:=
 (bN p.aK 0 k0.aK).bind λx2=>(if !x2 then l5 true else(bN p.Seen 0 2).bind λx3=>(if !x3 then l5 true else(if !p.On then l5 (!(decide (p=(⟨false,0,false,0⟩:wB)))) else l5 false)))
def uO(x1:Bool):Option Bool:=
 some x1
def pA(c:aC):Option Bool:=
 (bN c.aK 0 100000).bind λx2=>(if x2 then(if(c.cE.length:Int) == 3 then(l4 c.cE (λy0=>xH y0 c)).bind λx3=>uO (!x3) else uO false) else uO false)
def yV(x1:Bool):Option Bool:=
 some x1
def iP(h:Int):Option Bool:=
 (bN h 32 223).bind λx2=>(if x2 then yV (decide ((Int.tmod h 32)<24)) else yV false)
def aC6(x5:Int):Option Int:=
 some x5
def pB(l:List bT):(Int×Int)->Option (Step (Int×Int) Int)
 |(x3,x4)=>(if decide (x4<(l.length:Int)) then(idx l x4).bind λx6=>some (.next (bE (x3+(x6.Rows.length:Int)),bE (x4+1))) else some (.stop (x3)))
def aC7:Int->Option Int
 |x5=>aC6 x5
def FE(l:List bT):Option Int:=
 (loop (pB l) (0,0)).bind (aC7)
def VM(l:List bT):Option Bool:=
 (FE l).bind λx5=>some (decide (x5<=24))
def VN(x3:Int)(x11:List Bool):Option (Step (Int×(List Bool)) (Out Unit Bool)):=
 some (.next (bE (x3+1),x11))
def mC(x9:Int)(x10:List Bool)(x12:eN)(x13:Bool):Option (Step (Int×(List Bool)) (Out (List Bool) Bool)):=
 (if x13 then some (.stop (Out.ret false)) else need (0<=(Int.tmod x12.Handle 32:Int)/\(Int.tmod x12.Handle 32:Int)<24) ((idx (x10:List Bool) (Int.tmod x12.Handle 32)).bind λx14=>some (.next (bE (x9+1),x10.set ((Int.tmod x12.Handle 32).toNat) true))))
def uP(x6:bT):(Int×(List Bool))->Option (Step (Int×(List Bool)) (Out (List Bool) Bool))
 |(x9,x10)=>(if decide (x9<(x6.Rows.length:Int)) then(idx x6.Rows x9).bind λx12=>(iP x12.Handle).bind λx15=>(if !x15 then mC x9 x10 x12 true else(bN x12.aK 0 100000).bind λx16=>(if !x16 then mC x9 x10 x12 true else need (0<=(Int.tmod x12.Handle 32:Int)/\(Int.tmod x12.Handle 32:Int)<24) ((idx (x10:List Bool) (Int.tmod x12.Handle 32)).bind λx17=>mC x9 x10 x12 x17))) else some (.stop (Out.brk x10)))
def VO(x3:Int):(Out (List Bool) Bool)->Option (Step (Int×(List Bool)) (Out Unit Bool))
 |.brk x11=>VN x3 x11
 |.ret r=>some (.stop (Out.ret r))
def uQ(l:List bT):(Int×(List Bool))->Option (Step (Int×(List Bool)) (Out Unit Bool))
 |(x3,x4)=>(if decide (x3<(l.length:Int)) then(idx l x3).bind λx6=>(loop (uP x6) (0,x4)).bind (VO x3) else some (.stop (Out.brk ())))
def VQ(l:List bT):(Out Unit Bool)->Option Bool
 |.brk ()=>VM l
 |.ret r=>some r
def sV(l:List bT):Option Bool:=
 (if(l.length:Int) != 3 then some false else(loop (uQ l) (0,List.replicate 24 false)).bind (VQ l))
def xI(x1:Bool):Option Bool:=
 some x1
def mX(h:Int):Option Bool:=
 (if h == 0 then xI true else(iP h).bind λx2=>xI x2)
def LX(h:Int):Option Bool:=
 (mX h).bind λx1=>some (!x1)
def IY(x1:Bool):Option Bool:=
 some x1
def TY(z:List Int):Option Bool:=
 (if(z.length:Int) == 3 then(eW z (λy0=>LX y0)).bind λx2=>IY (!x2) else IY false)
def zS:Option Int:=
 some (-1)
def kR(s:List bT)(f:(bT->Option Bool)):Int->Option (Step Int (Out Unit Int))
 |x2=>(if decide (x2<(s.length:Int)) then(idx s x2).bind λx3=>(f x3).bind λx4=>(if x4 then some (.stop (Out.ret x2)) else some (.next (bE (x2+1)))) else some (.stop (Out.brk ())))
def zT:(Out Unit Int)->Option Int
 |.brk ()=>zS
 |.ret r=>some r
def sW(s:List bT)(f:(bT->Option Bool)):Option Int:=
 (loop (kR s f) 0).bind (zT)
def iV(s:List bT)(f:(bT->Option Bool)):Option Bool:=
 (sW s f).bind λx1=>some (decide (0<=x1))
def AX:Option Int:=
 some (-1)
def lJ(s:List eN)(f:(eN->Option Bool)):Int->Option (Step Int (Out Unit Int))
 |x2=>(if decide (x2<(s.length:Int)) then(idx s x2).bind λx3=>(f x3).bind λx4=>(if x4 then some (.stop (Out.ret x2)) else some (.next (bE (x2+1)))) else some (.stop (Out.brk ())))
def AY:(Out Unit Int)->Option Int
 |.brk ()=>AX
 |.ret r=>some r
def vW(s:List eN)(f:(eN->Option Bool)):Option Int:=
 (loop (lJ s f) 0).bind (AY)
def jA(s:List eN)(f:(eN->Option Bool)):Option Bool:=
 (vW s f).bind λx1=>some (decide (0<=x1))
def LF:Option Int:=
 some (-1)
def eZ(s:List Int)(v:Int):Int->Option (Step Int (Out Unit Int))
 |x2=>(if decide (x2<(s.length:Int)) then(idx s x2).bind λx3=>(if v == x3 then some (.stop (Out.ret x2)) else some (.next (bE (x2+1)))) else some (.stop (Out.brk ())))
def zZ:(Out Unit Int)->Option Int
 |.brk ()=>LF
 |.ret r=>some r
def m6(s:List Int)(v:Int):Option Int:=
 (loop (eZ s v) 0).bind (zZ)
def g7(s:List Int)(v:Int):Option Bool:=
 (m6 s v).bind λx1=>some (decide (0<=x1))
def pZ(s:bB)(k0:Int):Option Bool:=
 (g7 s.aV k0).bind λx1=>some x1
def zU:Option Int:=
 some (-1)
def kS(s:List bB)(f:(bB->Option Bool)):Int->Option (Step Int (Out Unit Int))
 |x2=>(if decide (x2<(s.length:Int)) then(idx s x2).bind λx3=>(f x3).bind λx4=>(if x4 then some (.stop (Out.ret x2)) else some (.next (bE (x2+1)))) else some (.stop (Out.brk ())))
def zV:(Out Unit Int)->Option Int
 |.brk ()=>zU
 |.ret r=>some r
def sY(s:List bB)(f:(bB->Option Bool)):Option Int:=
 (loop (kS s f) 0).bind (zV)
def iW(s:List bB)(f:(bB->Option Bool)):Option Bool:=
 (sY s f).bind λx1=>some (decide (0<=x1))
def FF(x1:Bool):Option Bool:=
 some x1
def JV(l:aD)(slot:Int):Option Bool:=
 (iW l.Global (λy0=>pZ y0 slot)).bind λx2=>(if x2 then FF true else(iW l.Own (λy0=>pZ y0 slot)).bind λx3=>FF x3)
def LY(m:Mem)(slot:Int):Option Int:=
 (lI m.Heap slot).bind λx1=>(if decide (x1<0) then some 0 else(JV m.aD slot).bind λx2=>(if x2 then some 1 else(C3 m.Heap slot).bind λx3=>(if decide (6<x3) then some 2 else some 3)))
def xJ(x1:Bool):Option Bool:=
 some x1
def xK(m:Mem)(h:Int):Option Bool:=
 (iP h).bind λx2=>(if x2 then(LY m (Int.tmod h 32)).bind λx3=>(if x3 == 3 then(C3 m.Heap (Int.tmod h 32)).bind λx4=>xJ (x4 == (bE (Int.tdiv h 32))) else xJ false) else xJ false)
def sZ(x1:Bool):Option Bool:=
 some x1
def BZ(r_:eN)(k0:aA):Option Bool:=
 (xK k0.Mem r_.Handle).bind λx2=>(if !x2 then sZ true else sZ (decide (k0.aC.aK<r_.aK)))
def IZ(l:bT)(k0:aA):Option Bool:=
 (jA l.Rows (λy0=>BZ y0 k0)).bind λx1=>some x1
def rH(b:aA)(x1:Bool):Option Bool:=
 (if x1 then some false else(iV b.aQ (λy0=>IZ y0 b)).bind λx2=>some (!x2))
def PF(b:aA):Option Bool:=
 (xF b.Mem).bind λx3=>(if !x3 then rH b true else(pA b.aC).bind λx4=>(if !x4 then rH b true else(sV b.aQ).bind λx5=>(if !x5 then rH b true else(TY b.qJ).bind λx6=>rH b (!x6))))
def SA:Option Int:=
 some (-1)
def rI(s:List bX)(f:(bX->Option Bool)):Int->Option (Step Int (Out Unit Int))
 |x2=>(if decide (x2<(s.length:Int)) then(idx s x2).bind λx3=>(f x3).bind λx4=>(if x4 then some (.stop (Out.ret x2)) else some (.next (bE (x2+1)))) else some (.stop (Out.brk ())))
def DU:(Out Unit Int)->Option Int
 |.brk ()=>SA
 |.ret r=>some r
def JW(s:List bX)(f:(bX->Option Bool)):Option Int:=
 (loop (rI s f) 0).bind (DU)
def rJ(s:List bX)(f:(bX->Option Bool)):Option Bool:=
 (JW s f).bind λx1=>some (decide (0<=x1))
def I0(x1:Bool):Option Bool:=
 some x1
def aA8(b:bX):Option Bool:=
 (mX b.Head).bind λx2=>(if x2 then(bN b.eJ 0 1000000).bind λx3=>(if x3 then(bN b.eI 0 3).bind λx4=>I0 x4 else I0 false) else I0 false)
def M7(b:bX):Option Bool:=
 (aA8 b).bind λx1=>some (!x1)
def QC:Option Int:=
 some (-1)
def qA(s:List aI)(f:(aI->Option Bool)):Int->Option (Step Int (Out Unit Int))
 |x2=>(if decide (x2<(s.length:Int)) then(idx s x2).bind λx3=>(f x3).bind λx4=>(if x4 then some (.stop (Out.ret x2)) else some (.next (bE (x2+1)))) else some (.stop (Out.brk ())))
def AZ:(Out Unit Int)->Option Int
 |.brk ()=>QC
 |.ret r=>some r
def HH(s:List aI)(f:(aI->Option Bool)):Option Int:=
 (loop (qA s f) 0).bind (AZ)
def gW(s:List aI)(f:(aI->Option Bool)):Option Bool:=
 (HH s f).bind λx1=>some (decide (0<=x1))
def ZO:Option Bool:=
 some true
def kD(s1 s2:List fV):Int->Option (Step Int (Out Unit Bool))
 |x2=>(if decide (x2<(s1.length:Int)) then(idx s1 x2).bind λx3=>(idx s2 x2).bind λx4=>(if !(decide (x3=x4)) then some (.stop (Out.ret false)) else some (.next (bE (x2+1)))) else some (.stop (Out.brk ())))
def ZP:(Out Unit Bool)->Option Bool
 |.brk ()=>ZO
 |.ret r=>some r
def lA(s1 s2:List fV):Option Bool:=
 (if(s1.length:Int) != (s2.length:Int) then some false else(loop (kD s1 s2) 0).bind (ZP))
def ZQ:Option Bool:=
 some true
def LG(s1 s2:List iB):Int->Option (Step Int (Out Unit Bool))
 |x2=>(if decide (x2<(s1.length:Int)) then(idx s1 x2).bind λx3=>(idx s2 x2).bind λx4=>(if !(decide (x3=x4)) then some (.stop (Out.ret false)) else some (.next (bE (x2+1)))) else some (.stop (Out.brk ())))
def ZR:(Out Unit Bool)->Option Bool
 |.brk ()=>ZQ
 |.ret r=>some r
def HX(s1 s2:List iB):Option Bool:=
 (if(s1.length:Int) != (s2.length:Int) then some false else(loop (LG s1 s2) 0).bind (ZR))
def FG(x1:Bool):Option Bool:=
 some x1
def FH(a_ b:Batch):Option Bool:=
 (if a_.Collect == b.Collect then(HX a_.bM b.bM).bind λx2=>FG x2 else FG false)
def XD:Option Bool:=
 some true
def JX(s1 s2:List Seen):Int->Option (Step Int (Out Unit Bool))
 |x2=>(if decide (x2<(s1.length:Int)) then(idx s1 x2).bind λx3=>(idx s2 x2).bind λx4=>(if !(decide (x3=x4)) then some (.stop (Out.ret false)) else some (.next (bE (x2+1)))) else some (.stop (Out.brk ())))
def XE:(Out Unit Bool)->Option Bool
 |.brk ()=>XD
 |.ret r=>some r
def wE(s1 s2:List Seen):Option Bool:=
 (if(s1.length:Int) != (s2.length:Int) then some false else(loop (JX s1 s2) 0).bind (XE))
def WE:Option Bool:=
 some true
def HI(s1 s2:List aT):Int->Option (Step Int (Out Unit Bool))
 |x2=>(if decide (x2<(s1.length:Int)) then(idx s1 x2).bind λx3=>(idx s2 x2).bind λx4=>(if !(decide (x3=x4)) then some (.stop (Out.ret false)) else some (.next (bE (x2+1)))) else some (.stop (Out.brk ())))
def WG:(Out Unit Bool)->Option Bool
 |.brk ()=>WE
 |.ret r=>some r
def tC(s1 s2:List aT):Option Bool:=
 (if(s1.length:Int) != (s2.length:Int) then some false else(loop (HI s1 s2) 0).bind (WG))
def ZS:Option Bool:=
 some true
def LH(s1 s2:List Int):Int->Option (Step Int (Out Unit Bool))
 |x2=>(if decide (x2<(s1.length:Int)) then(idx s1 x2).bind λx3=>(idx s2 x2).bind λx4=>(if x3 != x4 then some (.stop (Out.ret false)) else some (.next (bE (x2+1)))) else some (.stop (Out.brk ())))
def ZT:(Out Unit Bool)->Option Bool
 |.brk ()=>ZS
 |.ret r=>some r
def m7(s1 s2:List Int):Option Bool:=
 (if(s1.length:Int) != (s2.length:Int) then some false else(loop (LH s1 s2) 0).bind (ZT))
def bZ(x1:Bool):Option Bool:=
 some x1
def I1(a_ b:aI):Option Bool:=
 (if a_.bU == b.bU then(FH a_.Batch b.Batch).bind λx2=>(if x2 then(if a_.aG == b.aG then(if a_.Pc == b.Pc then(if a_.At == b.At then(if a_.K == b.K then(if a_.bX == b.bX then(if a_.eJ == b.eJ then(if a_.H == b.H then(if a_.gO == b.gO then(if decide (a_.Node=b.Node) then(if a_.Found == b.Found then(if a_.Code == b.Code then(if decide (a_.Sub=b.Sub) then(wE a_.Reads b.Reads).bind λx3=>(if x3 then(tC a_.aH b.aH).bind λx4=>(if x4 then(lA a_.fV b.fV).bind λx5=>(if x5 then(m7 a_.gK b.gK).bind λx6=>(if x6 then(m7 a_.bG b.bG).bind λx7=>(if x7 then(m7 a_.b9 b.b9).bind λx8=>bZ x8 else bZ false) else bZ false) else bZ false) else bZ false) else bZ false) else bZ false) else bZ false) else bZ false) else bZ false) else bZ false) else bZ false) else bZ false) else bZ false) else bZ false) else bZ false) else bZ false) else bZ false) else bZ false) else bZ false)
def HY(b:Int):Option Bool:=
 (bN b 0 1).bind λx1=>some x1
def wF(h:Int):Option Bool:=
 (iP h).bind λx1=>some (!x1)
def C4(x1:Bool):Option Bool:=
 some x1
def uR(list:List Int):Option Bool:=
 (if decide ((list.length:Int)<=6) then(eW list (λy0=>wF y0)).bind λx2=>C4 (!x2) else C4 false)
def QD:Option Int:=
 some (-1)
def jB(s:List Seen)(f:(Seen->Option Bool)):Int->Option (Step Int (Out Unit Int))
 |x2=>(if decide (x2<(s.length:Int)) then(idx s x2).bind λx3=>(f x3).bind λx4=>(if x4 then some (.stop (Out.ret x2)) else some (.next (bE (x2+1)))) else some (.stop (Out.brk ())))
def A0:(Out Unit Int)->Option Int
 |.brk ()=>QD
 |.ret r=>some r
def eT(s:List Seen)(f:(Seen->Option Bool)):Option Int:=
 (loop (jB s f) 0).bind (A0)
def fQ(s:List Seen)(f:(Seen->Option Bool)):Option Bool:=
 (eT s f).bind λx1=>some (decide (0<=x1))
def QE(s:Seen):Option Bool:=
 (HY s.bX).bind λx1=>some (!x1)
def SB(list:List aT):Option Bool:=
 some (decide ((list.length:Int)<=6))
def lB(x2:Int)(x4:Bool):Option (Step Int (Out Unit Bool)):=
 (if x4 then some (.stop (Out.ret false)) else some (.next (bE (x2+1))))
def rK(list:List aT):Int->Option (Step Int (Out Unit Bool))
 |x2=>(if decide (x2<(list.length:Int)) then(idx list x2).bind λx3=>(bN x3.Key 0 99).bind λx5=>(if !x5 then lB x2 true else(bN x3.dM 0 65535).bind λx6=>(if !x6 then lB x2 true else(if decide (0<x2) then(idx list (bE (x2-1))).bind λx7=>lB x2 (decide (x3.Key<=x7.Key)) else lB x2 false))) else some (.stop (Out.brk ())))
def SC(list:List aT):(Out Unit Bool)->Option Bool
 |.brk ()=>SB list
 |.ret r=>some r
def I2(list:List aT):Option Bool:=
 (loop (rK list) 0).bind (SC list)
def iH(x4:Bool):Option Bool:=
 some x4
def XF(j:aI):Option Bool:=
 (E6 j.Batch).bind λx5=>(if x5 then(mX j.H).bind λx6=>(if x6 then(mX j.gO).bind λx7=>(if x7 then(HY j.bX).bind λx8=>(if x8 then(bN j.At 0 (j.Batch.bM.length:Int)).bind λx9=>(if x9 then(bN j.K 0 100).bind λx10=>(if x10 then(uR j.gK).bind λx11=>(if x11 then(uR j.b9).bind λx12=>(if x12 then(fQ j.Reads (λy0=>QE y0)).bind λx13=>(if !x13 then(I2 j.aH).bind λx14=>iH x14 else iH false) else iH false) else iH false) else iH false) else iH false) else iH false) else iH false) else iH false) else iH false)
def FI(x3:Int)(x16:Bool):Option (Step Int (Out Unit Bool)):=
 (if x16 then some (.stop (Out.ret false)) else some (.next (bE (x3+1))))
def xL(j:aI):Int->Option (Step Int (Out Unit Bool))
 |x3=>(if decide (x3<(j.bG.length:Int)) then(idx j.bG x3).bind λx15=>(HY x15).bind λx17=>(if !x17 then FI x3 true else need (0<=(x3:Int)/\(x3:Int)<=(j.bG.length:Int)) ((g7 ((j.bG.take x3.toNat).drop 0) x15).bind λx18=>FI x3 x18)) else some (.stop (Out.brk ())))
def XG(j:aI):(Out Unit Bool)->Option Bool
 |.brk ()=>XF j
 |.ret r=>some r
def sL(j:aI):Option Bool:=
 (if !j.bU then(I1 j (⟨false,(⟨false,[]⟩:Batch),0,0,0,0,0,0,0,0,(⟨0,0,0⟩:gN),false,0,(⟨0,0,0,0,0,0,0,0,0,false⟩:Sub),[],[],[],[],[],[]⟩:aI)).bind λx1=>some x1 else(loop (xL j) 0).bind (XG j))
def M8(j:aI):Option Bool:=
 (sL j).bind λx1=>some (!x1)
def kI(x1:Bool):Option Bool:=
 some x1
def FJ(t:Table):Option Bool:=
 (PF t.aA).bind λx2=>(if x2 then(if(t.aS.length:Int) == 2 then(rJ t.aS (λy0=>M7 y0)).bind λx3=>(if !x3 then(if(t.aR.length:Int) == 3 then(gW t.aR (λy0=>M8 y0)).bind λx4=>(if !x4 then(E8 t.eF).bind λx5=>(if x5 then(bN t.aG 0 1000000).bind λx6=>kI x6 else kI false) else kI false) else kI false) else kI false) else kI false) else kI false)
def LI(s:List Batch)(i j:Int):Option (List Batch):=
 need (0<=i/\i<=j/\j<=(s.length:Int)) (some (s.take i.toNat++s.drop j.toNat))
def lP(kind a_:Int):Option Sub:=
 some (⟨kind,a_,0,0,0,0,0,0,0,false⟩:Sub)
def z6(t:Table)(w_:Int)(x2:aO)(x3:Batch)(x6:aI)(x8:List iD):Option Table:=
 some (⟨t.aA,t.aS,t.aR.set w_.toNat ({x6 with Batch:=(⟨x6.Batch.Collect,x3.bM⟩:Batch),Reads:=[],aH:=[],fV:=[],gK:=[],bG:=[],b9:=[]}:aI),t.eF.set w_.toNat (⟨x2.List.drop 1⟩:aO),x8,bE (t.aG+1)⟩:Table)
def mF(t:Table)(w_:Int)(x2:aO)(x3:Batch)(x6:aI):Option Table:=
 (idx t.aR w_).bind λx7=>(kZ x3.bM).bind λx9=>need (t.Log.length+([(⟨1,w_,x6.aG,0,x9,[]⟩:iD)]).length<=1073741824)<|z6 t w_ x2 x3 x6 (t.Log++([(⟨1,w_,x6.aG,0,x9,[]⟩:iD)]))
def z7(t:Table)(w_:Int)(x2:aO)(x3:Batch)(x5:aI):Option Table:=
 (if x3.Collect then(lP 3 0).bind λx10=>mF t w_ x2 x3 ({x5 with Batch:=(⟨x5.Batch.Collect,x3.bM⟩:Batch),Pc:=20,Sub:=x10,Reads:=[],aH:=[],fV:=[],gK:=[],bG:=[],b9:=[]}:aI) else mF t w_ x2 x3 ({x5 with Batch:=(⟨x5.Batch.Collect,x3.bM⟩:Batch),Reads:=[],aH:=[],fV:=[],gK:=[],bG:=[],b9:=[]}:aI))
def mG(t:Table)(w_:Int)(x1:Bool):Option Table:=
 (if x1 then some t else(idx t.eF w_).bind λx2=>(idx x2.List 0).bind λx3=>(LI x2.List 0 1).bind λx4=>(lP 5 0).bind λx11=>z7 t w_ x2 x3 (⟨true,x3,bE (t.aG+1),0,0,0,0,0,0,0,(⟨0,0,0⟩:gN),false,0,x11,[],[],[],[],[],[]⟩:aI))
def yW(t:Table)(w_:Int):Option Table:=
 (idx t.eF w_).bind λx12=>(if(x12.List.length:Int) == 0 then mG t w_ true else mG t w_ (t.aG == 1000000))
def bJ(s:Sub)(code:Int):Option Sub:=
 some ({s with Code:=code,gU:=true}:Sub)
def aG6:Option Int:=
 some (-1)
def B4(x2:Int)(x3:Bool):Option (Step Int (Out Unit Int)):=
 (if x3 then some (.stop (Out.ret x2)) else some (.next (bE (x2+1))))
def kJ(size:Int):Int->Option (Step Int (Out Unit Int))
 |x2=>(if decide (x2<3) then(if decide (1<=size) then(DS x2).bind λx4=>B4 x2 (decide (size<=x4)) else B4 x2 false) else some (.stop (Out.brk ())))
def aG7:(Out Unit Int)->Option Int
 |.brk ()=>aG6
 |.ret r=>some r
def LZ(size:Int):Option Int:=
 (loop (kJ size) 0).bind (aG7)
def gX(w_:Int):Option Bool:=
 (bN w_ 0 2).bind λx1=>some x1
def I3(w_ c:Int)(x1:Bool):Option Int:=
 (if x1 then some (-1) else some (bE ((bE (w_*3))+c)))
def M9(w_ c:Int):Option Int:=
 (gX w_).bind λx2=>(if !x2 then I3 w_ c true else(lH c).bind λx3=>I3 w_ c (!x3))
def xM(s:bB):Option (Int×bB):=
 (if decide ((bE ((s.aV.length:Int)-1))<0) then some ((-1),s) else(idx s.aV (bE ((s.aV.length:Int)-1))).bind λx1=>need (0<=(bE ((s.aV.length:Int)-1):Int)/\(bE ((s.aV.length:Int)-1):Int)<=(bE ((s.aV.length:Int)-1):Int)/\(bE ((s.aV.length:Int)-1):Int)<=(s.aV.length:Int)) (some (x1,(⟨(s.aV.take ((bE ((s.aV.length:Int)-1)).toNat)).drop 0⟩:bB))))
def B5(x1:aD)(x2:Int)(x3:Bool):Option (aD×Int):=
 (if x3 then some (x1,(-1)) else(idx x1.Own x2).bind λx4=>(xM x4).bind λx5=>some ((⟨x1.Global,x1.Own.set x2.toNat x5.2⟩:aD),x5.1))
def L4(l:aD)(w_ c:Int):Option (aD×Int):=
 (i7 l).bind λx1=>(M9 w_ c).bind λx2=>(o9 l).bind λx6=>(if !x6 then B5 x1 x2 true else B5 x1 x2 (decide (x2<0)))
def tD(c:Int)(x1:aD)(x2:Bool):Option (aD×Int):=
 (if x2 then some (x1,(-1)) else(idx x1.Global c).bind λx3=>(xM x3).bind λx4=>some ((⟨x1.Global.set c.toNat x4.2,x1.Own⟩:aD),x4.1))
def B6(l:aD)(c:Int):Option (aD×Int):=
 (i7 l).bind λx1=>(o9 l).bind λx5=>(if !x5 then tD c x1 true else(lH c).bind λx6=>tD c x1 (!x6))
def NA(b x5:List Int):Option (List Int):=
 need (x5.length=b.length) (some x5)
def lQ(b:List Int)(at_:Int)(text:List UInt8):((List Int)×Int)->Option (Step ((List Int)×Int) (List Int))
 |(x3,x4)=>need (x3.length=b.length) ((if decide (x4<(text.length:Int)) then(idx text x4).bind λx6=>(idx x3 (bE (at_+x4))).bind λx7=>some (.next (x3.set ((bE (at_+x4)).toNat) (x6.toNat:Int),bE (x4+1))) else some (.stop (x3))))
def NB(b:List Int):(List Int)->Option (List Int)
 |x5=>NA b x5
def mY(b:List Int)(at_:Int)(text:List UInt8):Option (List Int):=
 (loop (lQ b at_ text) (b,0)).bind (NB b)
def yX(width:Int):Option Bool:=
 (bN width 1 7).bind λx1=>some x1
def aOK(x8:List UInt8):Option (List UInt8):=
 some x8
def qB:(Int×(List UInt8)×Int)->Option (Step (Int×(List UInt8)×Int) (List UInt8))
 |(x5,x6,x7)=>(if decide (0<=x7) then(idx x6 x7).bind λx9=>some (.next (oX .i64 x5 8,x6.set x7.toNat (u8 x5),bE (x7-1))) else some (.stop (x6)))
def aOL:(List UInt8)->Option (List UInt8)
 |x8=>aOK x8
def vO(n width:Int)(x1:Bool):Option (List UInt8):=
 (if x1 then some ([]) else need (0<=(width:Int)/\(width:Int)<=4294967296) ((loop (qB) (n,List.replicate (width.toNat) 0,bE (width-1))).bind (aOL)))
def mD(n width:Int):Option (List UInt8):=
 (yX width).bind λx10=>(if !x10 then vO n width true else(if decide (n<0) then vO n width true else need (0<=(IntKind.u64.wrap (bE (8*width)):Int)) (vO n width (decide ((aJ5 .i64 1 (IntKind.u64.wrap (bE (8*width))))<=n)))))
def FK(page index:Int)(x1:Bool):Option Int:=
 (if x1 then some (-1) else some (bE ((bE (page*4))+index)))
def PG(page index:Int):Option Int:=
 (bN page 0 5).bind λx2=>(if !x2 then FK page index true else(bN index 0 3).bind λx3=>FK page index (!x3))
def aOM(c:Int)(x1:Heap)(x2:Int)(x13 x14:List Int):Option (Heap×(List Int)):=
 some ((⟨x14,x1.Class.set x2.toNat c⟩:Heap),x13)
def QF(x10:List Int)(x11 x15:Int)(x16:List Int):Option (Step ((List Int)×Int×(List Int)) ((List Int)×(List Int))):=
 need (x10.length+([x15]).length<=1073741824) (some (.next (x10++([x15]),bE (x11+1),x16)))
def I4(c x2 x6:Int):((List Int)×Int×(List Int))->Option (Step ((List Int)×Int×(List Int)) ((List Int)×(List Int)))
 |(x10,x11,x12)=>(if decide (x11<x6) then(PG x2 x11).bind λx15=>(xE x15 c).bind λx17=>(mD 1 4).bind λx18=>(mY x12 x17 x18).bind λx19=>QF x10 x11 x15 x19 else some (.stop ((x10,x12))))
def aON(c:Int)(x1:Heap)(x2:Int):((List Int)×(List Int))->Option (Heap×(List Int))
 |(x13,x14)=>aOM c x1 x2 x13 x14
def QG(c:Int)(x1:Heap)(x2:Int)(x5:List Int):Option (Heap×(List Int)):=
 (o8 c).bind λx6=>(loop (I4 c x2 x6) (([]:List Int),0,x5)).bind (aON c x1 x2)
def A1(c:Int)(x1:Heap)(x2:Int)(x3:Bool):Option (Heap×(List Int)):=
 (if x3 then some (x1,([]:List Int)) else(idx x1.Class x2).bind λx4=>need (0<=(bE (x2*64):Int)/\(bE (x2*64):Int)<=(x1.Bytes.length:Int))<|(o8 c).bind λx20=>QG c x1 x2 (cR x1.Bytes ((bE (x2*64)).toNat) ([171,c,x20]:List Int)))
def HZ(h:Heap)(c:Int):Option (Heap×(List Int)):=
 (vK h).bind λx1=>(m6 h.Class (-1)).bind λx2=>(JU h).bind λx21=>(if !x21 then A1 c x1 x2 true else(lH c).bind λx22=>(if !x22 then A1 c x1 x2 true else A1 c x1 x2 (decide (x2<0))))
def KP(x4:Int)(x5:Mem):Option (Mem×Int):=
 some (x5,x4)
def KQ(c:Int)(x1:Heap×(List Int))(x2:Mem):Option (Mem×Int):=
 (if(x1.2.length:Int) == 0 then some (x2,(-1)) else(idx x2.aD.Global c).bind λx3=>need (0<=(1:Int)/\(1:Int)<=(x1.2.length:Int)) (need (x3.aV.length+((x1.2.take x1.2.length).drop ((1:Int).toNat)).length<=1073741824) ((idx x1.2 0).bind λx6=>KP x6 (⟨x2.Heap,(⟨x2.aD.Global.set c.toNat (⟨x3.aV++((x1.2.take x1.2.length).drop ((1:Int).toNat))⟩:bB),x2.aD.Own⟩:aD)⟩:Mem))))
def L5(m:Mem)(c:Int):Option (Mem×Int):=
 (HZ m.Heap c).bind λx1=>(i7 m.aD).bind λx7=>KQ c x1 (⟨x1.1,x7⟩:Mem)
def yY(slot gen:Int)(x1:Bool):Option Int:=
 (if x1 then some 0 else some (bE ((bE (gen*32))+slot)))
def QH(slot gen:Int):Option Int:=
 (sK slot).bind λx2=>(if !x2 then yY slot gen true else(bN gen 1 6).bind λx3=>yY slot gen (!x3))
def I5(m:Mem)(slot:Int):Option Int:=
 (C3 m.Heap slot).bind λx1=>(QH slot x1).bind λx2=>some x2
def i6(s:Sub)(x3:Int)(x4:aA):Option (Sub×aA):=
 (if decide (0<=x3) then(I5 x4.Mem x3).bind λx5=>(bJ ({s with Out:=x5}:Sub) 0).bind λx6=>some (x6,x4) else(if s.Pc == 3 then(bJ s 3).bind λx7=>some (x7,x4) else some (({s with Pc:=bE (s.Pc+1)}:Sub),x4)))
def nQ(s:Sub)(b:aA)(x1:Int)(x9:Bool):Option (Sub×aA):=
 (if x9 then(B6 b.Mem.aD x1).bind λx10=>i6 s x10.2 ({b with Mem:=(⟨b.Mem.Heap,x10.1⟩:Mem)}:aA) else(if s.Pc == 2 then(L5 b.Mem x1).bind λx11=>i6 s x11.2 ({b with Mem:=x11.1}:aA) else(bJ s 1).bind λx12=>some (x12,b)))
def tE(s:Sub)(b:aA)(w_:Int):Option (Sub×aA):=
 (LZ s.A).bind λx1=>(if decide (x1<0) then(bJ s 2).bind λx2=>some (x2,b) else(if s.Pc == 0 then(L4 b.Mem.aD w_ x1).bind λx8=>i6 s x8.2 ({b with Mem:=(⟨b.Mem.Heap,x8.1⟩:Mem)}:aA) else(if s.Pc == 1 then nQ s b x1 true else nQ s b x1 (s.Pc == 3))))
def qO(x1:Bool):Option Bool:=
 some x1
def rL(r_:eN)(k0:Int):Option Bool:=
 (iP r_.Handle).bind λx2=>(if x2 then qO ((Int.tmod r_.Handle 32) == k0) else qO false)
def FL(own:bT)(k0:Int):Option Bool:=
 (jA own.Rows (λy0=>rL y0 k0)).bind λx1=>some x1
def FM(l:List bT)(slot:Int):Option Bool:=
 (iV l (λy0=>FL y0 slot)).bind λx1=>some x1
def yZ(l:List bT)(w_ h e_:Int)(x1:Bool):Option ((List bT)×Bool):=
 (if x1 then(lO l).bind λx2=>some (x2,false) else(lO l).bind λx3=>(idx x3 w_).bind λx4=>need (x4.Rows.length+([(⟨h,e_⟩:eN)]).length<=1073741824) ((sV (x3.set w_.toNat (⟨x4.Rows++([(⟨h,e_⟩:eN)])⟩:bT))).bind λx5=>(if !x5 then(lO l).bind λx6=>some (x6,false) else some (x3.set w_.toNat (⟨x4.Rows++([(⟨h,e_⟩:eN)])⟩:bT),true))))
def I6(l:List bT)(w_ h e_:Int):Option ((List bT)×Bool):=
 (sV l).bind λx7=>(if !x7 then yZ l w_ h e_ true else(gX w_).bind λx8=>yZ l w_ h e_ (!x8))
def mT(s:Sub)(b:aA)(w_:Int)(x3:Bool):Option (Sub×aA):=
 (if x3 then(bJ s 4).bind λx4=>some (x4,b) else(I6 b.aQ w_ s.A s.E).bind λx5=>(bJ s 0).bind λx6=>some (x6,({b with aQ:=x5.1}:aA)))
def mU(s:Sub)(b:aA)(w_:Int)(x1:Bool):Option (Sub×aA):=
 (if x1 then(bJ s 1).bind λx2=>some (x2,b) else(xK b.Mem s.A).bind λx7=>(if !x7 then mT s b w_ true else(FM b.aQ (Int.tmod s.A 32)).bind λx8=>mT s b w_ x8))
def qP(s:Sub)(b:aA)(w_:Int):Option (Sub×aA):=
 (if s.Pc == 0 then some (({s with Pc:=1,E:=b.aC.aK}:Sub),b) else(if s.Pc != 1 then mU s b w_ true else(bN s.E 0 b.aC.aK).bind λx9=>mU s b w_ (!x9)))
def rM(w_:Int)(x1:aC)(x4:Bool):Option (aC×Bool):=
 (if x4 then some (x1,true) else(idx x1.cE w_).bind λx5=>(if decide (x5.Seen<2) then some ((⟨x1.aK,x1.cE.set w_.toNat ({x5 with Seen:=bE (x5.Seen+1)}:wB)⟩:aC),false) else some ((⟨x1.aK,x1.cE.set w_.toNat ({x5 with gL:=true,Seen:=0}:wB)⟩:aC),true)))
def FN(w_ e_:Int)(x1:aC)(x2:Bool):Option (aC×Bool):=
 (if x2 then some (x1,false) else(idx x1.cE w_).bind λx3=>(if !x3.On then rM w_ x1 true else(if x3.gL then rM w_ x1 true else rM w_ x1 (x3.aK == e_))))
def PH(c:aC)(w_ e_:Int):Option (aC×Bool):=
 (lN c).bind λx1=>(pA c).bind λx6=>(if !x6 then FN w_ e_ x1 true else(gX w_).bind λx7=>FN w_ e_ x1 (!x7))
def FO(x1:aC)(x2:Bool):Option (aC×Bool):=
 (if x2 then some (x1,false) else some ((⟨bE (x1.aK+1),x1.cE⟩:aC),true))
def ZD(c:aC)(e_:Int):Option (aC×Bool):=
 (lN c).bind λx1=>(pA c).bind λx3=>(if !x3 then FO x1 true else(if c.aK != e_ then FO x1 true else FO x1 (c.aK == 100000)))
def l6(s:Sub)(b:aA)(x4:aC×Bool)(x5:Int):Option (Sub×aA):=
 (bJ ({s with Out:=x5}:Sub) 0).bind λx6=>some (x6,({b with aC:=x4.1}:aA))
def l9(s:Sub)(b:aA)(x1:Bool):Option (Sub×aA):=
 (if x1 then(PH b.aC s.B s.E).bind λx2=>(if !x2.2 then(bJ s 8).bind λx3=>some (x3,({b with aC:=x2.1}:aA)) else(if(bE (s.B+1)) == 3 then some (({s with Pc:=2,B:=bE (s.B+1)}:Sub),({b with aC:=x2.1}:aA)) else some (({s with B:=bE (s.B+1)}:Sub),({b with aC:=x2.1}:aA)))) else(if s.Pc == 2 then(ZD b.aC s.E).bind λx4=>(if x4.2 then l6 s b x4 1 else l6 s b x4 s.Out) else(bJ s 1).bind λx7=>some (x7,b)))
def pC(s:Sub)(b:aA):Option (Sub×aA):=
 (if s.Pc == 0 then some (({s with Pc:=1,E:=b.aC.aK,B:=0}:Sub),b) else(if s.Pc == 1 then(gX s.B).bind λx8=>l9 s b x8 else l9 s b false))
def NC(x3 x5:List Int):Option (Heap×Bool):=
 some ((⟨x5,x3⟩:Heap),true)
def FP(slot gen x1:Int)(x2 x3:List Int)(x4:Bool):Option (Heap×Bool):=
 (if x4 then some ((⟨x2,x3⟩:Heap),false) else(xE slot x1).bind λx6=>(mD gen 4).bind λx7=>(mY x2 x6 x7).bind λx8=>NC x3 x8)
def ND(slot gen x1:Int)(x2 x3:List Int):Option (Heap×Bool):=
 (if decide (x1<0) then FP slot gen x1 x2 x3 true else(bN gen 1 7).bind λx9=>FP slot gen x1 x2 x3 (!x9))
def XH(h:Heap)(slot gen:Int):Option (Heap×Bool):=
 (vK h).bind λx10=>(FD h slot).bind λx11=>ND slot gen x11 x10.Bytes x10.Class
def y5(c slot:Int)(x1:aD)(x2:Int)(x3:Bool):Option (aD×Bool):=
 (if x3 then some (x1,false) else(idx x1.Own x2).bind λx4=>(if decide (2<=(x4.aV.length:Int)) then(idx x1.Global c).bind λx5=>need (x5.aV.length+([slot]).length<=1073741824) (some ((⟨x1.Global.set c.toNat (⟨x5.aV++([slot])⟩:bB),x1.Own⟩:aD),true)) else need (x4.aV.length+([slot]).length<=1073741824) (some ((⟨x1.Global,x1.Own.set x2.toNat (⟨x4.aV++([slot])⟩:bB)⟩:aD),true))))
def aE9(l:aD)(w_ c slot:Int):Option (aD×Bool):=
 (i7 l).bind λx1=>(M9 w_ c).bind λx2=>(o9 l).bind λx6=>(if !x6 then y5 c slot x1 x2 true else(if decide (x2<0) then y5 c slot x1 x2 true else(sK slot).bind λx7=>(if !x7 then y5 c slot x1 x2 true else(JV l slot).bind λx8=>y5 c slot x1 x2 x8)))
def QI(x3:Mem):Option Mem:=
 some x3
def QJ(m:Mem)(w_ h:Int)(x2:Mem):Option Mem:=
 (if decide ((bE ((bE (Int.tdiv h 32))+1))<=6) then(lI m.Heap (Int.tmod h 32)).bind λx4=>(aE9 m.aD w_ x4 (Int.tmod h 32)).bind λx5=>QI (⟨x2.Heap,x5.1⟩:Mem) else QI x2)
def NF(m:Mem)(w_ h:Int):Option Mem:=
 (XH m.Heap (Int.tmod h 32) (bE ((bE (Int.tdiv h 32))+1))).bind λx1=>(i7 m.aD).bind λx6=>QJ m w_ h (⟨x1.1,x6⟩:Mem)
def FQ(x1:Bool):Option Bool:=
 some x1
def JY(l:List bT)(w_ i:Int):Option Bool:=
 (gX w_).bind λx2=>(if x2 then(idx l w_).bind λx3=>(bN i 0 (bE ((x3.Rows.length:Int)-1))).bind λx4=>FQ x4 else FQ false)
def L6(x1:Bool):Option Bool:=
 some x1
def SD(r_:eN)(e_:Int):Option Bool:=
 (if decide (2<=e_) then L6 (decide (r_.aK<=(bE (e_-2)))) else L6 false)
def JZ(s:Sub)(b:aA):Option (Sub×aA):=
 (bJ s 0).bind λx3=>some (x3,b)
def fK(s:Sub)(b:aA)(w_:Int):Int->Option (Step Int (Out Unit (Sub×aA)))
 |x2=>(idx b.aQ w_).bind λx4=>(if decide (x2<(x4.Rows.length:Int)) then(idx x4.Rows x2).bind λx5=>(SD x5 s.E).bind λx6=>(if x6 then some (.stop (Out.ret (({s with Pc:=2,Row:=x2,B:=0,H:=x5.Handle}:Sub),b))) else some (.next (bE (x2+1)))) else some (.stop (Out.brk ())))
def XI(s:Sub)(b:aA):(Out Unit (Sub×aA))->Option (Sub×aA)
 |.brk ()=>JZ s b
 |.ret r=>some r
def pD(s:Sub)(b:aA)(w_:Int):Option (Sub×aA):=
 (loop (fK s b w_) (if s.Row<0 then 0 else s.Row)).bind (XI s b)
def C5(s:List eN)(i j:Int):Option (List eN):=
 need (0<=(i:Int)/\(i:Int)<=(j:Int)/\(j:Int)<=((s.length:Int):Int)/\((s.length:Int):Int)<=(s.length:Int)) ((if i == j then some s else need (0<=(i:Int)/\(i:Int)<=(s.length:Int)) (need (0<=(j:Int)/\(j:Int)<=(s.length:Int)) (need (i.toNat<=j.toNat) (need (0<=(((((cR s i.toNat (s.drop j.toNat)).take (i.toNat+(s.length-j.toNat))).drop 0).length:Int):Int)/\(((((cR s i.toNat (s.drop j.toNat)).take (i.toNat+(s.length-j.toNat))).drop 0).length:Int):Int)<=((s.length:Int):Int)/\((s.length:Int):Int)<=((cR s i.toNat (s.drop j.toNat)).length:Int)) (some (((cR s i.toNat (s.drop j.toNat)).take (i.toNat+(s.length-j.toNat))).drop 0)))))))
def B7(w_ i:Int)(x1:(List bT))(x2:Bool):Option ((List bT)×Bool):=
 (if x2 then some (x1,false) else(idx x1 w_).bind λx3=>(C5 x3.Rows i (bE (i+1))).bind λx4=>some (x1.set w_.toNat (⟨x4⟩:bT),true))
def L7(l:List bT)(w_ i:Int):Option ((List bT)×Bool):=
 (lO l).bind λx1=>(sV l).bind λx5=>(if !x5 then B7 w_ i x1 true else(JY l w_ i).bind λx6=>B7 w_ i x1 (!x6))
def dO(s:Sub)(b:aA)(w_:Int)(x5:Bool):Option (Sub×aA):=
 (if x5 then(L7 b.aQ w_ s.Row).bind λx6=>(NF b.Mem w_ s.H).bind λx7=>some (({s with Pc:=1,Out:=bE (s.Out+1)}:Sub),({b with Mem:=x7,aQ:=x6.1}:aA)) else(bJ s 1).bind λx8=>some (x8,b))
def eX(s:Sub)(b:aA)(w_:Int)(x1 x3:Bool):Option (Sub×aA):=
 (if x3 then(idx b.qJ s.B).bind λx4=>(if x4 == s.H then some (({s with Pc:=1,Row:=bE (s.Row+1)}:Sub),b) else(if(bE (s.B+1)) == 3 then some (({s with Pc:=3,B:=bE (s.B+1)}:Sub),b) else some (({s with B:=bE (s.B+1)}:Sub),b))) else(if s.Pc == 3 then(if x1 then(idx b.aQ w_).bind λx9=>(idx x9.Rows s.Row).bind λx10=>(SD x10 s.E).bind λx11=>dO s b w_ x11 else dO s b w_ false) else dO s b w_ false))
def gD(s:Sub)(b:aA)(w_:Int)(x1:Bool):Option (Sub×aA):=
 (if s.Pc == 0 then some (({s with Pc:=1,E:=b.aC.aK,Row:=0}:Sub),b) else(if s.Pc == 1 then(pD s b w_).bind λx2=>some (x2.1,x2.2) else(if s.Pc == 2 then(gX s.B).bind λx12=>(if x12 then eX s b w_ x1 x1 else eX s b w_ x1 false) else eX s b w_ x1 false)))
def pE(s:Sub)(b:aA)(w_:Int):Option (Sub×aA):=
 (JY b.aQ w_ s.Row).bind λx13=>(if x13 then(idx b.aQ w_).bind λx14=>(idx x14.Rows s.Row).bind λx15=>gD s b w_ (x15.Handle == s.H) else gD s b w_ false)
def A2(w_ e_:Int)(x1:aC)(x2:Bool):Option (aC×Bool):=
 (if x2 then some (x1,false) else(idx x1.cE w_).bind λx3=>some ((⟨x1.aK,x1.cE.set w_.toNat (⟨true,e_,false,0⟩:wB)⟩:aC),true))
def TZ(c:aC)(w_ e_:Int):Option (aC×Bool):=
 (lN c).bind λx1=>(pA c).bind λx4=>(if !x4 then A2 w_ e_ x1 true else(gX w_).bind λx5=>(if !x5 then A2 w_ e_ x1 true else(bN e_ 0 c.aK).bind λx6=>A2 w_ e_ x1 (!x6)))
def z8(s:Sub)(b:aA)(x1:Bool)(x2:Int)(x3:List wB):Option (Sub×aA):=
 (if !x1 then(bJ s 1).bind λx4=>some (x4,b) else some (({s with Pc:=2}:Sub),({b with aC:=(⟨x2,x3⟩:aC)}:aA)))
def y6(s:Sub)(b:aA)(w_:Int):Option (Sub×aA):=
 (if s.Pc == 0 then some (({s with Pc:=1,E:=b.aC.aK}:Sub),b) else(if s.Pc == 1 then(TZ b.aC w_ s.E).bind λx5=>z8 s b x5.2 x5.1.aK x5.1.cE else(if s.Pc == 2 then(if b.aC.aK == s.E then(bJ s 0).bind λx6=>some (x6,b) else some (({s with Pc:=0}:Sub),b)) else(bJ s 1).bind λx7=>some (x7,b))))
def qC(s:Sub)(b:aA)(w_:Int):Option (Sub×aA):=
 (if s.gU then some (s,b) else(if s.Kind == 1 then(tE s b w_).bind λx1=>some (x1.1,x1.2) else(if s.Kind == 2 then(qP s b w_).bind λx2=>some (x2.1,x2.2) else(if s.Kind == 3 then(pC s b).bind λx3=>some (x3.1,x3.2) else(if s.Kind == 4 then(pE s b w_).bind λx4=>some (x4.1,x4.2) else(if s.Kind == 5 then(y6 s b w_).bind λx5=>some (x5.1,x5.2) else(bJ s 1).bind λx6=>some (x6,b)))))))
def tF(t:Table)(w_:Int):Option Table:=
 (idx t.aR w_).bind λx1=>(qC x1.Sub t.aA w_).bind λx2=>(if !x2.1.gU then some ({t with aA:=x2.2,aR:=t.aR.set w_.toNat ({x1 with Sub:=x2.1}:aI)}:Table) else(if x1.Pc == 0 then some ({t with aA:=x2.2,aR:=t.aR.set w_.toNat ({x1 with Pc:=1,Sub:=x2.1}:aI)}:Table) else(if x1.Pc == 20 then(lP 4 0).bind λx3=>some ({t with aA:=x2.2,aR:=t.aR.set w_.toNat ({x1 with Pc:=21,Sub:=x3}:aI)}:Table) else some ({t with aA:=x2.2,aR:=t.aR.set w_.toNat ({x1 with Pc:=19,Sub:=x2.1}:aI)}:Table))))
def pG(j:aI):Option (iB×Bool×aI):=
 (bN j.At 0 (bE ((j.Batch.bM.length:Int)-1))).bind λx1=>(if !x1 then some ((⟨0,0,0⟩:iB),false,j) else(idx j.Batch.bM j.At).bind λx2=>some (x2,true,j))
def cJ(j:aI)(code:Int):Option aI:=
 some ({j with Pc:=16,Code:=code}:aI)
def OJ:Option Int:=
 some (-1)
def nZ(s:List aT)(f:(aT->Option Bool)):Int->Option (Step Int (Out Unit Int))
 |x2=>(if decide (x2<(s.length:Int)) then(idx s x2).bind λx3=>(f x3).bind λx4=>(if x4 then some (.stop (Out.ret x2)) else some (.next (bE (x2+1)))) else some (.stop (Out.brk ())))
def OK:(Out Unit Int)->Option Int
 |.brk ()=>OJ
 |.ret r=>some r
def cT(s:List aT)(f:(aT->Option Bool)):Option Int:=
 (loop (nZ s f) 0).bind (OK)
def xN(x8:List aT)(x9:Int):Option (List aT):=
 need (0<=(x9:Int)/\(x9:Int)<=(x8.length:Int)) (need (0<=(x9:Int)/\(x9:Int)<=((cR x8 x9.toNat (List.replicate (x8.length-x9.toNat) (⟨0,false,0⟩:aT))).length:Int)) (some (((cR x8 x9.toNat (List.replicate (x8.length-x9.toNat) (⟨0,false,0⟩:aT))).take x9.toNat).drop 0)))
def iI(x7:Int)(x10:List aT)(x11:Int):Option (Step ((List aT)×Int×Int) ((List aT)×Int)):=
 some (.next (x10,x11,bE (x7+1)))
def j7(del:(aT->Option Bool)):((List aT)×Int×Int)->Option (Step ((List aT)×Int×Int) ((List aT)×Int))
 |(x5,x6,x7)=>(if decide (x7<(x5.length:Int)) then(idx x5 x7).bind λx12=>(del x12).bind λx13=>(if !x13 then(idx x5 x6).bind λx14=>iI x7 (x5.set x6.toNat x12) (bE (x6+1)) else iI x7 x5 x6) else some (.stop ((x5,x6))))
def xO:((List aT)×Int)->Option (List aT)
 |(x8,x9)=>xN x8 x9
def jS(s:List aT)(del:(aT->Option Bool)):Option (List aT):=
 (cT s del).bind λx1=>(if x1 == (-1) then some s else(loop (j7 del) (s,x1,bE (x1+1))).bind (xO))
def KR(x k0:aT):Option Bool:=
 some (x.Key == k0.Key)
def B8(x k0:aT):Option Bool:=
 some (decide (k0.Key<x.Key))
def qQ(s:List aT)(i:Int)(v:List aT):Option (List aT):=
 need (0<=i/\i<=(s.length:Int)/\s.length+v.length<=1073741824) (some (s.take i.toNat++v++s.drop i.toNat))
def rN(w_:aT)(x2:(List aT))(x4:Int):Option (List aT):=
 (qQ x2 x4 ([w_])).bind λx5=>some x5
def I7(l:List aT)(w_:aT):Option (List aT):=
 (nD l).bind λx1=>(jS x1 (λy0=>KR y0 w_)).bind λx2=>(cT x2 (λy0=>B8 y0 w_)).bind λx3=>(if decide (x3<0) then rN w_ x2 (x2.length:Int) else rN w_ x2 x3)
def rO(j:aI)(x:aT):Option (Bool×aI):=
 (I7 j.aH x).bind λx1=>(if decide (6<(x1.length:Int)) then(cJ j 1).bind λx2=>some (false,x2) else some (true,({j with aH:=x1}:aI)))
def FR(x:aT)(k0:Int):Option Bool:=
 some (x.Key == k0)
def L8(l:List aT)(key:Int):Option (aT×Bool):=
 (cT l (λy0=>FR y0 key)).bind λx1=>(if decide (x1<0) then some ((⟨0,false,0⟩:aT),false) else(idx l x1).bind λx2=>some (x2,true))
def NG(a_ b:Int):Option Int:=
 some (Int.tmod (bE (a_+b)) 65536)
def qR(x5:aI):Option aI:=
 some ({x5 with Pc:=1,At:=bE (x5.At+1)}:aI)
def mH(x2:aI)(x3:Bool)(x4:Int):Option aI:=
 need (x2.fV.length+([(⟨x3,x4⟩:fV)]).length<=1073741824)<|qR ({x2 with fV:=x2.fV++([(⟨x3,x4⟩:fV)])}:aI)
def mI(j:aI)(c:iB)(is:Bool)(x1:Int):Option aI:=
 (if c.Kind == 4 then(NG x1 c.dM).bind λx6=>(rO j (⟨c.Key,false,x6⟩:aT)).bind λx7=>(if !x7.1 then some x7.2 else mH x7.2 true x6) else mH j is x1)
def rP(j:aI)(c:iB)(val:Int)(is:Bool):Option aI:=
 (if !is then mI j c is 0 else mI j c is val)
def H0(key:Int):Option Int:=
 (bN key 0 99).bind λx1=>(if !x1 then some (-1) else some (Int.tmod key 2))
def FT(x1:iB×Bool×aI)(x6:Bool)(x7:aI)(x8:Int)(x9:Bool)(x10:Int):Option aI:=
 (if x6 then(rP x7 x1.1 x10 (!x9)).bind λx11=>some x11 else(H0 x1.1.Key).bind λx12=>some ({x7 with Pc:=2,bX:=x12}:aI))
def j8(x1:iB×Bool×aI)(x3:Bool)(x4:aI):Option aI:=
 (if x3 then(rO x4 (⟨x1.1.Key,x1.1.Kind == 3,x1.1.dM⟩:aT)).bind λx5=>(if x5.1 then need (x5.2.fV.length+([(⟨false,0⟩:fV)]).length<=1073741824) (some (⟨x5.2.bU,x5.2.Batch,x5.2.aG,x5.2.Pc,bE (x5.2.At+1),x5.2.K,x5.2.bX,x5.2.eJ,x5.2.H,x5.2.gO,x5.2.Node,x5.2.Found,x5.2.Code,x5.2.Sub,x5.2.Reads,x5.2.aH,x5.2.fV++([(⟨false,0⟩:fV)]),x5.2.gK,x5.2.bG,x5.2.b9⟩:aI)) else some x5.2) else(L8 x4.aH x1.1.Key).bind λx13=>FT x1 x13.2 x4 x13.1.Key x13.1.HC x13.1.dM)
def FU(j:aI):Option aI:=
 (pG j).bind λx1=>(if !x1.2.1 then(lP 1 16).bind λx2=>some (⟨x1.2.2.bU,x1.2.2.Batch,x1.2.2.aG,6,x1.2.2.At,0,x1.2.2.bX,x1.2.2.eJ,x1.2.2.H,x1.2.2.gO,x1.2.2.Node,x1.2.2.Found,x1.2.2.Code,x2,x1.2.2.Reads,x1.2.2.aH,x1.2.2.fV,x1.2.2.gK,x1.2.2.bG,x1.2.2.b9⟩:aI) else(if x1.1.Kind == 2 then j8 x1 true x1.2.2 else j8 x1 (x1.1.Kind == 3) x1.2.2))
def L9(slot c:Int):Option Int:=
 (xE slot c).bind λx1=>(if decide (x1<0) then some (-1) else some (bE (x1+4)))
def y7(h:Heap)(slot:Int):Option Int:=
 (lI h slot).bind λx1=>(L9 slot x1).bind λx2=>some x2
def pH(h:Heap)(slot:Int):Option gN:=
 (y7 h slot).bind λx1=>(o7 h.Bytes x1 2).bind λx2=>(o7 h.Bytes (bE (x1+2)) 4).bind λx3=>(o7 h.Bytes (bE (x1+6)) 4).bind λx4=>some (⟨x2,x3,x4⟩:gN)
def FV(h:Heap)(slot:Int):Option Bool:=
 (lI h slot).bind λx1=>(DS x1).bind λx2=>some (decide (10<=x2))
def FW(m:Mem)(h:Int)(x1:Bool):Option (gN×Int):=
 (if x1 then some ((⟨0,0,0⟩:gN),4) else(FV m.Heap (Int.tmod h 32)).bind λx2=>(if !x2 then some ((⟨0,0,0⟩:gN),2) else(pH m.Heap (Int.tmod h 32)).bind λx3=>some (x3,0)))
def J0(m:Mem)(h:Int):Option (gN×Int):=
 (iP h).bind λx4=>(if !x4 then FW m h true else(lI m.Heap (Int.tmod h 32)).bind λx5=>FW m h (decide (x5<0)))
def nR(x1:Bool):Option Bool:=
 some x1
def C6(p:wB):Option Bool:=
 (if p.On then nR (!p.gL) else nR false)
def g8(n:gN):Option Int:=
 (iP n.Next).bind λx1=>(if !x1 then some 0 else some n.Next)
def FX(s:Seen)(k0:Int):Option Bool:=
 some (s.bX == k0)
def MA(l:List Seen)(b v:Int):Option ((List Seen)×Bool):=
 (o6 l).bind λx1=>(eT l (λy0=>FX y0 b)).bind λx2=>(if decide (x2<0) then need (x1.length+([(⟨b,v⟩:Seen)]).length<=1073741824) (some (x1++([(⟨b,v⟩:Seen)]),true)) else(idx l x2).bind λx3=>some (x1,x3.eJ == v))
def tG(t:Table)(w_:Int)(x13:List aI)(x14:Bool):Option Table:=
 (if x14 then(idx x13 w_).bind λx15=>some ({t with aR:=x13.set w_.toNat ({x15 with Pc:=5}:aI)}:Table) else some ({t with aR:=x13}:Table))
def C7(t:Table)(w_:Int)(x13:List aI):Option Table:=
 (idx x13 w_).bind λx16=>(if x16.Found then tG t w_ x13 true else tG t w_ x13 (x16.H == 0))
def NH(t:Table)(x26:List aI):Option Table:=
 some ({t with aR:=x26}:Table)
def C8(t:Table)(w_:Int)(x6:iB×Bool×aI)(x21:List Seen)(x22:Bool):Option Table:=
 (idx (t.aR.set w_.toNat x6.2.2) w_).bind λx23=>(if !x22 then(cJ ({x23 with Reads:=x21}:aI) 7).bind λx24=>some ({t with aR:=(t.aR.set w_.toNat x6.2.2).set w_.toNat x24}:Table) else(if !x6.2.1 then(cJ ({x23 with Reads:=x21}:aI) 1).bind λx25=>some ({t with aR:=(t.aR.set w_.toNat x6.2.2).set w_.toNat x25}:Table) else(rP ({x23 with Reads:=x21}:aI) x6.1 x23.Node.dM x23.Found).bind λx27=>NH t ((t.aR.set w_.toNat x6.2.2).set w_.toNat x27)))
def jI(t:Table)(w_:Int)(x6:iB×Bool×aI)(x18:Bool):Option Table:=
 (if x18 then(idx (t.aR.set w_.toNat x6.2.2) w_).bind λx19=>(cJ x19 7).bind λx20=>some ({t with aR:=(t.aR.set w_.toNat x6.2.2).set w_.toNat x20}:Table) else(idx (t.aR.set w_.toNat x6.2.2) w_).bind λx28=>(MA x28.Reads x28.bX x28.eJ).bind λx29=>C8 t w_ x6 x29.1 x29.2)
def C9(t:Table)(w_ x2 x3 x4:Int):Option Table:=
 (idx t.aR w_).bind λx5=>(pG x5).bind λx6=>(if x6.2.2.Pc == 2 then(if x4 != 0 then(cJ x6.2.2 7).bind λx7=>some ({t with aR:=t.aR.set w_.toNat x7}:Table) else(if x2 == 0 then some ({t with aR:=t.aR.set w_.toNat (⟨x6.2.2.bU,x6.2.2.Batch,x6.2.2.aG,5,x6.2.2.At,x6.2.2.K,x6.2.2.bX,x3,x2,x6.2.2.gO,(⟨0,0,0⟩:gN),false,x6.2.2.Code,x6.2.2.Sub,x6.2.2.Reads,x6.2.2.aH,x6.2.2.fV,x6.2.2.gK,x6.2.2.bG,x6.2.2.b9⟩:aI)}:Table) else some ({t with aR:=t.aR.set w_.toNat (⟨x6.2.2.bU,x6.2.2.Batch,x6.2.2.aG,3,x6.2.2.At,x6.2.2.K,x6.2.2.bX,x3,x2,x6.2.2.gO,(⟨0,0,0⟩:gN),false,x6.2.2.Code,x6.2.2.Sub,x6.2.2.Reads,x6.2.2.aH,x6.2.2.fV,x6.2.2.gK,x6.2.2.bG,x6.2.2.b9⟩:aI)}:Table))) else(if x6.2.2.Pc == 3 then(J0 t.aA.Mem x6.2.2.H).bind λx8=>some ({t with aR:=t.aR.set w_.toNat (⟨x6.2.2.bU,x6.2.2.Batch,x6.2.2.aG,4,x6.2.2.At,x6.2.2.K,x6.2.2.bX,x6.2.2.eJ,x6.2.2.H,x6.2.2.gO,x8.1,x6.2.2.Found,x6.2.2.Code,x6.2.2.Sub,x6.2.2.Reads,x6.2.2.aH,x6.2.2.fV,x6.2.2.gK,x6.2.2.bG,x6.2.2.b9⟩:aI)}:Table) else(if x6.2.2.Pc == 4 then(idx t.aA.aC.cE w_).bind λx9=>(C6 x9).bind λx10=>(if !x10 then(cJ x6.2.2 6).bind λx11=>some ({t with aR:=t.aR.set w_.toNat x11}:Table) else(if !x6.2.1 then(cJ x6.2.2 1).bind λx12=>some ({t with aR:=t.aR.set w_.toNat x12}:Table) else(g8 x6.2.2.Node).bind λx17=>C7 t w_ (t.aR.set w_.toNat (⟨x6.2.2.bU,x6.2.2.Batch,x6.2.2.aG,3,x6.2.2.At,x6.2.2.K,x6.2.2.bX,x6.2.2.eJ,x17,x6.2.2.gO,x6.2.2.Node,x6.2.2.Node.Key == x6.1.Key,x6.2.2.Code,x6.2.2.Sub,x6.2.2.Reads,x6.2.2.aH,x6.2.2.fV,x6.2.2.gK,x6.2.2.bG,x6.2.2.b9⟩:aI)))) else(if x4 != 0 then jI t w_ x6 true else jI t w_ x6 (x3 != x6.2.2.eJ)))))
def B9(t:Table)(w_:Int):Option Table:=
 (idx t.aR w_).bind λx1=>(idx t.aS x1.bX).bind λx30=>C9 t w_ x30.Head x30.eJ x30.eI
def aR0(x5:Int):Option Int:=
 some x5
def FY(x4 x6:Int):Option (Step (Int×Int) Int):=
 some (.next (x6,bE (x4+1)))
def T0(l:List aT)(n:Int):(Int×Int)->Option (Step (Int×Int) Int)
 |(x3,x4)=>(if decide (x4<(((l.take ((if(if(l.length:Int)<n then(l.length:Int) else n)<0 then 0 else(if(l.length:Int)<n then(l.length:Int) else n)).toNat)).drop 0).length:Int)) then(idx ((l.take ((if(if(l.length:Int)<n then(l.length:Int) else n)<0 then 0 else(if(l.length:Int)<n then(l.length:Int) else n)).toNat)).drop 0) x4).bind λx7=>(if !x7.HC then FY x4 (bE (x3+1)) else FY x4 x3) else some (.stop (x3)))
def aR1:Int->Option Int
 |x5=>aR0 x5
def SF(l:List aT)(n:Int):Option Int:=
 need (0<=(if(if(l.length:Int)<n then(l.length:Int) else n)<0 then 0 else(if(l.length:Int)<n then(l.length:Int) else n):Int)/\(if(if(l.length:Int)<n then(l.length:Int) else n)<0 then 0 else(if(l.length:Int)<n then(l.length:Int) else n):Int)<=(l.length:Int)) ((loop (T0 l n) (0,0)).bind (aR1))
def AA(x11:Table):Option Table:=
 some x11
def AB(w_:Int)(x10:Table):Option Table:=
 (idx x10.aR w_).bind λx12=>(lP 1 16).bind λx13=>AA ({x10 with aR:=x10.aR.set w_.toNat ({x12 with K:=bE (x12.K+1),Sub:=x13}:aI)}:Table)
def g9(w_:Int)(x6:Bool)(x7:Table):Option Table:=
 (if x6 then(idx x7.aR w_).bind λx8=>(cJ x8 x8.Sub.Code).bind λx9=>some ({x7 with aR:=x7.aR.set w_.toNat x9}:Table) else(idx x7.aR w_).bind λx14=>need (x14.gK.length+([x14.Sub.Out]).length<=1073741824)<|AB w_ ({x7 with aR:=x7.aR.set w_.toNat ({x14 with gK:=x14.gK++([x14.Sub.Out])}:aI)}:Table))
def AD(t:Table)(w_:Int)(x2:Bool):Option Table:=
 (if x2 then(idx t.aR w_).bind λx3=>some ({t with aR:=t.aR.set w_.toNat ({x3 with Pc:=7,K:=0}:aI)}:Table) else(idx t.aR w_).bind λx4=>(qC x4.Sub t.aA w_).bind λx5=>(if !x5.1.gU then some ({t with aA:=x5.2,aR:=t.aR.set w_.toNat ({x4 with Sub:=x5.1}:aI)}:Table) else(if x5.1.Code != 0 then g9 w_ true ({t with aA:=x5.2,aR:=t.aR.set w_.toNat ({x4 with Sub:=x5.1}:aI)}:Table) else(iP x5.1.Out).bind λx15=>(if !x15 then g9 w_ true ({t with aA:=x5.2,aR:=t.aR.set w_.toNat ({x4 with Sub:=x5.1}:aI)}:Table) else g9 w_ (decide (6<=(x4.gK.length:Int))) ({t with aA:=x5.2,aR:=t.aR.set w_.toNat ({x4 with Sub:=x5.1}:aI)}:Table)))))
def y8(t:Table)(w_:Int):Option Table:=
 (idx t.aR w_).bind λx1=>(SF x1.aH (x1.aH.length:Int)).bind λx16=>AD t w_ (decide (x16<=x1.K))
def cmp_isNaN_int(x:Int):Option Bool:=
 some (x != x)
def uS(x1:Bool):Option Bool:=
 some x1
def cmp_Less_int(x y:Int):Option Bool:=
 (cmp_isNaN_int x).bind λx2=>(if x2 then(cmp_isNaN_int y).bind λx3=>(if !x3 then uS true else uS (decide (x<y))) else uS (decide (x<y)))
def jJ(data x5:List Int):Option (List Int):=
 need (x5.length=data.length) (some x5)
def nG(data:List Int)(x4:Int)(x10:List Int):Option (Step ((List Int)×Int) (List Int)):=
 need (x10.length=data.length) (some (.next (x10,bE (x4+1))))
def jK(data:List Int)(x9:Int)(x12:List Int):Option (Step ((List Int)×Int) (List Int)):=
 need (x12.length=data.length) (some (.next (x12,bE (x9-1))))
def dR(data x8:List Int)(x9:Int)(x11:Bool):Option (Step ((List Int)×Int) (List Int)):=
 need (x8.length=data.length) ((if x11 then(idx x8 (bE (x9-1))).bind λx13=>(idx x8 x9).bind λx14=>(idx (x8.set x9.toNat x13) (bE (x9-1))).bind λx15=>jK data x9 ((x8.set x9.toNat x13).set ((bE (x9-1)).toNat) x14) else some (.stop (x8))))
def dS(data:List Int)(a_:Int):((List Int)×Int)->Option (Step ((List Int)×Int) (List Int))
 |(x8,x9)=>need (x8.length=data.length) ((if decide (a_<x9) then(idx x8 x9).bind λx16=>(idx x8 (bE (x9-1))).bind λx17=>(cmp_Less_int x16 x17).bind λx18=>dR data x8 x9 x18 else dR data x8 x9 false))
def nH(data:List Int)(x4:Int):(List Int)->Option (Step ((List Int)×Int) (List Int))
 |x10=>nG data x4 x10
def cY(data:List Int)(a_ b:Int):((List Int)×Int)->Option (Step ((List Int)×Int) (List Int))
 |(x3,x4)=>need (x3.length=data.length) ((if decide (x4<b) then(loop (dS data a_) (x3,x4)).bind (nH data x4) else some (.stop (x3))))
def jL(data:List Int):(List Int)->Option (List Int)
 |x5=>jJ data x5
def iE(data:List Int)(a_ b:Int):Option (List Int):=
 (loop (cY data a_ b) (data,bE (a_+1))).bind (jL data)
def uT(data:List Int)(a_ b limit:Int):Unit->Option (Step Unit (List Int))
 |()=>(if decide ((bE (b-a_))<=12) then(iE data a_ b).bind λx1=>some (.stop (x1)) else(if limit == 0 then none else none))
def KS:(List Int)->Option (List Int)
 |r=>some r
def oA(data:List Int)(a_ b limit:Int):Option (List Int):=
 (loop (uT data a_ b limit) ()).bind (KS)
def DA(x5 x6:Int):Option Int:=
 (idx ([0,1,2,2,3,3,3,3,4,4,4,4,4,4,4,4,5,5,5,5,5,5,5,5,5,5,5,5,5,5,5,5,6,6,6,6,6,6,6,6,6,6,6,6,6,6,6,6,6,6,6,6,6,6,6,6,6,6,6,6,6,6,6,6,7,7,7,7,7,7,7,7,7,7,7,7,7,7,7,7,7,7,7,7,7,7,7,7,7,7,7,7,7,7,7,7,7,7,7,7,7,7,7,7,7,7,7,7,7,7,7,7,7,7,7,7,7,7,7,7,7,7,7,7,7,7,7,7,8,8,8,8,8,8,8,8,8,8,8,8,8,8,8,8,8,8,8,8,8,8,8,8,8,8,8,8,8,8,8,8,8,8,8,8,8,8,8,8,8,8,8,8,8,8,8,8,8,8,8,8,8,8,8,8,8,8,8,8,8,8,8,8,8,8,8,8,8,8,8,8,8,8,8,8,8,8,8,8,8,8,8,8,8,8,8,8,8,8,8,8,8,8,8,8,8,8,8,8,8,8,8,8,8,8,8,8,8,8,8,8,8,8,8,8,8,8,8,8,8,8,8,8,8,8,8,8]:List UInt8) ((u8 x5).toNat:Int)).bind λx7=>some (bE (x6+(x7.toNat:Int)))
def DB(x3 x4:Int):Option Int:=
 (if decide (256<=x3) then DA (oX .u64 x3 8) (bE (x4+8)) else DA x3 x4)
def DC(x1 x2:Int):Option Int:=
 (if decide (65536<=x1) then DB (oX .u64 x1 16) (bE (x2+16)) else DB x1 x2)
def VR(x:Int):Option Int:=
 (if decide (4294967296<=x) then DC (oX .u64 x 32) 32 else DC x 0)
def A3(x:Int):Option Int:=
 (VR x).bind λx1=>some x1
def CA(x:List Int):Option (List Int):=
 (A3 (IntKind.u64.wrap (x.length:Int))).bind λx1=>(oA x 0 (x.length:Int) x1).bind λx2=>some x2
def KT(x5:List Int):Option (List Int):=
 (CA x5).bind λx6=>(slices_Compact_int x6).bind λx7=>some x7
def CB(x4:Int)(x8:List Int):Option (Step ((List Int)×Int) (List Int)):=
 some (.next (x8,bE (x4+1)))
def KU(l:List aT):((List Int)×Int)->Option (Step ((List Int)×Int) (List Int))
 |(x3,x4)=>(if decide (x4<(l.length:Int)) then(idx l x4).bind λx9=>(H0 x9.Key).bind λx10=>(if decide (0<=x10) then need (x3.length+([x10]).length<=1073741824) (CB x4 (x3++([x10]))) else CB x4 x3) else some (.stop (x3)))
def VT:(List Int)->Option (List Int)
 |x5=>KT x5
def MB(l:List aT):Option (List Int):=
 (loop (KU l) (([]:List Int),0)).bind (VT)
def pI(x1:Bool):Option Bool:=
 some x1
def wG(s:Seen)(k0:Int)(k1:bX):Option Bool:=
 (if s.bX == k0 then pI (s.eJ != k1.eJ) else pI false)
def tH(t:Table)(w_:Int)(x3:List bX)(x4:List aI)(x5:aI):Option Table:=
 (idx x4 w_).bind λx6=>some ({t with aS:=x3,aR:=x4.set w_.toNat ({x6 with Pc:=8,K:=0}:aI),Log:=t.Log++([(⟨2,w_,x5.aG,0,[],[]⟩:iD)])}:Table)
def nI(t:Table)(w_:Int)(x2:(List Int))(x3:List bX)(x4:List aI):Option Table:=
 (idx x4 w_).bind λx5=>(if decide ((x2.length:Int)<=x5.K) then need (t.Log.length+([(⟨2,w_,x5.aG,0,[],[]⟩:iD)]).length<=1073741824)<|tH t w_ x3 x4 x5 else some ({t with aS:=x3,aR:=x4}:Table))
def nJ(t:Table)(w_:Int)(x2:(List Int))(x7:Int)(x12:bX)(x15:List aI):Option Table:=
 (idx x15 w_).bind λx16=>nI t w_ x2 (t.aS.set x7.toNat ({x12 with eI:=bE (w_+1)}:bX)) (x15.set w_.toNat ({x16 with K:=bE (x16.K+1)}:aI))
def DD(t:Table)(w_:Int)(x2:(List Int))(x7:Int)(x12:bX)(x17:aI):Option Table:=
 nJ t w_ x2 x7 x12 (t.aR.set w_.toNat ({x17 with bG:=x17.bG++([x7])}:aI))
def iJ(t:Table)(w_:Int)(x2:(List Int))(x7:Int)(x9:Bool):Option Table:=
 (if x9 then(idx t.aR w_).bind λx10=>(cJ x10 7).bind λx11=>some ({t with aR:=t.aR.set w_.toNat x11}:Table) else(idx t.aS x7).bind λx12=>(if x12.eJ == 1000000 then(idx t.aR w_).bind λx13=>(cJ x13 3).bind λx14=>some ({t with aR:=t.aR.set w_.toNat x14}:Table) else(idx t.aR w_).bind λx17=>(g7 x17.bG x7).bind λx18=>(if !x18 then need (x17.bG.length+([x7]).length<=1073741824)<|DD t w_ x2 x7 x12 x17 else nJ t w_ x2 x7 x12 t.aR)))
def CC(t:Table)(w_:Int):Option Table:=
 (idx t.aR w_).bind λx1=>(MB x1.aH).bind λx2=>(if decide (x1.K<(x2.length:Int)) then(idx x2 x1.K).bind λx7=>(idx t.aS x7).bind λx8=>(if x8.eI != 0 then iJ t w_ x2 x7 true else(fQ x1.Reads (λy0=>wG y0 x7 x8)).bind λx19=>iJ t w_ x2 x7 x19) else nI t w_ x2 t.aS t.aR)
def fL(t:Table)(w_:Int)(x8:Bool):Option Table:=
 (if x8 then(idx t.aR w_).bind λx9=>(cJ x9 7).bind λx10=>some ({t with aR:=t.aR.set w_.toNat x10}:Table) else(idx t.aR w_).bind λx11=>some ({t with aR:=t.aR.set w_.toNat ({x11 with K:=bE (x11.K+1)}:aI)}:Table))
def tI(t:Table)(w_ x4 x5 x6 x7:Int):Option Table:=
 (if x7 != 0 then(if x7 != (bE (w_+1)) then fL t w_ true else fL t w_ (x6 != x4)) else fL t w_ (x6 != x4))
def tJ(t:Table)(w_ x3 x4:Int):Option Table:=
 (idx t.aS x3).bind λx12=>tI t w_ x4 x12.Head x12.eJ x12.eI
def tK(t:Table)(w_:Int)(x1:aI):Option Table:=
 (if decide ((x1.Reads.length:Int)<=x1.K) then(idx t.aR w_).bind λx2=>some ({t with aR:=t.aR.set w_.toNat ({x2 with Pc:=9,K:=0}:aI)}:Table) else(idx t.aR w_).bind λx13=>(idx x13.Reads x13.K).bind λx14=>tJ t w_ x14.bX x14.eJ)
def qS(t:Table)(w_:Int):Option Table:=
 (idx t.aR w_).bind λx1=>tK t w_ x1
def oK(j:aI)(x:aT):Option aI:=
 (if x.HC then some ({j with Pc:=9,K:=bE (j.K+1)}:aI) else some ({j with Pc:=12}:aI))
def vP(m:Mem)(h:Int):Option Int:=
 (xK m h).bind λx1=>(if !x1 then some 4 else(FV m.Heap (Int.tmod h 32)).bind λx2=>(if !x2 then some 2 else some 0))
def NI(x4:Int)(x5:Mem):Option (Mem×Int):=
 some (x5,x4)
def XJ(x4:Int)(x6:Mem):Option (Mem×Int):=
 NI x4 x6
def FZ(m:Mem)(h next_:Int)(x2:Bool)(x3:Mem):Option (Mem×Int):=
 (if x2 then some (x3,1) else(vP m h).bind λx4=>(if x4 == 0 then(y7 m.Heap (Int.tmod h 32)).bind λx7=>(mD next_ 4).bind λx8=>(mY x3.Heap.Bytes (bE (x7+6)) x8).bind λx9=>XJ x4 (⟨(⟨x9,x3.Heap.Class⟩:Heap),x3.aD⟩:Mem) else NI x4 x3))
def PI(m:Mem)(h next_:Int):Option (Mem×Int):=
 (o5 m).bind λx1=>(xF m).bind λx10=>(if !x10 then FZ m h next_ true x1 else(mX next_).bind λx11=>FZ m h next_ (!x11) x1)
def xP(x1:Bool):Option Bool:=
 some x1
def J1(n:gN):Option Bool:=
 (bN n.Key 0 99).bind λx2=>(if x2 then(bN n.dM 0 65535).bind λx3=>(if x3 then(mX n.Next).bind λx4=>xP x4 else xP false) else xP false)
def KW(x4:Int)(x5:Mem):Option (Mem×Int):=
 some (x5,x4)
def VU(x4:Int)(x6:Mem):Option (Mem×Int):=
 KW x4 x6
def CD(m:Mem)(h:Int)(n:gN)(x2:Bool)(x3:Mem):Option (Mem×Int):=
 (if x2 then some (x3,1) else(vP m h).bind λx4=>(if x4 == 0 then(y7 m.Heap (Int.tmod h 32)).bind λx7=>(mD n.Key 2).bind λx8=>(mD n.dM 4).bind λx9=>need (x8.length+x9.length<=9223372036854775807)<|(mD n.Next 4).bind λx10=>need ((x8++x9).length+x10.length<=9223372036854775807)<|(mY x3.Heap.Bytes x7 ((x8++x9)++x10)).bind λx11=>VU x4 (⟨(⟨x11,x3.Heap.Class⟩:Heap),x3.aD⟩:Mem) else KW x4 x3))
def MC(m:Mem)(h:Int)(n:gN):Option (Mem×Int):=
 (o5 m).bind λx1=>(xF m).bind λx12=>(if !x12 then CD m h n true x1 else(J1 n).bind λx13=>CD m h n (!x13) x1)
def DE(t:Table)(j:aI)(b:bX)(x3:Table):Option (Table×aI×bX):=
 some (({x3 with aS:=t.aS,aR:=t.aR}:Table),({j with Pc:=13}:aI),b)
def KY(t:Table)(j:aI)(x:aT)(b:bX):Option (Table×aI×bX):=
 (SF j.aH j.K).bind λx1=>(if decide ((j.gK.length:Int)<=x1) then(cJ j 1).bind λx2=>some (t,x2,b) else(if j.Pc == 12 then(idx j.gK x1).bind λx4=>(MC t.aA.Mem x4 ({x with Next:=b.Head}:gN)).bind λx5=>DE t j b ({t with aA:=(⟨x5.1,t.aA.aC,t.aA.aQ,t.aA.qJ⟩:aA)}:Table) else(idx j.gK x1).bind λx6=>some (t,({j with Pc:=9,K:=bE (j.K+1)}:aI),({b with Head:=x6}:bX))))
def AE(t:Table)(x13:List aI):Option Table:=
 some ({t with aR:=x13}:Table)
def mJ(w_ x3:Int)(x4:Bool)(x5:Int)(x16:Table):Option Table:=
 (idx x16.aR w_).bind λx17=>(oK x17 (⟨x3,x4,x5⟩:aT)).bind λx18=>some ({x16 with aR:=x16.aR.set w_.toNat x18}:Table)
def AF(w_ x3:Int)(x4:Bool)(x5:Int)(x21:Table):Option Table:=
 mJ w_ x3 x4 x5 x21
def qT(w_ x3:Int)(x4:Bool)(x5:Int)(x19:Bool)(x20:Table):Option Table:=
 (if x19 then(idx x20.aR w_).bind λx22=>need (x22.b9.length+([x22.H]).length<=1073741824)<|AF w_ x3 x4 x5 ({x20 with aR:=x20.aR.set w_.toNat ({x22 with b9:=x22.b9++([x22.H])}:aI)}:Table) else mJ w_ x3 x4 x5 x20)
def mK(w_ x3:Int)(x4:Bool)(x5:Int)(x15:Table):Option Table:=
 (idx x15.aR w_).bind λx23=>(iP x23.H).bind λx24=>(if x24 then qT w_ x3 x4 x5 (decide ((x23.b9.length:Int)<6)) x15 else qT w_ x3 x4 x5 false x15)
def AG(w_ x3:Int)(x4:Bool)(x5:Int)(x26:Table):Option Table:=
 mK w_ x3 x4 x5 x26
def AI(t:Table)(w_ x3:Int)(x4:Bool)(x5:Int):Option Table:=
 (H0 x3).bind λx6=>(idx t.aS x6).bind λx7=>(idx t.aR w_).bind λx8=>(if x8.Pc == 9 then(if x7.Head == 0 then(oK ({x8 with Pc:=10,H:=x7.Head,gO:=0}:aI) (⟨x3,x4,x5⟩:aT)).bind λx9=>some ({t with aR:=t.aR.set w_.toNat x9}:Table) else some ({t with aR:=t.aR.set w_.toNat ({x8 with Pc:=10,H:=x7.Head,gO:=0}:aI)}:Table)) else(if x8.Pc == 10 then(J0 t.aA.Mem x8.H).bind λx10=>(if x10.1.Key == x3 then some ({t with aR:=t.aR.set w_.toNat ({x8 with Pc:=11,Node:=x10.1}:aI)}:Table) else(g8 x10.1).bind λx11=>(if x11 == 0 then(oK ({x8 with Node:=x10.1}:aI) (⟨x3,x4,x5⟩:aT)).bind λx12=>some ({t with aR:=t.aR.set w_.toNat x12}:Table) else(g8 x10.1).bind λx14=>AE t (t.aR.set w_.toNat ({x8 with H:=x14,gO:=x8.H,Node:=x10.1}:aI)))) else(if x8.Pc == 11 then(if x8.gO == 0 then(g8 x8.Node).bind λx25=>mK w_ x3 x4 x5 ({t with aS:=t.aS.set x6.toNat ({x7 with Head:=x25}:bX)}:Table) else(g8 x8.Node).bind λx27=>(PI t.aA.Mem x8.gO x27).bind λx28=>AG w_ x3 x4 x5 ({t with aA:=(⟨x28.1,t.aA.aC,t.aA.aQ,t.aA.qJ⟩:aA)}:Table)) else(KY t x8 (⟨x3,x4,x5⟩:aT) x7).bind λx29=>some (⟨x29.1.aA,t.aS.set x6.toNat x29.2.2,t.aR.set w_.toNat x29.2.1,x29.1.eF,x29.1.Log,x29.1.aG⟩:Table))))
def AJ(t:Table)(w_:Int)(x1:aI):Option Table:=
 (if decide ((x1.aH.length:Int)<=x1.K) then(idx t.aR w_).bind λx2=>some ({t with aR:=t.aR.set w_.toNat ({x2 with Pc:=14}:aI)}:Table) else(idx t.aR w_).bind λx30=>(idx x30.aH x30.K).bind λx31=>AI t w_ x31.Key x31.HC x31.dM)
def y9(t:Table)(w_:Int):Option Table:=
 (idx t.aR w_).bind λx1=>AJ t w_ x1
def pJ(s:List Int)(i j:Int):Option (List Int):=
 need (0<=(i:Int)/\(i:Int)<=(j:Int)/\(j:Int)<=((s.length:Int):Int)/\((s.length:Int):Int)<=(s.length:Int)) ((if i == j then some s else need (0<=(i:Int)/\(i:Int)<=(s.length:Int)) (need (0<=(j:Int)/\(j:Int)<=(s.length:Int)) (need (i.toNat<=j.toNat) (need (0<=(((((cR s i.toNat (s.drop j.toNat)).take (i.toNat+(s.length-j.toNat))).drop 0).length:Int):Int)/\(((((cR s i.toNat (s.drop j.toNat)).take (i.toNat+(s.length-j.toNat))).drop 0).length:Int):Int)<=((s.length:Int):Int)/\((s.length:Int):Int)<=((cR s i.toNat (s.drop j.toNat)).length:Int)) (some (((cR s i.toNat (s.drop j.toNat)).take (i.toNat+(s.length-j.toNat))).drop 0)))))))
def rQ(x1:aI):Option aI:=
 some x1
def lR(j:aI):Option aI:=
 (if decide (j.K<(j.b9.length:Int)) then(idx j.b9 j.K).bind λx2=>(lP 2 x2).bind λx3=>rQ ({j with Sub:=x3}:aI) else some j)
def lS(t:Table)(w_:Int)(x4:List bX):Option Table:=
 (idx t.aR w_).bind λx5=>(pJ x5.bG 0 1).bind λx6=>some ({t with aS:=x4,aR:=t.aR.set w_.toNat ({x5 with bG:=x6}:aI)}:Table)
def wH(t:Table)(w_:Int):Option Table:=
 (idx t.aR w_).bind λx1=>(if decide (0<(x1.bG.length:Int)) then(idx x1.bG 0).bind λx2=>(idx t.aS x2).bind λx3=>(if x1.Pc == 14 then lS t w_ (t.aS.set x2.toNat (⟨x3.Head,if 1000000<(bE (x3.eJ+1)) then 1000000 else(bE (x3.eJ+1)),0⟩:bX)) else lS t w_ (t.aS.set x2.toNat ({x3 with eI:=0}:bX))) else(if x1.Pc == 16 then some ({t with aR:=t.aR.set w_.toNat ({x1 with Pc:=17}:aI)}:Table) else(lR ({x1 with Pc:=15,K:=0}:aI)).bind λx7=>some ({t with aR:=t.aR.set w_.toNat x7}:Table)))
def xQ(t:Table)(w_:Int)(x1:aI):Option Table:=
 (if decide ((x1.b9.length:Int)<=x1.K) then(idx t.aR w_).bind λx2=>some ({t with aR:=t.aR.set w_.toNat ({x2 with Pc:=18}:aI)}:Table) else(idx t.aR w_).bind λx3=>(qC x3.Sub t.aA w_).bind λx4=>(if x4.1.gU then(lR ({x3 with K:=bE (x3.K+1),Sub:=x4.1}:aI)).bind λx5=>some ({t with aA:=x4.2,aR:=t.aR.set w_.toNat x5}:Table) else some ({t with aA:=x4.2,aR:=t.aR.set w_.toNat ({x3 with Sub:=x4.1}:aI)}:Table)))
def wI(t:Table)(w_:Int):Option Table:=
 (idx t.aR w_).bind λx1=>xQ t w_ x1
def CE(m:Mem)(w_ h:Int)(x1:Bool):Option (Mem×Int):=
 (if x1 then(o5 m).bind λx2=>some (x2,1) else(xK m h).bind λx3=>(if !x3 then(o5 m).bind λx4=>some (x4,4) else(NF m w_ h).bind λx5=>some (x5,0)))
def MD(m:Mem)(w_ h:Int):Option (Mem×Int):=
 (xF m).bind λx6=>(if !x6 then CE m w_ h true else(gX w_).bind λx7=>CE m w_ h (!x7))
def CF(t:Table)(w_:Int):Option Table:=
 (idx t.aR w_).bind λx1=>(if(x1.gK.length:Int) == 0 then some ({t with aR:=t.aR.set w_.toNat ({x1 with Pc:=18}:aI)}:Table) else(idx x1.gK 0).bind λx2=>(pJ x1.gK 0 1).bind λx3=>(FM t.aA.aQ (Int.tmod x2 32)).bind λx4=>(if !x4 then(MD t.aA.Mem w_ x2).bind λx5=>some ({t with aA:=(⟨x5.1,t.aA.aC,t.aA.aQ,t.aA.qJ⟩:aA),aR:=t.aR.set w_.toNat ({x1 with gK:=x3}:aI)}:Table) else some ({t with aR:=t.aR.set w_.toNat ({x1 with gK:=x3}:aI)}:Table)))
def A4(w_:Int)(x1:aC)(x2:Bool):Option (aC×Bool):=
 (if x2 then some (x1,false) else(idx x1.cE w_).bind λx3=>some ((⟨x1.aK,x1.cE.set w_.toNat (⟨false,0,false,0⟩:wB)⟩:aC),true))
def T1(c:aC)(w_:Int):Option (aC×Bool):=
 (lN c).bind λx1=>(pA c).bind λx4=>(if !x4 then A4 w_ x1 true else(gX w_).bind λx5=>(if !x5 then A4 w_ x1 true else(idx c.cE w_).bind λx6=>A4 w_ x1 (!x6.On)))
def CG(b:aA)(w_:Int):Option (Bool×aA):=
 (T1 b.aC w_).bind λx1=>some (x1.2,({b with aC:=x1.1}:aA))
def HJ(t:Table)(w_:Int)(x1:aI):Option Table:=
 some ({t with aR:=t.aR.set w_.toNat (⟨false,(⟨false,[]⟩:Batch),0,0,0,0,0,0,0,0,(⟨0,0,0⟩:gN),false,0,(⟨0,0,0,0,0,0,0,0,0,false⟩:Sub),[],[],[],[],[],[]⟩:aI),Log:=t.Log++([({x1 with Kind:=3,Who:=w_,bM:=[]}:iD)])}:Table)
def HK(t:Table)(w_:Int)(x1:aI):Option Table:=
 some ({t with aR:=t.aR.set w_.toNat (⟨false,(⟨false,[]⟩:Batch),0,0,0,0,0,0,0,0,(⟨0,0,0⟩:gN),false,0,(⟨0,0,0,0,0,0,0,0,0,false⟩:Sub),[],[],[],[],[],[]⟩:aI),Log:=t.Log++([(⟨3,w_,x1.aG,x1.Code,[],[]⟩:iD)])}:Table)
def tL(t:Table)(w_:Int):Option Table:=
 (idx t.aR w_).bind λx1=>(if x1.Code == 0 then need (t.Log.length+([({x1 with Kind:=3,Who:=w_,bM:=[]}:iD)]).length<=1073741824)<|HJ t w_ x1 else need (t.Log.length+([(⟨3,w_,x1.aG,x1.Code,[],[]⟩:iD)]).length<=1073741824)<|HK t w_ x1)
def lC(t:Table)(w_:Int)(x1:aI)(x14:Bool):Option Table:=
 (if x14 then(wH t w_).bind λx15=>some x15 else(if x1.Pc == 15 then(wI t w_).bind λx16=>some x16 else(if x1.Pc == 17 then(CF t w_).bind λx17=>some x17 else(if x1.Pc == 18 then(CG t.aA w_).bind λx18=>(idx t.aR w_).bind λx19=>some ({t with aA:=x18.2,aR:=t.aR.set w_.toNat ({x19 with Pc:=19}:aI)}:Table) else(if x1.Pc == 19 then(tL t w_).bind λx20=>some x20 else(idx t.aR w_).bind λx21=>(cJ x21 1).bind λx22=>some ({t with aR:=t.aR.set w_.toNat x22}:Table))))))
def jM(t:Table)(w_:Int)(x1:aI)(x3:Bool):Option Table:=
 (if x3 then(tF t w_).bind λx4=>some x4 else(if x1.Pc == 1 then(idx t.aR w_).bind λx5=>(FU x5).bind λx6=>some ({t with aR:=t.aR.set w_.toNat x6}:Table) else(bN x1.Pc 2 5).bind λx7=>(if x7 then(B9 t w_).bind λx8=>some x8 else(if x1.Pc == 6 then(y8 t w_).bind λx9=>some x9 else(if x1.Pc == 7 then(CC t w_).bind λx10=>some x10 else(if x1.Pc == 8 then(qS t w_).bind λx11=>some x11 else(bN x1.Pc 9 13).bind λx12=>(if x12 then(y9 t w_).bind λx13=>some x13 else(if x1.Pc == 14 then lC t w_ x1 true else lC t w_ x1 (x1.Pc == 16)))))))))
def uU(t:Table)(w_:Int):Option Table:=
 (idx t.aR w_).bind λx1=>(if !x1.bU then(yW t w_).bind λx2=>some x2 else(if x1.Pc == 0 then jM t w_ x1 true else(if x1.Pc == 20 then jM t w_ x1 true else jM t w_ x1 (x1.Pc == 21))))
def H3(j:aI):Option Bool:=
 some j.bU
def H4(q:aO):Option Bool:=
 some (decide (0<(q.List.length:Int)))
def F5(x1:Bool):Option Bool:=
 some x1
def F6(t:Table):Option Bool:=
 (gW t.aR (λy0=>H3 y0)).bind λx2=>(if !x2 then(j4 t.eF (λy0=>H4 y0)).bind λx3=>F5 (!x3) else F5 false)
def tM(j:aI):Option Bool:=
 (sL j).bind λx1=>some (!x1)
def ZU(x5:Table):Option Table:=
 some x5
def mL(x3:Int)(x6:Bool)(x7:Table):Option (Step (Int×Table) (Out Table Table)):=
 (if x6 then some (.stop (Out.ret x7)) else(uU x7 (Int.tmod x3 3)).bind λx8=>some (.next (bE (x3+1),x8)))
def mM(n:Int)(finish:Bool):(Int×Table)->Option (Step (Int×Table) (Out Table Table))
 |(x3,x4)=>(if decide (x3<n) then(if finish then(F6 x4).bind λx9=>(if x9 then mL x3 true x4 else(gW x4.aR (λy0=>tM y0)).bind λx10=>mL x3 x10 x4) else(gW x4.aR (λy0=>tM y0)).bind λx11=>mL x3 x11 x4) else some (.stop (Out.brk x4)))
def LJ:(Out Table Table)->Option Table
 |.brk x5=>ZU x5
 |.ret r=>some r
def H5(t:Table)(n:Int)(finish:Bool):Option Table:=
 (loop (mM n finish) (0,t)).bind (LJ)
def AK(x2:Table):Option Table:=
 some x2
def m8(t:Table):Option Table:=
 (E3 t).bind λx1=>(FJ t).bind λx3=>(if x3 then(H5 x1 3000 true).bind λx4=>AK x4 else AK x1)
def VV(x y:Int):Option (Int×Int):=
 some (IntKind.u64.wrap ((IntKind.u64.wrap ((IntKind.u64.wrap ((oX .u64 x 32)*(oX .u64 y 32)))+(oX .u64 (IntKind.u64.wrap ((IntKind.u64.wrap ((oX .u64 x 32)*(iF .and .u64 y 4294967295)))+(oX .u64 (IntKind.u64.wrap ((iF .and .u64 x 4294967295)*(iF .and .u64 y 4294967295))) 32))) 32)))+(oX .u64 (IntKind.u64.wrap ((iF .and .u64 (IntKind.u64.wrap ((IntKind.u64.wrap ((oX .u64 x 32)*(iF .and .u64 y 4294967295)))+(oX .u64 (IntKind.u64.wrap ((iF .and .u64 x 4294967295)*(iF .and .u64 y 4294967295))) 32))) 4294967295)+(IntKind.u64.wrap ((iF .and .u64 x 4294967295)*(oX .u64 y 32))))) 32)),IntKind.u64.wrap (x*y))
def QK(x y:Int):Option (Int×Int):=
 (VV x y).bind λx1=>some (x1.1,x1.2)
def XL(x7:List Int):Option (List Int):=
 some x7
def lT:((List Int)×Int)->Option (Step ((List Int)×Int) (List Int))
 |(x5,x6)=>(if decide (x6<(x5.length:Int)) then need (0<=(x6:Int)/\(x6:Int)<=(x5.length:Int)) (need (0<=(x6:Int)/\(x6:Int)<=(x5.length:Int)) (some (.next (cR x5 x6.toNat ((x5.take x6.toNat).drop 0),bE (x6+((min ((x5.take x6.toNat).drop 0).length (x5.length-x6.toNat):Nat):Int)))))) else some (.stop (x5)))
def XM:(List Int)->Option (List Int)
 |x7=>XL x7
def pK(x:List Int)(x1:Int×Int)(x2:Bool):Option (List Int):=
 (if x2 then none else need (0<=(IntKind.i64.wrap x1.2:Int)/\(IntKind.i64.wrap x1.2:Int)<=4294967296) ((loop (lT) (cR (List.replicate ((IntKind.i64.wrap x1.2).toNat) 0) 0 x,((min x.length ((List.replicate ((IntKind.i64.wrap x1.2).toNat) 0:List Int).length-0):Nat):Int))).bind (XM)))
def wJ(x:List Int)(count:Int):Option (List Int):=
 (if decide (count<0) then none else(QK (IntKind.u64.wrap (x.length:Int)) (IntKind.u64.wrap count)).bind λx1=>(if decide (0<x1.1) then pK x x1 true else pK x x1 (decide (9223372036854775807<x1.2))))
def VW(x1:List Int):Option Heap:=
 some (⟨List.replicate ((384:Int).toNat) 0,x1⟩:Heap)
def ME:Option Heap:=
 need (0<=(384:Int)/\(384:Int)<=4294967296)<|(wJ ([(-1)]) 6).bind λx2=>VW x2
def SG:Option aD:=
 some (⟨List.replicate ((3:Int).toNat) (⟨[]⟩:bB),List.replicate ((9:Int).toNat) (⟨[]⟩:bB)⟩:aD)
def QL:Option aD:=
 need (0<=(3:Int)/\(3:Int)<=4294967296)<|need (0<=(9:Int)/\(9:Int)<=4294967296)<|SG
def XN:Option Mem:=
 (ME).bind λx1=>(QL).bind λx2=>some (⟨x1,x2⟩:Mem)
def QM:Option aC:=
 need (0<=(3:Int)/\(3:Int)<=4294967296) (some (⟨0,List.replicate ((3:Int).toNat) (⟨false,0,false,0⟩:wB)⟩:aC))
def QN:Option (List bT):=
 need (0<=(3:Int)/\(3:Int)<=4294967296) (some (List.replicate ((3:Int).toNat) (⟨[]⟩:bT)))
def XO:Option (List Int):=
 need (0<=(3:Int)/\(3:Int)<=4294967296) (some (List.replicate ((3:Int).toNat) 0))
def MF:Option aA:=
 (XN).bind λx1=>(QM).bind λx2=>(QN).bind λx3=>(XO).bind λx4=>some (⟨x1,x2,x3,x4⟩:aA)
def SH(x2:Table):Option Table:=
 some ({x2 with Log:=[]}:Table)
def I8(todo:List aO):Option Table:=
 (E8 todo).bind λx1=>(if !x1 then some (⟨(⟨(⟨(⟨[],[]⟩:Heap),(⟨[],[]⟩:aD)⟩:Mem),(⟨0,[]⟩:aC),[],[]⟩:aA),[],[],[],[],0⟩:Table) else(MF).bind λx3=>need (0<=(2:Int)/\(2:Int)<=4294967296)<|need (0<=(3:Int)/\(3:Int)<=4294967296)<|(xA todo).bind λx4=>SH (⟨x3,List.replicate ((2:Int).toNat) (⟨0,0,0⟩:bX),List.replicate ((3:Int).toNat) (⟨false,(⟨false,[]⟩:Batch),0,0,0,0,0,0,0,0,(⟨0,0,0⟩:gN),false,0,(⟨0,0,0,0,0,0,0,0,0,false⟩:Sub),[],[],[],[],[],[]⟩:aI),x4,[],0⟩:Table))
def aC8(x6:Table):Option Table:=
 some x6
def wK(x4:Int)(x7:Table):Option (Step (Int×Table) Table):=
 some (.next (bE (x4+1),x7))
def pL(x:wA):(Int×Table)->Option (Step (Int×Table) Table)
 |(x4,x5)=>(if decide (x4<(((x.kH.take ((if 400<(x.kH.length:Int) then 400 else(x.kH.length:Int)).toNat)).drop 0).length:Int)) then(idx ((x.kH.take ((if 400<(x.kH.length:Int) then 400 else(x.kH.length:Int)).toNat)).drop 0) x4).bind λx8=>(gX x8).bind λx9=>(if x9 then(uU x5 x8).bind λx10=>wK x4 x10 else wK x4 x5) else some (.stop (x5)))
def aC9:Table->Option Table
 |x6=>aC8 x6
def F7(x:wA):Option Table:=
 (I8 x.eF).bind λx1=>(if(x1.aR.length:Int) == 0 then some x1 else need (0<=(if 400<(x.kH.length:Int) then 400 else(x.kH.length:Int):Int)/\(if 400<(x.kH.length:Int) then 400 else(x.kH.length:Int):Int)<=(x.kH.length:Int)) ((loop (pL x) (0,x1)).bind (aC9)))
def SI:Option Int:=
 some (-1)
def DV(s:List iD)(f:(iD->Option Bool)):Int->Option (Step Int (Out Unit Int))
 |x2=>(if decide (x2<(s.length:Int)) then(idx s x2).bind λx3=>(f x3).bind λx4=>(if x4 then some (.stop (Out.ret x2)) else some (.next (bE (x2+1)))) else some (.stop (Out.brk ())))
def SJ:(Out Unit Int)->Option Int
 |.brk ()=>SI
 |.ret r=>some r
def xR(s:List iD)(f:(iD->Option Bool)):Option Int:=
 (loop (DV s f) 0).bind (SJ)
def wL(x1:Bool):Option Bool:=
 some x1
def NJ(e_:iD)(k0 k1:Int):Option Bool:=
 (if e_.Kind == k0 then wL (e_.aG == k1) else wL false)
def zA(l:List iD)(kind serial:Int):Option Int:=
 (xR l (λy0=>NJ y0 kind serial)).bind λx1=>some x1
def aOO(x5:List Int):Option (List Int):=
 some x5
def A5(x4:Int)(x6:List Int):Option (Step ((List Int)×Int) (List Int)):=
 some (.next (x6,bE (x4+1)))
def I9(x3:List Int)(x4:Int)(x7:iD)(x10:Bool):Option (Step ((List Int)×Int) (List Int)):=
 (if x10 then need (x3.length+([x7.aG]).length<=1073741824) (A5 x4 (x3++([x7.aG]))) else A5 x4 x3)
def JA(l:List iD)(x3:List Int)(x4:Int)(x7:iD)(x8:Bool):Option (Step ((List Int)×Int) (List Int)):=
 (if x8 then A5 x4 x3 else(zA l 3 x7.aG).bind λx9=>(if decide (0<=x9) then(idx l x9).bind λx11=>I9 x3 x4 x7 (x11.Code == 0) else I9 x3 x4 x7 false))
def A6(l:List iD):((List Int)×Int)->Option (Step ((List Int)×Int) (List Int))
 |(x3,x4)=>(if decide (x4<(l.length:Int)) then(idx l x4).bind λx7=>(if x7.Kind != 2 then JA l x3 x4 x7 true else(g7 x3 x7.aG).bind λx12=>JA l x3 x4 x7 x12) else some (.stop (x3)))
def aOP:(List Int)->Option (List Int)
 |x5=>aOO x5
def NL(l:List iD):Option (List Int):=
 (loop (A6 l) (([]:List Int),0)).bind (aOP)
def aA9(x5:List iD):Option (List iD):=
 some x5
def tN(x4:Int)(x6:List iD):Option (Step ((List iD)×Int) (List iD)):=
 some (.next (x6,bE (x4+1)))
def nK(t:Table):((List iD)×Int)->Option (Step ((List iD)×Int) (List iD))
 |(x3,x4)=>(if decide (x4<(t.Log.length:Int)) then(idx t.Log x4).bind λx7=>(if x7.Kind == 3 then(ER x7).bind λx8=>need (x3.length+([x8]).length<=1073741824) (tN x4 (x3++([x8]))) else tN x4 x3) else some (.stop (x3)))
def aBA:(List iD)->Option (List iD)
 |x5=>aA9 x5
def CH(t:Table):Option (List iD):=
 (loop (nK t) (([]:List iD),0)).bind (aBA)
def aG8:Option Int:=
 some (-1)
def CI(x2:Int)(x3:Bool):Option (Step Int (Out Unit Int)):=
 (if x3 then some (.stop (Out.ret x2)) else some (.next (bE (x2+1))))
def VX(l:List iD)(kind serial:Int):Int->Option (Step Int (Out Unit Int))
 |x2=>(if decide (x2<(l.length:Int)) then(idx l x2).bind λx4=>(if x4.Kind == kind then(idx l x2).bind λx5=>CI x2 (x5.aG == serial) else CI x2 false) else some (.stop (Out.brk ())))
def aG9:(Out Unit Int)->Option Int
 |.brk ()=>aG8
 |.ret r=>some r
def F8(l:List iD)(kind serial:Int):Option Int:=
 (loop (VX l kind serial) 0).bind (aG9)
def aUS:Option Bool:=
 some false
def DW(l:List Int)(x:Int):Int->Option (Step Int (Out Unit Bool))
 |x2=>(if decide (x2<(l.length:Int)) then(idx l x2).bind λx3=>(if x3 == x then some (.stop (Out.ret true)) else some (.next (bE (x2+1)))) else some (.stop (Out.brk ())))
def aUT:(Out Unit Bool)->Option Bool
 |.brk ()=>aUS
 |.ret r=>some r
def aDA(l:List Int)(x:Int):Option Bool:=
 (loop (DW l x) 0).bind (aUT)
def aHA:Option Bool:=
 some true
def uV(a_ b:List KV):Int->Option (Step Int (Out Unit Bool))
 |x2=>(if decide (x2<(a_.length:Int)) then(idx a_ x2).bind λx3=>(idx b x2).bind λx4=>(if !(decide (x3=x4)) then some (.stop (Out.ret false)) else some (.next (bE (x2+1)))) else some (.stop (Out.brk ())))
def aHB:(Out Unit Bool)->Option Bool
 |.brk ()=>aHA
 |.ret r=>some r
def MG(a_ b:List KV):Option Bool:=
 (if(a_.length:Int) != (b.length:Int) then some false else(loop (uV a_ b) 0).bind (aHB))
def kK(s:List KV):Option (List KV):=
 need (([]:List KV).length+s.length<=1073741824) (some (([]:List KV)++s))
def T2:Option Int:=
 some (-1)
def tO(s:List KV)(f:(KV->Option Bool)):Int->Option (Step Int (Out Unit Int))
 |x2=>(if decide (x2<(s.length:Int)) then(idx s x2).bind λx3=>(f x3).bind λx4=>(if x4 then some (.stop (Out.ret x2)) else some (.next (bE (x2+1)))) else some (.stop (Out.brk ())))
def T3:(Out Unit Int)->Option Int
 |.brk ()=>T2
 |.ret r=>some r
def iY(s:List KV)(f:(KV->Option Bool)):Option Int:=
 (loop (tO s f) 0).bind (T3)
def DX(x8:List KV)(x9:Int):Option (List KV):=
 need (0<=(x9:Int)/\(x9:Int)<=(x8.length:Int)) (need (0<=(x9:Int)/\(x9:Int)<=((cR x8 x9.toNat (List.replicate (x8.length-x9.toNat) (⟨0,0⟩:KV))).length:Int)) (some (((cR x8 x9.toNat (List.replicate (x8.length-x9.toNat) (⟨0,0⟩:KV))).take x9.toNat).drop 0)))
def jT(x7:Int)(x10:List KV)(x11:Int):Option (Step ((List KV)×Int×Int) ((List KV)×Int)):=
 some (.next (x10,x11,bE (x7+1)))
def mA(del:(KV->Option Bool)):((List KV)×Int×Int)->Option (Step ((List KV)×Int×Int) ((List KV)×Int))
 |(x5,x6,x7)=>(if decide (x7<(x5.length:Int)) then(idx x5 x7).bind λx12=>(del x12).bind λx13=>(if !x13 then(idx x5 x6).bind λx14=>jT x7 (x5.set x6.toNat x12) (bE (x6+1)) else jT x7 x5 x6) else some (.stop ((x5,x6))))
def DY:((List KV)×Int)->Option (List KV)
 |(x8,x9)=>DX x8 x9
def pM(s:List KV)(del:(KV->Option Bool)):Option (List KV):=
 (iY s del).bind λx1=>(if x1 == (-1) then some s else(loop (mA del) (s,x1,bE (x1+1))).bind (DY))
def JC(x:KV)(k0:Int):Option Bool:=
 some (x.Key == k0)
def J2(l:List KV)(key:Int):Option (List KV):=
 (kK l).bind λx1=>(pM x1 (λy0=>JC y0 key)).bind λx2=>some x2
def QO(x:KV)(k0:Int):Option Bool:=
 some (decide (k0<x.Key))
def H6(s:List KV)(i:Int)(v:List KV):Option (List KV):=
 need (0<=i/\i<=(s.length:Int)/\s.length+v.length<=1073741824) (some (s.take i.toNat++v++s.drop i.toNat))
def xS(key val:Int)(x1:(List KV))(x3:Int):Option (List KV):=
 (H6 x1 x3 ([(⟨key,val⟩:KV)])).bind λx4=>some x4
def sM(l:List KV)(key val:Int):Option (List KV):=
 (J2 l key).bind λx1=>(iY x1 (λy0=>QO y0 key)).bind λx2=>(if decide (x2<0) then xS key val x1 (x1.length:Int) else xS key val x1 x2)
def aOQ:Option Bool:=
 some true
def vQ(x2:Int)(x4:Bool):Option (Step Int (Out Unit Bool)):=
 (if x4 then some (.stop (Out.ret false)) else some (.next (bE (x2+1))))
def A7(l:List KV):Int->Option (Step Int (Out Unit Bool))
 |x2=>(if decide (x2<(l.length:Int)) then(idx l x2).bind λx3=>(bN x3.Key 0 99).bind λx5=>(if !x5 then vQ x2 true else(bN x3.dM 0 65535).bind λx6=>(if !x6 then vQ x2 true else(if decide (0<x2) then(idx l (bE (x2-1))).bind λx7=>vQ x2 (decide (x3.Key<=x7.Key)) else vQ x2 false))) else some (.stop (Out.brk ())))
def aOR:(Out Unit Bool)->Option Bool
 |.brk ()=>aOQ
 |.ret r=>some r
def T4(l:List KV):Option Bool:=
 (loop (A7 l) 0).bind (aOR)
def aK0:Option (Int×Bool):=
 some (0,false)
def xT(l:List KV)(key:Int):Int->Option (Step Int (Out Unit (Int×Bool)))
 |x2=>(if decide (x2<(l.length:Int)) then(idx l x2).bind λx3=>(if x3.Key == key then some (.stop (Out.ret (x3.dM,true))) else some (.next (bE (x2+1)))) else some (.stop (Out.brk ())))
def aK1:(Out Unit (Int×Bool))->Option (Int×Bool)
 |.brk ()=>aK0
 |.ret r=>some r
def PJ(l:List KV)(key:Int):Option (Int×Bool):=
 (loop (xT l key) 0).bind (aK1)
def JD(l:List KV)(c:iB)(x1:(List KV))(x2:Bool):Option ((List KV)×fV):=
 (if x2 then some (x1,(⟨false,0⟩:fV)) else(PJ l c.Key).bind λx3=>(if c.Kind == 1 then some (x1,(⟨x3.2,x3.1⟩:fV)) else(if c.Kind == 2 then(sM l c.Key c.dM).bind λx4=>some (x4,(⟨false,0⟩:fV)) else(if c.Kind == 3 then(J2 l c.Key).bind λx5=>some (x5,(⟨false,0⟩:fV)) else(NG x3.1 c.dM).bind λx6=>(sM l c.Key x6).bind λx7=>some (x7,(⟨true,x6⟩:fV))))))
def T5(l:List KV)(c:iB):Option ((List KV)×fV):=
 (kK l).bind λx1=>(T4 l).bind λx8=>(if !x8 then JD l c x1 true else(C2 c).bind λx9=>JD l c x1 (!x9))
def XP(x8:List KV)(x9:List fV):Option ((List KV)×(List fV)):=
 some (x8,x9)
def F9(cmds:List iB):((List KV)×(List fV)×Int)->Option (Step ((List KV)×(List fV)×Int) ((List KV)×(List fV)))
 |(x5,x6,x7)=>(if decide (x7<(cmds.length:Int)) then(idx cmds x7).bind λx10=>(T5 x5 x10).bind λx11=>need (x6.length+([x11.2]).length<=1073741824) (some (.next (x11.1,x6++([x11.2]),bE (x7+1)))) else some (.stop ((x5,x6))))
def XQ:((List KV)×(List fV))->Option ((List KV)×(List fV))
 |(x8,x9)=>XP x8 x9
def PK(l:List KV)(cmds:List iB):Option ((List KV)×(List fV)):=
 (kK l).bind λx1=>(loop (F9 cmds) (x1,([]:List fV),0)).bind (XQ)
def aK2(x8:List KV)(x9:Bool):Option ((List KV)×Bool):=
 some (x8,x9)
def xU(x7:Int)(x10:List KV)(x11:Bool):Option (Step ((List KV)×Bool×Int) ((List KV)×Bool)):=
 some (.next (x10,x11,bE (x7+1)))
def GA(l:List iD)(n:Int)(x1:(List Int)):((List KV)×Bool×Int)->Option (Step ((List KV)×Bool×Int) ((List KV)×Bool))
 |(x5,x6,x7)=>(if decide (x7<(((x1.take ((if(if(x1.length:Int)<n then(x1.length:Int) else n)<0 then 0 else(if(x1.length:Int)<n then(x1.length:Int) else n)).toNat)).drop 0).length:Int)) then(idx ((x1.take ((if(if(x1.length:Int)<n then(x1.length:Int) else n)<0 then 0 else(if(x1.length:Int)<n then(x1.length:Int) else n)).toNat)).drop 0) x7).bind λx12=>(zA l 1 x12).bind λx13=>(if decide (x13<0) then xU x7 x5 false else(idx l x13).bind λx14=>(PK x5 x14.bM).bind λx15=>(if x6 then(zA l 3 x12).bind λx16=>(idx l x16).bind λx17=>(lA x15.2 x17.fV).bind λx18=>xU x7 x15.1 x18 else xU x7 x15.1 false)) else some (.stop ((x5,x6))))
def aK3:((List KV)×Bool)->Option ((List KV)×Bool)
 |(x8,x9)=>aK2 x8 x9
def J3(l:List iD)(n:Int):Option ((List KV)×Bool):=
 (NL l).bind λx1=>need (0<=(if(if(x1.length:Int)<n then(x1.length:Int) else n)<0 then 0 else(if(x1.length:Int)<n then(x1.length:Int) else n):Int)/\(if(if(x1.length:Int)<n then(x1.length:Int) else n)<0 then 0 else(if(x1.length:Int)<n then(x1.length:Int) else n):Int)<=(x1.length:Int)) ((loop (GA l n x1) (([]:List KV),true,0)).bind (aK3))
def QP(l:List iD)(n:Int):Option (List KV):=
 (J3 l n).bind λx1=>some x1.1
def aHC(x6:List Int):Option ((List Int)×Bool):=
 some (x6,true)
def CJ(m:Mem)(x4:List Int)(x5:Int)(x7:Bool):Option (Step ((List Int)×Int) (Out (List Int) ((List Int)×Bool))):=
 (if x7 then some (.stop (Out.ret ([],false))) else(pH m.Heap (Int.tmod x5 32)).bind λx8=>(J1 x8).bind λx9=>(if !x9 then some (.stop (Out.ret ([],false))) else need (x4.length+([x5]).length<=1073741824) (some (.next (x4++([x5]),x8.Next)))))
def CL(m:Mem):((List Int)×Int)->Option (Step ((List Int)×Int) (Out (List Int) ((List Int)×Bool)))
 |(x4,x5)=>(if x5 != 0 then(vP m x5).bind λx10=>(if x10 != 0 then CJ m x4 x5 true else(g7 x4 x5).bind λx11=>CJ m x4 x5 x11) else some (.stop (Out.brk x4)))
def aHD:(Out (List Int) ((List Int)×Bool))->Option ((List Int)×Bool)
 |.brk x6=>aHC x6
 |.ret r=>some r
def GB(m:Mem)(head:Int):Option ((List Int)×Bool):=
 (xF m).bind λx1=>(if !x1 then some (([]:List Int),false) else(loop (CL m) (([]:List Int),head)).bind (aHD))
def aK4(x6:List (List Int)):Option ((List (List Int))×Bool):=
 some (x6,true)
def xV(t:Table):((List (List Int))×Int)->Option (Step ((List (List Int))×Int) (Out (List (List Int)) ((List (List Int))×Bool)))
 |(x4,x5)=>(if decide (x5<(t.aS.length:Int)) then(idx t.aS x5).bind λx7=>(GB t.aA.Mem x7.Head).bind λx8=>(if !x8.2 then some (.stop (Out.ret ([],false))) else need (x4.length+([x8.1]).length<=1073741824) (some (.next (x4++([x8.1]),bE (x5+1))))) else some (.stop (Out.brk x4)))
def aK5:(Out (List (List Int)) ((List (List Int))×Bool))->Option ((List (List Int))×Bool)
 |.brk x6=>aK4 x6
 |.ret r=>some r
def J4(t:Table):Option ((List (List Int))×Bool):=
 (FJ t).bind λx1=>(if !x1 then some (([]:List (List Int)),false) else(loop (xV t) (([]:List (List Int)),0)).bind (aK5))
def tmB(t:Table):List Int->List KV->Option (List KV)
 |[],m=>some m
 |h::l,m=>(tmB t l m).bind λm'=>(pH t.aA.Mem.Heap (Int.tmod h 32)).bind λn=>sM m' n.Key n.dM
def tmL(t:Table):List (List Int)->List KV->Option (List KV)
 |[],m=>some m
 |l::ls,m=>(tmB t l m).bind (tmL t ls)
def A8(t:Table):Option (List KV):=(J4 t).bind λx=>tmL t x.1 []
def wM(x13:Bool):Option Bool:=
 some x13
def PL(x6:(List Int))(x12:Table):Option Bool:=
 (if(x12.aR.length:Int) == 3 then(QP x12.Log (x6.length:Int)).bind λx14=>(A8 x12).bind λx15=>(MG x14 x15).bind λx16=>wM x16 else wM false)
def GC(x10:Int)(x19:Bool)(x20:Table):Option (Step (Int×Table) (Out Table Bool)):=
 (if x19 then some (.stop (Out.ret false)) else some (.next (bE (x10+1),x20)))
def pN(x10:Int)(x21:Bool)(x22:Table):Option (Step (Int×Table) (Out Table Bool)):=
 GC x10 x21 x22
def pO(x6:(List Int))(x7:(List iD)):(Int×Table)->Option (Step (Int×Table) (Out Table Bool))
 |(x10,x11)=>(if decide (x10<(x7.length:Int)) then(idx x7 x10).bind λx17=>(F8 x11.Log 1 x17.aG).bind λx18=>(if decide (x18<0) then pN x10 true x11 else(aDA x6 x17.aG).bind λx23=>(if x17.Code == 0 then(idx x11.Log x18).bind λx24=>pN x10 (!(x23 == (decide (0<(x24.bM.length:Int))))) x11 else pN x10 (!(x23 == false)) x11)) else some (.stop (Out.brk x11)))
def PM(x6:(List Int)):(Out Table Bool)->Option Bool
 |.brk x12=>PL x6 x12
 |.ret r=>some r
def NM(code:List UInt8):Option Bool:=
 (aKV code).bind λx1=>(if x1 then some true else(sU code).bind λx2=>(O9 x2).bind λx3=>(if !x3 then some true else(F7 x2).bind λx4=>(m8 x4).bind λx5=>(NL x5.Log).bind λx6=>(CH x5).bind λx7=>(loop (pO x6 x7) (0,x5)).bind (PM x6)))
def VY:Option Bool:=
 some true
def oN(x3:Int)(x5:Bool):Option (Step Int (Out Unit Bool)):=
 (if x5 then some (.stop (Out.ret false)) else some (.next (bE (x3+1))))
def uW(c:aC):Int->Option (Step Int (Out Unit Bool))
 |x3=>(if decide (x3<3) then(idx c.cE x3).bind λx4=>(if !x4.On then(if !(decide (x4=(⟨false,0,false,0⟩:wB))) then oN x3 true else(dF x4.aK 0 c.aK).bind λx6=>(if !x6 then oN x3 true else(dF x4.Seen 0 2).bind λx7=>oN x3 (!x7))) else(dF x4.aK 0 c.aK).bind λx8=>(if !x8 then oN x3 true else(dF x4.Seen 0 2).bind λx9=>oN x3 (!x9))) else some (.stop (Out.brk ())))
def KZ:(Out Unit Bool)->Option Bool
 |.brk ()=>VY
 |.ret r=>some r
def uX(c:aC)(x1:Bool):Option Bool:=
 (if x1 then some false else(loop (uW c) 0).bind (KZ))
def zC(c:aC):Option Bool:=
 (dF c.aK 0 100000).bind λx10=>(if !x10 then uX c true else uX c ((c.cE.length:Int) != 3))
def aK6(x5:Int):Option Int:=
 some x5
def xW(b:List Int)(at_ width:Int):(Int×Int)->Option (Step (Int×Int) Int)
 |(x3,x4)=>(if decide (x4<width) then(idx b (bE (at_+x4))).bind λx6=>some (.next (bE ((bE (x3*256))+x6),bE (x4+1))) else some (.stop (x3)))
def aK7:Int->Option Int
 |x5=>aK6 x5
def XR(b:List Int)(at_ width:Int):Option Int:=
 (loop (xW b at_ width) (0,0)).bind (aK7)
def PN(c:Int):Option Int:=
 (if c == 0 then some 8 else(if c == 1 then some 16 else(if c == 2 then some 40 else some 0)))
def JE(c:Int):Option Int:=
 (dF c 0 2).bind λx1=>(if !x1 then some 0 else(PN c).bind λx2=>some (bE (4+x2)))
def zD(c:Int):Option Int:=
 (dF c 0 2).bind λx1=>(if !x1 then some 0 else(JE c).bind λx2=>need (x2≠0) (some (bE (Int.tdiv 56 x2))))
def J5(slot:Int):Option Int:=
 (dF slot 0 23).bind λx1=>(if !x1 then some (-1) else some (bE (Int.tdiv slot 4)))
def GD(slot:Int):Option Int:=
 (dF slot 0 23).bind λx1=>(if !x1 then some (-1) else some (Int.tmod slot 4))
def QQ(slot c:Int)(x1:Bool):Option Int:=
 (if x1 then some (-1) else(J5 slot).bind λx2=>(GD slot).bind λx3=>(JE c).bind λx4=>some (bE ((bE ((bE (x2*64))+8))+(bE (x3*x4)))))
def H7(slot c:Int):Option Int:=
 (J5 slot).bind λx5=>(if decide (x5<0) then QQ slot c true else(GD slot).bind λx6=>(zD c).bind λx7=>(dF x6 0 (bE (x7-1))).bind λx8=>QQ slot c (!x8))
def NN(page index:Int)(x1:Bool):Option Int:=
 (if x1 then some (-1) else some (bE ((bE (page*4))+index)))
def PO(page index:Int):Option Int:=
 (dF page 0 5).bind λx2=>(if !x2 then NN page index true else(dF index 0 3).bind λx3=>NN page index (!x3))
def aOS:Option Bool:=
 some false
def vR(l:List Int)(x:Int):Int->Option (Step Int (Out Unit Bool))
 |x2=>(if decide (x2<(l.length:Int)) then(idx l x2).bind λx3=>(if x3 == x then some (.stop (Out.ret true)) else some (.next (bE (x2+1)))) else some (.stop (Out.brk ())))
def aOT:(Out Unit Bool)->Option Bool
 |.brk ()=>aOS
 |.ret r=>some r
def T6(l:List Int)(x:Int):Option Bool:=
 (loop (vR l x) 0).bind (aOT)
def aOU(x10:List Int):Option (List Int):=
 some x10
def A9(l:aD):((List Int)×Int)->Option (Step ((List Int)×Int) (List Int))
 |(x8,x9)=>(if decide (x9<(l.Own.length:Int)) then(idx l.Own x9).bind λx11=>need (x8.length+x11.aV.length<=1073741824) (some (.next (x8++x11.aV,bE (x9+1)))) else some (.stop (x8)))
def aOV:(List Int)->Option (List Int)
 |x10=>aOU x10
def aAH(l:aD)(x5:List Int):Option (List Int):=
 (loop (A9 l) (x5,0)).bind (aOV)
def BA(l:aD):((List Int)×Int)->Option (Step ((List Int)×Int) (List Int))
 |(x3,x4)=>(if decide (x4<(l.Global.length:Int)) then(idx l.Global x4).bind λx12=>need (x3.length+x12.aV.length<=1073741824) (some (.next (x3++x12.aV,bE (x4+1)))) else some (.stop (x3)))
def aAI(l:aD):(List Int)->Option (List Int)
 |x5=>aAH l x5
def aBB(l:aD):Option (List Int):=
 (loop (BA l) (([]:List Int),0)).bind (aAI l)
def CM(h:Heap)(x1:Int)(x2:Bool):Option Int:=
 (if x2 then some (-1) else(idx h.Class x1).bind λx3=>some x3)
def GF(h:Heap)(slot:Int):Option Int:=
 (J5 slot).bind λx1=>(if decide (x1<0) then CM h x1 true else(idx h.Class x1).bind λx4=>(if decide (x4<0) then CM h x1 true else(idx h.Class x1).bind λx5=>(GD slot).bind λx6=>(zD x5).bind λx7=>CM h x1 (decide (x7<=x6))))
def H8(h:Heap)(slot:Int):Option Int:=
 (GF h slot).bind λx1=>(H7 slot x1).bind λx2=>(XR h.Bytes x2 4).bind λx3=>some x3
def QT(w_ c:Int)(x1:Bool):Option Int:=
 (if x1 then some (-1) else some (bE ((bE (w_*3))+c)))
def T7(w_ c:Int):Option Int:=
 (dF w_ 0 2).bind λx2=>(if !x2 then QT w_ c true else(dF c 0 2).bind λx3=>QT w_ c (!x3))
def aK8(x5:List eN):Option (List eN):=
 some x5
def xX(l:List bT):((List eN)×Int)->Option (Step ((List eN)×Int) (List eN))
 |(x3,x4)=>(if decide (x4<(l.length:Int)) then(idx l x4).bind λx6=>need (x3.length+x6.Rows.length<=1073741824) (some (.next (x3++x6.Rows,bE (x4+1)))) else some (.stop (x3)))
def aK9:(List eN)->Option (List eN)
 |x5=>aK8 x5
def XS(l:List bT):Option (List eN):=
 (loop (xX l) (([]:List eN),0)).bind (aK9)
def H9(x1:Bool):Option Bool:=
 some x1
def vS(h:Int):Option Bool:=
 (dF h 32 223).bind λx2=>(if x2 then H9 (decide ((Int.tmod h 32)<24)) else H9 false)
def mE(h:Int):Option Int:=
 (vS h).bind λx1=>(if !x1 then some (-1) else some (Int.tmod h 32))
def XT(l:aD)(slot:Int):Option Bool:=
 (aBB l).bind λx1=>(T6 x1 slot).bind λx2=>some x2
def T8(m:Mem)(slot:Int):Option Int:=
 (GF m.Heap slot).bind λx1=>(if decide (x1<0) then some 0 else(XT m.aD slot).bind λx2=>(if x2 then some 1 else(H8 m.Heap slot).bind λx3=>(if decide (6<x3) then some 2 else some 3)))
def NO(h:Int):Option Int:=
 (vS h).bind λx1=>(if !x1 then some 0 else some (bE (Int.tdiv h 32)))
def CN(x1:Bool):Option Bool:=
 some x1
def T9(m:Mem)(h:Int):Option Bool:=
 (vS h).bind λx2=>(if x2 then(mE h).bind λx3=>(T8 m x3).bind λx4=>(if x4 == 3 then(mE h).bind λx5=>(H8 m.Heap x5).bind λx6=>(NO h).bind λx7=>CN (x6 == x7) else CN false) else CN false)
def aHE:Option Bool:=
 some false
def CP(x3:Int)(x4:Bool):Option (Step Int (Out Unit Bool)):=
 (if x4 then some (.stop (Out.ret true)) else some (.next (bE (x3+1))))
def oP(slot:Int)(x1:(List eN)):Int->Option (Step Int (Out Unit Bool))
 |x3=>(if decide (x3<(x1.length:Int)) then(idx x1 x3).bind λx5=>(vS x5.Handle).bind λx6=>(if x6 then(mE x5.Handle).bind λx7=>CP x3 (x7 == slot) else CP x3 false) else some (.stop (Out.brk ())))
def aHF:(Out Unit Bool)->Option Bool
 |.brk ()=>aHE
 |.ret r=>some r
def UA(l:List bT)(slot:Int):Option Bool:=
 (XS l).bind λx1=>(loop (oP slot x1) 0).bind (aHF)
def aHG:Option Int:=
 some (-1)
def fZ(size:Int):Int->Option (Step Int (Out Unit Int))
 |x2=>(if decide (x2<3) then(PN x2).bind λx3=>(dF size 1 x3).bind λx4=>(if x4 then some (.stop (Out.ret x2)) else some (.next (bE (x2+1)))) else some (.stop (Out.brk ())))
def aHH:(Out Unit Int)->Option Int
 |.brk ()=>aHG
 |.ret r=>some r
def GG(size:Int):Option Int:=
 (loop (fZ size) 0).bind (aHH)
def aDB(slot c:Int):Option Int:=
 (H7 slot c).bind λx1=>(if decide (x1<0) then some (-1) else some (bE (x1+4)))
def QU(s:bB)(x1:Int):Option (bB×Int):=
 some ((⟨(s.aV.take ((bE ((s.aV.length:Int)-1)).toNat)).drop 0⟩:bB),x1)
def tP(s:bB):Option (bB×Int):=
 (if(s.aV.length:Int) == 0 then some (s,(-1)) else need (0<=(bE ((s.aV.length:Int)-1):Int)/\(bE ((s.aV.length:Int)-1):Int)<=(s.aV.length:Int)) ((idx s.aV (bE ((s.aV.length:Int)-1))).bind λx2=>QU s x2))
def aHI(x7:List Int):Option (List Int):=
 some x7
def CQ(at_:Int):((List Int)×Int×Int)->Option (Step ((List Int)×Int×Int) (List Int))
 |(x4,x5,x6)=>(if decide (0<=x6) then(idx x4 (bE (at_+x6))).bind λx8=>some (.next (x4.set ((bE (at_+x6)).toNat) (Int.tmod x5 256),bE (Int.tdiv x5 256),bE (x6-1))) else some (.stop (x4)))
def aHJ:(List Int)->Option (List Int)
 |x7=>aHI x7
def GH(b:List Int)(at_ width n:Int):Option (List Int):=
 (loop (CQ at_) (b,n,bE (width-1))).bind (aHJ)
def aHK(h:Heap):Option (Heap×(List Int)):=
 some (h,([]:List Int))
def K0(x2:Int):Option (Step Int (Out Unit (Heap×(List Int)))):=
 some (.next (bE (x2+1)))
def aHL(h:Heap)(c x2:Int)(x14 x15:List Int):Option (Step Int (Out Unit (Heap×(List Int)))):=
 some (.stop (Out.ret ((⟨x15,h.Class.set x2.toNat c⟩:Heap),x14)))
def VZ(x2:Int)(x11:List Int)(x12:Int)(x17:List Int):Option (Step ((List Int)×Int×(List Int)) ((List Int)×(List Int))):=
 (PO x2 x12).bind λx18=>need (x11.length+([x18]).length<=1073741824) (some (.next (x11++([x18]),bE (x12+1),x17)))
def CR(c x2:Int):((List Int)×Int×(List Int))->Option (Step ((List Int)×Int×(List Int)) ((List Int)×(List Int)))
 |(x11,x12,x13)=>(zD c).bind λx16=>(if decide (x12<x16) then(PO x2 x12).bind λx19=>(H7 x19 c).bind λx20=>(GH x13 x20 4 1).bind λx21=>VZ x2 x11 x12 x21 else some (.stop ((x11,x13))))
def aHM(h:Heap)(c x2:Int):((List Int)×(List Int))->Option (Step Int (Out Unit (Heap×(List Int))))
 |(x14,x15)=>aHL h c x2 x14 x15
def fH(h:Heap)(c:Int):Int->Option (Step Int (Out Unit (Heap×(List Int))))
 |x2=>(if decide (x2<6) then(idx h.Class x2).bind λx3=>(if x3 != (-1) then K0 x2 else(idx h.Bytes (bE (x2*64))).bind λx4=>(idx (h.Bytes.set ((bE (x2*64)).toNat) 171) (bE ((bE (x2*64))+1))).bind λx5=>(zD c).bind λx6=>(idx ((h.Bytes.set ((bE (x2*64)).toNat) 171).set ((bE ((bE (x2*64))+1)).toNat) c) (bE ((bE (x2*64))+2))).bind λx7=>(loop (CR c x2) (([]:List Int),0,((h.Bytes.set ((bE (x2*64)).toNat) 171).set ((bE ((bE (x2*64))+1)).toNat) c).set ((bE ((bE (x2*64))+2)).toNat) x6)).bind (aHM h c x2)) else some (.stop (Out.brk ())))
def aHN(h:Heap):(Out Unit (Heap×(List Int)))->Option (Heap×(List Int))
 |.brk ()=>aHK h
 |.ret r=>some r
def tQ(h:Heap)(c:Int):Option (Heap×(List Int)):=
 (loop (fH h c) 0).bind (aHN h)
def K2(m:Mem)(c:Int)(x1:Heap×(List Int))(x2:bB)(x3:Int):Option (Mem×Int):=
 some ((⟨x1.1,(⟨m.aD.Global.set c.toNat (⟨x2.aV++((x1.2.take x1.2.length).drop ((1:Int).toNat))⟩:bB),m.aD.Own⟩:aD)⟩:Mem),x3)
def GI(m:Mem)(c:Int):Option (Mem×Int):=
 (tQ m.Heap c).bind λx1=>(if(x1.2.length:Int) == 0 then some ((⟨x1.1,m.aD⟩:Mem),(-1)) else(idx m.aD.Global c).bind λx2=>need (0<=(1:Int)/\(1:Int)<=(x1.2.length:Int)) (need (x2.aV.length+((x1.2.take x1.2.length).drop ((1:Int).toNat)).length<=1073741824) ((idx x1.2 0).bind λx4=>K2 m c x1 x2 x4)))
def zE(slot gen:Int)(x1:Bool):Option Int:=
 (if x1 then some 0 else some (bE ((bE (gen*32))+slot)))
def QV(slot gen:Int):Option Int:=
 (dF slot 0 23).bind λx2=>(if !x2 then zE slot gen true else(dF gen 1 6).bind λx3=>zE slot gen (!x3))
def BC(m:Mem)(slot:Int):Option Int:=
 (H8 m.Heap slot).bind λx1=>(QV slot x1).bind λx2=>some x2
def NP(x2 x3:List bB):Option aD:=
 some (⟨x2,x3⟩:aD)
def XU(x:aD)(slot x1:Int)(x4:bB):Option aD:=
 NP x.Global (x.Own.set x1.toNat (⟨x4.aV++([slot])⟩:bB))
def XV(x:aD)(x5:List bB):Option aD:=
 NP x5 x.Own
def XW(x:aD)(w_ c slot:Int):Option aD:=
 (T7 w_ c).bind λx1=>(idx x.Own x1).bind λx4=>(if decide ((x4.aV.length:Int)<2) then need (x4.aV.length+([slot]).length<=1073741824)<|XU x slot x1 x4 else(idx x.Global c).bind λx6=>need (x6.aV.length+([slot]).length<=1073741824)<|XV x (x.Global.set c.toNat (⟨x6.aV++([slot])⟩:bB)))
def NQ(x:Mem)(x3:List Int)(x4 x5:List bB):Option Mem:=
 some (⟨(⟨x3,x.Heap.Class⟩:Heap),(⟨x4,x5⟩:aD)⟩:Mem)
def NR(x:Mem)(w_ slot x1 x2:Int)(x3:List Int):Option Mem:=
 (if decide ((bE (x2+1))<=6) then(XW x.aD w_ x1 slot).bind λx6=>NQ x x3 x6.Global x6.Own else NQ x x3 x.aD.Global x.aD.Own)
def J6(x:Mem)(w_ slot:Int):Option Mem:=
 (GF x.Heap slot).bind λx1=>(H8 x.Heap slot).bind λx2=>(H7 slot x1).bind λx7=>(GH x.Heap.Bytes x7 4 (bE (x2+1))).bind λx8=>NR x w_ slot x1 x2 x8
def zF(c:aC):Option aC:=
 need (([]:List wB).length+c.cE.length<=1073741824) (some (⟨c.aK,([]:List wB)++c.cE⟩:aC))
def bO(s:Sub)(code:Int):Option Sub:=
 some ({s with Code:=code,gU:=true}:Sub)
def UB(b:aA)(s:Sub)(slot pc:Int):Option Sub:=
 (if decide (0<=slot) then(BC b.Mem slot).bind λx1=>(bO ({s with Out:=x1}:Sub) 0).bind λx2=>some x2 else some ({s with Pc:=pc}:Sub))
def zG(s:Sub)(x3:Int)(x5:Bool)(x6:aA):Option (aA×Sub):=
 (if x5 then(bO s 3).bind λx7=>some (x6,x7) else(UB x6 s x3 (bE (s.Pc+1))).bind λx8=>some (x6,x8))
def jU(s:Sub)(x3:Int)(x4:aA):Option (aA×Sub):=
 (if decide (x3<0) then zG s x3 (s.Pc == 3) x4 else zG s x3 false x4)
def zH(b:aA)(s:Sub)(x1:Int)(x12:Bool):Option (aA×Sub):=
 (if x12 then(idx b.Mem.aD.Global x1).bind λx13=>(tP x13).bind λx14=>jU s x14.2 ({b with Mem:=(⟨b.Mem.Heap,(⟨b.Mem.aD.Global.set x1.toNat x14.1,b.Mem.aD.Own⟩:aD)⟩:Mem)}:aA) else(if s.Pc == 2 then(GI b.Mem x1).bind λx15=>jU s x15.2 ({b with Mem:=x15.1}:aA) else(bO s 1).bind λx16=>some (b,x16)))
def BD(b:aA)(w_:Int)(s:Sub):Option (aA×Sub):=
 (GG s.A).bind λx1=>(if decide (x1<0) then(bO s 2).bind λx2=>some (b,x2) else(if s.Pc == 0 then(T7 w_ x1).bind λx9=>(idx b.Mem.aD.Own x9).bind λx10=>(tP x10).bind λx11=>jU s x11.2 ({b with Mem:=(⟨b.Mem.Heap,(⟨b.Mem.aD.Global,b.Mem.aD.Own.set x9.toNat x11.1⟩:aD)⟩:Mem)}:aA) else(if s.Pc == 1 then zH b s x1 true else zH b s x1 (s.Pc == 3))))
def GJ(b:aA)(s:Sub)(x5:List bT):Option (aA×Sub):=
 (bO s 0).bind λx6=>some (({b with aQ:=x5}:aA),x6)
def wN(b:aA)(w_:Int)(s:Sub)(x3:Bool):Option (aA×Sub):=
 (if x3 then(bO s 4).bind λx4=>some (b,x4) else(idx b.aQ w_).bind λx7=>need (x7.Rows.length+([(⟨s.A,s.E⟩:eN)]).length<=1073741824)<|GJ b s (b.aQ.set w_.toNat (⟨x7.Rows++([(⟨s.A,s.E⟩:eN)])⟩:bT)))
def xY(b:aA)(w_:Int)(s:Sub):Option (aA×Sub):=
 (if s.Pc == 0 then some (b,({s with Pc:=1,E:=b.aC.aK}:Sub)) else(if s.Pc == 1 then(dF s.E 0 b.aC.aK).bind λx1=>(if !x1 then(bO s 1).bind λx2=>some (b,x2) else(T9 b.Mem s.A).bind λx8=>(if !x8 then wN b w_ s true else(mE s.A).bind λx9=>(UA b.aQ x9).bind λx10=>wN b w_ s x10)) else(bO s 1).bind λx11=>some (b,x11)))
def rR(w_:Int)(x1:aC)(x3:wB)(x4:Bool):Option (aC×Bool):=
 (if x4 then some (x1,true) else(if x3.Seen == 2 then(idx x1.cE w_).bind λx5=>some ((⟨x1.aK,x1.cE.set w_.toNat ({x5 with gL:=true,Seen:=0}:wB)⟩:aC),true) else(idx x1.cE w_).bind λx6=>some ((⟨x1.aK,x1.cE.set w_.toNat ({x6 with Seen:=bE (x3.Seen+1)}:wB)⟩:aC),false)))
def GK(c:aC)(w_ e_:Int)(x1:aC)(x2:Bool):Option (aC×Bool):=
 (if x2 then some (x1,false) else(idx c.cE w_).bind λx3=>(if !x3.On then rR w_ x1 x3 true else(if x3.gL then rR w_ x1 x3 true else rR w_ x1 x3 (x3.aK == e_))))
def J7(c:aC)(w_ e_:Int):Option (aC×Bool):=
 (zF c).bind λx1=>(zC c).bind λx7=>(if !x7 then GK c w_ e_ x1 true else(dF w_ 0 2).bind λx8=>GK c w_ e_ x1 (!x8))
def GL(e_:Int)(x1:aC)(x2:Bool):Option (aC×Bool):=
 (if x2 then some (x1,false) else some ((⟨bE (e_+1),x1.cE⟩:aC),true))
def SK(c:aC)(e_:Int):Option (aC×Bool):=
 (zF c).bind λx1=>(zC c).bind λx3=>(if !x3 then GL e_ x1 true else(if c.aK != e_ then GL e_ x1 true else GL e_ x1 (e_ == 100000)))
def tR(b:aA)(s:Sub)(x3:aC×Bool)(x5:Int):Option (aA×Sub):=
 some (({b with aC:=x3.1}:aA),({s with Pc:=x5,B:=bE (s.B+1)}:Sub))
def tS(b:aA)(s:Sub)(x6:aC×Bool)(x7:Int):Option (aA×Sub):=
 (bO ({s with Out:=x7}:Sub) 0).bind λx8=>some (({b with aC:=x6.1}:aA),x8)
def uY(b:aA)(s:Sub):Option (aA×Sub):=
 (if s.Pc == 0 then some (b,({s with Pc:=1,E:=b.aC.aK,B:=0}:Sub)) else(if s.Pc == 1 then(dF s.B 0 2).bind λx1=>(if !x1 then(bO s 1).bind λx2=>some (b,x2) else(J7 b.aC s.B s.E).bind λx3=>(if !x3.2 then(bO s 8).bind λx4=>some (({b with aC:=x3.1}:aA),x4) else(if(bE (s.B+1)) == 3 then tR b s x3 2 else tR b s x3 s.Pc))) else(if s.Pc == 2 then(SK b.aC s.E).bind λx6=>(if x6.2 then tS b s x6 1 else tS b s x6 s.Out) else(bO s 1).bind λx9=>some (b,x9))))
def MH(x1:Bool):Option Bool:=
 some x1
def MV(r_:eN)(e_:Int):Option Bool:=
 (if decide (2<=e_) then MH (decide (r_.aK<=(bE (e_-2)))) else MH false)
def aHO:Option Int:=
 some (-1)
def fI(l:List eN)(e_:Int):Int->Option (Step Int (Out Unit Int))
 |x2=>(if decide (x2<(l.length:Int)) then(idx l x2).bind λx3=>(MV x3 e_).bind λx4=>(if x4 then some (.stop (Out.ret x2)) else some (.next (bE (x2+1)))) else some (.stop (Out.brk ())))
def aHP:(Out Unit Int)->Option Int
 |.brk ()=>aHO
 |.ret r=>some r
def zI(l:List eN)(from_ e_:Int):Option Int:=
 (loop (fI l e_) (if 0<from_ then from_ else 0)).bind (aHP)
def tT(b:aA)(s:Sub)(x8:Int):Option (aA×Sub):=
 some (b,({s with Pc:=x8,B:=bE (s.B+1)}:Sub))
def fS(b:aA)(s:Sub)(x5:Bool):Option (aA×Sub):=
 (if x5 then(bO s 1).bind λx6=>some (b,x6) else(idx b.qJ s.B).bind λx7=>(if x7 == s.H then some (b,({s with Pc:=1,Row:=bE (s.Row+1)}:Sub)) else(if(bE (s.B+1)) == 3 then tT b s 3 else tT b s s.Pc)))
def DF(s:Sub)(x14:aA):Option (aA×Sub):=
 some (x14,({s with Pc:=1,Out:=bE (s.Out+1)}:Sub))
def fT(b:aA)(w_:Int)(s:Sub)(x1:bT)(x12:Bool):Option (aA×Sub):=
 (if x12 then(bO s 1).bind λx13=>some (b,x13) else need (0<=(s.Row:Int)/\(s.Row:Int)<=(x1.Rows.length:Int)) (need (0<=(bE (s.Row+1):Int)/\(bE (s.Row+1):Int)<=(x1.Rows.length:Int)) (need (s.Row.toNat<=(bE (s.Row+1)).toNat) ((mE s.H).bind λx15=>(J6 b.Mem w_ x15).bind λx16=>DF s ({b with Mem:=x16,aQ:=b.aQ.set w_.toNat (⟨((cR x1.Rows s.Row.toNat (x1.Rows.drop ((bE (s.Row+1)).toNat))).take (s.Row.toNat+(x1.Rows.length-((bE (s.Row+1)).toNat)))).drop 0⟩:bT)}:aA)))))
def uZ(b:aA)(w_:Int)(s:Sub):Option (aA×Sub):=
 (idx b.aQ w_).bind λx1=>(if s.Pc == 0 then some (b,({s with Pc:=1,E:=b.aC.aK,Row:=0}:Sub)) else(if s.Pc == 1 then(zI x1.Rows s.Row s.E).bind λx2=>(if decide (x2<0) then(bO s 0).bind λx3=>some (b,x3) else(idx x1.Rows x2).bind λx4=>some (b,({s with Pc:=2,Row:=x2,B:=0,H:=x4.Handle}:Sub))) else(if s.Pc == 2 then(dF s.B 0 2).bind λx9=>(if !x9 then fS b s true else(dF s.Row 0 (bE ((x1.Rows.length:Int)-1))).bind λx10=>(if !x10 then fS b s true else(idx x1.Rows s.Row).bind λx11=>fS b s (x11.Handle != s.H))) else(if s.Pc == 3 then(dF s.Row 0 (bE ((x1.Rows.length:Int)-1))).bind λx17=>(if !x17 then fT b w_ s x1 true else(idx x1.Rows s.Row).bind λx18=>(if x18.Handle != s.H then fT b w_ s x1 true else(MV x18 s.E).bind λx19=>fT b w_ s x1 (!x19))) else(bO s 1).bind λx20=>some (b,x20)))))
def BE(w_ e_:Int)(x1:aC)(x2:Bool):Option (aC×Bool):=
 (if x2 then some (x1,false) else(idx x1.cE w_).bind λx3=>some ((⟨x1.aK,x1.cE.set w_.toNat (⟨true,e_,false,0⟩:wB)⟩:aC),true))
def NS(c:aC)(w_ e_:Int):Option (aC×Bool):=
 (zF c).bind λx1=>(zC c).bind λx4=>(if !x4 then BE w_ e_ x1 true else(dF w_ 0 2).bind λx5=>(if !x5 then BE w_ e_ x1 true else(dF e_ 0 c.aK).bind λx6=>BE w_ e_ x1 (!x6)))
def J8(b:aA)(w_:Int)(s:Sub):Option (aA×Sub):=
 (if s.Pc == 0 then some (b,({s with Pc:=1,E:=b.aC.aK}:Sub)) else(if s.Pc == 1 then(NS b.aC w_ s.E).bind λx1=>(if !x1.2 then(bO s 1).bind λx2=>some (({b with aC:=x1.1}:aA),x2) else some (({b with aC:=x1.1}:aA),({s with Pc:=2}:Sub))) else(if s.Pc == 2 then(if b.aC.aK == s.E then(bO s 0).bind λx3=>some (b,x3) else some (b,({s with Pc:=0}:Sub))) else(bO s 1).bind λx4=>some (b,x4))))
def UC(b:aA)(w_:Int)(s:Sub):Option (aA×Sub):=
 (if s.gU then some (b,s) else(if s.Kind == 1 then(BD b w_ s).bind λx1=>some (x1.1,x1.2) else(if s.Kind == 2 then(xY b w_ s).bind λx2=>some (x2.1,x2.2) else(if s.Kind == 3 then(uY b s).bind λx3=>some (x3.1,x3.2) else(if s.Kind == 4 then(uZ b w_ s).bind λx4=>some (x4.1,x4.2) else(if s.Kind == 5 then(J8 b w_ s).bind λx5=>some (x5.1,x5.2) else(bO s 1).bind λx6=>some (b,x6)))))))
def BF(w_:Int)(x1:aC)(x2:Bool):Option (aC×Bool):=
 (if x2 then some (x1,false) else(idx x1.cE w_).bind λx3=>some ((⟨x1.aK,x1.cE.set w_.toNat (⟨false,0,false,0⟩:wB)⟩:aC),true))
def UD(c:aC)(w_:Int):Option (aC×Bool):=
 (zF c).bind λx1=>(zC c).bind λx4=>(if !x4 then BF w_ x1 true else(dF w_ 0 2).bind λx5=>(if !x5 then BF w_ x1 true else(idx c.cE w_).bind λx6=>BF w_ x1 (!x6.On)))
def aOW(x5:List Int):Option (List Int):=
 some x5
def JF(x4:Int)(x6:List Int):Option (Step ((List Int)×Int) (List Int)):=
 some (.next (x6,bE (x4+1)))
def QW(l:List iD)(x3:List Int)(x4:Int)(x10:Bool):Option (Step ((List Int)×Int) (List Int)):=
 (if x10 then(idx l x4).bind λx11=>need (x3.length+([x11.aG]).length<=1073741824) (JF x4 (x3++([x11.aG]))) else JF x4 x3)
def QX(l:List iD)(x3:List Int)(x4:Int)(x7:Bool):Option (Step ((List Int)×Int) (List Int)):=
 (if x7 then JF x4 x3 else(idx l x4).bind λx8=>(F8 l 3 x8.aG).bind λx9=>(if decide (0<=x9) then(idx l x9).bind λx12=>QW l x3 x4 (x12.Code == 0) else QW l x3 x4 false))
def BG(l:List iD):((List Int)×Int)->Option (Step ((List Int)×Int) (List Int))
 |(x3,x4)=>(if decide (x4<(l.length:Int)) then(idx l x4).bind λx13=>(if x13.Kind != 2 then QX l x3 x4 true else(idx l x4).bind λx14=>(T6 x3 x14.aG).bind λx15=>QX l x3 x4 x15) else some (.stop (x3)))
def aOX:(List Int)->Option (List Int)
 |x5=>aOW x5
def aLA(l:List iD):Option (List Int):=
 (loop (BG l) (([]:List Int),0)).bind (aOX)
end
end Go.Gv
end
noncomputable section
set_option maxHeartbeats 4000000
set_option maxRecDepth 100000
namespace Go.Proofs.YtkinioiglogchaaGreat
open Go.Gv Tryz
theorem bP:VB prog 3 1 (.int .i64 0):=vV (b:=8) (by kernel_rfl) rfl
theorem nL:VB prog 67 3 (.agg #[.int .i64 0,.int .i64 0,.int .i64 0]):=vV (b:=24) (by kernel_rfl) rfl
theorem tU:VB prog 64 1 (.agg #[.slice none 0 0]):=vV (b:=24) (by kernel_rfl) rfl
theorem eS:VB prog 69 2 (.agg #[.bool false,.slice none 0 0]):=vV (b:=32) (by kernel_rfl) rfl
theorem i5:VB prog 239 1 (.agg #[.slice none 0 0]):=vV (b:=24) (by kernel_rfl) rfl
theorem PQ:VB prog 206 4 (.agg #[.bool false,.int .i64 0,.bool false,.int .i64 0]):=vV (b:=32) (by kernel_rfl) rfl
theorem J9:VB prog 179 1 (.agg #[.slice none 0 0]):=vV (b:=24) (by kernel_rfl) rfl
theorem PR:VB prog 116 3 (.agg #[.int .i64 0,.int .i64 0,.int .i64 0]):=vV (b:=24) (by kernel_rfl) rfl
theorem PT:VB prog 122 32 (.agg #[.bool false,.bool false,.slice none 0 0,.int .i64 0,.int .i64 0,.int .i64 0,.int .i64 0,.int .i64 0,.int .i64 0,.int .i64 0,.int .i64 0,.int .i64 0,.int .i64 0,.int .i64 0,.bool false,.int .i64 0,.int .i64 0,.int .i64 0,.int .i64 0,.int .i64 0,.int .i64 0,.int .i64 0,.int .i64 0,.int .i64 0,.int .i64 0,.bool false,.slice none 0 0,.slice none 0 0,.slice none 0 0,.slice none 0 0,.slice none 0 0,.slice none 0 0]):=vV (b:=368) (by kernel_rfl) rfl
theorem tV:VB prog 74 2 (.agg #[.bool false,.int .i64 0]):=vV (b:=16) (by kernel_rfl) rfl
theorem KA:VB prog 182 2 (.agg #[.int .i64 0,.int .i64 0]):=vV (b:=16) (by kernel_rfl) rfl
theorem PU:VB prog 168 2 (.agg #[.int .i64 0,.int .i64 0]):=vV (b:=16) (by kernel_rfl) rfl
theorem xZ:VB prog 171 3 (.agg #[.int .i64 0,.bool false,.int .i64 0]):=vV (b:=24) (by kernel_rfl) rfl
theorem lD:VB prog 56 6 (.agg #[.int .i64 0,.int .i64 0,.int .i64 0,.int .i64 0,.slice none 0 0,.slice none 0 0]):=vV (b:=80) (by kernel_rfl) rfl
theorem aX1:VB prog 32 1 (.slice none 0 0):=vV (b:=24) (by kernel_rfl) rfl
theorem a3D:VB prog 5 1 (.int .u8 0):=vV (b:=1) (by kernel_rfl) rfl
theorem yA:VB prog 90 2 (.agg #[.int .i64 0,.int .i64 0]):=vV (b:=16) (by kernel_rfl) rfl
theorem aBC:VB prog 25 1 (.slice none 0 0):=vV (b:=24) (by kernel_rfl) rfl
theorem aJ:prog.follows .mixedOrders=true:=by kernel_rfl
theorem aUU(D:Nat)(d d':wB)(w:World):(Op.eqFields (D+2) #[.bool (d.On),.int .i64 (d.aK),.bool (d.gL),.int .i64 (d.Seen)] #[.bool (d'.On),.int .i64 (d'.aK),.bool (d'.gL),.int .i64 (d'.Seen)] (match prog.underlying 206 with|some (.struct fs)=>fs|_=>#[]).toList).run prog w=.ok (decide (d=d')) w:=by
 rw[underlying206];have h:(d.On == d'.On && (d.aK == d'.aK && (d.gL == d'.gL && (d.Seen == d'.Seen && true))))=decide (d=d'):=by cases d;cases d';rw[HP];simp
 rw[<-h];exact fJ _ _ _ _ _ rfl (fN isAgg4 rfl) (fN isAgg4 rfl) (aCE underlying4)<|
  fJ _ _ _ _ _ rfl (fN isAgg3 rfl) (fN isAgg3 rfl) (mQ underlying3)<|
  fJ _ _ _ _ _ rfl (fN isAgg4 rfl) (fN isAgg4 rfl) (aCE underlying4)<|
  fJ _ _ _ _ _ rfl (fN isAgg3 rfl) (fN isAgg3 rfl) (mQ underlying3)<|
  OV _ _ _
theorem aX2(D:Nat)(d d':fV)(w:World):(Op.eqFields (D+2) #[.bool (d.Is),.int .i64 (d.dM)] #[.bool (d'.Is),.int .i64 (d'.dM)] (match prog.underlying 74 with|some (.struct fs)=>fs|_=>#[]).toList).run prog w=.ok (decide (d=d')) w:=by
 rw[underlying74];have h:(d.Is == d'.Is && (d.dM == d'.dM && true))=decide (d=d'):=by cases d;cases d';rw[HP];simp
 rw[<-h];exact fJ _ _ _ _ _ rfl (fN isAgg4 rfl) (fN isAgg4 rfl) (aCE underlying4)<|
  fJ _ _ _ _ _ rfl (fN isAgg3 rfl) (fN isAgg3 rfl) (mQ underlying3)<|
  OV _ _ _
theorem aX3(D:Nat)(d d':iB)(w:World):(Op.eqFields (D+2) #[.int .i64 (d.Kind),.int .i64 (d.Key),.int .i64 (d.dM)] #[.int .i64 (d'.Kind),.int .i64 (d'.Key),.int .i64 (d'.dM)] (match prog.underlying 67 with|some (.struct fs)=>fs|_=>#[]).toList).run prog w=.ok (decide (d=d')) w:=by
 rw[underlying67];have h:(d.Kind == d'.Kind && (d.Key == d'.Key && (d.dM == d'.dM && true)))=decide (d=d'):=by cases d;cases d';rw[HP];simp
 rw[<-h];exact fJ _ _ _ _ _ rfl (fN isAgg3 rfl) (fN isAgg3 rfl) (mQ underlying3)<|
  fJ _ _ _ _ _ rfl (fN isAgg3 rfl) (fN isAgg3 rfl) (mQ underlying3)<|
  fJ _ _ _ _ _ rfl (fN isAgg3 rfl) (fN isAgg3 rfl) (mQ underlying3)<|
  OV _ _ _
theorem aUV(D:Nat)(d d':Seen)(w:World):(Op.eqFields (D+2) #[.int .i64 (d.bX),.int .i64 (d.eJ)] #[.int .i64 (d'.bX),.int .i64 (d'.eJ)] (match prog.underlying 168 with|some (.struct fs)=>fs|_=>#[]).toList).run prog w=.ok (decide (d=d')) w:=by
 rw[underlying168];have h:(d.bX == d'.bX && (d.eJ == d'.eJ && true))=decide (d=d'):=by cases d;cases d';rw[HP];simp
 rw[<-h];exact fJ _ _ _ _ _ rfl (fN isAgg3 rfl) (fN isAgg3 rfl) (mQ underlying3)<|
  fJ _ _ _ _ _ rfl (fN isAgg3 rfl) (fN isAgg3 rfl) (mQ underlying3)<|
  OV _ _ _
theorem aUW(D:Nat)(d d':aT)(w:World):(Op.eqFields (D+2) #[.int .i64 (d.Key),.bool (d.HC),.int .i64 (d.dM)] #[.int .i64 (d'.Key),.bool (d'.HC),.int .i64 (d'.dM)] (match prog.underlying 171 with|some (.struct fs)=>fs|_=>#[]).toList).run prog w=.ok (decide (d=d')) w:=by
 rw[underlying171];have h:(d.Key == d'.Key && (d.HC == d'.HC && (d.dM == d'.dM && true)))=decide (d=d'):=by cases d;cases d';rw[HP];simp
 rw[<-h];exact fJ _ _ _ _ _ rfl (fN isAgg3 rfl) (fN isAgg3 rfl) (mQ underlying3)<|
  fJ _ _ _ _ _ rfl (fN isAgg4 rfl) (fN isAgg4 rfl) (aCE underlying4)<|
  fJ _ _ _ _ _ rfl (fN isAgg3 rfl) (fN isAgg3 rfl) (mQ underlying3)<|
  OV _ _ _
theorem aUX(D:Nat)(d d':gN)(w:World):(Op.eqFields (D+2) #[.int .i64 (d.Key),.int .i64 (d.dM),.int .i64 (d.Next)] #[.int .i64 (d'.Key),.int .i64 (d'.dM),.int .i64 (d'.Next)] (match prog.underlying 100 with|some (.struct fs)=>fs|_=>#[]).toList).run prog w=.ok (decide (d=d')) w:=by
 rw[underlying100];have h:(d.Key == d'.Key && (d.dM == d'.dM && (d.Next == d'.Next && true)))=decide (d=d'):=by cases d;cases d';rw[HP];simp
 rw[<-h];exact fJ _ _ _ _ _ rfl (fN isAgg3 rfl) (fN isAgg3 rfl) (mQ underlying3)<|
  fJ _ _ _ _ _ rfl (fN isAgg3 rfl) (fN isAgg3 rfl) (mQ underlying3)<|
  fJ _ _ _ _ _ rfl (fN isAgg3 rfl) (fN isAgg3 rfl) (mQ underlying3)<|
  OV _ _ _
theorem aUY(D:Nat)(d d':Sub)(w:World):(Op.eqFields (D+2) #[.int .i64 (d.Kind),.int .i64 (d.A),.int .i64 (d.Pc),.int .i64 (d.E),.int .i64 (d.Row),.int .i64 (d.B),.int .i64 (d.H),.int .i64 (d.Out),.int .i64 (d.Code),.bool (d.gU)] #[.int .i64 (d'.Kind),.int .i64 (d'.A),.int .i64 (d'.Pc),.int .i64 (d'.E),.int .i64 (d'.Row),.int .i64 (d'.B),.int .i64 (d'.H),.int .i64 (d'.Out),.int .i64 (d'.Code),.bool (d'.gU)] (match prog.underlying 118 with|some (.struct fs)=>fs|_=>#[]).toList).run prog w=.ok (decide (d=d')) w:=by
 rw[underlying118];have h:(d.Kind == d'.Kind && (d.A == d'.A && (d.Pc == d'.Pc && (d.E == d'.E && (d.Row == d'.Row && (d.B == d'.B && (d.H == d'.H && (d.Out == d'.Out && (d.Code == d'.Code && (d.gU == d'.gU && true))))))))))=decide (d=d'):=by cases d;cases d';rw[HP];simp
 rw[<-h];exact fJ _ _ _ _ _ rfl (fN isAgg3 rfl) (fN isAgg3 rfl) (mQ underlying3)<|
  fJ _ _ _ _ _ rfl (fN isAgg3 rfl) (fN isAgg3 rfl) (mQ underlying3)<|
  fJ _ _ _ _ _ rfl (fN isAgg3 rfl) (fN isAgg3 rfl) (mQ underlying3)<|
  fJ _ _ _ _ _ rfl (fN isAgg3 rfl) (fN isAgg3 rfl) (mQ underlying3)<|
  fJ _ _ _ _ _ rfl (fN isAgg3 rfl) (fN isAgg3 rfl) (mQ underlying3)<|
  fJ _ _ _ _ _ rfl (fN isAgg3 rfl) (fN isAgg3 rfl) (mQ underlying3)<|
  fJ _ _ _ _ _ rfl (fN isAgg3 rfl) (fN isAgg3 rfl) (mQ underlying3)<|
  fJ _ _ _ _ _ rfl (fN isAgg3 rfl) (fN isAgg3 rfl) (mQ underlying3)<|
  fJ _ _ _ _ _ rfl (fN isAgg3 rfl) (fN isAgg3 rfl) (mQ underlying3)<|
  fJ _ _ _ _ _ rfl (fN isAgg4 rfl) (fN isAgg4 rfl) (aCE underlying4)<|
  OV _ _ _
theorem aX4(D:Nat)(d d':KV)(w:World):(Op.eqFields (D+2) #[.int .i64 (d.Key),.int .i64 (d.dM)] #[.int .i64 (d'.Key),.int .i64 (d'.dM)] (match prog.underlying 90 with|some (.struct fs)=>fs|_=>#[]).toList).run prog w=.ok (decide (d=d')) w:=by
 rw[underlying90];have h:(d.Key == d'.Key && (d.dM == d'.dM && true))=decide (d=d'):=by cases d;cases d';rw[HP];simp
 rw[<-h];exact fJ _ _ _ _ _ rfl (fN isAgg3 rfl) (fN isAgg3 rfl) (mQ underlying3)<|
  fJ _ _ _ _ _ rfl (fN isAgg3 rfl) (fN isAgg3 rfl) (mQ underlying3)<|
  OV _ _ _
section
open Go.RowKit Go.Shelf Go.Lib Go.Gv
set_option maxRecDepth 100000
set_option maxHeartbeats 4000000
theorem aUZ(b off n c i vb:Nat)(cs vs:List Value)(w:World)(hi:i<n)(hroom:n+1<=c)(hc63:c<=9223372036854775807)(hvb:vb≠b)(hcl:cs.length=n*3)(hvl:vs.length=3)
  (hcs:aY w b off cs) (hsp:∀j,j<c*3->(w.cell? ⟨b,off+j,none⟩).isSome=true) (hfz:∀j,j<c*3->w.frozen? ⟨b,off+j,none⟩=false)
  (hvs:aY w vb 0 vs) (h1c:∀v∈cs,v.oneCell'=true) (h1v:∀v∈vs,v.oneCell'=true)
  (tA tB:TypeId) (kA kB:Nat) (hsa:w.shape? vb=some (tA,kA)) (hsb:w.shape? b=some (tB,kB)) (hkB:kB≠0) (hfa:w.frozen? ⟨vb,0,none⟩=false) (hfe:w.frozen? ⟨vb,kA,none⟩=false) :
  Calls prog 263 #[.slice (some ⟨b,off,none⟩) n c,.int .i64 i,.slice (some ⟨vb,0,none⟩) 1 1] w λe w'=>
   e=.returned (.slice (some ⟨b,off,none⟩) (n+1) c)/\w'=(w.drew.setCells b (off+(i+1)*3) (cs.drop (i*3))).setCells b (off+i*3) vs:=by
 have u0:=run_underlying underlying120;have hz2:¬((i:Int)=(n:Int)):=aa
 have hsz:(prog.info? 171).map (·.size)=some 3:=by kernel_rfl
 have hov:∀lb cb,(callFunc 286 #[.slice (some ⟨vb,0,none⟩) 1 1,.slice (some ⟨b,off+(i+1)*3,none⟩) lb cb]).run prog w=.ok (.value (.bool false)) w:=λlb cb=>by
  rw[run_callFunc_extern func286 (by kernel_rfl) (by kernel_rfl) (by kernel_rfl) (e:=Extern.SlicesOverlaps.overlaps #[120,120] #[4]) (by kernel_rfl),
   Lib.run_overlaps_apart w 120 4 171 underlying120 3 sizeOf171 ⟨vb,0,none⟩ ⟨b,off+(i+1)*3,none⟩ 1 1 lb cb hvb tA tB kA kB hsa hsb hkB hfa hfe]
  rfl
 have hdl:(cs.drop (i*3)).length=(n-i)*3:=by rw[U6,hcl];omega
 have mixed:=aJ;have hw1:IntKind.i64.wrap ((i:Int)+1)=(i:Int)+1:=by rw[IntKind.wrap_i64];omega
 have hw2:IntKind.i64.wrap ((n:Int)+1)=(n:Int)+1:=by rw[IntKind.wrap_i64];omega
 have hb1:(0:Int)<=(i:Int)+1:=aa
 have hin:i<=n:=aa
 have htn:((i:Int)+1).toNat=i+1:=aa
 have htm:((n:Int)+1).toNat=n+1:=aa
 have hb2:¬(c=i+1):=aa
 have hb3:(i:Int)<=(n:Int)+1:=aa
 have hb4:¬(c=i):=aa
 have hcp1:∀ty dc sc,(Builtin.copy_ #[120,120] ty #[.slice (some ⟨b,off+(i+1)*3,none⟩) (n-i) dc,.slice (some ⟨b,off+i*3,none⟩) (n+1-i) sc]).run prog w.drew=.ok (goInt (n-i:Nat)) (w.drew.setCells b (off+(i+1)*3) (cs.drop (i*3))):=λty dc sc=>
  wX w.drew _ _ ty 171 3 b (off+(i+1)*3) (n-i) dc ⟨b,off+i*3,none⟩ (n+1-i) sc (n-i) (cs.drop (i*3)) underlying120 hsz (by simp only[Nat.min_def];split<;>omega) hdl
   (λj v hj=>by rw[Addr.add_lit,EB];exact hcs (i*3+j) v (by rwa [aGB] at hj))
   (λj hj=>by rw[EB];exact hsp _ aa) (λj hj=>by rw[EB];exact hfz _ aa) (λv hv=>h1c v (RN hv))
 obtain⟨W1,hW1⟩:∃W1,W1=w.drew.setCells b (off+(i+1)*3) (cs.drop (i*3)):=⟨_,rfl⟩;have hsp1:∀k,k<c*3->(W1.cell? ⟨b,off+k,none⟩).isSome=true:=λk hk=>by rw[hW1];exact isSome_setCells b _ _ _ (λj hj=>by rw[EB];exact hsp _ aa) _ (hsp k hk)
 have hcp2:∀(W:World),(∀x,W.cell? x=W1.cell? x)->(∀x,W.frozen? x=W1.frozen? x)->∀ty dc,(Builtin.copy_ #[120,120] ty #[.slice (some ⟨b,off+i*3,none⟩) (n+1-i) dc,.slice (some ⟨vb,0,none⟩) 1 1]).run prog W=.ok (goInt 1) (W.setCells b (off+i*3) vs):=λW hWc hWf ty dc=>
  wX W _ _ ty 171 3 b (off+i*3) (n+1-i) dc ⟨vb,0,none⟩ 1 1 1 vs underlying120 hsz (by simp only[Nat.min_def];split<;>omega) (by rw[hvl])
   (λj v hj=>by
    rw[Addr.add_lit,hWc,hW1,World.cell?_setCells_out b _ _ _ _ (λh _=>absurd h hvb)];exact hvs j v hj)
   (λj hj=>by rw[hWc,EB];exact hsp1 _ aa) (λj hj=>by rw[hWf,hW1,World.frozen?_setCells,EB];exact hfz _ aa) h1v
 rw[<-hW1] at hcp1
 go_enter func263,ntmps263
 go_wp2_with (simp only[hov])
 go_region_law_o (refine step_copy_runI rfl _ _ 120 120 rfl _ _ (by simp[Act.eval,Act.put]) (by simp[Act.eval,Act.put]) (hcp1 _ _ _) ?_)
 go_wp2_with (at_builtin;refine wpList_copy_runI _ rfl _ _ 120 120 rfl _ _ rfl rfl (hcp2 _ (λ_=>rfl) (λ_=>rfl) _ _) ?_)
 go_ret
 first|exact⟨rfl,rfl⟩|exact⟨rfl,by rw[hW1]⟩
end
section
open Go.RowKit Go.Shelf Go.Lib Go.Gv
set_option maxRecDepth 100000
set_option maxHeartbeats 4000000
theorem aX5(b off n c vb:Nat)(vs:List Value)(w:World)(hroom:n+1<=c)(hc63:c<=9223372036854775807)(hvl:vs.length=3)
  (hsp:∀j,j<c*3->(w.cell? ⟨b,off+j,none⟩).isSome=true) (hfz:∀j,j<c*3->w.frozen? ⟨b,off+j,none⟩=false) (hvs:aY w vb 0 vs) (h1v:∀v∈vs,v.oneCell'=true) :
  Calls prog 263 #[.slice (some ⟨b,off,none⟩) n c,.int .i64 n,.slice (some ⟨vb,0,none⟩) 1 1] w λe w'=>
   e=.returned (.slice (some ⟨b,off,none⟩) (n+1) c)/\w'=w.setCells b (off+n*3) vs:=by
 have u0:=run_underlying underlying120;have mixed:=aJ;obtain⟨i0,hi0,hz0,hzs,hzb⟩:=xZ;have hsrc:Src prog i0.size 120 (.slice (some ⟨vb,0,none⟩) 1 1) 1 vs w:=by rw[hzs];exact Src.ofSlice w underlying120 ⟨vb,0,none⟩ 1 1 vs aa (λj u hj=>by rw[Addr.add_lit];exact hvs j u hj) h1v
 have hrun:=run_append_room_src w 120 120 120 171 i0 underlying120 hi0 b off n c (.slice (some ⟨vb,0,none⟩) 1 1) 1 vs hsrc hroom (by rw[hzs,hvl];exact λj hj=>by rw[EB];exact hsp _ aa) (by rw[hzs,hvl];exact λj hj=>by rw[EB];exact hfz _ aa);rw[hzs] at hrun
 go_enter func263,ntmps263
 go_wp2_with (at_builtin;refine Lib.wpList_append_run _ rfl _ _ _ _ rfl _ _ rfl rfl _ _ hrun ?_)
 go_ret
 exact⟨rfl,rfl⟩
theorem a3E(base:Option Addr)(n c vb:Nat)(cs vs:List Value)(w:World)(hnc:n<=c)(hroom:c<n+1)(hbig:n+1<=1073741824)(hcl:cs.length=n*3)(hvl:vs.length=3)(hnil:base=none->n=0)
  (hcs:∀a,base=some a->∀j v,cs[j]?=some v->w.cell? (a.add j)=some v) (hvs:aY w vb 0 vs) (h1v:∀v∈vs,v.oneCell'=true) :
  Calls prog 263 #[.slice base n c,.int .i64 n,.slice (some ⟨vb,0,none⟩) 1 1] w λe w'=>
   e=.returned (.slice (some ⟨w.heap.size,0,none⟩) (n+1) (grownCap w (n+1) c 171)) /\
   w'=w.drew.alloc (.cells ((cs++vs).toArray++Builtin.zeroCells (.agg #[.int .i64 0,.bool false,.int .i64 0]:Value).cells (grownCap w (n+1) c 171-(n+1))) 171):=by
 have u0:=run_underlying underlying120;have mixed:=aJ;obtain⟨i0,hi0,hz0,hzs,hzb⟩:=xZ;have hsrc:Src prog i0.size 120 (.slice (some ⟨vb,0,none⟩) 1 1) 1 vs w:=by rw[hzs];exact Src.ofSlice w underlying120 ⟨vb,0,none⟩ 1 1 vs aa (λj u hj=>by rw[Addr.add_lit];exact hvs j u hj) h1v
 have hold:(Builtin.firstCells i0.size n (.slice base n c)).run prog w.drew=.ok cs.toArray w.drew:=by
  rw[hzs];cases base with
  |none=>
   have h0:=hnil rfl;subst h0;rw[List.length_eq_zero_iff.1 (by omega:cs.length=0)];exact run_firstCells_none w.drew 3 0 0 c
  |some a=>exact run_firstCells_some w.drew 3 n a n c cs hcl (λj v hj=>hcs a rfl j v hj)
 have hfit:Builtin.nextslicecap (n+1) c*i0.bytes<=281474976710656:=growslice_fits hroom (lW (aCA hbig hzb) ai);have hrun:=run_append_grow_src w 120 120 120 171 i0 _ underlying120 hi0 hz0 base n c cs hold _ 1 vs hsrc hroom aa hfit
 go_enter func263,ntmps263
 cases base with
 |none=>
  have h0:=hnil rfl;subst h0
  go_wp2_with (at_builtin;refine Lib.wpList_append_run _ rfl _ _ _ _ rfl _ _ rfl rfl _ _ hrun ?_)
  go_ret
  exact⟨rfl,rfl⟩
 |some a=>
  obtain⟨ab,ao,asp⟩:=a
  go_wp2_with (at_builtin;refine Lib.wpList_append_run _ rfl _ _ _ _ rfl _ _ rfl rfl _ _ hrun ?_)
  all_goals (go_ret;exact⟨rfl,rfl⟩)
theorem aX6(b off n c i vb:Nat)(cs vs:List Value)(w:World)(hi:i<n)(hnc:n<=c)(hroom:c<n+1)(hbig:n+1<=1073741824)(hcl:cs.length=n*3)(hvl:vs.length=3)
  (hcs:aY w b off cs) (hvs:aY w vb 0 vs) (h1c:∀v∈cs,v.oneCell'=true) (h1v:∀v∈vs,v.oneCell'=true) :
  Calls prog 263 #[.slice (some ⟨b,off,none⟩) n c,.int .i64 i,.slice (some ⟨vb,0,none⟩) 1 1] w λe w'=>
   e=.returned (.slice (some ⟨w.heap.size,0,none⟩) (n+1) (grownCap w (n+1) c 171)) /\
   w'=(((w.alloc (.cells ((cs.take (i*3)).toArray++Builtin.zeroCells (.agg #[.int .i64 0,.bool false,.int .i64 0]:Value).cells (n+1-i)++Builtin.zeroCells (.agg #[.int .i64 0,.bool false,.int .i64 0]:Value).cells (grownCap w (n+1) c 171-(n+1))) 171)).drew.setCells w.heap.size (i*3) vs).drew).setCells w.heap.size ((i+1)*3) (cs.drop (i*3)):=by
 have u0:=run_underlying underlying120;have u3:=run_underlying underlying3;have mixed:=aJ;obtain⟨i0,hi0,hz0,hzs,hzb⟩:=xZ;have hz2:¬((i:Int)=(n:Int)):=aa
 have hz3:(c:Int)<(n:Int)+1:=aa
 have hsz:(prog.info? 171).map (·.size)=some 3:=by rw[hi0];simp[hzs]
 have hbw:b<w.heap.size:=block_lt_of_cell (hcs 0 _ (iS aa));have hvw:vb<w.heap.size:=block_lt_of_cell (hvs 0 _ (iS aa));have hkk:(n:Int)+1-(i:Int)=((n+1-i:Nat):Int):=aa
 have hik:i+(n+1-i)=n+1:=aa
 have htl:(cs.take (i*3)).length=i*3:=by rw[aAA];omega
 have hold:(Builtin.firstCells i0.size i (.slice (some ⟨b,off,none⟩) i c)).run prog w.drew=.ok (cs.take (i*3)).toArray w.drew:=by
  rw[hzs];exact run_firstCells_some w.drew 3 i ⟨b,off,none⟩ i c (cs.take (i*3)) htl (λj v hj=>by
   rw[Addr.add_lit];rw[aB7] at hj;split at hj
   ·exact hcs j v hj
   ·cases hj)
 have hfit:Builtin.nextslicecap (n+1) c*i0.bytes<=281474976710656:=growslice_fits hroom (lW (aCA hbig hzb) ai);have hrz:∀ty,(Builtin.append_ #[120,3] ty #[.slice (some ⟨b,off,none⟩) i c,.int .i64 ((n:Int)+1-(i:Int))]).run prog w =
   .ok (.slice (some ⟨w.heap.size,0,none⟩) (n+1) (grownCap w (n+1) c 171)) (w.drew.alloc (.cells ((cs.take (i*3)).toArray++Builtin.zeroCells (.agg #[.int .i64 0,.bool false,.int .i64 0]:Value).cells (n+1-i)++Builtin.zeroCells (.agg #[.int .i64 0,.bool false,.int .i64 0]:Value).cells (grownCap w (n+1) c 171-(n+1))) 171)):=λty=>by
  have h:=Lib.run_append_grow_zeros w 120 3 ty 171 i0 _ .i64 .i64 underlying120 underlying3 hi0 hz0 (some ⟨b,off,none⟩) i c (cs.take (i*3)) hold (n+1-i) aa aa aa aa (lW (aCA (show n+1-i<=1073741824 by omega) hzb) ai) (by rw[hik];exact hfit);rw[hik] at h;rw[hkk];exact h
 obtain⟨G,hG⟩:∃G,G=grownCap w (n+1) c 171:=⟨_,rfl⟩;obtain⟨ROW,hROW⟩:∃ROW:Array Value,ROW=(cs.take (i*3)).toArray++Builtin.zeroCells (.agg #[.int .i64 0,.bool false,.int .i64 0]:Value).cells (n+1-i)++Builtin.zeroCells (.agg #[.int .i64 0,.bool false,.int .i64 0]:Value).cells (G-(n+1)):=⟨_,rfl⟩;rw[<-hG] at hrz ⊢;rw[<-hROW] at hrz ⊢;have hRl:(n+1)*3<=ROW.size:=by rw[hROW];simp only[Array.size_append,aJ4,htl,size_zeroCells];have:(.agg #[.int .i64 0,.bool false,.int .i64 0]:Value).cells.size=3:=rfl;rw[this];omega
 obtain⟨W1,hW1⟩:∃W1,W1=w.drew.alloc (.cells ROW 171):=⟨_,rfl⟩;rw[<-hW1] at hrz;have hN:∀j,j<(n+1)*3->(W1.cell? ⟨w.heap.size,j,none⟩).isSome=true:=λj hj=>by rw[hW1,World.cell?_alloc_at (w:=w.drew) ROW _ w.heap.size j rfl,Array.getElem?_eq_getElem aa];rfl
 have hNf:∀j,W1.frozen? ⟨w.heap.size,j,none⟩=false:=λj=>by rw[hW1];exact World.frozen?_alloc_at (w:=w.drew) ROW _ w.heap.size j rfl
 have hOb:∀j v,w.cell? ⟨b,j,none⟩=some v->W1.cell? ⟨b,j,none⟩=some v:=λj v h=>by rw[hW1,World.cell?_alloc_past (w:=w.drew) _ b j hbw];exact h
 have hOv:∀j v,w.cell? ⟨vb,j,none⟩=some v->W1.cell? ⟨vb,j,none⟩=some v:=λj v h=>by rw[hW1,World.cell?_alloc_past (w:=w.drew) _ vb j hvw];exact h
 have hcpA:∀(W:World),(∀x,W.cell? x=W1.cell? x)->(∀x,W.frozen? x=W1.frozen? x)->∀ty dc,(Builtin.copy_ #[120,120] ty #[.slice (some ⟨w.heap.size,i*3,none⟩) (n+1-i) dc,.slice (some ⟨vb,0,none⟩) 1 1]).run prog W=.ok (goInt 1) (W.setCells w.heap.size (i*3) vs):=λW hWc hWf ty dc=>
  wX W _ _ ty 171 3 w.heap.size (i*3) (n+1-i) dc ⟨vb,0,none⟩ 1 1 1 vs underlying120 hsz (by simp only[Nat.min_def];split<;>omega) (by rw[hvl])
   (λj v hj=>by rw[Addr.add_lit,hWc];exact hOv _ v (hvs j v hj))
   (λj hj=>by rw[hWc];exact hN _ aa) (λj hj=>by rw[hWf];exact hNf _) h1v
 have hGn:n+1<=G:=by rw[hG];exact grownCap_ge w _ _ _
 have hG63:G<=9223372036854775807:=by have:=grownCap_le_maxLen w (n+1) c 171 (by unfold maxLen;omega);rw[<-hG] at this;unfold maxLen at this;omega
 have hGi:¬(G=i):=aa
 have hGim:¬(G=i+1):=aa
 have hci:¬(c=i):=aa
 have hbN:b≠w.heap.size:=aa
 have hdl:(cs.drop (i*3)).length=(n-i)*3:=by rw[U6,hcl];omega
 have hcpB:∀(W:World),(∀x,W.cell? x=(W1.setCells w.heap.size (i*3) vs).cell? x)->(∀x,W.frozen? x=(W1.setCells w.heap.size (i*3) vs).frozen? x)->∀ty dc sc,(Builtin.copy_ #[120,120] ty #[.slice (some ⟨w.heap.size,(i+1)*3,none⟩) (n-i) dc,.slice (some ⟨b,off+i*3,none⟩) (n-i) sc]).run prog W=.ok (goInt (n-i:Nat)) (W.setCells w.heap.size ((i+1)*3) (cs.drop (i*3))):=λW hWc hWf ty dc sc=>
  wX W _ _ ty 171 3 w.heap.size ((i+1)*3) (n-i) dc ⟨b,off+i*3,none⟩ (n-i) sc (n-i) (cs.drop (i*3)) underlying120 hsz (by simp only[Nat.min_def];split<;>omega) hdl
   (λj v hj=>by
    rw[Addr.add_lit,hWc,World.cell?_setCells_out _ _ _ _ _ (λh _=>absurd h hbN),EB];exact hOb _ v (hcs (i*3+j) v (by rwa [aGB] at hj)))
   (λj hj=>by rw[hWc];exact isSome_setCells _ _ _ _ (λt ht=>hN _ aa) _ (hN _ aa))
   (λj hj=>by rw[hWf,World.frozen?_setCells];exact hNf _) (λv hv=>h1c v (RN hv))
 subst hW1;have hE1:∀x,((w.alloc (.cells ROW 171)).drew).cell? x=(w.drew.alloc (.cells ROW 171)).cell? x:=λx=>rfl;have hE2:∀x,((w.alloc (.cells ROW 171)).drew).frozen? x=(w.drew.alloc (.cells ROW 171)).frozen? x:=λx=>rfl;have hF1:∀x,(((w.alloc (.cells ROW 171)).drew.setCells w.heap.size (i*3) vs).drew).cell? x=((w.drew.alloc (.cells ROW 171)).setCells w.heap.size (i*3) vs).cell? x:=λx=>rfl;have hF2:∀x,(((w.alloc (.cells ROW 171)).drew.setCells w.heap.size (i*3) vs).drew).frozen? x=((w.drew.alloc (.cells ROW 171)).setCells w.heap.size (i*3) vs).frozen? x:=λx=>rfl;have hw1:IntKind.i64.wrap ((i:Int)+1)=(i:Int)+1:=by rw[IntKind.wrap_i64];omega
 have hw2:IntKind.i64.wrap ((n:Int)+1)=(n:Int)+1:=by rw[IntKind.wrap_i64];omega
 have hw3:IntKind.i64.wrap ((n:Int)+1-(i:Int))=(n:Int)+1-(i:Int):=by rw[IntKind.wrap_i64];omega
 have hb1:(0:Int)<=(i:Int)+1:=aa
 have hin:i<=n:=aa
 have htn:((i:Int)+1).toNat=i+1:=aa
 have hb3:(i:Int)<=(n:Int):=aa
 clear hkk hik hold hROW hG hRl htl
 go_enter func263,ntmps263
 go_wp2_with (first
  |(at_builtin;refine Lib.wpList_append_run _ rfl _ _ _ _ rfl _ _ rfl rfl _ _ (hrz _) ?_)
  |(at_builtin;refine wpList_copy_runI _ rfl _ _ 120 120 rfl _ _ rfl rfl (hcpA _ hE1 hE2 _ _) ?_)
  |(at_builtin;refine wpList_copy_runI _ rfl _ _ 120 120 rfl _ _ rfl rfl (hcpB _ (λ_=>rfl) (λ_=>rfl) _ _ _) ?_))
 go_region_law_o (refine step_copy_runI rfl _ _ 120 120 rfl (.slice (some ⟨w.heap.size,(i+1)*3,none⟩) (n-i) (G-(i+1))) (.slice (some ⟨b,off+i*3,none⟩) (n-i) (c-i)) (by simp[Act.eval,Act.put]) (by simp[Act.eval,Act.put]) (hcpB _ hF1 hF2 3 (G-(i+1)) (c-i)) ?_)
 go_wp2
 go_ret
 exact⟨rfl,rfl⟩
end
section
open Go.RowKit Go.Shelf Go.Lib Go.Gv
set_option maxRecDepth 100000
set_option maxHeartbeats 4000000
theorem aX7(b off n c i vb:Nat)(cs vs:List Value)(w:World)(hi:i<n)(hroom:n+1<=c)(hc63:c<=9223372036854775807)(hvb:vb≠b)(hcl:cs.length=n*2)(hvl:vs.length=2)
  (hcs:aY w b off cs) (hsp:∀j,j<c*2->(w.cell? ⟨b,off+j,none⟩).isSome=true) (hfz:∀j,j<c*2->w.frozen? ⟨b,off+j,none⟩=false)
  (hvs:aY w vb 0 vs) (h1c:∀v∈cs,v.oneCell'=true) (h1v:∀v∈vs,v.oneCell'=true)
  (tA tB:TypeId) (kA kB:Nat) (hsa:w.shape? vb=some (tA,kA)) (hsb:w.shape? b=some (tB,kB)) (hkB:kB≠0) (hfa:w.frozen? ⟨vb,0,none⟩=false) (hfe:w.frozen? ⟨vb,kA,none⟩=false) :
  Calls prog 94 #[.slice (some ⟨b,off,none⟩) n c,.int .i64 i,.slice (some ⟨vb,0,none⟩) 1 1] w λe w'=>
   e=.returned (.slice (some ⟨b,off,none⟩) (n+1) c)/\w'=(w.drew.setCells b (off+(i+1)*2) (cs.drop (i*2))).setCells b (off+i*2) vs:=by
 have u0:=run_underlying underlying59;have hz2:¬((i:Int)=(n:Int)):=aa
 have hsz:(prog.info? 90).map (·.size)=some 2:=by kernel_rfl
 have hov:∀lb cb,(callFunc 177 #[.slice (some ⟨vb,0,none⟩) 1 1,.slice (some ⟨b,off+(i+1)*2,none⟩) lb cb]).run prog w=.ok (.value (.bool false)) w:=λlb cb=>by
  rw[run_callFunc_extern func177 (by kernel_rfl) (by kernel_rfl) (by kernel_rfl) (e:=Extern.SlicesOverlaps.overlaps #[59,59] #[4]) (by kernel_rfl),
   Lib.run_overlaps_apart w 59 4 90 underlying59 2 sizeOf90 ⟨vb,0,none⟩ ⟨b,off+(i+1)*2,none⟩ 1 1 lb cb hvb tA tB kA kB hsa hsb hkB hfa hfe]
  rfl
 have hdl:(cs.drop (i*2)).length=(n-i)*2:=by rw[U6,hcl];omega
 have mixed:=aJ;have hw1:IntKind.i64.wrap ((i:Int)+1)=(i:Int)+1:=by rw[IntKind.wrap_i64];omega
 have hw2:IntKind.i64.wrap ((n:Int)+1)=(n:Int)+1:=by rw[IntKind.wrap_i64];omega
 have hb1:(0:Int)<=(i:Int)+1:=aa
 have hin:i<=n:=aa
 have htn:((i:Int)+1).toNat=i+1:=aa
 have htm:((n:Int)+1).toNat=n+1:=aa
 have hb2:¬(c=i+1):=aa
 have hb3:(i:Int)<=(n:Int)+1:=aa
 have hb4:¬(c=i):=aa
 have hcp1:∀ty dc sc,(Builtin.copy_ #[59,59] ty #[.slice (some ⟨b,off+(i+1)*2,none⟩) (n-i) dc,.slice (some ⟨b,off+i*2,none⟩) (n+1-i) sc]).run prog w.drew=.ok (goInt (n-i:Nat)) (w.drew.setCells b (off+(i+1)*2) (cs.drop (i*2))):=λty dc sc=>
  wX w.drew _ _ ty 90 2 b (off+(i+1)*2) (n-i) dc ⟨b,off+i*2,none⟩ (n+1-i) sc (n-i) (cs.drop (i*2)) underlying59 hsz (by simp only[Nat.min_def];split<;>omega) hdl
   (λj v hj=>by rw[Addr.add_lit,EB];exact hcs (i*2+j) v (by rwa [aGB] at hj))
   (λj hj=>by rw[EB];exact hsp _ aa) (λj hj=>by rw[EB];exact hfz _ aa) (λv hv=>h1c v (RN hv))
 obtain⟨W1,hW1⟩:∃W1,W1=w.drew.setCells b (off+(i+1)*2) (cs.drop (i*2)):=⟨_,rfl⟩;have hsp1:∀k,k<c*2->(W1.cell? ⟨b,off+k,none⟩).isSome=true:=λk hk=>by rw[hW1];exact isSome_setCells b _ _ _ (λj hj=>by rw[EB];exact hsp _ aa) _ (hsp k hk)
 have hcp2:∀(W:World),(∀x,W.cell? x=W1.cell? x)->(∀x,W.frozen? x=W1.frozen? x)->∀ty dc,(Builtin.copy_ #[59,59] ty #[.slice (some ⟨b,off+i*2,none⟩) (n+1-i) dc,.slice (some ⟨vb,0,none⟩) 1 1]).run prog W=.ok (goInt 1) (W.setCells b (off+i*2) vs):=λW hWc hWf ty dc=>
  wX W _ _ ty 90 2 b (off+i*2) (n+1-i) dc ⟨vb,0,none⟩ 1 1 1 vs underlying59 hsz (by simp only[Nat.min_def];split<;>omega) (by rw[hvl])
   (λj v hj=>by
    rw[Addr.add_lit,hWc,hW1,World.cell?_setCells_out b _ _ _ _ (λh _=>absurd h hvb)];exact hvs j v hj)
   (λj hj=>by rw[hWc,EB];exact hsp1 _ aa) (λj hj=>by rw[hWf,hW1,World.frozen?_setCells,EB];exact hfz _ aa) h1v
 rw[<-hW1] at hcp1
 go_enter func94,ntmps94
 go_wp2_with (simp only[hov])
 go_region_law_o (refine step_copy_runI rfl _ _ 59 59 rfl _ _ (by simp[Act.eval,Act.put]) (by simp[Act.eval,Act.put]) (hcp1 _ _ _) ?_)
 go_wp2_with (at_builtin;refine wpList_copy_runI _ rfl _ _ 59 59 rfl _ _ rfl rfl (hcp2 _ (λ_=>rfl) (λ_=>rfl) _ _) ?_)
 go_ret
 first|exact⟨rfl,rfl⟩|exact⟨rfl,by rw[hW1]⟩
end
section
open Go.RowKit Go.Shelf Go.Lib Go.Gv
set_option maxRecDepth 100000
set_option maxHeartbeats 4000000
theorem a3F(b off n c vb:Nat)(vs:List Value)(w:World)(hroom:n+1<=c)(hc63:c<=9223372036854775807)(hvl:vs.length=2)
  (hsp:∀j,j<c*2->(w.cell? ⟨b,off+j,none⟩).isSome=true) (hfz:∀j,j<c*2->w.frozen? ⟨b,off+j,none⟩=false) (hvs:aY w vb 0 vs) (h1v:∀v∈vs,v.oneCell'=true) :
  Calls prog 94 #[.slice (some ⟨b,off,none⟩) n c,.int .i64 n,.slice (some ⟨vb,0,none⟩) 1 1] w λe w'=>
   e=.returned (.slice (some ⟨b,off,none⟩) (n+1) c)/\w'=w.setCells b (off+n*2) vs:=by
 have u0:=run_underlying underlying59;have mixed:=aJ;obtain⟨i0,hi0,hz0,hzs,hzb⟩:=yA;have hsrc:Src prog i0.size 59 (.slice (some ⟨vb,0,none⟩) 1 1) 1 vs w:=by rw[hzs];exact Src.ofSlice w underlying59 ⟨vb,0,none⟩ 1 1 vs aa (λj u hj=>by rw[Addr.add_lit];exact hvs j u hj) h1v
 have hrun:=run_append_room_src w 59 59 59 90 i0 underlying59 hi0 b off n c (.slice (some ⟨vb,0,none⟩) 1 1) 1 vs hsrc hroom (by rw[hzs,hvl];exact λj hj=>by rw[EB];exact hsp _ aa) (by rw[hzs,hvl];exact λj hj=>by rw[EB];exact hfz _ aa);rw[hzs] at hrun
 go_enter func94,ntmps94
 go_wp2_with (at_builtin;refine Lib.wpList_append_run _ rfl _ _ _ _ rfl _ _ rfl rfl _ _ hrun ?_)
 go_ret
 exact⟨rfl,rfl⟩
theorem a8J(base:Option Addr)(n c vb:Nat)(cs vs:List Value)(w:World)(hnc:n<=c)(hroom:c<n+1)(hbig:n+1<=1073741824)(hcl:cs.length=n*2)(hvl:vs.length=2)(hnil:base=none->n=0)
  (hcs:∀a,base=some a->∀j v,cs[j]?=some v->w.cell? (a.add j)=some v) (hvs:aY w vb 0 vs) (h1v:∀v∈vs,v.oneCell'=true) :
  Calls prog 94 #[.slice base n c,.int .i64 n,.slice (some ⟨vb,0,none⟩) 1 1] w λe w'=>
   e=.returned (.slice (some ⟨w.heap.size,0,none⟩) (n+1) (grownCap w (n+1) c 90)) /\
   w'=w.drew.alloc (.cells ((cs++vs).toArray++Builtin.zeroCells (.agg #[.int .i64 0,.int .i64 0]:Value).cells (grownCap w (n+1) c 90-(n+1))) 90):=by
 have u0:=run_underlying underlying59;have mixed:=aJ;obtain⟨i0,hi0,hz0,hzs,hzb⟩:=yA;have hsrc:Src prog i0.size 59 (.slice (some ⟨vb,0,none⟩) 1 1) 1 vs w:=by rw[hzs];exact Src.ofSlice w underlying59 ⟨vb,0,none⟩ 1 1 vs aa (λj u hj=>by rw[Addr.add_lit];exact hvs j u hj) h1v
 have hold:(Builtin.firstCells i0.size n (.slice base n c)).run prog w.drew=.ok cs.toArray w.drew:=by
  rw[hzs];cases base with
  |none=>
   have h0:=hnil rfl;subst h0;rw[List.length_eq_zero_iff.1 (by omega:cs.length=0)];exact run_firstCells_none w.drew 2 0 0 c
  |some a=>exact run_firstCells_some w.drew 2 n a n c cs hcl (λj v hj=>hcs a rfl j v hj)
 have hfit:Builtin.nextslicecap (n+1) c*i0.bytes<=281474976710656:=growslice_fits hroom (lW (aCA hbig hzb) ai);have hrun:=run_append_grow_src w 59 59 59 90 i0 _ underlying59 hi0 hz0 base n c cs hold _ 1 vs hsrc hroom aa hfit
 go_enter func94,ntmps94
 cases base with
 |none=>
  have h0:=hnil rfl;subst h0
  go_wp2_with (at_builtin;refine Lib.wpList_append_run _ rfl _ _ _ _ rfl _ _ rfl rfl _ _ hrun ?_)
  go_ret
  exact⟨rfl,rfl⟩
 |some a=>
  obtain⟨ab,ao,asp⟩:=a
  go_wp2_with (at_builtin;refine Lib.wpList_append_run _ rfl _ _ _ _ rfl _ _ rfl rfl _ _ hrun ?_)
  all_goals (go_ret;exact⟨rfl,rfl⟩)
theorem a3G(b off n c i vb:Nat)(cs vs:List Value)(w:World)(hi:i<n)(hnc:n<=c)(hroom:c<n+1)(hbig:n+1<=1073741824)(hcl:cs.length=n*2)(hvl:vs.length=2)
  (hcs:aY w b off cs) (hvs:aY w vb 0 vs) (h1c:∀v∈cs,v.oneCell'=true) (h1v:∀v∈vs,v.oneCell'=true) :
  Calls prog 94 #[.slice (some ⟨b,off,none⟩) n c,.int .i64 i,.slice (some ⟨vb,0,none⟩) 1 1] w λe w'=>
   e=.returned (.slice (some ⟨w.heap.size,0,none⟩) (n+1) (grownCap w (n+1) c 90)) /\
   w'=(((w.alloc (.cells ((cs.take (i*2)).toArray++Builtin.zeroCells (.agg #[.int .i64 0,.int .i64 0]:Value).cells (n+1-i)++Builtin.zeroCells (.agg #[.int .i64 0,.int .i64 0]:Value).cells (grownCap w (n+1) c 90-(n+1))) 90)).drew.setCells w.heap.size (i*2) vs).drew).setCells w.heap.size ((i+1)*2) (cs.drop (i*2)):=by
 have u0:=run_underlying underlying59;have u3:=run_underlying underlying3;have mixed:=aJ;obtain⟨i0,hi0,hz0,hzs,hzb⟩:=yA;have hz2:¬((i:Int)=(n:Int)):=aa
 have hz3:(c:Int)<(n:Int)+1:=aa
 have hsz:(prog.info? 90).map (·.size)=some 2:=by rw[hi0];simp[hzs]
 have hbw:b<w.heap.size:=block_lt_of_cell (hcs 0 _ (iS aa));have hvw:vb<w.heap.size:=block_lt_of_cell (hvs 0 _ (iS aa));have hkk:(n:Int)+1-(i:Int)=((n+1-i:Nat):Int):=aa
 have hik:i+(n+1-i)=n+1:=aa
 have htl:(cs.take (i*2)).length=i*2:=by rw[aAA];omega
 have hold:(Builtin.firstCells i0.size i (.slice (some ⟨b,off,none⟩) i c)).run prog w.drew=.ok (cs.take (i*2)).toArray w.drew:=by
  rw[hzs];exact run_firstCells_some w.drew 2 i ⟨b,off,none⟩ i c (cs.take (i*2)) htl (λj v hj=>by
   rw[Addr.add_lit];rw[aB7] at hj;split at hj
   ·exact hcs j v hj
   ·cases hj)
 have hfit:Builtin.nextslicecap (n+1) c*i0.bytes<=281474976710656:=growslice_fits hroom (lW (aCA hbig hzb) ai);have hrz:∀ty,(Builtin.append_ #[59,3] ty #[.slice (some ⟨b,off,none⟩) i c,.int .i64 ((n:Int)+1-(i:Int))]).run prog w =
   .ok (.slice (some ⟨w.heap.size,0,none⟩) (n+1) (grownCap w (n+1) c 90)) (w.drew.alloc (.cells ((cs.take (i*2)).toArray++Builtin.zeroCells (.agg #[.int .i64 0,.int .i64 0]:Value).cells (n+1-i)++Builtin.zeroCells (.agg #[.int .i64 0,.int .i64 0]:Value).cells (grownCap w (n+1) c 90-(n+1))) 90)):=λty=>by
  have h:=Lib.run_append_grow_zeros w 59 3 ty 90 i0 _ .i64 .i64 underlying59 underlying3 hi0 hz0 (some ⟨b,off,none⟩) i c (cs.take (i*2)) hold (n+1-i) aa aa aa aa (lW (aCA (show n+1-i<=1073741824 by omega) hzb) ai) (by rw[hik];exact hfit);rw[hik] at h;rw[hkk];exact h
 obtain⟨G,hG⟩:∃G,G=grownCap w (n+1) c 90:=⟨_,rfl⟩;obtain⟨ROW,hROW⟩:∃ROW:Array Value,ROW=(cs.take (i*2)).toArray++Builtin.zeroCells (.agg #[.int .i64 0,.int .i64 0]:Value).cells (n+1-i)++Builtin.zeroCells (.agg #[.int .i64 0,.int .i64 0]:Value).cells (G-(n+1)):=⟨_,rfl⟩;rw[<-hG] at hrz ⊢;rw[<-hROW] at hrz ⊢;have hRl:(n+1)*2<=ROW.size:=by rw[hROW];simp only[Array.size_append,aJ4,htl,size_zeroCells];have:(.agg #[.int .i64 0,.int .i64 0]:Value).cells.size=2:=rfl;rw[this];omega
 obtain⟨W1,hW1⟩:∃W1,W1=w.drew.alloc (.cells ROW 90):=⟨_,rfl⟩;rw[<-hW1] at hrz;have hN:∀j,j<(n+1)*2->(W1.cell? ⟨w.heap.size,j,none⟩).isSome=true:=λj hj=>by rw[hW1,World.cell?_alloc_at (w:=w.drew) ROW _ w.heap.size j rfl,Array.getElem?_eq_getElem aa];rfl
 have hNf:∀j,W1.frozen? ⟨w.heap.size,j,none⟩=false:=λj=>by rw[hW1];exact World.frozen?_alloc_at (w:=w.drew) ROW _ w.heap.size j rfl
 have hOb:∀j v,w.cell? ⟨b,j,none⟩=some v->W1.cell? ⟨b,j,none⟩=some v:=λj v h=>by rw[hW1,World.cell?_alloc_past (w:=w.drew) _ b j hbw];exact h
 have hOv:∀j v,w.cell? ⟨vb,j,none⟩=some v->W1.cell? ⟨vb,j,none⟩=some v:=λj v h=>by rw[hW1,World.cell?_alloc_past (w:=w.drew) _ vb j hvw];exact h
 have hcpA:∀(W:World),(∀x,W.cell? x=W1.cell? x)->(∀x,W.frozen? x=W1.frozen? x)->∀ty dc,(Builtin.copy_ #[59,59] ty #[.slice (some ⟨w.heap.size,i*2,none⟩) (n+1-i) dc,.slice (some ⟨vb,0,none⟩) 1 1]).run prog W=.ok (goInt 1) (W.setCells w.heap.size (i*2) vs):=λW hWc hWf ty dc=>
  wX W _ _ ty 90 2 w.heap.size (i*2) (n+1-i) dc ⟨vb,0,none⟩ 1 1 1 vs underlying59 hsz (by simp only[Nat.min_def];split<;>omega) (by rw[hvl])
   (λj v hj=>by rw[Addr.add_lit,hWc];exact hOv _ v (hvs j v hj))
   (λj hj=>by rw[hWc];exact hN _ aa) (λj hj=>by rw[hWf];exact hNf _) h1v
 have hGn:n+1<=G:=by rw[hG];exact grownCap_ge w _ _ _
 have hG63:G<=9223372036854775807:=by have:=grownCap_le_maxLen w (n+1) c 90 (by unfold maxLen;omega);rw[<-hG] at this;unfold maxLen at this;omega
 have hGi:¬(G=i):=aa
 have hGim:¬(G=i+1):=aa
 have hci:¬(c=i):=aa
 have hbN:b≠w.heap.size:=aa
 have hdl:(cs.drop (i*2)).length=(n-i)*2:=by rw[U6,hcl];omega
 have hcpB:∀(W:World),(∀x,W.cell? x=(W1.setCells w.heap.size (i*2) vs).cell? x)->(∀x,W.frozen? x=(W1.setCells w.heap.size (i*2) vs).frozen? x)->∀ty dc sc,(Builtin.copy_ #[59,59] ty #[.slice (some ⟨w.heap.size,(i+1)*2,none⟩) (n-i) dc,.slice (some ⟨b,off+i*2,none⟩) (n-i) sc]).run prog W=.ok (goInt (n-i:Nat)) (W.setCells w.heap.size ((i+1)*2) (cs.drop (i*2))):=λW hWc hWf ty dc sc=>
  wX W _ _ ty 90 2 w.heap.size ((i+1)*2) (n-i) dc ⟨b,off+i*2,none⟩ (n-i) sc (n-i) (cs.drop (i*2)) underlying59 hsz (by simp only[Nat.min_def];split<;>omega) hdl
   (λj v hj=>by
    rw[Addr.add_lit,hWc,World.cell?_setCells_out _ _ _ _ _ (λh _=>absurd h hbN),EB];exact hOb _ v (hcs (i*2+j) v (by rwa [aGB] at hj)))
   (λj hj=>by rw[hWc];exact isSome_setCells _ _ _ _ (λt ht=>hN _ aa) _ (hN _ aa))
   (λj hj=>by rw[hWf,World.frozen?_setCells];exact hNf _) (λv hv=>h1c v (RN hv))
 subst hW1;have hE1:∀x,((w.alloc (.cells ROW 90)).drew).cell? x=(w.drew.alloc (.cells ROW 90)).cell? x:=λx=>rfl;have hE2:∀x,((w.alloc (.cells ROW 90)).drew).frozen? x=(w.drew.alloc (.cells ROW 90)).frozen? x:=λx=>rfl;have hF1:∀x,(((w.alloc (.cells ROW 90)).drew.setCells w.heap.size (i*2) vs).drew).cell? x=((w.drew.alloc (.cells ROW 90)).setCells w.heap.size (i*2) vs).cell? x:=λx=>rfl;have hF2:∀x,(((w.alloc (.cells ROW 90)).drew.setCells w.heap.size (i*2) vs).drew).frozen? x=((w.drew.alloc (.cells ROW 90)).setCells w.heap.size (i*2) vs).frozen? x:=λx=>rfl;have hw1:IntKind.i64.wrap ((i:Int)+1)=(i:Int)+1:=by rw[IntKind.wrap_i64];omega
 have hw2:IntKind.i64.wrap ((n:Int)+1)=(n:Int)+1:=by rw[IntKind.wrap_i64];omega
 have hw3:IntKind.i64.wrap ((n:Int)+1-(i:Int))=(n:Int)+1-(i:Int):=by rw[IntKind.wrap_i64];omega
 have hb1:(0:Int)<=(i:Int)+1:=aa
 have hin:i<=n:=aa
 have htn:((i:Int)+1).toNat=i+1:=aa
 have hb3:(i:Int)<=(n:Int):=aa
 clear hkk hik hold hROW hG hRl htl
 go_enter func94,ntmps94
 go_wp2_with (first
  |(at_builtin;refine Lib.wpList_append_run _ rfl _ _ _ _ rfl _ _ rfl rfl _ _ (hrz _) ?_)
  |(at_builtin;refine wpList_copy_runI _ rfl _ _ 59 59 rfl _ _ rfl rfl (hcpA _ hE1 hE2 _ _) ?_)
  |(at_builtin;refine wpList_copy_runI _ rfl _ _ 59 59 rfl _ _ rfl rfl (hcpB _ (λ_=>rfl) (λ_=>rfl) _ _ _) ?_))
 go_region_law_o (refine step_copy_runI rfl _ _ 59 59 rfl (.slice (some ⟨w.heap.size,(i+1)*2,none⟩) (n-i) (G-(i+1))) (.slice (some ⟨b,off+i*2,none⟩) (n-i) (c-i)) (by simp[Act.eval,Act.put]) (by simp[Act.eval,Act.put]) (hcpB _ hF1 hF2 3 (G-(i+1)) (c-i)) ?_)
 go_wp2
 go_ret
 exact⟨rfl,rfl⟩
end
section
open Go Go.RowKit
attribute [local go_sem] Oper.semAt_some
def bDK(x:Nat×Int):Array Value:=#[.int .i64 (x.1:Int),.int .i64 x.2]
theorem bK8{n l Bs n₀ z cap len:Nat}{a:Option Addr}{ls:List Int}{F:Fence}(hlen:ls.length=len)(h7:F.fn 88)(hro:F.round=none)(hn:1<=n)(hreach:len<=9223372036854775807)(hb:Bs<n₀/\Bs≠z)(J:List (Nat×Int)->World->Prop)
  (hY:∀pre x W,J pre W->(pre.length<len/\ls[len-1-pre.length]?=some x.2)->YieldAt F (n-1) prog l (bDK x) W λe W'=>e=.returned (.bool true)/\J (pre++[x]) W'/\KX n₀ z W W')
  (W:World) (hBs:W.cell? ⟨Bs,0,none⟩=some (.slice a len cap)) (hc:ls=[]\/∃b off,a=some ⟨b,off,none⟩/\(b<n₀/\b≠z)/\∀j v,ls[j]?=some v->W.cell? ⟨b,off+j,none⟩=some (.int .i64 v)) (h0:J [] W) :
  CallsIn F n prog 88 #[.func (.yield l) #[] #[],.pointer (some ⟨Bs,0,none⟩)] W λe W'=>(∃v,e=.returned v)/\∃xs,xs.length=len/\J xs W':=by
 have kx:∀{A B:World} {b o:Nat},KX n₀ z A B->b<n₀/\b≠z->B.cell? ⟨b,o,none⟩=A.cell? ⟨b,o,none⟩:=λh hb=>World.cell?_of_block (h.HT _ hb.1 hb.2);refine callsIn_of_wp func88 rfl h7 ?_ hro;simp only[ntmps88,aJ4,HD,List.length_nil,Nat.reduceAdd,Nat.reduceSub,Array.replicate_succ,Array.replicate_zero,List.push_toArray,List.append_toArray,OU,D7]
 gi_wp2
 gi_loopw [3] (λi wr=>∃pre,pre.length<=len/\i=.int .i64 ((len:Int)-1-pre.length)/\J pre wr/\KX n₀ z W wr)
  (λi _=>(intOf i+1).toNat)
 case atStart=>exact⟨[],i4 _,ae,h0,KX.refl _ _ _⟩
 case round=>
  obtain⟨pre,hk,rfl,hJs,hnx⟩:=hrel;have hBs':=(kx (o:=0) hnx hb).trans hBs;by_cases hlt:pre.length<len
  ·obtain⟨b,off,rfl,hbn,hc⟩:=hc.resolve_left (by rintro rfl;simp at hlen;omega);have hi:len-1-pre.length<ls.length:=aa
   obtain⟨fn,tmps,assign,body,hy,hR⟩:=hY _ (len-1-pre.length,ls[len-1-pre.length]) wr hJs ⟨hlt,iS hi⟩;have c0:=(kx (o:=off+(len-1-pre.length)) hnx hbn).trans (hc (len-1-pre.length) _ (iS hi));have e1:((len-1-pre.length:Nat):Int)=(len:Int)-1-pre.length:=aa
   simp only[bDK] at hy;rw[e1] at hy;generalize hp:pre.length=k at *
   gi_wp2
   refine hR.mono ?_;rintro e W3 ⟨rfl,hJ3,hk3⟩
   gi_wp2
   go_roundw
   case rel=>exact⟨_,ah,ah,hJ3,hnx.trans hk3⟩
   case measure=>simp[intOf];omega
  ·generalize hp:pre.length=k at *;obtain rfl:k=len:=aa
   gi_wp2
   go_end0
   exact⟨⟨_,rfl⟩,_,hp,hJs⟩
theorem bK9{F:Fence}(n:Nat)(h5:F.fn 40)(hro:F.round=none)(a:Option Addr)(len cap:Nat)(w:World) :
  CallsIn F n prog 40 #[.slice a len cap] w λe w'=>e=.returned (.func (.func 88) #[] #[.pointer (some ⟨w.heap.size,0,none⟩)])/\w'=w.alloc (.cells #[.slice a len cap] 25):=by
 refine callsIn_of_wp func40 rfl h5 ?_ hro;simp only[ntmps40,aJ4,HD,List.length_nil,Nat.reduceAdd,Nat.reduceSub,Array.replicate_succ,Array.replicate_zero,List.push_toArray,List.append_toArray,OU,D7]
 gi_wp2
 go_ret
 exact⟨rfl,rfl⟩
theorem aLB{t:Table}{l:List Int}:∀{ls:List (List Int)} {m:List KV},tmL t (ls++[l]) m=(tmL t ls m).bind (tmB t l)
 |[],m=>by simp[tmL]
 |a::ls,m=>by simp only[D7,tmL,Option.bind_assoc];congr 1;funext m';exact aLB
theorem a09{t:Table}{b:List Int}{m r:List KV}:∀{a:List Int},tmB t (a++b) m=some r->∃q,tmB t b m=some q
 |[],h=>⟨r,h⟩
 |x::a,h=>by
  simp only[D7,tmB] at h;cases e:tmB t (a++b) m with
  |none=>rw[e] at h;cases h
  |some q=>exact a09 e
theorem a1A{t:Table}:∀{a b:List (List Int)} {m r:List KV},tmL t (a++b) m=some r->∃q,tmL t a m=some q
 |[],b,m,r,h=>⟨m,rfl⟩
 |x::a,b,m,r,h=>by
  simp only[D7,tmL] at h ⊢;cases e:tmB t x m with
  |none=>rw[e] at h;cases h
  |some q=>rw[e] at h;exact a1A h
structure WF (w:World) (z:Nat) (A:Array Value) (y:AC) (L:List (List Int)) (m:List KV) (W:World):Prop where
 below:Below w.heap.size w W
 b1:W.heap[w.heap.size]?=some (.cells A 47 (0,0))
 b3:∃v,W.heap[z]?=some (.cells #[v] 59 (0,0))/\(∃yv:AC,v=yv.v m.length)/\OwZ w.heap.size z W v m
 ls:RdZ z W [y.v L.length] L
theorem WF.kept{w W W':World}{z:Nat}{A:Array Value}{y:AC}{L:List (List Int)}{m:List KV}(h:WF w z A y L m W)(hb:Below w.heap.size w W')(hz:w.heap.size≠z)(hk:CK z W W')(h3:W'.heap[z]?=W.heap[z]?):WF w z A y L m W':=by obtain⟨v,e1,e2,e3⟩:=h.b3;exact⟨hb,(hk _ _ _ _ hz h.b1).trans h.b1,⟨v,h3.trans e1,e2,e3.kept hk⟩,h.ls.kept hk⟩
theorem bDL{w:World}{t:Table}{v0 v1 v2 v3 v4 v5 v6 v7 v8 v9 v10 v11 v12:Value}{L:List (List Int)}{ok:Bool}{r:List KV}(hr:tmL t L []=some r)
  (hch:∀W,Below w.heap.size w W->CallsIn Fence.wide 7 prog 39 #[.agg #[v0,v1,v2,v3,v4,v5,v6,v7,v8,v9,v10,v11,v12]] W λe W'=>∃y:AC,e=.returned (.tuple #[y.v L.length,.bool ok])/\Below W.heap.size W W'/\∀z,z<W.heap.size->RdZ z W' [y.v L.length] L)
  (hnd:∀n W h nd,Below w.heap.size w W->pH t.aA.Mem.Heap (Int.tmod h 32)=some nd->CallsIn Fence.wide n prog 41 #[.agg #[v0,v1],.int .i64 (Int.tmod h 32)] W λe W'=>e=.returned (.agg #[.int .i64 nd.Key,.int .i64 nd.dM,.int .i64 nd.Next])/\Below W.heap.size W W')
  (hmp:∀n W z v (m:List KV) k x q,w.heap.size<=W.heap.size->z<W.heap.size->(∃yv:AC,v=yv.v m.length)->RdZ z W [v] m->sM m k x=some q->CallsIn Fence.wide n prog 42 #[v,.int .i64 k,.int .i64 x] W λe W'=>∃y:AC,e=.returned (y.v q.length)/\Below W.heap.size W W'/\OwZ w.heap.size z W' (y.v q.length) q) :
  CallsIn Fence.wide 8 prog 18 #[.agg #[v0,v1,v2,v3,v4,v5,v6,v7,v8,v9,v10,v11,v12]] w λe W'=>∃y:AC,e=.returned (y.v r.length)/\Below w.heap.size w W'/\OwZ w.heap.size (w.heap.size+2) W' (y.v r.length) r:=by
 refine callsIn_of_wp_marks func18 rfl trivial ?_ rfl;simp only[ntmps18,aJ4,HD,List.length_nil,Nat.reduceAdd,Nat.reduceSub,Array.replicate_succ,Array.replicate_zero,List.push_toArray,List.append_toArray,OU,D7]
 gi_wp2
 refine⟨trivial,(hch _ ?_).mono ?_⟩
 ·exact(((Below.refl _ w).alloc (iT _) _).alloc ae _).alloc ah _
 ·rintro e W0 ⟨y,rfl,hb0,hL0⟩;simp only[]
  go_at_K
  gi_wp2
  have hb1:Below w.heap.size w W0:=((((Below.refl _ w).alloc (iT _) _).alloc ae _).alloc ah _).trans (hb0.mono ah);refine wpIn_loop (λa' W'=>∃(k:Nat) (u7 u20 u21 u22 u23 u24 u40:Value) (ds:List Deferred) (m:List KV),k<=L.length/\tmL t (L.take k) []=some m/\WF w (w.heap.size+2) #[v0,v1,v2,v3,v4,v5,v6,v7,v8,v9,v10,v11,v12] y L m W'/\(Mks ds W'/\∀D,mkD D∈ds->w.heap.size+2<D)/\a'=⟨#[.agg #[v0,v1,v2,v3,v4,v5,v6,v7,v8,v9,v10,v11,v12],.pointer (some ⟨w.heap.size,0,none⟩),.slice none 0 0,.pointer (some ⟨w.heap.size+1+1,0,none⟩),y.v L.length,.bool ok,undef,u7,undef,undef,undef,.slice (some ⟨w.heap.size+1,0,none⟩) 0 0,.tuple #[y.v L.length,.bool ok],.agg #[v0,v1,v2,v3,v4,v5,v6,v7,v8,v9,v10,v11,v12],.tuple #[y.v L.length,.bool ok],y.v L.length,.bool ok,y.v L.length,.int .i64 L.length,.int .i64 k,u20,u21,u22,u23,u24,undef,undef,undef,undef,undef,undef,undef,undef,undef,undef,undef,undef,undef,undef,undef,u40,undef],ds⟩) (λa' _=>L.length-(intOf (a'.tmps.getD 19 undef)).toNat) ?_ ?_
  ·refine⟨0,_,_,_,_,_,_,_,[],[],i4 _,rfl,⟨hb1,?_,⟨_,?_,⟨⟨some ⟨w.heap.size+1,0,none⟩,0⟩,rfl⟩,bDC _ _⟩,hL0 _ ae⟩,⟨trivial,λD h=>by cases h⟩,rfl⟩
   ·exact(hb0.block _ ah).trans (((Below.heap_alloc _ _ _ ah).trans (Below.heap_alloc _ _ _ ae)).trans (World.alloc_heap_new w _))
   ·have b2:=λo o' o''=>World.alloc_heap_new ((w.alloc o).alloc o') o'';simp only[World.size_alloc] at b2;exact(hb0.block _ ae).trans (b2 _ _ _)
  ·rintro a' W ⟨k,u7,u20,u21,u22,u23,u24,u40,ds,m,hk,hm,hw,⟨hd1,hd2⟩,rfl⟩;by_cases hlt:k<L.length
   ·obtain⟨ya,yc,ye,q1,q2,q3⟩:=(show qN _ _ _ _ from hw.ls);obtain⟨yb,yo,rfl,q4⟩:=q3.resolve_left (by rintro rfl;simp at hlt);obtain⟨ec,g1,g2,g3⟩:=q4 k hlt;obtain⟨la,lc,rfl,p1,p2,p3⟩:=(show qN _ _ _ _ from g3);injection ye with ye
    rw[ye];have hc0:W.cell? ⟨yb,yo+k,none⟩=some (.slice la L[k].length lc):=by simpa[show aM.n (List Int)=1 from rfl] using g1 0 _ rfl
    have hin:L[k]=[]\/∃b off,la=some ⟨b,off,none⟩/\(b<W.heap.size/\b≠w.heap.size+2)/\∀j v,L[k][j]?=some v->W.cell? ⟨b,off+j,none⟩=some (.int .i64 v):=by
     refine Decidable.or_iff_not_imp_left.2 λhne=>?_;obtain⟨b,off,e,h⟩:=p3.resolve_left hne;have key:∀j v,L[k][j]?=some v->b≠w.heap.size+2/\W.cell? ⟨b,off+j,none⟩=some (.int .i64 v):=λj v hj=>by obtain⟨hlt,rfl⟩:=AP.1 hj;obtain⟨ec,c1,c2,c3⟩:=h j hlt;have c3:ec=[.int .i64 L[k][j]]:=c3;subst c3;simp only[show aM.n Int=1 from rfl,Nat.mul_one] at c1 c2;exact⟨(c2 (off+j) ⟨rfl,aa,ae⟩).1,by simpa using c1 0 _ rfl⟩
     have h0:=key 0 _ (iS (List.length_pos_iff.2 hne));exact⟨b,off,e,⟨World.block_lt_of_cell? W _ h0.2,h0.1⟩,λj v hj=>(key j v hj).2⟩
    have hsuc:∃m',tmB t L[k] m=some m'/\tmL t (L.take (k+1)) []=some m':=by obtain⟨q,hq⟩:=a1A (a:=L.take (k+1)) (b:=L.drop (k+1)) (by rw[aAC];exact hr);rw[JN hlt,aLB,hm] at hq;exact⟨q,hq,by rw[JN hlt,aLB,hm];exact hq⟩
    obtain⟨m',hm1,hm2⟩:=hsuc;have hLl:L.length<=9223372036854775807:=by have:=q1;simp only[maxLen] at q2;omega
    have hlen:L[k].length<=9223372036854775807:=by have:=p1;have:=p2;simp only[maxLen] at p2;omega
    clear g1 g2 g3 p1 p2 p3 q3 q4;generalize L[k]=ls at *
    gi_wp2
    refine⟨trivial,(bK9 (F:=Fence.wide) 7 trivial rfl _ _ _ _).mono ?_⟩;rintro e W1 ⟨rfl,rfl⟩;simp only[]
    go_at_K
    gi_wp2
    have hdB:∀D,mkD D∈ds->D<W.heap.size:=λD hD=>(aGS.1 (hd1.at D hD)).1;have hzW:w.heap.size+2<W.heap.size:=(let ⟨_,h,_⟩:=hw.b3;(aGS.1 h).1);refine a72 (F:=Fence.wide) rfl ai (gf:=88) (lb:=#[.pointer (some ⟨W.heap.size,0,none⟩)]) (n₀:=W.heap.size+1) (z:=w.heap.size+2) (encs:=bDK) (S:=λxs=>xs.length=ls.length) (R:=λpre x=>pre.length<ls.length/\ls[ls.length-1-pre.length]?=some x.2) (w0:=W.alloc (.cells #[.slice la ls.length lc] 25)) rfl trivial call88 ?hseq ae (Below.refl _ _) (λ_=>rfl)
     (λpre W'=>∃m',tmB t (ls.drop (ls.length-pre.length)) m=some m'/\WF w (w.heap.size+2) #[v0,v1,v2,v3,v4,v5,v6,v7,v8,v9,v10,v11,v12] y L m' W'/\Mks ds W') ?hI ?h0 (λx=>⟨#[.agg #[v0,v1,v2,v3,v4,v5,v6,v7,v8,v9,v10,v11,v12],.pointer (some ⟨w.heap.size,0,none⟩),.slice none 0 0,.pointer (some ⟨w.heap.size+1+1,0,none⟩),.slice (some ⟨yb,yo,none⟩) L.length yc,.bool ok,undef,.slice la ls.length lc,undef,.int .i64 x.2,undef,.slice (some ⟨w.heap.size+1,0,none⟩) 0 0,.tuple #[.slice (some ⟨yb,yo,none⟩) L.length yc,.bool ok],.agg #[v0,v1,v2,v3,v4,v5,v6,v7,v8,v9,v10,v11,v12],.tuple #[.slice (some ⟨yb,yo,none⟩) L.length yc,.bool ok],.slice (some ⟨yb,yo,none⟩) L.length yc,.bool ok,.slice (some ⟨yb,yo,none⟩) L.length yc,.int .i64 L.length,.int .i64 k,.bool true,.pointer (some ⟨yb,yo+k,none⟩),.slice la ls.length lc,.slice la ls.length lc,.func (.func 88) #[] #[.pointer (some ⟨W.heap.size,0,none⟩)],.int .i64 (x.1:Int),.int .i64 x.2,undef,undef,undef,undef,undef,undef,undef,undef,undef,undef,undef,undef,undef,u40,undef],[]⟩) ?hassign ?hbody ?hdone
    case hassign=>
     rintro l x W'
     gi_wp2
     exact⟨by simp[bDK],trivial⟩
    case hbody=>
     rintro l pre x W' hs ⟨hp1,hp2⟩ ⟨m1,e1,e2,e3⟩;obtain⟨_,f1,⟨yv,rfl⟩,f3⟩:=e2.b3;have hnx:∃nd q,pH t.aA.Mem.Heap (Int.tmod x.2 32)=some nd/\sM m1 nd.Key nd.dM=some q/\tmB t (ls.drop (ls.length-(pre++[x]).length)) m=some q:=by
      obtain⟨hi,hx⟩:=AP.1 hp2;have hdr:ls.drop (ls.length-(pre++[x]).length)=x.2::ls.drop (ls.length-pre.length):=by rw[show ls.length-(pre++[x]).length=ls.length-1-pre.length by simp;omega,uE hi,hx];congr 2;omega
      obtain⟨q,hq⟩:=a09 (a:=ls.take (ls.length-(pre++[x]).length)) (by rw[aAC];exact hm1);have hq':=hq;rw[hdr] at hq';simp only[tmB,e1,aL] at hq';cases en:pH t.aA.Mem.Heap (Int.tmod x.2 32) with
      |none=>rw[en] at hq';cases hq'
      |some nd=>rw[en] at hq';exact⟨nd,q,rfl,hq',hq⟩
     obtain⟨nd,q,d1,d2,d3⟩:=hnx;have hx0:W'.cell? ⟨w.heap.size,0,none⟩=some (v0):=by simp[World.cell?,e2.b1]
     have hx1:W'.cell? ⟨w.heap.size,1,none⟩=some (v1):=by simp[World.cell?,e2.b1]
     gi_wp2
     refine⟨trivial,(show CallsIn (Fence.wide.inRound l) 5 _ _ _ _ _ from hnd 5 W' x.2 nd e2.below d1).mono ?_⟩;rintro e W1 ⟨rfl,hb1⟩;simp only[]
     go_at_K
     have hzl:w.heap.size+2<W'.heap.size:=(aGS.1 f1).1;have hB12:Below W'.heap.size W' (W1.alloc (.cells #[.int .i64 nd.Key,.int .i64 nd.dM,.int .i64 nd.Next] 100)):=hb1.trans (((Below.refl _ W1).alloc (iT _) _).mono hb1.size);have c2:(W1.alloc (.cells #[.int .i64 nd.Key,.int .i64 nd.dM,.int .i64 nd.Next] 100)).heap[W1.heap.size]?=some (.cells #[.int .i64 nd.Key,.int .i64 nd.dM,.int .i64 nd.Next] 100):=World.alloc_heap_new W1 _;have c20:(W1.alloc (.cells #[.int .i64 nd.Key,.int .i64 nd.dM,.int .i64 nd.Next] 100)).cell? ⟨W1.heap.size,0,none⟩=some (.int .i64 nd.Key):=by simp only[World.cell?,c2];rfl
     have c21:(W1.alloc (.cells #[.int .i64 nd.Key,.int .i64 nd.dM,.int .i64 nd.Next] 100)).cell? ⟨W1.heap.size,1,none⟩=some (.int .i64 nd.dM):=by simp only[World.cell?,c2];rfl
     have c2z:(W1.alloc (.cells #[.int .i64 nd.Key,.int .i64 nd.dM,.int .i64 nd.Next] 100)).heap[w.heap.size+1+1]?=some (.cells #[yv.v m1.length] 59 (0,0)):=(hB12.block _ hzl).trans f1;have c23:(W1.alloc (.cells #[.int .i64 nd.Key,.int .i64 nd.dM,.int .i64 nd.Next] 100)).cell? ⟨w.heap.size+1+1,0,none⟩=some (yv.v m1.length):=by simp only[World.cell?,c2z];rfl
     gi_wp2
     refine⟨trivial,(show CallsIn (Fence.wide.inRound l) 5 _ _ _ _ _ from hmp 5 (W1.alloc (.cells #[.int .i64 nd.Key,.int .i64 nd.dM,.int .i64 nd.Next] 100)) (w.heap.size+2) _ m1 nd.Key nd.dM q (lW e2.below.size hB12.size) (HE hzl hB12.size) ⟨yv,rfl⟩ (f3.kept (CK.below hB12)).rdZ d2).mono ?_⟩;rintro e W3 ⟨y3,rfl,hb3,hr3⟩;simp only[]
     go_at_K
     have hB23:Below W'.heap.size W' W3:=hB12.trans (hb3.mono hB12.size);have c3z:W3.heap[w.heap.size+1+1]?=some (.cells #[yv.v m1.length] 59 (0,0)):=(hB23.block _ hzl).trans f1;have c30:W3.cell? ⟨w.heap.size+1+1,0,none⟩=some (yv.v m1.length):=by simp[World.cell?,c3z]
     have c31:W3.frozen? ⟨w.heap.size+1+1,0,none⟩=false:=by simp[World.frozen?,c3z]
     gi_wp2
     rw[aUG c3z];have hW4:∃W4,W4=W3.putObj (w.heap.size+1+1) (.cells (#[yv.v m1.length].setIfInBounds 0 (.slice y3.a q.length y3.c)) 59 (0,0)):=⟨_,rfl⟩;obtain⟨W4,hW4⟩:=hW4;rw[<-hW4];have o4:∀b,b≠w.heap.size+2->W4.heap[b]?=W3.heap[b]?:=λb hb=>by rw[hW4];exact World.putObj_heap_other hb
     have z4:W4.heap[w.heap.size+2]?=some (.cells #[y3.v q.length] 59 (0,0)):=by rw[hW4];exact World.putObj_heap_same (HE hzl hB23.size)
     have s4':W4.heap.size=W3.heap.size:=by rw[hW4];simp[World.putObj]
     have k4:CK (w.heap.size+2) W3 W4:=λb _ _ _ hb _=>o4 b hb;simp only[World.size_alloc] at hs;refine⟨⟨by rw[s4'];exact hB23.size,λk o hk ho hoc=>?_⟩,⟨by rw[s4'];exact hB23.size,λk hk hz=>(o4 k hz).trans (hB23.block k aa)⟩,q,d3,⟨⟨?_,?_,?_,?_,λk hk=>?_⟩,(o4 _ aa).trans ((hB23.block _ (by have:=e2.below.size;omega)).trans e2.b1),⟨_,z4,⟨y3,rfl⟩,hr3.kept k4⟩,e2.ls.kept ((CK.below hB23).trans k4)⟩,e3.kept λD hD _=>(o4 D (by have:=hd2 D hD;omega)).trans (hB23.block D (by have:=hdB D hD;omega))⟩
     ·simp only[World.size_alloc] at hk;exact(o4 k aa).trans ((hB23.block k (aGS.1 ho).1).trans ho)
     ·rw[hW4];exact hB23.os.trans e2.below.os
     ·rw[hW4];exact hB23.tape.trans e2.below.tape
     ·rw[hW4];exact hB23.output.trans e2.below.output
     ·rw[s4'];exact lW e2.below.size hB23.size
     ·exact(o4 k aa).trans ((hB23.block k (by have:=e2.below.size;omega)).trans (e2.below.block k hk))
    case hI=>
     rintro pre X Y row ⟨m1,e1,e2,e3⟩ hg hr;simp only[World.size_alloc] at hr;have hrow:∀j,row=some j->W.heap.size<j:=λj e=>by have:=(hr j e).1;omega
     have nc:∀b t c f,X.heap[b]?=some (Obj.cells c t f)->Y.heap[b]?=X.heap[b]?:=λb t c f hb=>hg.block b (aGS.1 hb).1 λe=>by obtain⟨_,o,ho,hoc⟩:=hr b e.symm;rw[hb] at ho;cases ho;cases hoc
     refine⟨m1,e1,e2.kept (e2.below.grown hg e2.below.size λj e=>by have:=hrow j e;omega) aa (λb t c f _ hb=>nc b t c f hb) (let ⟨_,h,_⟩:=e2.b3;nc _ _ _ _ h),e3.kept λD hD h=>hg.block D (aGS.1 h).1 λe=>by have:=hrow D e.symm;have:=hdB D hD;omega⟩
    case h0=>
     have ba:Below W.heap.size W (W.alloc (.cells #[.slice la ls.length lc] 25)):=(Below.refl _ W).alloc (iT _) _;exact⟨m,by simp[tmB],hw.kept (hw.below.trans (ba.mono hw.below.size)) aa (CK.below ba) (ba.block _ hzW),hd1.kept λD hD _=>ba.block D (hdB D hD)⟩
    case hseq=>
     intro l J W' hb _ hY hJ;have hb':Below W.heap.size W W':=((Below.refl _ W).alloc (iT _) _).trans (hb.mono ae);refine bK8 (F:=Fence.wide) (n:=7) (l:=l) (Bs:=W.heap.size) (n₀:=W.heap.size+1) (z:=w.heap.size+2) (ls:=ls) (a:=la) (cap:=lc) rfl trivial rfl ai ?_ ⟨aa,aa⟩ J (λpre x W1 h1 h2=>hY pre x W1 h1 h2) W' ?_ ?_ hJ
     ·have:=hlen;omega
     ·exact(World.cell?_of_block (hb.block W.heap.size ae)).trans (by simp only[World.cell?,World.alloc_heap_new];rfl)
     ·exact hin.imp id λ⟨b,off,e,hbz,hc⟩=>⟨b,off,e,⟨aa,hbz.2⟩,λj v hj=>(World.cell?_of_block (hb'.block b hbz.1)).trans (hc j v hj)⟩
    case hdone=>
     rintro D xs W' hD hxs ⟨m1,e1,e2,e3⟩ hK;rw[hxs,Nat.sub_self,U5,hm1] at e1;cases e1
     gi_wp2
     simp only[World.size_alloc] at hD;refine⟨⟨k+1,_,_,_,_,_,_,_,mkD D::ds,m',hlt,hm2,e2,⟨⟨D,rfl,hK,λE hE=>by have:=hdB E hE;omega,e3⟩,λE hE=>?_⟩,rfl⟩,?_⟩
     ·rcases j3.1 hE with e|e
      ·simp only[mkD,Deferred.mk.injEq,Target.collected.injEq] at e;omega
      ·exact hd2 E e
     ·simp[intOf];omega
   ·obtain rfl:k=L.length:=aa
    rw[List.take_length,hr] at hm;cases hm;obtain⟨_,f1,⟨yv,rfl⟩,f3⟩:=hw.b3;have c0:W.cell? ⟨w.heap.size+1+1,0,none⟩=some (yv.v r.length):=by simp only[World.cell?,f1];rfl
    gi_wp2
    refine hd1.leave λW' h2 h3 ⟨o1,o2,o3⟩=>⟨yv.v r.length,?_,yv,rfl,⟨o1.trans hw.below.os,o2.trans hw.below.tape,o3.trans hw.below.output,by rw[h3];exact hw.below.size,λk hk=>(h2 k λD hD=>by have:=hd2 D hD;omega).trans (hw.below.block k hk)⟩,f3.kept λb t' c f hz hb=>h2 b λD hD e=>?_⟩
    ·simp[results,f18,go_sem]
    ·have:=hd1.at D hD;rw[<-e,hb] at this;cases this
end
end Go.Proofs.YtkinioiglogchaaGreat
end
