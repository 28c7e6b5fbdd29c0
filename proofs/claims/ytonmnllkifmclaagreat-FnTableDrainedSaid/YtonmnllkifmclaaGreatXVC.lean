import Derived.Test.YtonmnllkifmclaaGreatXVB
import Derived.Test.YtonmnllkifmclaaGreatProg
set_option linter.unusedVariables false
set_option linter.unusedSimpArgs false
set_option linter.unusedSectionVars false
set_option linter.constructorNameAsVariable false
set_option linter.unnecessarySimpa false
noncomputable section
namespace Go.Gv
section
def aL4(code:List UInt8):Option Bool:=
 some (decide (1048576<(code.length:Int)))
def aPJ(x5:Int):Option (Int×Int):=
 some (0,x5)
def JJ(code:List UInt8)(x3 x4:Int)(x6:Bool):Option (Step (Int×Int) Int):=
 (if x6 then(idx code x4).bind λx7=>some (.next (iF .and .i64 (bA ((bA ((bA (x3*131))+(x7.toNat:Int)))+7)) 1073741823,bA (x4+1))) else some (.stop (x3)))
def aBJ(code:List UInt8):(Int×Int)->Option (Step (Int×Int) Int)
 |(x3,x4)=>(if decide (x4<(code.length:Int)) then JJ code x3 x4 (decide (x4<4000)) else JJ code x3 x4 false)
def aPK:Int->Option (Int×Int)
 |x5=>aPJ x5
def UG(code:List UInt8):Option (Int×Int):=
 (loop (aBJ code) (bA (10101+(code.length:Int)),0)).bind (aPK)
def E7(c:dF)(x1 x2:Int):Option (Int×(Int×Int)):=
 some (x1,(x2,bA ((bA (c.h*6364136223846793005))+1442695040888963407)))
def sZ(c:dF):Option (Int×(Int×Int)):=
 (if decide (c.i<(c.b.length:Int)) then(idx c.b c.i).bind λx3=>E7 c (iF .and .i64 (bA ((iF .and .i64 (iF .xor .i64 (pL .i64 (bA ((bA (c.h*6364136223846793005))+1442695040888963407)) 33) (pL .i64 (bA ((bA (c.h*6364136223846793005))+1442695040888963407)) 45)) 255)+(x3.toNat:Int))) 255) (bA (c.i+1)) else E7 c (iF .and .i64 (iF .xor .i64 (pL .i64 (bA ((bA (c.h*6364136223846793005))+1442695040888963407)) 33) (pL .i64 (bA ((bA (c.h*6364136223846793005))+1442695040888963407)) 45)) 255) c.i)
def fY(c:dF)(n:Int):Option (Int×(Int×Int)):=
 (if decide (n<=0) then some (0,(c.i,c.h)) else(if decide (n<=256) then(sZ c).bind λx1=>need (n≠0) (some (Int.tmod x1.1 n,(x1.2.1,x1.2.2))) else(sZ c).bind λx2=>(sZ (⟨c.b,x2.2.1,x2.2.2⟩:dF)).bind λx3=>(sZ (⟨c.b,x3.2.1,x3.2.2⟩:dF)).bind λx4=>(sZ (⟨c.b,x4.2.1,x4.2.2⟩:dF)).bind λx5=>need (n≠0) (some (Int.tmod (bA ((bA ((bA ((bA (x2.1*16777216))+(bA (x3.1*65536))))+(bA (x4.1*256))))+x5.1)) n,(x5.2.1,x5.2.2)))))
def XY(c:dF)(n:Int):Option (Bool×(Int×Int)):=
 (fY c n).bind λx1=>some (x1.1 == 0,(x1.2.1,x1.2.2))
def nU(c:dF)(list:List Int):Option (Int×(Int×Int)):=
 (fY c (list.length:Int)).bind λx1=>(idx list x1.1).bind λx2=>some (x2,(x1.2.1,x1.2.2))
def E8(x1 x2:Int×(Int×Int))(x3 x4 x5:Int):Option (kN×(Int×Int)):=
 some ((⟨x1.1,x2.1,x5⟩:kN),(x3,x4))
def E9(c:dF)(x1 x2:Int×(Int×Int))(x6:Bool):Option (kN×(Int×Int)):=
 (if x6 then(fY (⟨c.b,x2.2.1,x2.2.2⟩:dF) 60000).bind λx7=>(nU (⟨c.b,x7.2.1,x7.2.2⟩:dF) ([1,65535,x7.1]:List Int)).bind λx8=>E8 x1 x2 x8.2.1 x8.2.2 x8.1 else E8 x1 x2 x2.2.1 x2.2.2 0)
def KK(c:dF):Option (kN×(Int×Int)):=
 (nU c ([1,1,2,2,3,4,4]:List Int)).bind λx1=>(fY (⟨c.b,x1.2.1,x1.2.2⟩:dF) 6).bind λx2=>(if x1.1 == 2 then E9 c x1 x2 true else E9 c x1 x2 (x1.1 == 4))
def aID(x11 x12:Int)(x13:List kN):Option (Batch×(Int×Int)):=
 some ((⟨false,x13⟩:Batch),(x11,x12))
def LK(x7 x14 x15:Int)(x16:List kN):Option (Step (Int×Int×Int×(List kN)) (Int×Int×(List kN))):=
 some (.next (bA (x7-1),x14,x15,x16))
def V4(c:dF):(Int×Int×Int×(List kN))->Option (Step (Int×Int×Int×(List kN)) (Int×Int×(List kN)))
 |(x7,x8,x9,x10)=>(if decide (0<x7) then(KK (⟨c.b,x8,x9⟩:dF)).bind λx17=>need (x10.length+([x17.1]).length<=1073741824)<|LK x7 x17.2.1 x17.2.2 (x10++([x17.1])) else some (.stop ((x8,x9,x10))))
def aIE:(Int×Int×(List kN))->Option (Batch×(Int×Int))
 |(x11,x12,x13)=>aID x11 x12 x13
def MU(c:dF):Option (Batch×(Int×Int)):=
 (XY c 4).bind λx1=>(if x1.1 then some ((⟨true,[]⟩:Batch),(x1.2.1,x1.2.2)) else(fY (⟨c.b,x1.2.1,x1.2.2⟩:dF) 3).bind λx2=>(loop (V4 c) (bA (1+x2.1),x2.2.1,x2.2.2,[])).bind (aIE))
def aED(x9:List aN)(x10 x11:Int):Option ((List aN)×(Int×Int)):=
 some (x9,(x10,x11))
def PZ(x5:List aN)(x6 x21 x22:Int)(x23:List Batch):Option (Step ((List aN)×Int×Int×Int) ((List aN)×Int×Int)):=
 need (x5.length+([(⟨x23⟩:aN)]).length<=1073741824) (some (.next (x5++([(⟨x23⟩:aN)]),bA (x6+1),x21,x22)))
def FA(x17 x24 x25:Int)(x26:List Batch):Option (Step (Int×Int×Int×(List Batch)) (Int×Int×(List Batch))):=
 some (.next (bA (x17-1),x24,x25,x26))
def P0(c:dF):(Int×Int×Int×(List Batch))->Option (Step (Int×Int×Int×(List Batch)) (Int×Int×(List Batch)))
 |(x17,x18,x19,x20)=>(if decide (0<x17) then(MU (⟨c.b,x18,x19⟩:dF)).bind λx27=>need (x20.length+([x27.1]).length<=1073741824)<|FA x17 x27.2.1 x27.2.2 (x20++([x27.1])) else some (.stop ((x18,x19,x20))))
def P1(x5:List aN)(x6:Int):(Int×Int×(List Batch))->Option (Step ((List aN)×Int×Int×Int) ((List aN)×Int×Int))
 |(x21,x22,x23)=>PZ x5 x6 x21 x22 x23
def P2(c:dF)(most:Int):((List aN)×Int×Int×Int)->Option (Step ((List aN)×Int×Int×Int) ((List aN)×Int×Int))
 |(x5,x6,x7,x8)=>(if decide (x6<3) then(fY (⟨c.b,x7,x8⟩:dF) (bA (most+1))).bind λx12=>(loop (P0 c) (x12.1,x12.2.1,x12.2.2,[])).bind (P1 x5 x6) else some (.stop ((x5,x7,x8))))
def aEE:((List aN)×Int×Int)->Option ((List aN)×(Int×Int))
 |(x9,x10,x11)=>aED x9 x10 x11
def xO(c:dF)(most:Int):Option ((List aN)×(Int×Int)):=
 (loop (P2 c most) (([]:List aN),0,c.i,c.h)).bind (aEE)
def aGH(x10:List Int)(x11 x12:Int):Option ((List Int)×(Int×Int)):=
 some (x10,(x11,x12))
def SW(x7:Int)(x14:Int×(Int×Int))(x19:List Int):Option (Step ((List Int)×Int×Int×Int) ((List Int)×Int×Int)):=
 some (.next (x19,bA (x7-1),x14.2.1,x14.2.2))
def SX(x13:Int×(Int×Int)):((List Int)×Int)->Option (Step ((List Int)×Int) (List Int))
 |(x17,x18)=>(if decide (0<x18) then need (x17.length+([x13.1]).length<=1073741824) (some (.next (x17++([x13.1]),bA (x18-1)))) else some (.stop (x17)))
def SY(x7:Int)(x14:Int×(Int×Int)):(List Int)->Option (Step ((List Int)×Int×Int×Int) ((List Int)×Int×Int))
 |x19=>SW x7 x14 x19
def SZ(c:dF):((List Int)×Int×Int×Int)->Option (Step ((List Int)×Int×Int×Int) ((List Int)×Int×Int))
 |(x6,x7,x8,x9)=>(if decide (0<x7) then(fY (⟨c.b,x8,x9⟩:dF) 3).bind λx13=>(fY (⟨c.b,x13.2.1,x13.2.2⟩:dF) 8).bind λx14=>(loop (SX x13) (x6,bA (1+x14.1))).bind (SY x7 x14) else some (.stop ((x6,x8,x9))))
def aGI:((List Int)×Int×Int)->Option ((List Int)×(Int×Int))
 |(x10,x11,x12)=>aGH x10 x11 x12
def JK(c:dF)(most:Int):Option ((List Int)×(Int×Int)):=
 (fY c most).bind λx1=>(loop (SZ c) (([]:List Int),x1.1,x1.2.1,x1.2.2)).bind (aGI)
def rM(x2 x3 x4 x5 x6:Int):Option (kN×(Int×Int)):=
 some ((⟨x4,x5,x6⟩:kN),(x2,x3))
def P3(c:dF):Option (kN×(Int×Int)):=
 (KK c).bind λx1=>(fY (⟨c.b,x1.2.1,x1.2.2⟩:dF) 14).bind λx7=>(if x7.1 == 0 then(nU (⟨c.b,x7.2.1,x7.2.2⟩:dF) ([0,5]:List Int)).bind λx8=>rM x8.2.1 x8.2.2 x8.1 x1.1.Key x1.1.eI else(if x7.1 == 1 then(nU (⟨c.b,x7.2.1,x7.2.2⟩:dF) ([(-1),99,100]:List Int)).bind λx9=>rM x9.2.1 x9.2.2 x1.1.Kind x9.1 x1.1.eI else(if x7.1 == 2 then(nU (⟨c.b,x7.2.1,x7.2.2⟩:dF) ([(-1),65536,1,0]:List Int)).bind λx10=>rM x10.2.1 x10.2.2 x1.1.Kind x1.1.Key x10.1 else rM x7.2.1 x7.2.2 x1.1.Kind x1.1.Key x1.1.eI)))
def lD(x2:List aN)(x3 x4:Int):Option ((List aN)×(Int×Int)):=
 some (x2,(x3,x4))
def N7(x13:List aN)(x14 x15:Int):Option ((List aN)×(Int×Int)):=
 lD x13 x14 x15
def DQ(x10:List aN)(x16:Bool)(x17 x18:Int):Option (Step ((List aN)×Int×Int) ((List aN)×Int×Int)):=
 (if x16 then(idx x10 1).bind λx19=>need (x19.List.length+([(⟨true,[]⟩:Batch)]).length<=1073741824) (some (.next (x10.set ((1:Int).toNat) (⟨x19.List++([(⟨true,[]⟩:Batch)])⟩:aN),x17,x18))) else some (.stop ((x10,x17,x18))))
def N8(c:dF):((List aN)×Int×Int)->Option (Step ((List aN)×Int×Int) ((List aN)×Int×Int))
 |(x10,x11,x12)=>(idx x10 1).bind λx20=>(fY (⟨c.b,x11,x12⟩:dF) 2).bind λx21=>DQ x10 (decide ((x20.List.length:Int)<(bA (12+x21.1)))) x21.2.1 x21.2.2
def aCP:((List aN)×Int×Int)->Option ((List aN)×(Int×Int))
 |(x13,x14,x15)=>N7 x13 x14 x15
def DR(x22:List aN)(x23 x24:Int):Option ((List aN)×(Int×Int)):=
 lD x22 x23 x24
def CS(c:dF):Option ((List aN)×(Int×Int)):=
 (xO c 5).bind λx1=>(fY (⟨c.b,x1.2.1,x1.2.2⟩:dF) 20).bind λx5=>(if x5.1 == 0 then need (0<=(2:Int)/\(2:Int)<=(x1.1.length:Int)) (some ((x1.1.take ((2:Int).toNat)).drop 0,(x5.2.1,x5.2.2))) else(if x5.1 == 1 then(idx x1.1 0).bind λx6=>need (x6.List.length+([(⟨false,[]⟩:Batch)]).length<=1073741824) (lD (x1.1.set ((0:Int).toNat) (⟨x6.List++([(⟨false,[]⟩:Batch)])⟩:aN)) x5.2.1 x5.2.2) else(if x5.1 == 2 then(loop (N8 c) (x1.1,x5.2.1,x5.2.2)).bind (aCP) else(if x5.1 == 3 then(idx x1.1 2).bind λx25=>(P3 (⟨c.b,x5.2.1,x5.2.2⟩:dF)).bind λx26=>need (x25.List.length+([(⟨false,[x26.1]⟩:Batch)]).length<=1073741824)<|DR (x1.1.set ((2:Int).toNat) (⟨x25.List++([(⟨false,[x26.1]⟩:Batch)])⟩:aN)) x26.2.1 x26.2.2 else lD x1.1 x5.2.1 x5.2.2))))
def lA(x4:List aN)(x5:List Int):Option wQ:=
 some (⟨x4,x5⟩:wQ)
def tI(code:List UInt8):Option wQ:=
 (UG code).bind λx1=>(xO (⟨code,x1.1,x1.2⟩:dF) 6).bind λx2=>(JK (⟨code,x2.2.1,x2.2.2⟩:dF) 60).bind λx3=>(fY (⟨code,x3.2.1,x3.2.2⟩:dF) 16).bind λx6=>(if x6.1 == 0 then(CS (⟨code,x6.2.1,x6.2.2⟩:dF)).bind λx7=>lA x7.1 x3.1 else(if x6.1 == 1 then need (x3.1.length+([(-1),3,1]:List Int).length<=1073741824) (lA x2.1 (x3.1++([(-1),3,1]:List Int))) else lA x2.1 x3.1))
def MV(x1:Bool):Option Bool:=
 some x1
def cS(x low high:Int):Option Bool:=
 (if decide (low<=x) then MV (decide (x<=high)) else MV false)
def JL(c:kN)(x2:Bool):Option Bool:=
 (if x2 then(cS c.eI 0 65535).bind λx3=>some x3 else some (c.eI == 0))
def JM(c:kN)(x1:Bool):Option Bool:=
 (if x1 then some false else(if c.Kind == 2 then JL c true else JL c (c.Kind == 4)))
def UH(c:kN):Option Bool:=
 (cS c.Kind 1 4).bind λx4=>(if !x4 then JM c true else(cS c.Key 0 99).bind λx5=>JM c (!x5))
def V5(b:Batch):Option Bool:=
 (cS (b.bW.length:Int) 1 6).bind λx3=>some x3
def o7(b:Batch):Int->Option (Step Int (Out Unit Bool))
 |x2=>(if decide (x2<(b.bW.length:Int)) then(idx b.bW x2).bind λx4=>(UH x4).bind λx5=>(if !x5 then some (.stop (Out.ret false)) else some (.next (bA (x2+1)))) else some (.stop (Out.brk ())))
def V6(b:Batch):(Out Unit Bool)->Option Bool
 |.brk ()=>V5 b
 |.ret r=>some r
def MW(b:Batch):Option Bool:=
 (if b.Collect then some ((b.bW.length:Int) == 0) else(loop (o7 b) 0).bind (V6 b))
def V7(todo:List aN):Option Bool:=
 some ((todo.length:Int) == 3)
def V8(x2:Int):Option (Step Int (Out Unit Bool)):=
 some (.next (bA (x2+1)))
def o8(todo:List aN)(x2:Int):Int->Option (Step Int (Out Unit Bool))
 |x5=>(idx todo x2).bind λx6=>(if decide (x5<(x6.List.length:Int)) then(idx todo x2).bind λx7=>(idx x7.List x5).bind λx8=>(MW x8).bind λx9=>(if !x9 then some (.stop (Out.ret false)) else some (.next (bA (x5+1)))) else some (.stop (Out.brk ())))
def V9(x2:Int):(Out Unit Bool)->Option (Step Int (Out Unit Bool))
 |.brk ()=>V8 x2
 |.ret r=>some (.stop (Out.ret r))
def o9(todo:List aN):Int->Option (Step Int (Out Unit Bool))
 |x2=>(if decide (x2<(todo.length:Int)) then(idx todo x2).bind λx3=>(if decide (12<(x3.List.length:Int)) then some (.stop (Out.ret false)) else(loop (o8 todo x2) 0).bind (V9 x2)) else some (.stop (Out.brk ())))
def WA(todo:List aN):(Out Unit Bool)->Option Bool
 |.brk ()=>V7 todo
 |.ret r=>some r
def MX(todo:List aN):Option Bool:=
 (loop (o9 todo) 0).bind (WA todo)
def aIF(x5:List Int):Option Heap:=
 some (⟨List.replicate ((384:Int).toNat) 0,x5⟩:Heap)
def uP:(Int×(List Int))->Option (Step (Int×(List Int)) (List Int))
 |(x3,x4)=>(if decide (x3<6) then need (x4.length+([(-1)]).length<=1073741824) (some (.next (bA (x3+1),x4++([(-1)])))) else some (.stop (x4)))
def aIG:(List Int)->Option Heap
 |x5=>aIF x5
def MY:Option Heap:=
 need (0<=(384:Int)/\(384:Int)<=4294967296) ((loop (uP) (0,[])).bind (aIG))
def S1:Option aD:=
 some (⟨List.replicate ((3:Int).toNat) (⟨[]⟩:bE),List.replicate ((9:Int).toNat) (⟨[]⟩:bE)⟩:aD)
def Q1:Option aD:=
 need (0<=(3:Int)/\(3:Int)<=4294967296)<|need (0<=(9:Int)/\(9:Int)<=4294967296)<|S1
def XZ:Option Mem:=
 (MY).bind λx1=>(Q1).bind λx2=>some (⟨x1,x2⟩:Mem)
def RB:Option aC:=
 need (0<=(3:Int)/\(3:Int)<=4294967296) (some (⟨0,List.replicate ((3:Int).toNat) (⟨false,0,false,0⟩:vW)⟩:aC))
def RC:Option (List bN):=
 need (0<=(3:Int)/\(3:Int)<=4294967296) (some (List.replicate ((3:Int).toNat) (⟨[]⟩:bN)))
def X0:Option (List Int):=
 need (0<=(3:Int)/\(3:Int)<=4294967296) (some (List.replicate ((3:Int).toNat) 0))
def MZ:Option aA:=
 (XZ).bind λx1=>(RB).bind λx2=>(RC).bind λx3=>(X0).bind λx4=>some (⟨x1,x2,x3,x4⟩:aA)
def UI(l:List kN):Option (List kN):=
 need (([]:List kN).length+l.length<=1073741824) (some (([]:List kN)++l))
def JN(b:Batch):Option Batch:=
 (UI b.bW).bind λx1=>some (⟨b.Collect,x1⟩:Batch)
def aEF(x5:List aN):Option (List aN):=
 some x5
def P4(x3:List aN)(x4:Int)(x10:List Batch):Option (Step ((List aN)×Int) (List aN)):=
 need (x3.length+([(⟨x10⟩:aN)]).length<=1073741824) (some (.next (x3++([(⟨x10⟩:aN)]),bA (x4+1))))
def FB(x8:Int)(x12:List Batch):Option (Step (Int×(List Batch)) (List Batch)):=
 some (.next (bA (x8+1),x12))
def FC(l:List aN)(x4:Int):(Int×(List Batch))->Option (Step (Int×(List Batch)) (List Batch))
 |(x8,x9)=>(idx l x4).bind λx11=>(if decide (x8<(x11.List.length:Int)) then(idx l x4).bind λx13=>(idx x13.List x8).bind λx14=>(JN x14).bind λx15=>need (x9.length+([x15]).length<=1073741824)<|FB x8 (x9++([x15])) else some (.stop (x9)))
def P5(x3:List aN)(x4:Int):(List Batch)->Option (Step ((List aN)×Int) (List aN))
 |x10=>P4 x3 x4 x10
def FD(l:List aN):((List aN)×Int)->Option (Step ((List aN)×Int) (List aN))
 |(x3,x4)=>(if decide (x4<(l.length:Int)) then(loop (FC l x4) (0,[])).bind (P5 x3 x4) else some (.stop (x3)))
def aEG:(List aN)->Option (List aN)
 |x5=>aEF x5
def FE(l:List aN):Option (List aN):=
 (loop (FD l) (([]:List aN),0)).bind (aEG)
def S3(x2:Table):Option Table:=
 some ({x2 with Log:=[]}:Table)
def JO(todo:List aN):Option Table:=
 (MX todo).bind λx1=>(if !x1 then some (⟨(⟨(⟨(⟨[],[]⟩:Heap),(⟨[],[]⟩:aD)⟩:Mem),(⟨0,[]⟩:aC),[],[]⟩:aA),[],[],[],[],0⟩:Table) else(MZ).bind λx3=>need (0<=(2:Int)/\(2:Int)<=4294967296)<|need (0<=(3:Int)/\(3:Int)<=4294967296)<|(FE todo).bind λx4=>S3 (⟨x3,List.replicate ((2:Int).toNat) (⟨0,0,0⟩:cR),List.replicate ((3:Int).toNat) (⟨false,(⟨false,[]⟩:Batch),0,0,0,0,0,0,0,0,(⟨0,0,0⟩:gR),false,0,(⟨0,0,0,0,0,0,0,0,0,false⟩:Sub),[],[],[],[],[],[]⟩:aH),x4,[],0⟩:Table))
def P6(x:wQ):Option Bool:=
 (JO x.dC).bind λx1=>some ((x1.aR.length:Int) == 3)
def N9:Option Int:=
 some (-1)
def nV(s:List aN)(f:(aN->Option Bool)):Int->Option (Step Int (Out Unit Int))
 |x2=>(if decide (x2<(s.length:Int)) then(idx s x2).bind λx3=>(f x3).bind λx4=>(if x4 then some (.stop (Out.ret x2)) else some (.next (bA (x2+1)))) else some (.stop (Out.brk ())))
def xP:(Out Unit Int)->Option Int
 |.brk ()=>N9
 |.ret r=>some r
def EH(s:List aN)(f:(aN->Option Bool)):Option Int:=
 (loop (nV s f) 0).bind (xP)
def kE(s:List aN)(f:(aN->Option Bool)):Option Bool:=
 (EH s f).bind λx1=>some (decide (0<=x1))
def PD:Option Int:=
 some (-1)
def oS(s:List Batch)(f:(Batch->Option Bool)):Int->Option (Step Int (Out Unit Int))
 |x2=>(if decide (x2<(s.length:Int)) then(idx s x2).bind λx3=>(f x3).bind λx4=>(if x4 then some (.stop (Out.ret x2)) else some (.next (bA (x2+1)))) else some (.stop (Out.brk ())))
def AI:(Out Unit Int)->Option Int
 |.brk ()=>PD
 |.ret r=>some r
def FF(s:List Batch)(f:(Batch->Option Bool)):Option Int:=
 (loop (oS s f) 0).bind (AI)
def oT(s:List Batch)(f:(Batch->Option Bool)):Option Bool:=
 (FF s f).bind λx1=>some (decide (0<=x1))
def FG(x1:Bool):Option Bool:=
 some x1
def bV(n low high:Int):Option Bool:=
 (if decide (low<=n) then FG (decide (n<=high)) else FG false)
def S4:Option Int:=
 some (-1)
def rN(s:List kN)(f:(kN->Option Bool)):Int->Option (Step Int (Out Unit Int))
 |x2=>(if decide (x2<(s.length:Int)) then(idx s x2).bind λx3=>(f x3).bind λx4=>(if x4 then some (.stop (Out.ret x2)) else some (.next (bA (x2+1)))) else some (.stop (Out.brk ())))
def EI:(Out Unit Int)->Option Int
 |.brk ()=>S4
 |.ret r=>some r
def KL(s:List kN)(f:(kN->Option Bool)):Option Int:=
 (loop (rN s f) 0).bind (EI)
def rO(s:List kN)(f:(kN->Option Bool)):Option Bool:=
 (KL s f).bind λx1=>some (decide (0<=x1))
def qL(x2:Bool):Option Bool:=
 some x2
def vX(c:kN)(x1:Bool):Option Bool:=
 (bV c.Kind 1 4).bind λx3=>(if x3 then(bV c.Key 0 99).bind λx4=>(if x4 then(if x1 then(bV c.eI 0 65535).bind λx5=>(if x5 then qL true else qL (c.eI == 0)) else qL (c.eI == 0)) else qL false) else qL false)
def UJ(c:kN):Option Bool:=
 (if c.Kind == 2 then vX c true else vX c (c.Kind == 4))
def OA(c:kN):Option Bool:=
 (UJ c).bind λx1=>some (!x1)
def uQ(x1:Bool):Option Bool:=
 some x1
def FH(b:Batch):Option Bool:=
 (if b.Collect then some ((b.bW.length:Int) == 0) else(bV (b.bW.length:Int) 1 6).bind λx2=>(if x2 then(rO b.bW (λy0=>OA y0)).bind λx3=>uQ (!x3) else uQ false))
def IU(b:Batch):Option Bool:=
 (FH b).bind λx1=>some (!x1)
def wR(x1:Bool):Option Bool:=
 some x1
def FI(q:aN):Option Bool:=
 (if decide (12<(q.List.length:Int)) then wR true else(oT q.List (λy0=>IU y0)).bind λx2=>wR x2)
def CT(x1:Bool):Option Bool:=
 some x1
def FJ(todo:List aN):Option Bool:=
 (if(todo.length:Int) == 3 then(kE todo (λy0=>FI y0)).bind λx2=>CT (!x2) else CT false)
def WB(x y:Int):Option (Int×Int):=
 some (IntKind.u64.wrap ((IntKind.u64.wrap ((IntKind.u64.wrap ((pL .u64 x 32)*(pL .u64 y 32)))+(pL .u64 (IntKind.u64.wrap ((IntKind.u64.wrap ((pL .u64 x 32)*(iF .and .u64 y 4294967295)))+(pL .u64 (IntKind.u64.wrap ((iF .and .u64 x 4294967295)*(iF .and .u64 y 4294967295))) 32))) 32)))+(pL .u64 (IntKind.u64.wrap ((iF .and .u64 (IntKind.u64.wrap ((IntKind.u64.wrap ((pL .u64 x 32)*(iF .and .u64 y 4294967295)))+(pL .u64 (IntKind.u64.wrap ((iF .and .u64 x 4294967295)*(iF .and .u64 y 4294967295))) 32))) 4294967295)+(IntKind.u64.wrap ((iF .and .u64 x 4294967295)*(pL .u64 y 32))))) 32)),IntKind.u64.wrap (x*y))
def RD(x y:Int):Option (Int×Int):=
 (WB x y).bind λx1=>some (x1.1,x1.2)
def X2(x7:List Int):Option (List Int):=
 some x7
def lS:((List Int)×Int)->Option (Step ((List Int)×Int) (List Int))
 |(x5,x6)=>(if decide (x6<(x5.length:Int)) then need (0<=(x6:Int)/\(x6:Int)<=(x5.length:Int)) (need (0<=(x6:Int)/\(x6:Int)<=(x5.length:Int)) (some (.next (cW x5 x6.toNat ((x5.take x6.toNat).drop 0),bA (x6+((min ((x5.take x6.toNat).drop 0).length (x5.length-x6.toNat):Nat):Int)))))) else some (.stop (x5)))
def X3:(List Int)->Option (List Int)
 |x7=>X2 x7
def pO(x:List Int)(x1:Int×Int)(x2:Bool):Option (List Int):=
 (if x2 then none else need (0<=(IntKind.i64.wrap x1.2:Int)/\(IntKind.i64.wrap x1.2:Int)<=4294967296) ((loop (lS) (cW (List.replicate ((IntKind.i64.wrap x1.2).toNat) 0) 0 x,((min x.length ((List.replicate ((IntKind.i64.wrap x1.2).toNat) 0:List Int).length-0):Nat):Int))).bind (X3)))
def wS(x:List Int)(count:Int):Option (List Int):=
 (if decide (count<0) then none else(RD (IntKind.u64.wrap (x.length:Int)) (IntKind.u64.wrap count)).bind λx1=>(if decide (0<x1.1) then pO x x1 true else pO x x1 (decide (9223372036854775807<x1.2))))
def WC(x1:List Int):Option Heap:=
 some (⟨List.replicate ((384:Int).toNat) 0,x1⟩:Heap)
def M0:Option Heap:=
 need (0<=(384:Int)/\(384:Int)<=4294967296)<|(wS ([(-1)]) 6).bind λx2=>WC x2
def S5:Option aD:=
 some (⟨List.replicate ((3:Int).toNat) (⟨[]⟩:bE),List.replicate ((9:Int).toNat) (⟨[]⟩:bE)⟩:aD)
def RE:Option aD:=
 need (0<=(3:Int)/\(3:Int)<=4294967296)<|need (0<=(9:Int)/\(9:Int)<=4294967296)<|S5
def X4:Option Mem:=
 (M0).bind λx1=>(RE).bind λx2=>some (⟨x1,x2⟩:Mem)
def RF:Option aC:=
 need (0<=(3:Int)/\(3:Int)<=4294967296) (some (⟨0,List.replicate ((3:Int).toNat) (⟨false,0,false,0⟩:vW)⟩:aC))
def RG:Option (List bN):=
 need (0<=(3:Int)/\(3:Int)<=4294967296) (some (List.replicate ((3:Int).toNat) (⟨[]⟩:bN)))
def X5:Option (List Int):=
 need (0<=(3:Int)/\(3:Int)<=4294967296) (some (List.replicate ((3:Int).toNat) 0))
def M1:Option aA:=
 (X4).bind λx1=>(RF).bind λx2=>(RG).bind λx3=>(X5).bind λx4=>some (⟨x1,x2,x3,x4⟩:aA)
def lE(s:List kN):Option (List kN):=
 need (([]:List kN).length+s.length<=1073741824) (some (([]:List kN)++s))
def xQ(b:Batch):Option Batch:=
 (lE b.bW).bind λx1=>some (⟨b.Collect,x1⟩:Batch)
def aEH(x5:List aN):Option (List aN):=
 some x5
def P7(x3:List aN)(x4:Int)(x11:List Batch):Option (Step ((List aN)×Int) (List aN)):=
 need (x3.length+([(⟨x11⟩:aN)]).length<=1073741824) (some (.next (x3++([(⟨x11⟩:aN)]),bA (x4+1))))
def FK(x9:Int)(x13:List Batch):Option (Step (Int×(List Batch)) (List Batch)):=
 some (.next (bA (x9+1),x13))
def FL(x6:aN):(Int×(List Batch))->Option (Step (Int×(List Batch)) (List Batch))
 |(x9,x10)=>(if decide (x9<(x6.List.length:Int)) then(idx x6.List x9).bind λx12=>(xQ x12).bind λx14=>need (x10.length+([x14]).length<=1073741824)<|FK x9 (x10++([x14])) else some (.stop (x10)))
def P8(x3:List aN)(x4:Int):(List Batch)->Option (Step ((List aN)×Int) (List aN))
 |x11=>P7 x3 x4 x11
def FM(todo:List aN):((List aN)×Int)->Option (Step ((List aN)×Int) (List aN))
 |(x3,x4)=>(if decide (x4<(todo.length:Int)) then(idx todo x4).bind λx6=>(loop (FL x6) (0,[])).bind (P8 x3 x4) else some (.stop (x3)))
def aEI:(List aN)->Option (List aN)
 |x5=>aEH x5
def xR(todo:List aN):Option (List aN):=
 (loop (FM todo) (([]:List aN),0)).bind (aEI)
def S6(x2:Table):Option Table:=
 some ({x2 with Log:=[]}:Table)
def JQ(todo:List aN):Option Table:=
 (FJ todo).bind λx1=>(if !x1 then some (⟨(⟨(⟨(⟨[],[]⟩:Heap),(⟨[],[]⟩:aD)⟩:Mem),(⟨0,[]⟩:aC),[],[]⟩:aA),[],[],[],[],0⟩:Table) else(M1).bind λx3=>need (0<=(2:Int)/\(2:Int)<=4294967296)<|need (0<=(3:Int)/\(3:Int)<=4294967296)<|(xR todo).bind λx4=>S6 (⟨x3,List.replicate ((2:Int).toNat) (⟨0,0,0⟩:cR),List.replicate ((3:Int).toNat) (⟨false,(⟨false,[]⟩:Batch),0,0,0,0,0,0,0,0,(⟨0,0,0⟩:gR),false,0,(⟨0,0,0,0,0,0,0,0,0,false⟩:Sub),[],[],[],[],[],[]⟩:aH),x4,[],0⟩:Table))
def gY(w_:Int):Option Bool:=
 (bV w_ 0 2).bind λx1=>some x1
def MG(s:List Batch)(i j:Int):Option (List Batch):=
 need (0<=i/\i<=j/\j<=(s.length:Int)) (some (s.take i.toNat++s.drop j.toNat))
def lT(kind a_:Int):Option Sub:=
 some (⟨kind,a_,0,0,0,0,0,0,0,false⟩:Sub)
def AN(t:Table)(w_:Int)(x2:aN)(x3:Batch)(x6:aH)(x8:List H9):Option Table:=
 some (⟨t.aA,t.bS,t.aR.set w_.toNat ({x6 with Batch:=(⟨x6.Batch.Collect,x3.bW⟩:Batch),Reads:=[],aI:=[],jV:=[],gO:=[],bI:=[],cH:=[]}:aH),t.dC.set w_.toNat (⟨x2.List.drop 1⟩:aN),x8,bA (t.aO+1)⟩:Table)
def mT(t:Table)(w_:Int)(x2:aN)(x3:Batch)(x6:aH):Option Table:=
 (idx t.aR w_).bind λx7=>(lE x3.bW).bind λx9=>need (t.Log.length+([(⟨1,w_,x6.aO,0,x9,[]⟩:H9)]).length<=1073741824)<|AN t w_ x2 x3 x6 (t.Log++([(⟨1,w_,x6.aO,0,x9,[]⟩:H9)]))
def AO(t:Table)(w_:Int)(x2:aN)(x3:Batch)(x5:aH):Option Table:=
 (if x3.Collect then(lT 3 0).bind λx10=>mT t w_ x2 x3 ({x5 with Batch:=(⟨x5.Batch.Collect,x3.bW⟩:Batch),Pc:=20,Sub:=x10,Reads:=[],aI:=[],jV:=[],gO:=[],bI:=[],cH:=[]}:aH) else mT t w_ x2 x3 ({x5 with Batch:=(⟨x5.Batch.Collect,x3.bW⟩:Batch),Reads:=[],aI:=[],jV:=[],gO:=[],bI:=[],cH:=[]}:aH))
def mU(t:Table)(w_:Int)(x1:Bool):Option Table:=
 (if x1 then some t else(idx t.dC w_).bind λx2=>(idx x2.List 0).bind λx3=>(MG x2.List 0 1).bind λx4=>(lT 5 0).bind λx11=>AO t w_ x2 x3 (⟨true,x3,bA (t.aO+1),0,0,0,0,0,0,0,(⟨0,0,0⟩:gR),false,0,x11,[],[],[],[],[],[]⟩:aH))
def zI(t:Table)(w_:Int):Option Table:=
 (idx t.dC w_).bind λx12=>(if(x12.List.length:Int) == 0 then mU t w_ true else mU t w_ (t.aO == 1000000))
def bL(s:Sub)(code:Int):Option Sub:=
 some ({s with Code:=code,gL:=true}:Sub)
def lM(c:Int):Option Bool:=
 (bV c 0 2).bind λx1=>some x1
def EJ(c:Int):Option Int:=
 (lM c).bind λx1=>(if !x1 then some 0 else(idx ([8,16,40]:List Int) c).bind λx2=>some x2)
def aIH:Option Int:=
 some (-1)
def CU(x2:Int)(x3:Bool):Option (Step Int (Out Unit Int)):=
 (if x3 then some (.stop (Out.ret x2)) else some (.next (bA (x2+1))))
def kP(size:Int):Int->Option (Step Int (Out Unit Int))
 |x2=>(if decide (x2<3) then(if decide (1<=size) then(EJ x2).bind λx4=>CU x2 (decide (size<=x4)) else CU x2 false) else some (.stop (Out.brk ())))
def aII:(Out Unit Int)->Option Int
 |.brk ()=>aIH
 |.ret r=>some r
def M3(size:Int):Option Int:=
 (loop (kP size) 0).bind (aII)
def eQ(s:List Int):Option (List Int):=
 need (([]:List Int).length+s.length<=1073741824) (some (([]:List Int)++s))
def aEJ(x5 x10:List bE):Option aD:=
 some (⟨x5,x10⟩:aD)
def FN(x8:Int)(x12:List bE):Option (Step (Int×(List bE)) (List bE)):=
 some (.next (bA (x8+1),x12))
def FO(l:aD):(Int×(List bE))->Option (Step (Int×(List bE)) (List bE))
 |(x8,x9)=>(if decide (x8<(l.Own.length:Int)) then(idx l.Own x8).bind λx11=>(eQ x11.aT).bind λx13=>need (x9.length+([(⟨x13⟩:bE)]).length<=1073741824)<|FN x8 (x9++([(⟨x13⟩:bE)])) else some (.stop (x9)))
def aEK(x5:List bE):(List bE)->Option aD
 |x10=>aEJ x5 x10
def P9(l:aD)(x5:List bE):Option aD:=
 (loop (FO l) (0,[])).bind (aEK x5)
def FP(x3:Int)(x15:List bE):Option (Step (Int×(List bE)) (List bE)):=
 some (.next (bA (x3+1),x15))
def FQ(l:aD):(Int×(List bE))->Option (Step (Int×(List bE)) (List bE))
 |(x3,x4)=>(if decide (x3<(l.Global.length:Int)) then(idx l.Global x3).bind λx14=>(eQ x14.aT).bind λx16=>need (x4.length+([(⟨x16⟩:bE)]).length<=1073741824)<|FP x3 (x4++([(⟨x16⟩:bE)])) else some (.stop (x4)))
def QA(l:aD):(List bE)->Option aD
 |x5=>P9 l x5
def i6(l:aD):Option aD:=
 (loop (FQ l) (0,[])).bind (QA l)
def tC(slot:Int):Option Bool:=
 (bV slot 0 23).bind λx1=>some x1
def UK(x11:List Raw):Option (List Raw):=
 some x11
def nA(slices:List (List Raw)):((List Raw)×Int)->Option (Step ((List Raw)×Int) (List Raw))
 |(x9,x10)=>(if decide (x10<(slices.length:Int)) then(idx slices x10).bind λx12=>need (x9.length+x12.length<=1073741824) (some (.next (x9++x12,bA (x10+1)))) else some (.stop (x9)))
def UL:(List Raw)->Option (List Raw)
 |x11=>UK x11
def FR(slices:List (List Raw))(x5:Int):Option (List Raw):=
 (aD0 Raw x5).bind λx6=>(loop (nA slices) (x6,0)).bind (UL)
def kG(slices:List (List Raw)):(Int×Int)->Option (Step (Int×Int) Int)
 |(x3,x4)=>(if decide (x4<(slices.length:Int)) then(idx slices x4).bind λx13=>(if decide ((bA (x3+(x13.length:Int)))<0) then none else some (.next (bA (x3+(x13.length:Int)),bA (x4+1)))) else some (.stop (x3)))
def FT(slices:List (List Raw)):Int->Option (List Raw)
 |x5=>FR slices x5
def AP(slices:List (List Raw)):Option (List Raw):=
 (loop (kG slices) (0,0)).bind (FT slices)
def aIJ:Option Bool:=
 some true
def WD(x4:Int)(x12:List Bool):Option (Step (Int×(List Bool)) (Out Unit Bool)):=
 some (.next (bA (x4+1),x12))
def uR(x10:Int)(x11:List Bool)(x13:Int)(x14:Bool):Option (Step (Int×(List Bool)) (Out (List Bool) Bool)):=
 (if x14 then some (.stop (Out.ret false)) else need (0<=(x13:Int)/\(x13:Int)<24) ((idx (x11:List Bool) x13).bind λx15=>some (.next (bA (x10+1),x11.set (x13.toNat) true))))
def uS(x6:bE):(Int×(List Bool))->Option (Step (Int×(List Bool)) (Out (List Bool) Bool))
 |(x10,x11)=>(if decide (x10<(x6.aT.length:Int)) then(idx x6.aT x10).bind λx13=>(tC x13).bind λx16=>(if !x16 then uR x10 x11 x13 true else need (0<=(x13:Int)/\(x13:Int)<24) ((idx (x11:List Bool) x13).bind λx17=>uR x10 x11 x13 x17)) else some (.stop (Out.brk x11)))
def WE(x4:Int):(Out (List Bool) Bool)->Option (Step (Int×(List Bool)) (Out Unit Bool))
 |.brk x12=>WD x4 x12
 |.ret r=>some (.stop (Out.ret r))
def pA(x4:Int)(x5:List Bool)(x6:bE)(x7:Bool):Option (Step (Int×(List Bool)) (Out Unit Bool)):=
 (if x7 then some (.stop (Out.ret false)) else(loop (uS x6) (0,x5)).bind (WE x4))
def uT(l:aD):(Int×(List Bool))->Option (Step (Int×(List Bool)) (Out Unit Bool))
 |(x4,x5)=>(if decide (x4<((l.Own++l.Global).length:Int)) then(idx (l.Own++l.Global) x4).bind λx6=>(if decide (x4<(l.Own.length:Int)) then pA x4 x5 x6 (decide (2<(x6.aT.length:Int))) else pA x4 x5 x6 false) else some (.stop (Out.brk ())))
def aIK:(Out Unit Bool)->Option Bool
 |.brk ()=>aIJ
 |.ret r=>some r
def CV(l:aD)(x1:Bool):Option Bool:=
 (if x1 then some false else need (l.Own.length+l.Global.length<=1073741824) ((loop (uT l) (0,List.replicate 24 false)).bind (aIK)))
def pP(l:aD):Option Bool:=
 (if(l.Global.length:Int) != 3 then CV l true else CV l ((l.Own.length:Int) != 9))
def JR(w_ c:Int)(x1:Bool):Option Int:=
 (if x1 then some (-1) else some (bA ((bA (w_*3))+c)))
def OB(w_ c:Int):Option Int:=
 (gY w_).bind λx2=>(if !x2 then JR w_ c true else(lM c).bind λx3=>JR w_ c (!x3))
def xS(s:bE):Option (Int×bE):=
 (if decide ((bA ((s.aT.length:Int)-1))<0) then some ((-1),s) else(idx s.aT (bA ((s.aT.length:Int)-1))).bind λx1=>need (0<=(bA ((s.aT.length:Int)-1):Int)/\(bA ((s.aT.length:Int)-1):Int)<=(bA ((s.aT.length:Int)-1):Int)/\(bA ((s.aT.length:Int)-1):Int)<=(s.aT.length:Int)) (some (x1,(⟨(s.aT.take ((bA ((s.aT.length:Int)-1)).toNat)).drop 0⟩:bE))))
def CX(x1:aD)(x2:Int)(x3:Bool):Option (aD×Int):=
 (if x3 then some (x1,(-1)) else(idx x1.Own x2).bind λx4=>(xS x4).bind λx5=>some ((⟨x1.Global,x1.Own.set x2.toNat x5.2⟩:aD),x5.1))
def M4(l:aD)(w_ c:Int):Option (aD×Int):=
 (i6 l).bind λx1=>(OB w_ c).bind λx2=>(pP l).bind λx6=>(if !x6 then CX x1 x2 true else CX x1 x2 (decide (x2<0)))
def tJ(c:Int)(x1:aD)(x2:Bool):Option (aD×Int):=
 (if x2 then some (x1,(-1)) else(idx x1.Global c).bind λx3=>(xS x3).bind λx4=>some ((⟨x1.Global.set c.toNat x4.2,x1.Own⟩:aD),x4.1))
def CY(l:aD)(c:Int):Option (aD×Int):=
 (i6 l).bind λx1=>(pP l).bind λx5=>(if !x5 then tJ c x1 true else(lM c).bind λx6=>tJ c x1 (!x6))
def vY(c:Int):Option Int:=
 (lM c).bind λx1=>(if !x1 then some 0 else(EJ c).bind λx2=>some (bA (4+x2)))
def pQ(c:Int):Option Int:=
 (lM c).bind λx1=>(if !x1 then some 0 else(vY c).bind λx2=>need (x2≠0) (some (bA (Int.tdiv 56 x2))))
def BG(slot c:Int)(x1:Bool):Option Int:=
 (if x1 then some (-1) else(vY c).bind λx2=>some (bA ((bA ((bA ((bA (Int.tdiv slot 4))*64))+8))+(bA ((Int.tmod slot 4)*x2)))))
def xT(slot c:Int):Option Int:=
 (tC slot).bind λx3=>(if !x3 then BG slot c true else(lM c).bind λx4=>(if !x4 then BG slot c true else(pQ c).bind λx5=>BG slot c (decide (x5<=(Int.tmod slot 4)))))
def MH:Option Int:=
 some (-1)
def fF(s:List Int)(v:Int):Int->Option (Step Int (Out Unit Int))
 |x2=>(if decide (x2<(s.length:Int)) then(idx s x2).bind λx3=>(if v == x3 then some (.stop (Out.ret x2)) else some (.next (bA (x2+1)))) else some (.stop (Out.brk ())))
def AQ:(Out Unit Int)->Option Int
 |.brk ()=>MH
 |.ret r=>some r
def nN(s:List Int)(v:Int):Option Int:=
 (loop (fF s v) 0).bind (AQ)
def OC(b x5:List Int):Option (List Int):=
 need (x5.length=b.length) (some x5)
def lU(b:List Int)(at_:Int)(text:List UInt8):((List Int)×Int)->Option (Step ((List Int)×Int) (List Int))
 |(x3,x4)=>need (x3.length=b.length) ((if decide (x4<(text.length:Int)) then(idx text x4).bind λx6=>(idx x3 (bA (at_+x4))).bind λx7=>some (.next (x3.set ((bA (at_+x4)).toNat) (x6.toNat:Int),bA (x4+1))) else some (.stop (x3))))
def OD(b:List Int):(List Int)->Option (List Int)
 |x5=>OC b x5
def nG(b:List Int)(at_:Int)(text:List UInt8):Option (List Int):=
 (loop (lU b at_ text) (b,0)).bind (OD b)
def zJ(width:Int):Option Bool:=
 (bV width 1 7).bind λx1=>some x1
def aPL(x8:List UInt8):Option (List UInt8):=
 some x8
def qM:(Int×(List UInt8)×Int)->Option (Step (Int×(List UInt8)×Int) (List UInt8))
 |(x5,x6,x7)=>(if decide (0<=x7) then(idx x6 x7).bind λx9=>some (.next (pL .i64 x5 8,x6.set x7.toNat (u8 x5),bA (x7-1))) else some (.stop (x6)))
def aPM:(List UInt8)->Option (List UInt8)
 |x8=>aPL x8
def vZ(n width:Int)(x1:Bool):Option (List UInt8):=
 (if x1 then some ([]) else need (0<=(width:Int)/\(width:Int)<=4294967296) ((loop (qM) (n,List.replicate (width.toNat) 0,bA (width-1))).bind (aPM)))
def mQ(n width:Int):Option (List UInt8):=
 (zJ width).bind λx10=>(if !x10 then vZ n width true else(if decide (n<0) then vZ n width true else need (0<=(IntKind.u64.wrap (bA (8*width)):Int)) (vZ n width (decide ((aLC .i64 1 (IntKind.u64.wrap (bA (8*width))))<=n)))))
def wA(h:Heap):Option Heap:=
 (eQ h.Bytes).bind λx1=>(eQ h.Class).bind λx2=>some (⟨x1,x2⟩:Heap)
def EK:Option Int:=
 some (-1)
def gC(s:List Int)(f:(Int->Option Bool)):Int->Option (Step Int (Out Unit Int))
 |x2=>(if decide (x2<(s.length:Int)) then(idx s x2).bind λx3=>(f x3).bind λx4=>(if x4 then some (.stop (Out.ret x2)) else some (.next (bA (x2+1)))) else some (.stop (Out.brk ())))
def rP:(Out Unit Int)->Option Int
 |.brk ()=>EK
 |.ret r=>some r
def gI(s:List Int)(f:(Int->Option Bool)):Option Int:=
 (loop (gC s f) 0).bind (rP)
def fB(s:List Int)(f:(Int->Option Bool)):Option Bool:=
 (gI s f).bind λx1=>some (decide (0<=x1))
def X6(x:Int):Option Bool:=
 (bV x 0 255).bind λx1=>some x1
def FU(x:Int):Option Bool:=
 (X6 x).bind λx1=>some (!x1)
def CZ(x1:Bool):Option Bool:=
 some x1
def M5(b:List Int):Option Bool:=
 (if decide ((b.length:Int)<=1000) then(fB b (λy0=>FU y0)).bind λx2=>CZ (!x2) else CZ false)
def JS(c:Int):Option Bool:=
 (bV c (-1) 2).bind λx1=>some (!x1)
def rQ(x1:Bool):Option Bool:=
 some x1
def KM(h:Heap):Option Bool:=
 (if(h.Bytes.length:Int) == 384 then(M5 h.Bytes).bind λx2=>(if x2 then(if(h.Class.length:Int) == 6 then(fB h.Class (λy0=>JS y0)).bind λx3=>rQ (!x3) else rQ false) else rQ false) else rQ false)
def aIL(x5:Int):Option Int:=
 some x5
def uU(b:List Int)(at_ width:Int):(Int×Int)->Option (Step (Int×Int) Int)
 |(x3,x4)=>(if decide (x4<(((b.take ((bA (at_+width)).toNat)).drop at_.toNat).length:Int)) then(idx ((b.take ((bA (at_+width)).toNat)).drop at_.toNat) x4).bind λx6=>some (.next (bA ((bA (256*x3))+x6),bA (x4+1))) else some (.stop (x3)))
def aIM:Int->Option Int
 |x5=>aIL x5
def pR(b:List Int)(at_ width:Int):Option Int:=
 need (0<=(at_:Int)/\(at_:Int)<=(bA (at_+width):Int)/\(bA (at_+width):Int)<=(b.length:Int)) ((loop (uU b at_ width) (0,0)).bind (aIM))
def JT(x:Int):Option Bool:=
 some (x != 0)
def KN(b:List Int):Option Bool:=
 (fB b (λy0=>JT y0)).bind λx1=>some (!x1)
def aL5:Option Bool:=
 some true
def rR(h:Heap)(page x1 x4:Int):Int->Option (Step Int (Out Unit Bool))
 |x6=>(if decide (x6<x4) then(vY x1).bind λx7=>(pR ((h.Bytes.take ((bA ((bA (page+1))*64)).toNat)).drop ((bA (page*64)).toNat)) (bA (8+(bA (x6*x7)))) 4).bind λx8=>(bV x8 1 7).bind λx9=>(if !x9 then some (.stop (Out.ret false)) else some (.next (bA (x6+1)))) else some (.stop (Out.brk ())))
def aL6:(Out Unit Bool)->Option Bool
 |.brk ()=>aL5
 |.ret r=>some r
def kH(h:Heap)(page x1:Int)(x3:Bool):Option Bool:=
 (if x3 then some false else(pQ x1).bind λx4=>(loop (rR h page x1 x4) 0).bind (aL6))
def QB(h:Heap)(page:Int):Option Bool:=
 (idx h.Class page).bind λx1=>need (0<=(bA (page*64):Int)/\(bA (page*64):Int)<=(bA ((bA (page+1))*64):Int)/\(bA ((bA (page+1))*64):Int)<=(h.Bytes.length:Int)) ((if decide (x1<0) then(KN ((h.Bytes.take ((bA ((bA (page+1))*64)).toNat)).drop ((bA (page*64)).toNat))).bind λx2=>some x2 else(idx ((h.Bytes.take ((bA ((bA (page+1))*64)).toNat)).drop ((bA (page*64)).toNat)) 0).bind λx10=>(if x10 != 171 then kH h page x1 true else(idx ((h.Bytes.take ((bA ((bA (page+1))*64)).toNat)).drop ((bA (page*64)).toNat)) 1).bind λx11=>(if x11 != x1 then kH h page x1 true else(idx ((h.Bytes.take ((bA ((bA (page+1))*64)).toNat)).drop ((bA (page*64)).toNat)) 2).bind λx12=>(pQ x1).bind λx13=>(if x12 != x13 then kH h page x1 true else need (0<=(3:Int)/\(3:Int)<=(8:Int)/\(8:Int)<=(((h.Bytes.take ((bA ((bA (page+1))*64)).toNat)).drop ((bA (page*64)).toNat)).length:Int)) ((KN ((((h.Bytes.take ((bA ((bA (page+1))*64)).toNat)).drop ((bA (page*64)).toNat)).take ((8:Int).toNat)).drop ((3:Int).toNat))).bind λx14=>kH h page x1 (!x14)))))))
def aL7:Option Bool:=
 some true
def xU(h:Heap):Int->Option (Step Int (Out Unit Bool))
 |x3=>(if decide (x3<6) then(QB h x3).bind λx4=>(if !x4 then some (.stop (Out.ret false)) else some (.next (bA (x3+1)))) else some (.stop (Out.brk ())))
def aL8:(Out Unit Bool)->Option Bool
 |.brk ()=>aL7
 |.ret r=>some r
def KO(h:Heap):Option Bool:=
 (KM h).bind λx1=>(if !x1 then some false else(loop (xU h) 0).bind (aL8))
def FV(page index:Int)(x1:Bool):Option Int:=
 (if x1 then some (-1) else some (bA ((bA (page*4))+index)))
def QC(page index:Int):Option Int:=
 (bV page 0 5).bind λx2=>(if !x2 then FV page index true else(bV index 0 3).bind λx3=>FV page index (!x3))
def aPN(c:Int)(x1:Heap)(x2:Int)(x13 x14:List Int):Option (Heap×(List Int)):=
 some ((⟨x14,x1.Class.set x2.toNat c⟩:Heap),x13)
def RH(x10:List Int)(x11 x15:Int)(x16:List Int):Option (Step ((List Int)×Int×(List Int)) ((List Int)×(List Int))):=
 need (x10.length+([x15]).length<=1073741824) (some (.next (x10++([x15]),bA (x11+1),x16)))
def JU(c x2 x6:Int):((List Int)×Int×(List Int))->Option (Step ((List Int)×Int×(List Int)) ((List Int)×(List Int)))
 |(x10,x11,x12)=>(if decide (x11<x6) then(QC x2 x11).bind λx15=>(xT x15 c).bind λx17=>(mQ 1 4).bind λx18=>(nG x12 x17 x18).bind λx19=>RH x10 x11 x15 x19 else some (.stop ((x10,x12))))
def aPO(c:Int)(x1:Heap)(x2:Int):((List Int)×(List Int))->Option (Heap×(List Int))
 |(x13,x14)=>aPN c x1 x2 x13 x14
def RI(c:Int)(x1:Heap)(x2:Int)(x5:List Int):Option (Heap×(List Int)):=
 (pQ c).bind λx6=>(loop (JU c x2 x6) (([]:List Int),0,x5)).bind (aPO c x1 x2)
def BH(c:Int)(x1:Heap)(x2:Int)(x3:Bool):Option (Heap×(List Int)):=
 (if x3 then some (x1,([]:List Int)) else(idx x1.Class x2).bind λx4=>need (0<=(bA (x2*64):Int)/\(bA (x2*64):Int)<=(x1.Bytes.length:Int))<|(pQ c).bind λx20=>RI c x1 x2 (cW x1.Bytes ((bA (x2*64)).toNat) ([171,c,x20]:List Int)))
def IV(h:Heap)(c:Int):Option (Heap×(List Int)):=
 (wA h).bind λx1=>(nN h.Class (-1)).bind λx2=>(KO h).bind λx21=>(if !x21 then BH c x1 x2 true else(lM c).bind λx22=>(if !x22 then BH c x1 x2 true else BH c x1 x2 (decide (x2<0))))
def LL(x4:Int)(x5:Mem):Option (Mem×Int):=
 some (x5,x4)
def LM(c:Int)(x1:Heap×(List Int))(x2:Mem):Option (Mem×Int):=
 (if(x1.2.length:Int) == 0 then some (x2,(-1)) else(idx x2.aD.Global c).bind λx3=>need (0<=(1:Int)/\(1:Int)<=(x1.2.length:Int)) (need (x3.aT.length+((x1.2.take x1.2.length).drop ((1:Int).toNat)).length<=1073741824) ((idx x1.2 0).bind λx6=>LL x6 (⟨x2.Heap,(⟨x2.aD.Global.set c.toNat (⟨x3.aT++((x1.2.take x1.2.length).drop ((1:Int).toNat))⟩:bE),x2.aD.Own⟩:aD)⟩:Mem))))
def M6(m:Mem)(c:Int):Option (Mem×Int):=
 (IV m.Heap c).bind λx1=>(i6 m.aD).bind λx7=>LM c x1 (⟨x1.1,x7⟩:Mem)
def C0(h:Heap)(slot:Int)(x1:Bool):Option Int:=
 (if x1 then some (-1) else(idx h.Class (bA (Int.tdiv slot 4))).bind λx2=>some x2)
def lN(h:Heap)(slot:Int):Option Int:=
 (tC slot).bind λx3=>(if !x3 then C0 h slot true else(idx h.Class (bA (Int.tdiv slot 4))).bind λx4=>(xT slot x4).bind λx5=>C0 h slot (decide (x5<0)))
def FW(h:Heap)(slot:Int):Option Int:=
 (KM h).bind λx1=>(if !x1 then some (-1) else(lN h slot).bind λx2=>some x2)
def DS(h:Heap)(slot:Int):Option Int:=
 (FW h slot).bind λx1=>(if decide (x1<0) then some 0 else(xT slot x1).bind λx2=>(pR h.Bytes x2 4).bind λx3=>some x3)
def zK(slot gen:Int)(x1:Bool):Option Int:=
 (if x1 then some 0 else some (bA ((bA (gen*32))+slot)))
def RJ(slot gen:Int):Option Int:=
 (tC slot).bind λx2=>(if !x2 then zK slot gen true else(bV gen 1 6).bind λx3=>zK slot gen (!x3))
def JV(m:Mem)(slot:Int):Option Int:=
 (DS m.Heap slot).bind λx1=>(RJ slot x1).bind λx2=>some x2
def i4(s:Sub)(x3:Int)(x4:aA):Option (Sub×aA):=
 (if decide (0<=x3) then(JV x4.Mem x3).bind λx5=>(bL ({s with Out:=x5}:Sub) 0).bind λx6=>some (x6,x4) else(if s.Pc == 3 then(bL s 3).bind λx7=>some (x7,x4) else some (({s with Pc:=bA (s.Pc+1)}:Sub),x4)))
def oE(s:Sub)(b:aA)(x1:Int)(x9:Bool):Option (Sub×aA):=
 (if x9 then(CY b.Mem.aD x1).bind λx10=>i4 s x10.2 ({b with Mem:=(⟨b.Mem.Heap,x10.1⟩:Mem)}:aA) else(if s.Pc == 2 then(M6 b.Mem x1).bind λx11=>i4 s x11.2 ({b with Mem:=x11.1}:aA) else(bL s 1).bind λx12=>some (x12,b)))
def tK(s:Sub)(b:aA)(w_:Int):Option (Sub×aA):=
 (M3 s.A).bind λx1=>(if decide (x1<0) then(bL s 2).bind λx2=>some (x2,b) else(if s.Pc == 0 then(M4 b.Mem.aD w_ x1).bind λx8=>i4 s x8.2 ({b with Mem:=(⟨b.Mem.Heap,x8.1⟩:Mem)}:aA) else(if s.Pc == 1 then oE s b x1 true else oE s b x1 (s.Pc == 3))))
def zL(x1:Bool):Option Bool:=
 some x1
def iN(h:Int):Option Bool:=
 (bV h 32 223).bind λx2=>(if x2 then zL (decide ((Int.tmod h 32)<24)) else zL false)
def iW(s:List Int)(v:Int):Option Bool:=
 (nN s v).bind λx1=>some (decide (0<=x1))
def qN(s:bE)(k0:Int):Option Bool:=
 (iW s.aT k0).bind λx1=>some x1
def AJ:Option Int:=
 some (-1)
def kY(s:List bE)(f:(bE->Option Bool)):Int->Option (Step Int (Out Unit Int))
 |x2=>(if decide (x2<(s.length:Int)) then(idx s x2).bind λx3=>(f x3).bind λx4=>(if x4 then some (.stop (Out.ret x2)) else some (.next (bA (x2+1)))) else some (.stop (Out.brk ())))
def AK:(Out Unit Int)->Option Int
 |.brk ()=>AJ
 |.ret r=>some r
def tL(s:List bE)(f:(bE->Option Bool)):Option Int:=
 (loop (kY s f) 0).bind (AK)
def iT(s:List bE)(f:(bE->Option Bool)):Option Bool:=
 (tL s f).bind λx1=>some (decide (0<=x1))
def FX(x1:Bool):Option Bool:=
 some x1
def KP(l:aD)(slot:Int):Option Bool:=
 (iT l.Global (λy0=>qN y0 slot)).bind λx2=>(if x2 then FX true else(iT l.Own (λy0=>qN y0 slot)).bind λx3=>FX x3)
def M7(m:Mem)(slot:Int):Option Int:=
 (lN m.Heap slot).bind λx1=>(if decide (x1<0) then some 0 else(KP m.aD slot).bind λx2=>(if x2 then some 1 else(DS m.Heap slot).bind λx3=>(if decide (6<x3) then some 2 else some 3)))
def xV(x1:Bool):Option Bool:=
 some x1
def xW(m:Mem)(h:Int):Option Bool:=
 (iN h).bind λx2=>(if x2 then(M7 m (Int.tmod h 32)).bind λx3=>(if x3 == 3 then(DS m.Heap (Int.tmod h 32)).bind λx4=>xV (x4 == (bA (Int.tdiv h 32))) else xV false) else xV false)
def AL:Option Int:=
 some (-1)
def kZ(s:List bN)(f:(bN->Option Bool)):Int->Option (Step Int (Out Unit Int))
 |x2=>(if decide (x2<(s.length:Int)) then(idx s x2).bind λx3=>(f x3).bind λx4=>(if x4 then some (.stop (Out.ret x2)) else some (.next (bA (x2+1)))) else some (.stop (Out.brk ())))
def AM:(Out Unit Int)->Option Int
 |.brk ()=>AL
 |.ret r=>some r
def tM(s:List bN)(f:(bN->Option Bool)):Option Int:=
 (loop (kZ s f) 0).bind (AM)
def iU(s:List bN)(f:(bN->Option Bool)):Option Bool:=
 (tM s f).bind λx1=>some (decide (0<=x1))
def BI:Option Int:=
 some (-1)
def lO(s:List dR)(f:(dR->Option Bool)):Int->Option (Step Int (Out Unit Int))
 |x2=>(if decide (x2<(s.length:Int)) then(idx s x2).bind λx3=>(f x3).bind λx4=>(if x4 then some (.stop (Out.ret x2)) else some (.next (bA (x2+1)))) else some (.stop (Out.brk ())))
def BJ:(Out Unit Int)->Option Int
 |.brk ()=>BI
 |.ret r=>some r
def wL(s:List dR)(f:(dR->Option Bool)):Option Int:=
 (loop (lO s f) 0).bind (BJ)
def i7(s:List dR)(f:(dR->Option Bool)):Option Bool:=
 (wL s f).bind λx1=>some (decide (0<=x1))
def rA(x1:Bool):Option Bool:=
 some x1
def rS(r_:dR)(k0:Int):Option Bool:=
 (iN r_.Handle).bind λx2=>(if x2 then rA ((Int.tmod r_.Handle 32) == k0) else rA false)
def FY(own:bN)(k0:Int):Option Bool:=
 (i7 own.Rows (λy0=>rS y0 k0)).bind λx1=>some x1
def FZ(l:List bN)(slot:Int):Option Bool:=
 (iU l (λy0=>FY y0 slot)).bind λx1=>some x1
def wT(s:List dR):Option (List dR):=
 need (([]:List dR).length+s.length<=1073741824) (some (([]:List dR)++s))
def aEL(x5:List bN):Option (List bN):=
 some x5
def F5(l:List bN):((List bN)×Int)->Option (Step ((List bN)×Int) (List bN))
 |(x3,x4)=>(if decide (x4<(l.length:Int)) then(idx l x4).bind λx6=>(wT x6.Rows).bind λx7=>need (x3.length+([(⟨x7⟩:bN)]).length<=1073741824) (some (.next (x3++([(⟨x7⟩:bN)]),bA (x4+1)))) else some (.stop (x3)))
def aEM:(List bN)->Option (List bN)
 |x5=>aEL x5
def lV(l:List bN):Option (List bN):=
 (loop (F5 l) (([]:List bN),0)).bind (aEM)
def aEN(x5:Int):Option Int:=
 some x5
def pS(l:List bN):(Int×Int)->Option (Step (Int×Int) Int)
 |(x3,x4)=>(if decide (x4<(l.length:Int)) then(idx l x4).bind λx6=>some (.next (bA (x3+(x6.Rows.length:Int)),bA (x4+1))) else some (.stop (x3)))
def aEO:Int->Option Int
 |x5=>aEN x5
def F6(l:List bN):Option Int:=
 (loop (pS l) (0,0)).bind (aEO)
def WG(l:List bN):Option Bool:=
 (F6 l).bind λx5=>some (decide (x5<=24))
def WH(x3:Int)(x11:List Bool):Option (Step (Int×(List Bool)) (Out Unit Bool)):=
 some (.next (bA (x3+1),x11))
def mR(x9:Int)(x10:List Bool)(x12:dR)(x13:Bool):Option (Step (Int×(List Bool)) (Out (List Bool) Bool)):=
 (if x13 then some (.stop (Out.ret false)) else need (0<=(Int.tmod x12.Handle 32:Int)/\(Int.tmod x12.Handle 32:Int)<24) ((idx (x10:List Bool) (Int.tmod x12.Handle 32)).bind λx14=>some (.next (bA (x9+1),x10.set ((Int.tmod x12.Handle 32).toNat) true))))
def uV(x6:bN):(Int×(List Bool))->Option (Step (Int×(List Bool)) (Out (List Bool) Bool))
 |(x9,x10)=>(if decide (x9<(x6.Rows.length:Int)) then(idx x6.Rows x9).bind λx12=>(iN x12.Handle).bind λx15=>(if !x15 then mR x9 x10 x12 true else(bV x12.aE 0 100000).bind λx16=>(if !x16 then mR x9 x10 x12 true else need (0<=(Int.tmod x12.Handle 32:Int)/\(Int.tmod x12.Handle 32:Int)<24) ((idx (x10:List Bool) (Int.tmod x12.Handle 32)).bind λx17=>mR x9 x10 x12 x17))) else some (.stop (Out.brk x10)))
def WI(x3:Int):(Out (List Bool) Bool)->Option (Step (Int×(List Bool)) (Out Unit Bool))
 |.brk x11=>WH x3 x11
 |.ret r=>some (.stop (Out.ret r))
def uW(l:List bN):(Int×(List Bool))->Option (Step (Int×(List Bool)) (Out Unit Bool))
 |(x3,x4)=>(if decide (x3<(l.length:Int)) then(idx l x3).bind λx6=>(loop (uV x6) (0,x4)).bind (WI x3) else some (.stop (Out.brk ())))
def WJ(l:List bN):(Out Unit Bool)->Option Bool
 |.brk ()=>WG l
 |.ret r=>some r
def tN(l:List bN):Option Bool:=
 (if(l.length:Int) != 3 then some false else(loop (uW l) (0,List.replicate 24 false)).bind (WJ l))
def zN(l:List bN)(w_ h e_:Int)(x1:Bool):Option ((List bN)×Bool):=
 (if x1 then(lV l).bind λx2=>some (x2,false) else(lV l).bind λx3=>(idx x3 w_).bind λx4=>need (x4.Rows.length+([(⟨h,e_⟩:dR)]).length<=1073741824) ((tN (x3.set w_.toNat (⟨x4.Rows++([(⟨h,e_⟩:dR)])⟩:bN))).bind λx5=>(if !x5 then(lV l).bind λx6=>some (x6,false) else some (x3.set w_.toNat (⟨x4.Rows++([(⟨h,e_⟩:dR)])⟩:bN),true))))
def JW(l:List bN)(w_ h e_:Int):Option ((List bN)×Bool):=
 (tN l).bind λx7=>(if !x7 then zN l w_ h e_ true else(gY w_).bind λx8=>zN l w_ h e_ (!x8))
def nB(s:Sub)(b:aA)(w_:Int)(x3:Bool):Option (Sub×aA):=
 (if x3 then(bL s 4).bind λx4=>some (x4,b) else(JW b.aM w_ s.A s.E).bind λx5=>(bL s 0).bind λx6=>some (x6,({b with aM:=x5.1}:aA)))
def nC(s:Sub)(b:aA)(w_:Int)(x1:Bool):Option (Sub×aA):=
 (if x1 then(bL s 1).bind λx2=>some (x2,b) else(xW b.Mem s.A).bind λx7=>(if !x7 then nB s b w_ true else(FZ b.aM (Int.tmod s.A 32)).bind λx8=>nB s b w_ x8))
def rB(s:Sub)(b:aA)(w_:Int):Option (Sub×aA):=
 (if s.Pc == 0 then some (({s with Pc:=1,E:=b.aC.aE}:Sub),b) else(if s.Pc != 1 then nC s b w_ true else(bV s.E 0 b.aC.aE).bind λx9=>nC s b w_ (!x9)))
def zO(s:List vW):Option (List vW):=
 need (([]:List vW).length+s.length<=1073741824) (some (([]:List vW)++s))
def lW(c:aC):Option aC:=
 (zO c.cQ).bind λx1=>some (⟨c.aE,x1⟩:aC)
def EL:Option Int:=
 some (-1)
def jX(s:List vW)(f:(vW->Option Bool)):Int->Option (Step Int (Out Unit Int))
 |x2=>(if decide (x2<(s.length:Int)) then(idx s x2).bind λx3=>(f x3).bind λx4=>(if x4 then some (.stop (Out.ret x2)) else some (.next (bA (x2+1)))) else some (.stop (Out.brk ())))
def rT:(Out Unit Int)->Option Int
 |.brk ()=>EL
 |.ret r=>some r
def xX(s:List vW)(f:(vW->Option Bool)):Option Int:=
 (loop (jX s f) 0).bind (rT)
def mE(s:List vW)(f:(vW->Option Bool)):Option Bool:=
 (xX s f).bind λx1=>some (decide (0<=x1))
def mF(x1:Bool):Option Bool:=
 some x1
def xY(p:vW)(k0:aC):Option Bool:=
 (bV p.aE 0 k0.aE).bind λx2=>(if !x2 then mF true else(bV p.Seen 0 2).bind λx3=>(if !x3 then mF true else(if !p.On then mF (!(decide (p=(⟨false,0,false,0⟩:vW)))) else mF false)))
def uX(x1:Bool):Option Bool:=
 some x1
def pT(c:aC):Option Bool:=
 (bV c.aE 0 100000).bind λx2=>(if x2 then(if(c.cQ.length:Int) == 3 then(mE c.cQ (λy0=>xY y0 c)).bind λx3=>uX (!x3) else uX false) else uX false)
def rU(w_:Int)(x1:aC)(x4:Bool):Option (aC×Bool):=
 (if x4 then some (x1,true) else(idx x1.cQ w_).bind λx5=>(if decide (x5.Seen<2) then some ((⟨x1.aE,x1.cQ.set w_.toNat ({x5 with Seen:=bA (x5.Seen+1)}:vW)⟩:aC),false) else some ((⟨x1.aE,x1.cQ.set w_.toNat ({x5 with gU:=true,Seen:=0}:vW)⟩:aC),true)))
def F7(w_ e_:Int)(x1:aC)(x2:Bool):Option (aC×Bool):=
 (if x2 then some (x1,false) else(idx x1.cQ w_).bind λx3=>(if !x3.On then rU w_ x1 true else(if x3.gU then rU w_ x1 true else rU w_ x1 (x3.aE == e_))))
def QD(c:aC)(w_ e_:Int):Option (aC×Bool):=
 (lW c).bind λx1=>(pT c).bind λx6=>(if !x6 then F7 w_ e_ x1 true else(gY w_).bind λx7=>F7 w_ e_ x1 (!x7))
def F8(x1:aC)(x2:Bool):Option (aC×Bool):=
 (if x2 then some (x1,false) else some ((⟨bA (x1.aE+1),x1.cQ⟩:aC),true))
def aAD(c:aC)(e_:Int):Option (aC×Bool):=
 (lW c).bind λx1=>(pT c).bind λx3=>(if !x3 then F8 x1 true else(if c.aE != e_ then F8 x1 true else F8 x1 (c.aE == 100000)))
def mG(s:Sub)(b:aA)(x4:aC×Bool)(x5:Int):Option (Sub×aA):=
 (bL ({s with Out:=x5}:Sub) 0).bind λx6=>some (x6,({b with aC:=x4.1}:aA))
def mH(s:Sub)(b:aA)(x1:Bool):Option (Sub×aA):=
 (if x1 then(QD b.aC s.B s.E).bind λx2=>(if !x2.2 then(bL s 8).bind λx3=>some (x3,({b with aC:=x2.1}:aA)) else(if(bA (s.B+1)) == 3 then some (({s with Pc:=2,B:=bA (s.B+1)}:Sub),({b with aC:=x2.1}:aA)) else some (({s with B:=bA (s.B+1)}:Sub),({b with aC:=x2.1}:aA)))) else(if s.Pc == 2 then(aAD b.aC s.E).bind λx4=>(if x4.2 then mG s b x4 1 else mG s b x4 s.Out) else(bL s 1).bind λx7=>some (x7,b)))
def pU(s:Sub)(b:aA):Option (Sub×aA):=
 (if s.Pc == 0 then some (({s with Pc:=1,E:=b.aC.aE,B:=0}:Sub),b) else(if s.Pc == 1 then(gY s.B).bind λx8=>mH s b x8 else mH s b false))
def OE(x3 x5:List Int):Option (Heap×Bool):=
 some ((⟨x5,x3⟩:Heap),true)
def F9(slot gen x1:Int)(x2 x3:List Int)(x4:Bool):Option (Heap×Bool):=
 (if x4 then some ((⟨x2,x3⟩:Heap),false) else(xT slot x1).bind λx6=>(mQ gen 4).bind λx7=>(nG x2 x6 x7).bind λx8=>OE x3 x8)
def OF(slot gen x1:Int)(x2 x3:List Int):Option (Heap×Bool):=
 (if decide (x1<0) then F9 slot gen x1 x2 x3 true else(bV gen 1 7).bind λx9=>F9 slot gen x1 x2 x3 (!x9))
def X7(h:Heap)(slot gen:Int):Option (Heap×Bool):=
 (wA h).bind λx10=>(FW h slot).bind λx11=>OF slot gen x11 x10.Bytes x10.Class
def zP(c slot:Int)(x1:aD)(x2:Int)(x3:Bool):Option (aD×Bool):=
 (if x3 then some (x1,false) else(idx x1.Own x2).bind λx4=>(if decide (2<=(x4.aT.length:Int)) then(idx x1.Global c).bind λx5=>need (x5.aT.length+([slot]).length<=1073741824) (some ((⟨x1.Global.set c.toNat (⟨x5.aT++([slot])⟩:bE),x1.Own⟩:aD),true)) else need (x4.aT.length+([slot]).length<=1073741824) (some ((⟨x1.Global,x1.Own.set x2.toNat (⟨x4.aT++([slot])⟩:bE)⟩:aD),true))))
def aGJ(l:aD)(w_ c slot:Int):Option (aD×Bool):=
 (i6 l).bind λx1=>(OB w_ c).bind λx2=>(pP l).bind λx6=>(if !x6 then zP c slot x1 x2 true else(if decide (x2<0) then zP c slot x1 x2 true else(tC slot).bind λx7=>(if !x7 then zP c slot x1 x2 true else(KP l slot).bind λx8=>zP c slot x1 x2 x8)))
def RK(x3:Mem):Option Mem:=
 some x3
def RL(m:Mem)(w_ h:Int)(x2:Mem):Option Mem:=
 (if decide ((bA ((bA (Int.tdiv h 32))+1))<=6) then(lN m.Heap (Int.tmod h 32)).bind λx4=>(aGJ m.aD w_ x4 (Int.tmod h 32)).bind λx5=>RK (⟨x2.Heap,x5.1⟩:Mem) else RK x2)
def OG(m:Mem)(w_ h:Int):Option Mem:=
 (X7 m.Heap (Int.tmod h 32) (bA ((bA (Int.tdiv h 32))+1))).bind λx1=>(i6 m.aD).bind λx6=>RL m w_ h (⟨x1.1,x6⟩:Mem)
def GA(x1:Bool):Option Bool:=
 some x1
def KQ(l:List bN)(w_ i:Int):Option Bool:=
 (gY w_).bind λx2=>(if x2 then(idx l w_).bind λx3=>(bV i 0 (bA ((x3.Rows.length:Int)-1))).bind λx4=>GA x4 else GA false)
def M8(x1:Bool):Option Bool:=
 some x1
def S7(r_:dR)(e_:Int):Option Bool:=
 (if decide (2<=e_) then M8 (decide (r_.aE<=(bA (e_-2)))) else M8 false)
def KR(s:Sub)(b:aA):Option (Sub×aA):=
 (bL s 0).bind λx3=>some (x3,b)
def fM(s:Sub)(b:aA)(w_:Int):Int->Option (Step Int (Out Unit (Sub×aA)))
 |x2=>(idx b.aM w_).bind λx4=>(if decide (x2<(x4.Rows.length:Int)) then(idx x4.Rows x2).bind λx5=>(S7 x5 s.E).bind λx6=>(if x6 then some (.stop (Out.ret (({s with Pc:=2,Row:=x2,B:=0,H:=x5.Handle}:Sub),b))) else some (.next (bA (x2+1)))) else some (.stop (Out.brk ())))
def X8(s:Sub)(b:aA):(Out Unit (Sub×aA))->Option (Sub×aA)
 |.brk ()=>KR s b
 |.ret r=>some r
def pW(s:Sub)(b:aA)(w_:Int):Option (Sub×aA):=
 (loop (fM s b w_) (if s.Row<0 then 0 else s.Row)).bind (X8 s b)
def DT(s:List dR)(i j:Int):Option (List dR):=
 need (0<=(i:Int)/\(i:Int)<=(j:Int)/\(j:Int)<=((s.length:Int):Int)/\((s.length:Int):Int)<=(s.length:Int)) ((if i == j then some s else need (0<=(i:Int)/\(i:Int)<=(s.length:Int)) (need (0<=(j:Int)/\(j:Int)<=(s.length:Int)) (need (i.toNat<=j.toNat) (need (0<=(((((cW s i.toNat (s.drop j.toNat)).take (i.toNat+(s.length-j.toNat))).drop 0).length:Int):Int)/\(((((cW s i.toNat (s.drop j.toNat)).take (i.toNat+(s.length-j.toNat))).drop 0).length:Int):Int)<=((s.length:Int):Int)/\((s.length:Int):Int)<=((cW s i.toNat (s.drop j.toNat)).length:Int)) (some (((cW s i.toNat (s.drop j.toNat)).take (i.toNat+(s.length-j.toNat))).drop 0)))))))
def C1(w_ i:Int)(x1:(List bN))(x2:Bool):Option ((List bN)×Bool):=
 (if x2 then some (x1,false) else(idx x1 w_).bind λx3=>(DT x3.Rows i (bA (i+1))).bind λx4=>some (x1.set w_.toNat (⟨x4⟩:bN),true))
def M9(l:List bN)(w_ i:Int):Option ((List bN)×Bool):=
 (lV l).bind λx1=>(tN l).bind λx5=>(if !x5 then C1 w_ i x1 true else(KQ l w_ i).bind λx6=>C1 w_ i x1 (!x6))
def dN(s:Sub)(b:aA)(w_:Int)(x5:Bool):Option (Sub×aA):=
 (if x5 then(M9 b.aM w_ s.Row).bind λx6=>(OG b.Mem w_ s.H).bind λx7=>some (({s with Pc:=1,Out:=bA (s.Out+1)}:Sub),({b with Mem:=x7,aM:=x6.1}:aA)) else(bL s 1).bind λx8=>some (x8,b))
def fC(s:Sub)(b:aA)(w_:Int)(x1 x3:Bool):Option (Sub×aA):=
 (if x3 then(idx b.oR s.B).bind λx4=>(if x4 == s.H then some (({s with Pc:=1,Row:=bA (s.Row+1)}:Sub),b) else(if(bA (s.B+1)) == 3 then some (({s with Pc:=3,B:=bA (s.B+1)}:Sub),b) else some (({s with B:=bA (s.B+1)}:Sub),b))) else(if s.Pc == 3 then(if x1 then(idx b.aM w_).bind λx9=>(idx x9.Rows s.Row).bind λx10=>(S7 x10 s.E).bind λx11=>dN s b w_ x11 else dN s b w_ false) else dN s b w_ false))
def gD(s:Sub)(b:aA)(w_:Int)(x1:Bool):Option (Sub×aA):=
 (if s.Pc == 0 then some (({s with Pc:=1,E:=b.aC.aE,Row:=0}:Sub),b) else(if s.Pc == 1 then(pW s b w_).bind λx2=>some (x2.1,x2.2) else(if s.Pc == 2 then(gY s.B).bind λx12=>(if x12 then fC s b w_ x1 x1 else fC s b w_ x1 false) else fC s b w_ x1 false)))
def pX(s:Sub)(b:aA)(w_:Int):Option (Sub×aA):=
 (KQ b.aM w_ s.Row).bind λx13=>(if x13 then(idx b.aM w_).bind λx14=>(idx x14.Rows s.Row).bind λx15=>gD s b w_ (x15.Handle == s.H) else gD s b w_ false)
def BK(w_ e_:Int)(x1:aC)(x2:Bool):Option (aC×Bool):=
 (if x2 then some (x1,false) else(idx x1.cQ w_).bind λx3=>some ((⟨x1.aE,x1.cQ.set w_.toNat (⟨true,e_,false,0⟩:vW)⟩:aC),true))
def UM(c:aC)(w_ e_:Int):Option (aC×Bool):=
 (lW c).bind λx1=>(pT c).bind λx4=>(if !x4 then BK w_ e_ x1 true else(gY w_).bind λx5=>(if !x5 then BK w_ e_ x1 true else(bV e_ 0 c.aE).bind λx6=>BK w_ e_ x1 (!x6)))
def AR(s:Sub)(b:aA)(x1:Bool)(x2:Int)(x3:List vW):Option (Sub×aA):=
 (if !x1 then(bL s 1).bind λx4=>some (x4,b) else some (({s with Pc:=2}:Sub),({b with aC:=(⟨x2,x3⟩:aC)}:aA)))
def zQ(s:Sub)(b:aA)(w_:Int):Option (Sub×aA):=
 (if s.Pc == 0 then some (({s with Pc:=1,E:=b.aC.aE}:Sub),b) else(if s.Pc == 1 then(UM b.aC w_ s.E).bind λx5=>AR s b x5.2 x5.1.aE x5.1.cQ else(if s.Pc == 2 then(if b.aC.aE == s.E then(bL s 0).bind λx6=>some (x6,b) else some (({s with Pc:=0}:Sub),b)) else(bL s 1).bind λx7=>some (x7,b))))
def qO(s:Sub)(b:aA)(w_:Int):Option (Sub×aA):=
 (if s.gL then some (s,b) else(if s.Kind == 1 then(tK s b w_).bind λx1=>some (x1.1,x1.2) else(if s.Kind == 2 then(rB s b w_).bind λx2=>some (x2.1,x2.2) else(if s.Kind == 3 then(pU s b).bind λx3=>some (x3.1,x3.2) else(if s.Kind == 4 then(pX s b w_).bind λx4=>some (x4.1,x4.2) else(if s.Kind == 5 then(zQ s b w_).bind λx5=>some (x5.1,x5.2) else(bL s 1).bind λx6=>some (x6,b)))))))
def tO(t:Table)(w_:Int):Option Table:=
 (idx t.aR w_).bind λx1=>(qO x1.Sub t.aA w_).bind λx2=>(if !x2.1.gL then some ({t with aA:=x2.2,aR:=t.aR.set w_.toNat ({x1 with Sub:=x2.1}:aH)}:Table) else(if x1.Pc == 0 then some ({t with aA:=x2.2,aR:=t.aR.set w_.toNat ({x1 with Pc:=1,Sub:=x2.1}:aH)}:Table) else(if x1.Pc == 20 then(lT 4 0).bind λx3=>some ({t with aA:=x2.2,aR:=t.aR.set w_.toNat ({x1 with Pc:=21,Sub:=x3}:aH)}:Table) else some ({t with aA:=x2.2,aR:=t.aR.set w_.toNat ({x1 with Pc:=19,Sub:=x2.1}:aH)}:Table))))
def pY(j:aH):Option (kN×Bool×aH):=
 (bV j.At 0 (bA ((j.Batch.bW.length:Int)-1))).bind λx1=>(if !x1 then some ((⟨0,0,0⟩:kN),false,j) else(idx j.Batch.bW j.At).bind λx2=>some (x2,true,j))
def cT(j:aH)(code:Int):Option aH:=
 some ({j with Pc:=16,Code:=code}:aH)
def nW(s:List aW):Option (List aW):=
 need (([]:List aW).length+s.length<=1073741824) (some (([]:List aW)++s))
def PE:Option Int:=
 some (-1)
def oV(s:List aW)(f:(aW->Option Bool)):Int->Option (Step Int (Out Unit Int))
 |x2=>(if decide (x2<(s.length:Int)) then(idx s x2).bind λx3=>(f x3).bind λx4=>(if x4 then some (.stop (Out.ret x2)) else some (.next (bA (x2+1)))) else some (.stop (Out.brk ())))
def PF:(Out Unit Int)->Option Int
 |.brk ()=>PE
 |.ret r=>some r
def cY(s:List aW)(f:(aW->Option Bool)):Option Int:=
 (loop (oV s f) 0).bind (PF)
def xZ(x8:List aW)(x9:Int):Option (List aW):=
 need (0<=(x9:Int)/\(x9:Int)<=(x8.length:Int)) (need (0<=(x9:Int)/\(x9:Int)<=((cW x8 x9.toNat (List.replicate (x8.length-x9.toNat) (⟨0,false,0⟩:aW))).length:Int)) (some (((cW x8 x9.toNat (List.replicate (x8.length-x9.toNat) (⟨0,false,0⟩:aW))).take x9.toNat).drop 0)))
def iG(x7:Int)(x10:List aW)(x11:Int):Option (Step ((List aW)×Int×Int) ((List aW)×Int)):=
 some (.next (x10,x11,bA (x7+1)))
def kI(del:(aW->Option Bool)):((List aW)×Int×Int)->Option (Step ((List aW)×Int×Int) ((List aW)×Int))
 |(x5,x6,x7)=>(if decide (x7<(x5.length:Int)) then(idx x5 x7).bind λx12=>(del x12).bind λx13=>(if !x13 then(idx x5 x6).bind λx14=>iG x7 (x5.set x6.toNat x12) (bA (x6+1)) else iG x7 x5 x6) else some (.stop ((x5,x6))))
def yA:((List aW)×Int)->Option (List aW)
 |(x8,x9)=>xZ x8 x9
def jY(s:List aW)(del:(aW->Option Bool)):Option (List aW):=
 (cY s del).bind λx1=>(if x1 == (-1) then some s else(loop (kI del) (s,x1,bA (x1+1))).bind (yA))
def LN(x k0:aW):Option Bool:=
 some (x.Key == k0.Key)
def C2(x k0:aW):Option Bool:=
 some (decide (k0.Key<x.Key))
def rC(s:List aW)(i:Int)(v:List aW):Option (List aW):=
 need (0<=i/\i<=(s.length:Int)/\s.length+v.length<=1073741824) (some (s.take i.toNat++v++s.drop i.toNat))
def rV(w_:aW)(x2:(List aW))(x4:Int):Option (List aW):=
 (rC x2 x4 ([w_])).bind λx5=>some x5
def JX(l:List aW)(w_:aW):Option (List aW):=
 (nW l).bind λx1=>(jY x1 (λy0=>LN y0 w_)).bind λx2=>(cY x2 (λy0=>C2 y0 w_)).bind λx3=>(if decide (x3<0) then rV w_ x2 (x2.length:Int) else rV w_ x2 x3)
def rW(j:aH)(x:aW):Option (Bool×aH):=
 (JX j.aI x).bind λx1=>(if decide (6<(x1.length:Int)) then(cT j 1).bind λx2=>some (false,x2) else some (true,({j with aI:=x1}:aH)))
def GB(x:aW)(k0:Int):Option Bool:=
 some (x.Key == k0)
def NA(l:List aW)(key:Int):Option (aW×Bool):=
 (cY l (λy0=>GB y0 key)).bind λx1=>(if decide (x1<0) then some ((⟨0,false,0⟩:aW),false) else(idx l x1).bind λx2=>some (x2,true))
def aCQ(a_ b:Int):Option Int:=
 some (Int.tmod (bA (a_+b)) 65536)
def rD(x5:aH):Option aH:=
 some ({x5 with Pc:=1,At:=bA (x5.At+1)}:aH)
def mV(x2:aH)(x3:Bool)(x4:Int):Option aH:=
 need (x2.jV.length+([(⟨x3,x4⟩:jV)]).length<=1073741824)<|rD ({x2 with jV:=x2.jV++([(⟨x3,x4⟩:jV)])}:aH)
def mW(j:aH)(c:kN)(is:Bool)(x1:Int):Option aH:=
 (if c.Kind == 4 then(aCQ x1 c.eI).bind λx6=>(rW j (⟨c.Key,false,x6⟩:aW)).bind λx7=>(if !x7.1 then some x7.2 else mV x7.2 true x6) else mV j is x1)
def rX(j:aH)(c:kN)(val:Int)(is:Bool):Option aH:=
 (if !is then mW j c is 0 else mW j c is val)
def IW(key:Int):Option Int:=
 (bV key 0 99).bind λx1=>(if !x1 then some (-1) else some (Int.tmod key 2))
def GC(x1:kN×Bool×aH)(x6:Bool)(x7:aH)(x8:Int)(x9:Bool)(x10:Int):Option aH:=
 (if x6 then(rX x7 x1.1 x10 (!x9)).bind λx11=>some x11 else(IW x1.1.Key).bind λx12=>some ({x7 with Pc:=2,cR:=x12}:aH))
def kJ(x1:kN×Bool×aH)(x3:Bool)(x4:aH):Option aH:=
 (if x3 then(rW x4 (⟨x1.1.Key,x1.1.Kind == 3,x1.1.eI⟩:aW)).bind λx5=>(if x5.1 then need (x5.2.jV.length+([(⟨false,0⟩:jV)]).length<=1073741824) (some (⟨x5.2.cO,x5.2.Batch,x5.2.aO,x5.2.Pc,bA (x5.2.At+1),x5.2.K,x5.2.cR,x5.2.kC,x5.2.H,x5.2.gN,x5.2.Node,x5.2.Found,x5.2.Code,x5.2.Sub,x5.2.Reads,x5.2.aI,x5.2.jV++([(⟨false,0⟩:jV)]),x5.2.gO,x5.2.bI,x5.2.cH⟩:aH)) else some x5.2) else(NA x4.aI x1.1.Key).bind λx13=>GC x1 x13.2 x4 x13.1.Key x13.1.KJ x13.1.eI)
def GD(j:aH):Option aH:=
 (pY j).bind λx1=>(if !x1.2.1 then(lT 1 16).bind λx2=>some (⟨x1.2.2.cO,x1.2.2.Batch,x1.2.2.aO,6,x1.2.2.At,0,x1.2.2.cR,x1.2.2.kC,x1.2.2.H,x1.2.2.gN,x1.2.2.Node,x1.2.2.Found,x1.2.2.Code,x2,x1.2.2.Reads,x1.2.2.aI,x1.2.2.jV,x1.2.2.gO,x1.2.2.bI,x1.2.2.cH⟩:aH) else(if x1.1.Kind == 2 then kJ x1 true x1.2.2 else kJ x1 (x1.1.Kind == 3) x1.2.2))
def oF(x1:Bool):Option Bool:=
 some x1
def DU(p:vW):Option Bool:=
 (if p.On then oF (!p.gU) else oF false)
def NB(slot c:Int):Option Int:=
 (xT slot c).bind λx1=>(if decide (x1<0) then some (-1) else some (bA (x1+4)))
def zR(h:Heap)(slot:Int):Option Int:=
 (lN h slot).bind λx1=>(NB slot x1).bind λx2=>some x2
def pZ(h:Heap)(slot:Int):Option gR:=
 (zR h slot).bind λx1=>(pR h.Bytes x1 2).bind λx2=>(pR h.Bytes (bA (x1+2)) 4).bind λx3=>(pR h.Bytes (bA (x1+6)) 4).bind λx4=>some (⟨x2,x3,x4⟩:gR)
def GF(h:Heap)(slot:Int):Option Bool:=
 (lN h slot).bind λx1=>(EJ x1).bind λx2=>some (decide (10<=x2))
def GG(m:Mem)(h:Int)(x1:Bool):Option (gR×Int):=
 (if x1 then some ((⟨0,0,0⟩:gR),4) else(GF m.Heap (Int.tmod h 32)).bind λx2=>(if !x2 then some ((⟨0,0,0⟩:gR),2) else(pZ m.Heap (Int.tmod h 32)).bind λx3=>some (x3,0)))
def KS(m:Mem)(h:Int):Option (gR×Int):=
 (iN h).bind λx4=>(if !x4 then GG m h true else(lN m.Heap (Int.tmod h 32)).bind λx5=>GG m h (decide (x5<0)))
def hU(n:gR):Option Int:=
 (iN n.Next).bind λx1=>(if !x1 then some 0 else some n.Next)
def p5(s:List Seen):Option (List Seen):=
 need (([]:List Seen).length+s.length<=1073741824) (some (([]:List Seen)++s))
def RM:Option Int:=
 some (-1)
def jA(s:List Seen)(f:(Seen->Option Bool)):Int->Option (Step Int (Out Unit Int))
 |x2=>(if decide (x2<(s.length:Int)) then(idx s x2).bind λx3=>(f x3).bind λx4=>(if x4 then some (.stop (Out.ret x2)) else some (.next (bA (x2+1)))) else some (.stop (Out.brk ())))
def BL:(Out Unit Int)->Option Int
 |.brk ()=>RM
 |.ret r=>some r
def eY(s:List Seen)(f:(Seen->Option Bool)):Option Int:=
 (loop (jA s f) 0).bind (BL)
def GH(s:Seen)(k0:Int):Option Bool:=
 some (s.cR == k0)
def NC(l:List Seen)(b v:Int):Option ((List Seen)×Bool):=
 (p5 l).bind λx1=>(eY l (λy0=>GH y0 b)).bind λx2=>(if decide (x2<0) then need (x1.length+([(⟨b,v⟩:Seen)]).length<=1073741824) (some (x1++([(⟨b,v⟩:Seen)]),true)) else(idx l x2).bind λx3=>some (x1,x3.kC == v))
def tP(t:Table)(w_:Int)(x13:List aH)(x14:Bool):Option Table:=
 (if x14 then(idx x13 w_).bind λx15=>some ({t with aR:=x13.set w_.toNat ({x15 with Pc:=5}:aH)}:Table) else some ({t with aR:=x13}:Table))
def DV(t:Table)(w_:Int)(x13:List aH):Option Table:=
 (idx x13 w_).bind λx16=>(if x16.Found then tP t w_ x13 true else tP t w_ x13 (x16.H == 0))
def OH(t:Table)(x26:List aH):Option Table:=
 some ({t with aR:=x26}:Table)
def DW(t:Table)(w_:Int)(x6:kN×Bool×aH)(x21:List Seen)(x22:Bool):Option Table:=
 (idx (t.aR.set w_.toNat x6.2.2) w_).bind λx23=>(if !x22 then(cT ({x23 with Reads:=x21}:aH) 7).bind λx24=>some ({t with aR:=(t.aR.set w_.toNat x6.2.2).set w_.toNat x24}:Table) else(if !x6.2.1 then(cT ({x23 with Reads:=x21}:aH) 1).bind λx25=>some ({t with aR:=(t.aR.set w_.toNat x6.2.2).set w_.toNat x25}:Table) else(rX ({x23 with Reads:=x21}:aH) x6.1 x23.Node.eI x23.Found).bind λx27=>OH t ((t.aR.set w_.toNat x6.2.2).set w_.toNat x27)))
def jO(t:Table)(w_:Int)(x6:kN×Bool×aH)(x18:Bool):Option Table:=
 (if x18 then(idx (t.aR.set w_.toNat x6.2.2) w_).bind λx19=>(cT x19 7).bind λx20=>some ({t with aR:=(t.aR.set w_.toNat x6.2.2).set w_.toNat x20}:Table) else(idx (t.aR.set w_.toNat x6.2.2) w_).bind λx28=>(NC x28.Reads x28.cR x28.kC).bind λx29=>DW t w_ x6 x29.1 x29.2)
def DX(t:Table)(w_ x2 x3 x4:Int):Option Table:=
 (idx t.aR w_).bind λx5=>(pY x5).bind λx6=>(if x6.2.2.Pc == 2 then(if x4 != 0 then(cT x6.2.2 7).bind λx7=>some ({t with aR:=t.aR.set w_.toNat x7}:Table) else(if x2 == 0 then some ({t with aR:=t.aR.set w_.toNat (⟨x6.2.2.cO,x6.2.2.Batch,x6.2.2.aO,5,x6.2.2.At,x6.2.2.K,x6.2.2.cR,x3,x2,x6.2.2.gN,(⟨0,0,0⟩:gR),false,x6.2.2.Code,x6.2.2.Sub,x6.2.2.Reads,x6.2.2.aI,x6.2.2.jV,x6.2.2.gO,x6.2.2.bI,x6.2.2.cH⟩:aH)}:Table) else some ({t with aR:=t.aR.set w_.toNat (⟨x6.2.2.cO,x6.2.2.Batch,x6.2.2.aO,3,x6.2.2.At,x6.2.2.K,x6.2.2.cR,x3,x2,x6.2.2.gN,(⟨0,0,0⟩:gR),false,x6.2.2.Code,x6.2.2.Sub,x6.2.2.Reads,x6.2.2.aI,x6.2.2.jV,x6.2.2.gO,x6.2.2.bI,x6.2.2.cH⟩:aH)}:Table))) else(if x6.2.2.Pc == 3 then(KS t.aA.Mem x6.2.2.H).bind λx8=>some ({t with aR:=t.aR.set w_.toNat (⟨x6.2.2.cO,x6.2.2.Batch,x6.2.2.aO,4,x6.2.2.At,x6.2.2.K,x6.2.2.cR,x6.2.2.kC,x6.2.2.H,x6.2.2.gN,x8.1,x6.2.2.Found,x6.2.2.Code,x6.2.2.Sub,x6.2.2.Reads,x6.2.2.aI,x6.2.2.jV,x6.2.2.gO,x6.2.2.bI,x6.2.2.cH⟩:aH)}:Table) else(if x6.2.2.Pc == 4 then(idx t.aA.aC.cQ w_).bind λx9=>(DU x9).bind λx10=>(if !x10 then(cT x6.2.2 6).bind λx11=>some ({t with aR:=t.aR.set w_.toNat x11}:Table) else(if !x6.2.1 then(cT x6.2.2 1).bind λx12=>some ({t with aR:=t.aR.set w_.toNat x12}:Table) else(hU x6.2.2.Node).bind λx17=>DV t w_ (t.aR.set w_.toNat (⟨x6.2.2.cO,x6.2.2.Batch,x6.2.2.aO,3,x6.2.2.At,x6.2.2.K,x6.2.2.cR,x6.2.2.kC,x17,x6.2.2.gN,x6.2.2.Node,x6.2.2.Node.Key == x6.1.Key,x6.2.2.Code,x6.2.2.Sub,x6.2.2.Reads,x6.2.2.aI,x6.2.2.jV,x6.2.2.gO,x6.2.2.bI,x6.2.2.cH⟩:aH)))) else(if x4 != 0 then jO t w_ x6 true else jO t w_ x6 (x3 != x6.2.2.kC)))))
def C3(t:Table)(w_:Int):Option Table:=
 (idx t.aR w_).bind λx1=>(idx t.bS x1.cR).bind λx30=>DX t w_ x30.Head x30.kC x30.gW
def aS6(x5:Int):Option Int:=
 some x5
def GI(x4 x6:Int):Option (Step (Int×Int) Int):=
 some (.next (x6,bA (x4+1)))
def UN(l:List aW)(n:Int):(Int×Int)->Option (Step (Int×Int) Int)
 |(x3,x4)=>(if decide (x4<(((l.take ((if(if(l.length:Int)<n then(l.length:Int) else n)<0 then 0 else(if(l.length:Int)<n then(l.length:Int) else n)).toNat)).drop 0).length:Int)) then(idx ((l.take ((if(if(l.length:Int)<n then(l.length:Int) else n)<0 then 0 else(if(l.length:Int)<n then(l.length:Int) else n)).toNat)).drop 0) x4).bind λx7=>(if !x7.KJ then GI x4 (bA (x3+1)) else GI x4 x3) else some (.stop (x3)))
def aS7:Int->Option Int
 |x5=>aS6 x5
def S8(l:List aW)(n:Int):Option Int:=
 need (0<=(if(if(l.length:Int)<n then(l.length:Int) else n)<0 then 0 else(if(l.length:Int)<n then(l.length:Int) else n):Int)/\(if(if(l.length:Int)<n then(l.length:Int) else n)<0 then 0 else(if(l.length:Int)<n then(l.length:Int) else n):Int)<=(l.length:Int)) ((loop (UN l n) (0,0)).bind (aS7))
def AS(x11:Table):Option Table:=
 some x11
def AT(w_:Int)(x10:Table):Option Table:=
 (idx x10.aR w_).bind λx12=>(lT 1 16).bind λx13=>AS ({x10 with aR:=x10.aR.set w_.toNat ({x12 with K:=bA (x12.K+1),Sub:=x13}:aH)}:Table)
def iA(w_:Int)(x6:Bool)(x7:Table):Option Table:=
 (if x6 then(idx x7.aR w_).bind λx8=>(cT x8 x8.Sub.Code).bind λx9=>some ({x7 with aR:=x7.aR.set w_.toNat x9}:Table) else(idx x7.aR w_).bind λx14=>need (x14.gO.length+([x14.Sub.Out]).length<=1073741824)<|AT w_ ({x7 with aR:=x7.aR.set w_.toNat ({x14 with gO:=x14.gO++([x14.Sub.Out])}:aH)}:Table))
def AU(t:Table)(w_:Int)(x2:Bool):Option Table:=
 (if x2 then(idx t.aR w_).bind λx3=>some ({t with aR:=t.aR.set w_.toNat ({x3 with Pc:=7,K:=0}:aH)}:Table) else(idx t.aR w_).bind λx4=>(qO x4.Sub t.aA w_).bind λx5=>(if !x5.1.gL then some ({t with aA:=x5.2,aR:=t.aR.set w_.toNat ({x4 with Sub:=x5.1}:aH)}:Table) else(if x5.1.Code != 0 then iA w_ true ({t with aA:=x5.2,aR:=t.aR.set w_.toNat ({x4 with Sub:=x5.1}:aH)}:Table) else(iN x5.1.Out).bind λx15=>(if !x15 then iA w_ true ({t with aA:=x5.2,aR:=t.aR.set w_.toNat ({x4 with Sub:=x5.1}:aH)}:Table) else iA w_ (decide (6<=(x4.gO.length:Int))) ({t with aA:=x5.2,aR:=t.aR.set w_.toNat ({x4 with Sub:=x5.1}:aH)}:Table)))))
def zS(t:Table)(w_:Int):Option Table:=
 (idx t.aR w_).bind λx1=>(S8 x1.aI (x1.aI.length:Int)).bind λx16=>AU t w_ (decide (x16<=x1.K))
def cmp_isNaN_int(x:Int):Option Bool:=
 some (x != x)
def uY(x1:Bool):Option Bool:=
 some x1
def cmp_Less_int(x y:Int):Option Bool:=
 (cmp_isNaN_int x).bind λx2=>(if x2 then(cmp_isNaN_int y).bind λx3=>(if !x3 then uY true else uY (decide (x<y))) else uY (decide (x<y)))
def jP(data x5:List Int):Option (List Int):=
 need (x5.length=data.length) (some x5)
def nX(data:List Int)(x4:Int)(x10:List Int):Option (Step ((List Int)×Int) (List Int)):=
 need (x10.length=data.length) (some (.next (x10,bA (x4+1))))
def jQ(data:List Int)(x9:Int)(x12:List Int):Option (Step ((List Int)×Int) (List Int)):=
 need (x12.length=data.length) (some (.next (x12,bA (x9-1))))
def dS(data x8:List Int)(x9:Int)(x11:Bool):Option (Step ((List Int)×Int) (List Int)):=
 need (x8.length=data.length) ((if x11 then(idx x8 (bA (x9-1))).bind λx13=>(idx x8 x9).bind λx14=>(idx (x8.set x9.toNat x13) (bA (x9-1))).bind λx15=>jQ data x9 ((x8.set x9.toNat x13).set ((bA (x9-1)).toNat) x14) else some (.stop (x8))))
def dU(data:List Int)(a_:Int):((List Int)×Int)->Option (Step ((List Int)×Int) (List Int))
 |(x8,x9)=>need (x8.length=data.length) ((if decide (a_<x9) then(idx x8 x9).bind λx16=>(idx x8 (bA (x9-1))).bind λx17=>(cmp_Less_int x16 x17).bind λx18=>dS data x8 x9 x18 else dS data x8 x9 false))
def nY(data:List Int)(x4:Int):(List Int)->Option (Step ((List Int)×Int) (List Int))
 |x10=>nX data x4 x10
def cZ(data:List Int)(a_ b:Int):((List Int)×Int)->Option (Step ((List Int)×Int) (List Int))
 |(x3,x4)=>need (x3.length=data.length) ((if decide (x4<b) then(loop (dU data a_) (x3,x4)).bind (nY data x4) else some (.stop (x3))))
def jR(data:List Int):(List Int)->Option (List Int)
 |x5=>jP data x5
def iC(data:List Int)(a_ b:Int):Option (List Int):=
 (loop (cZ data a_ b) (data,bA (a_+1))).bind (jR data)
def uZ(data:List Int)(a_ b limit:Int):Unit->Option (Step Unit (List Int))
 |()=>(if decide ((bA (b-a_))<=12) then(iC data a_ b).bind λx1=>some (.stop (x1)) else(if limit == 0 then none else none))
def LO:(List Int)->Option (List Int)
 |r=>some r
def oW(data:List Int)(a_ b limit:Int):Option (List Int):=
 (loop (uZ data a_ b limit) ()).bind (LO)
def DY(x5 x6:Int):Option Int:=
 (idx ([0,1,2,2,3,3,3,3,4,4,4,4,4,4,4,4,5,5,5,5,5,5,5,5,5,5,5,5,5,5,5,5,6,6,6,6,6,6,6,6,6,6,6,6,6,6,6,6,6,6,6,6,6,6,6,6,6,6,6,6,6,6,6,6,7,7,7,7,7,7,7,7,7,7,7,7,7,7,7,7,7,7,7,7,7,7,7,7,7,7,7,7,7,7,7,7,7,7,7,7,7,7,7,7,7,7,7,7,7,7,7,7,7,7,7,7,7,7,7,7,7,7,7,7,7,7,7,7,8,8,8,8,8,8,8,8,8,8,8,8,8,8,8,8,8,8,8,8,8,8,8,8,8,8,8,8,8,8,8,8,8,8,8,8,8,8,8,8,8,8,8,8,8,8,8,8,8,8,8,8,8,8,8,8,8,8,8,8,8,8,8,8,8,8,8,8,8,8,8,8,8,8,8,8,8,8,8,8,8,8,8,8,8,8,8,8,8,8,8,8,8,8,8,8,8,8,8,8,8,8,8,8,8,8,8,8,8,8,8,8,8,8,8,8,8,8,8,8,8,8,8,8,8,8,8,8]:List UInt8) ((u8 x5).toNat:Int)).bind λx7=>some (bA (x6+(x7.toNat:Int)))
def DZ(x3 x4:Int):Option Int:=
 (if decide (256<=x3) then DY (pL .u64 x3 8) (bA (x4+8)) else DY x3 x4)
def D0(x1 x2:Int):Option Int:=
 (if decide (65536<=x1) then DZ (pL .u64 x1 16) (bA (x2+16)) else DZ x1 x2)
def WK(x:Int):Option Int:=
 (if decide (4294967296<=x) then D0 (pL .u64 x 32) 32 else D0 x 0)
def BM(x:Int):Option Int:=
 (WK x).bind λx1=>some x1
def vA(x:List Int):Option (List Int):=
 (BM (IntKind.u64.wrap (x.length:Int))).bind λx1=>(oW x 0 (x.length:Int) x1).bind λx2=>some x2
def LP(x5:List Int):Option (List Int):=
 (vA x5).bind λx6=>(slices_Compact_int x6).bind λx7=>some x7
def C4(x4:Int)(x8:List Int):Option (Step ((List Int)×Int) (List Int)):=
 some (.next (x8,bA (x4+1)))
def LQ(l:List aW):((List Int)×Int)->Option (Step ((List Int)×Int) (List Int))
 |(x3,x4)=>(if decide (x4<(l.length:Int)) then(idx l x4).bind λx9=>(IW x9.Key).bind λx10=>(if decide (0<=x10) then need (x3.length+([x10]).length<=1073741824) (C4 x4 (x3++([x10]))) else C4 x4 x3) else some (.stop (x3)))
def WL:(List Int)->Option (List Int)
 |x5=>LP x5
def ND(l:List aW):Option (List Int):=
 (loop (LQ l) (([]:List Int),0)).bind (WL)
def fU(s:List Seen)(f:(Seen->Option Bool)):Option Bool:=
 (eY s f).bind λx1=>some (decide (0<=x1))
def qA(x1:Bool):Option Bool:=
 some x1
def wU(s:Seen)(k0:Int)(k1:cR):Option Bool:=
 (if s.cR == k0 then qA (s.kC != k1.kC) else qA false)
def tQ(t:Table)(w_:Int)(x3:List cR)(x4:List aH)(x5:aH):Option Table:=
 (idx x4 w_).bind λx6=>some ({t with bS:=x3,aR:=x4.set w_.toNat ({x6 with Pc:=8,K:=0}:aH),Log:=t.Log++([(⟨2,w_,x5.aO,0,[],[]⟩:H9)])}:Table)
def nZ(t:Table)(w_:Int)(x2:(List Int))(x3:List cR)(x4:List aH):Option Table:=
 (idx x4 w_).bind λx5=>(if decide ((x2.length:Int)<=x5.K) then need (t.Log.length+([(⟨2,w_,x5.aO,0,[],[]⟩:H9)]).length<=1073741824)<|tQ t w_ x3 x4 x5 else some ({t with bS:=x3,aR:=x4}:Table))
def oA(t:Table)(w_:Int)(x2:(List Int))(x7:Int)(x12:cR)(x15:List aH):Option Table:=
 (idx x15 w_).bind λx16=>nZ t w_ x2 (t.bS.set x7.toNat ({x12 with gW:=bA (w_+1)}:cR)) (x15.set w_.toNat ({x16 with K:=bA (x16.K+1)}:aH))
def D1(t:Table)(w_:Int)(x2:(List Int))(x7:Int)(x12:cR)(x17:aH):Option Table:=
 oA t w_ x2 x7 x12 (t.aR.set w_.toNat ({x17 with bI:=x17.bI++([x7])}:aH))
def iH(t:Table)(w_:Int)(x2:(List Int))(x7:Int)(x9:Bool):Option Table:=
 (if x9 then(idx t.aR w_).bind λx10=>(cT x10 7).bind λx11=>some ({t with aR:=t.aR.set w_.toNat x11}:Table) else(idx t.bS x7).bind λx12=>(if x12.kC == 1000000 then(idx t.aR w_).bind λx13=>(cT x13 3).bind λx14=>some ({t with aR:=t.aR.set w_.toNat x14}:Table) else(idx t.aR w_).bind λx17=>(iW x17.bI x7).bind λx18=>(if !x18 then need (x17.bI.length+([x7]).length<=1073741824)<|D1 t w_ x2 x7 x12 x17 else oA t w_ x2 x7 x12 t.aR)))
def C5(t:Table)(w_:Int):Option Table:=
 (idx t.aR w_).bind λx1=>(ND x1.aI).bind λx2=>(if decide (x1.K<(x2.length:Int)) then(idx x2 x1.K).bind λx7=>(idx t.bS x7).bind λx8=>(if x8.gW != 0 then iH t w_ x2 x7 true else(fU x1.Reads (λy0=>wU y0 x7 x8)).bind λx19=>iH t w_ x2 x7 x19) else nZ t w_ x2 t.bS t.aR)
def fN(t:Table)(w_:Int)(x8:Bool):Option Table:=
 (if x8 then(idx t.aR w_).bind λx9=>(cT x9 7).bind λx10=>some ({t with aR:=t.aR.set w_.toNat x10}:Table) else(idx t.aR w_).bind λx11=>some ({t with aR:=t.aR.set w_.toNat ({x11 with K:=bA (x11.K+1)}:aH)}:Table))
def tR(t:Table)(w_ x4 x5 x6 x7:Int):Option Table:=
 (if x7 != 0 then(if x7 != (bA (w_+1)) then fN t w_ true else fN t w_ (x6 != x4)) else fN t w_ (x6 != x4))
def tS(t:Table)(w_ x3 x4:Int):Option Table:=
 (idx t.bS x3).bind λx12=>tR t w_ x4 x12.Head x12.kC x12.gW
def tT(t:Table)(w_:Int)(x1:aH):Option Table:=
 (if decide ((x1.Reads.length:Int)<=x1.K) then(idx t.aR w_).bind λx2=>some ({t with aR:=t.aR.set w_.toNat ({x2 with Pc:=9,K:=0}:aH)}:Table) else(idx t.aR w_).bind λx13=>(idx x13.Reads x13.K).bind λx14=>tS t w_ x14.cR x14.kC)
def rE(t:Table)(w_:Int):Option Table:=
 (idx t.aR w_).bind λx1=>tT t w_ x1
def pB(j:aH)(x:aW):Option aH:=
 (if x.KJ then some ({j with Pc:=9,K:=bA (j.K+1)}:aH) else some ({j with Pc:=12}:aH))
def qB(m:Mem):Option Mem:=
 (wA m.Heap).bind λx1=>(i6 m.aD).bind λx2=>some (⟨x1,x2⟩:Mem)
def aGK:Option Bool:=
 some true
def zT(x2:Int)(x4:Bool):Option (Step Int (Out Unit Bool)):=
 (if x4 then some (.stop (Out.ret false)) else some (.next (bA (x2+1))))
def nP(h:Heap)(s:bE)(c:Int):Int->Option (Step Int (Out Unit Bool))
 |x2=>(if decide (x2<(s.aT.length:Int)) then(idx s.aT x2).bind λx3=>(lN h x3).bind λx5=>(if x5 != c then zT x2 true else(DS h x3).bind λx6=>zT x2 (decide (6<x6))) else some (.stop (Out.brk ())))
def aGL:(Out Unit Bool)->Option Bool
 |.brk ()=>aGK
 |.ret r=>some r
def BN(h:Heap)(s:bE)(c:Int):Option Bool:=
 (loop (nP h s c) 0).bind (aGL)
def aPP:Option Bool:=
 some true
def wB(m:Mem):Int->Option (Step Int (Out Unit Bool))
 |x5=>(if decide (x5<(m.aD.Own.length:Int)) then(idx m.aD.Own x5).bind λx6=>(BN m.Heap x6 (Int.tmod x5 3)).bind λx7=>(if !x7 then some (.stop (Out.ret false)) else some (.next (bA (x5+1)))) else some (.stop (Out.brk ())))
def aPQ:(Out Unit Bool)->Option Bool
 |.brk ()=>aPP
 |.ret r=>some r
def aBK(m:Mem):Option Bool:=
 (loop (wB m) 0).bind (aPQ)
def wC(m:Mem):Int->Option (Step Int (Out Unit Bool))
 |x3=>(if decide (x3<(m.aD.Global.length:Int)) then(idx m.aD.Global x3).bind λx8=>(BN m.Heap x8 x3).bind λx9=>(if !x9 then some (.stop (Out.ret false)) else some (.next (bA (x3+1)))) else some (.stop (Out.brk ())))
def aBL(m:Mem):(Out Unit Bool)->Option Bool
 |.brk ()=>aBK m
 |.ret r=>some r
def JY(m:Mem)(x1:Bool):Option Bool:=
 (if x1 then some false else(loop (wC m) 0).bind (aBL m))
def yC(m:Mem):Option Bool:=
 (KO m.Heap).bind λx10=>(if !x10 then JY m true else(pP m.aD).bind λx11=>JY m (!x11))
def yD(x1:Bool):Option Bool:=
 some x1
def nH(h:Int):Option Bool:=
 (if h == 0 then yD true else(iN h).bind λx2=>yD x2)
def wD(m:Mem)(h:Int):Option Int:=
 (xW m h).bind λx1=>(if !x1 then some 4 else(GF m.Heap (Int.tmod h 32)).bind λx2=>(if !x2 then some 2 else some 0))
def OI(x4:Int)(x5:Mem):Option (Mem×Int):=
 some (x5,x4)
def X9(x4:Int)(x6:Mem):Option (Mem×Int):=
 OI x4 x6
def GJ(m:Mem)(h next_:Int)(x2:Bool)(x3:Mem):Option (Mem×Int):=
 (if x2 then some (x3,1) else(wD m h).bind λx4=>(if x4 == 0 then(zR m.Heap (Int.tmod h 32)).bind λx7=>(mQ next_ 4).bind λx8=>(nG x3.Heap.Bytes (bA (x7+6)) x8).bind λx9=>X9 x4 (⟨(⟨x9,x3.Heap.Class⟩:Heap),x3.aD⟩:Mem) else OI x4 x3))
def QE(m:Mem)(h next_:Int):Option (Mem×Int):=
 (qB m).bind λx1=>(yC m).bind λx10=>(if !x10 then GJ m h next_ true x1 else(nH next_).bind λx11=>GJ m h next_ (!x11) x1)
def yE(x1:Bool):Option Bool:=
 some x1
def KT(n:gR):Option Bool:=
 (bV n.Key 0 99).bind λx2=>(if x2 then(bV n.eI 0 65535).bind λx3=>(if x3 then(nH n.Next).bind λx4=>yE x4 else yE false) else yE false)
def LR(x4:Int)(x5:Mem):Option (Mem×Int):=
 some (x5,x4)
def WM(x4:Int)(x6:Mem):Option (Mem×Int):=
 LR x4 x6
def C6(m:Mem)(h:Int)(n:gR)(x2:Bool)(x3:Mem):Option (Mem×Int):=
 (if x2 then some (x3,1) else(wD m h).bind λx4=>(if x4 == 0 then(zR m.Heap (Int.tmod h 32)).bind λx7=>(mQ n.Key 2).bind λx8=>(mQ n.eI 4).bind λx9=>need (x8.length+x9.length<=9223372036854775807)<|(mQ n.Next 4).bind λx10=>need ((x8++x9).length+x10.length<=9223372036854775807)<|(nG x3.Heap.Bytes x7 ((x8++x9)++x10)).bind λx11=>WM x4 (⟨(⟨x11,x3.Heap.Class⟩:Heap),x3.aD⟩:Mem) else LR x4 x3))
def NF(m:Mem)(h:Int)(n:gR):Option (Mem×Int):=
 (qB m).bind λx1=>(yC m).bind λx12=>(if !x12 then C6 m h n true x1 else(KT n).bind λx13=>C6 m h n (!x13) x1)
def D2(t:Table)(j:aH)(b:cR)(x3:Table):Option (Table×aH×cR):=
 some (({x3 with bS:=t.bS,aR:=t.aR}:Table),({j with Pc:=13}:aH),b)
def LS(t:Table)(j:aH)(x:aW)(b:cR):Option (Table×aH×cR):=
 (S8 j.aI j.K).bind λx1=>(if decide ((j.gO.length:Int)<=x1) then(cT j 1).bind λx2=>some (t,x2,b) else(if j.Pc == 12 then(idx j.gO x1).bind λx4=>(NF t.aA.Mem x4 ({x with Next:=b.Head}:gR)).bind λx5=>D2 t j b ({t with aA:=(⟨x5.1,t.aA.aC,t.aA.aM,t.aA.oR⟩:aA)}:Table) else(idx j.gO x1).bind λx6=>some (t,({j with Pc:=9,K:=bA (j.K+1)}:aH),({b with Head:=x6}:cR))))
def AV(t:Table)(x13:List aH):Option Table:=
 some ({t with aR:=x13}:Table)
def mX(w_ x3:Int)(x4:Bool)(x5:Int)(x16:Table):Option Table:=
 (idx x16.aR w_).bind λx17=>(pB x17 (⟨x3,x4,x5⟩:aW)).bind λx18=>some ({x16 with aR:=x16.aR.set w_.toNat x18}:Table)
def AW(w_ x3:Int)(x4:Bool)(x5:Int)(x21:Table):Option Table:=
 mX w_ x3 x4 x5 x21
def rF(w_ x3:Int)(x4:Bool)(x5:Int)(x19:Bool)(x20:Table):Option Table:=
 (if x19 then(idx x20.aR w_).bind λx22=>need (x22.cH.length+([x22.H]).length<=1073741824)<|AW w_ x3 x4 x5 ({x20 with aR:=x20.aR.set w_.toNat ({x22 with cH:=x22.cH++([x22.H])}:aH)}:Table) else mX w_ x3 x4 x5 x20)
def mY(w_ x3:Int)(x4:Bool)(x5:Int)(x15:Table):Option Table:=
 (idx x15.aR w_).bind λx23=>(iN x23.H).bind λx24=>(if x24 then rF w_ x3 x4 x5 (decide ((x23.cH.length:Int)<6)) x15 else rF w_ x3 x4 x5 false x15)
def AX(w_ x3:Int)(x4:Bool)(x5:Int)(x26:Table):Option Table:=
 mY w_ x3 x4 x5 x26
def AY(t:Table)(w_ x3:Int)(x4:Bool)(x5:Int):Option Table:=
 (IW x3).bind λx6=>(idx t.bS x6).bind λx7=>(idx t.aR w_).bind λx8=>(if x8.Pc == 9 then(if x7.Head == 0 then(pB ({x8 with Pc:=10,H:=x7.Head,gN:=0}:aH) (⟨x3,x4,x5⟩:aW)).bind λx9=>some ({t with aR:=t.aR.set w_.toNat x9}:Table) else some ({t with aR:=t.aR.set w_.toNat ({x8 with Pc:=10,H:=x7.Head,gN:=0}:aH)}:Table)) else(if x8.Pc == 10 then(KS t.aA.Mem x8.H).bind λx10=>(if x10.1.Key == x3 then some ({t with aR:=t.aR.set w_.toNat ({x8 with Pc:=11,Node:=x10.1}:aH)}:Table) else(hU x10.1).bind λx11=>(if x11 == 0 then(pB ({x8 with Node:=x10.1}:aH) (⟨x3,x4,x5⟩:aW)).bind λx12=>some ({t with aR:=t.aR.set w_.toNat x12}:Table) else(hU x10.1).bind λx14=>AV t (t.aR.set w_.toNat ({x8 with H:=x14,gN:=x8.H,Node:=x10.1}:aH)))) else(if x8.Pc == 11 then(if x8.gN == 0 then(hU x8.Node).bind λx25=>mY w_ x3 x4 x5 ({t with bS:=t.bS.set x6.toNat ({x7 with Head:=x25}:cR)}:Table) else(hU x8.Node).bind λx27=>(QE t.aA.Mem x8.gN x27).bind λx28=>AX w_ x3 x4 x5 ({t with aA:=(⟨x28.1,t.aA.aC,t.aA.aM,t.aA.oR⟩:aA)}:Table)) else(LS t x8 (⟨x3,x4,x5⟩:aW) x7).bind λx29=>some (⟨x29.1.aA,t.bS.set x6.toNat x29.2.2,t.aR.set w_.toNat x29.2.1,x29.1.dC,x29.1.Log,x29.1.aO⟩:Table))))
def AZ(t:Table)(w_:Int)(x1:aH):Option Table:=
 (if decide ((x1.aI.length:Int)<=x1.K) then(idx t.aR w_).bind λx2=>some ({t with aR:=t.aR.set w_.toNat ({x2 with Pc:=14}:aH)}:Table) else(idx t.aR w_).bind λx30=>(idx x30.aI x30.K).bind λx31=>AY t w_ x31.Key x31.KJ x31.eI)
def zU(t:Table)(w_:Int):Option Table:=
 (idx t.aR w_).bind λx1=>AZ t w_ x1
def qC(s:List Int)(i j:Int):Option (List Int):=
 need (0<=(i:Int)/\(i:Int)<=(j:Int)/\(j:Int)<=((s.length:Int):Int)/\((s.length:Int):Int)<=(s.length:Int)) ((if i == j then some s else need (0<=(i:Int)/\(i:Int)<=(s.length:Int)) (need (0<=(j:Int)/\(j:Int)<=(s.length:Int)) (need (i.toNat<=j.toNat) (need (0<=(((((cW s i.toNat (s.drop j.toNat)).take (i.toNat+(s.length-j.toNat))).drop 0).length:Int):Int)/\(((((cW s i.toNat (s.drop j.toNat)).take (i.toNat+(s.length-j.toNat))).drop 0).length:Int):Int)<=((s.length:Int):Int)/\((s.length:Int):Int)<=((cW s i.toNat (s.drop j.toNat)).length:Int)) (some (((cW s i.toNat (s.drop j.toNat)).take (i.toNat+(s.length-j.toNat))).drop 0)))))))
def rY(x1:aH):Option aH:=
 some x1
def lX(j:aH):Option aH:=
 (if decide (j.K<(j.cH.length:Int)) then(idx j.cH j.K).bind λx2=>(lT 2 x2).bind λx3=>rY ({j with Sub:=x3}:aH) else some j)
def lY(t:Table)(w_:Int)(x4:List cR):Option Table:=
 (idx t.aR w_).bind λx5=>(qC x5.bI 0 1).bind λx6=>some ({t with bS:=x4,aR:=t.aR.set w_.toNat ({x5 with bI:=x6}:aH)}:Table)
def wV(t:Table)(w_:Int):Option Table:=
 (idx t.aR w_).bind λx1=>(if decide (0<(x1.bI.length:Int)) then(idx x1.bI 0).bind λx2=>(idx t.bS x2).bind λx3=>(if x1.Pc == 14 then lY t w_ (t.bS.set x2.toNat (⟨x3.Head,if 1000000<(bA (x3.kC+1)) then 1000000 else(bA (x3.kC+1)),0⟩:cR)) else lY t w_ (t.bS.set x2.toNat ({x3 with gW:=0}:cR))) else(if x1.Pc == 16 then some ({t with aR:=t.aR.set w_.toNat ({x1 with Pc:=17}:aH)}:Table) else(lX ({x1 with Pc:=15,K:=0}:aH)).bind λx7=>some ({t with aR:=t.aR.set w_.toNat x7}:Table)))
def yF(t:Table)(w_:Int)(x1:aH):Option Table:=
 (if decide ((x1.cH.length:Int)<=x1.K) then(idx t.aR w_).bind λx2=>some ({t with aR:=t.aR.set w_.toNat ({x2 with Pc:=18}:aH)}:Table) else(idx t.aR w_).bind λx3=>(qO x3.Sub t.aA w_).bind λx4=>(if x4.1.gL then(lX ({x3 with K:=bA (x3.K+1),Sub:=x4.1}:aH)).bind λx5=>some ({t with aA:=x4.2,aR:=t.aR.set w_.toNat x5}:Table) else some ({t with aA:=x4.2,aR:=t.aR.set w_.toNat ({x3 with Sub:=x4.1}:aH)}:Table)))
def wW(t:Table)(w_:Int):Option Table:=
 (idx t.aR w_).bind λx1=>yF t w_ x1
def C7(m:Mem)(w_ h:Int)(x1:Bool):Option (Mem×Int):=
 (if x1 then(qB m).bind λx2=>some (x2,1) else(xW m h).bind λx3=>(if !x3 then(qB m).bind λx4=>some (x4,4) else(OG m w_ h).bind λx5=>some (x5,0)))
def NG(m:Mem)(w_ h:Int):Option (Mem×Int):=
 (yC m).bind λx6=>(if !x6 then C7 m w_ h true else(gY w_).bind λx7=>C7 m w_ h (!x7))
def C8(t:Table)(w_:Int):Option Table:=
 (idx t.aR w_).bind λx1=>(if(x1.gO.length:Int) == 0 then some ({t with aR:=t.aR.set w_.toNat ({x1 with Pc:=18}:aH)}:Table) else(idx x1.gO 0).bind λx2=>(qC x1.gO 0 1).bind λx3=>(FZ t.aA.aM (Int.tmod x2 32)).bind λx4=>(if !x4 then(NG t.aA.Mem w_ x2).bind λx5=>some ({t with aA:=(⟨x5.1,t.aA.aC,t.aA.aM,t.aA.oR⟩:aA),aR:=t.aR.set w_.toNat ({x1 with gO:=x3}:aH)}:Table) else some ({t with aR:=t.aR.set w_.toNat ({x1 with gO:=x3}:aH)}:Table)))
def BO(w_:Int)(x1:aC)(x2:Bool):Option (aC×Bool):=
 (if x2 then some (x1,false) else(idx x1.cQ w_).bind λx3=>some ((⟨x1.aE,x1.cQ.set w_.toNat (⟨false,0,false,0⟩:vW)⟩:aC),true))
def UO(c:aC)(w_:Int):Option (aC×Bool):=
 (lW c).bind λx1=>(pT c).bind λx4=>(if !x4 then BO w_ x1 true else(gY w_).bind λx5=>(if !x5 then BO w_ x1 true else(idx c.cQ w_).bind λx6=>BO w_ x1 (!x6.On)))
def C9(b:aA)(w_:Int):Option (Bool×aA):=
 (UO b.aC w_).bind λx1=>some (x1.2,({b with aC:=x1.1}:aA))
def IG(t:Table)(w_:Int)(x1:aH):Option Table:=
 some ({t with aR:=t.aR.set w_.toNat (⟨false,(⟨false,[]⟩:Batch),0,0,0,0,0,0,0,0,(⟨0,0,0⟩:gR),false,0,(⟨0,0,0,0,0,0,0,0,0,false⟩:Sub),[],[],[],[],[],[]⟩:aH),Log:=t.Log++([({x1 with Kind:=3,Who:=w_,bW:=[]}:H9)])}:Table)
def IH(t:Table)(w_:Int)(x1:aH):Option Table:=
 some ({t with aR:=t.aR.set w_.toNat (⟨false,(⟨false,[]⟩:Batch),0,0,0,0,0,0,0,0,(⟨0,0,0⟩:gR),false,0,(⟨0,0,0,0,0,0,0,0,0,false⟩:Sub),[],[],[],[],[],[]⟩:aH),Log:=t.Log++([(⟨3,w_,x1.aO,x1.Code,[],[]⟩:H9)])}:Table)
def tU(t:Table)(w_:Int):Option Table:=
 (idx t.aR w_).bind λx1=>(if x1.Code == 0 then need (t.Log.length+([({x1 with Kind:=3,Who:=w_,bW:=[]}:H9)]).length<=1073741824)<|IG t w_ x1 else need (t.Log.length+([(⟨3,w_,x1.aO,x1.Code,[],[]⟩:H9)]).length<=1073741824)<|IH t w_ x1)
def lF(t:Table)(w_:Int)(x1:aH)(x14:Bool):Option Table:=
 (if x14 then(wV t w_).bind λx15=>some x15 else(if x1.Pc == 15 then(wW t w_).bind λx16=>some x16 else(if x1.Pc == 17 then(C8 t w_).bind λx17=>some x17 else(if x1.Pc == 18 then(C9 t.aA w_).bind λx18=>(idx t.aR w_).bind λx19=>some ({t with aA:=x18.2,aR:=t.aR.set w_.toNat ({x19 with Pc:=19}:aH)}:Table) else(if x1.Pc == 19 then(tU t w_).bind λx20=>some x20 else(idx t.aR w_).bind λx21=>(cT x21 1).bind λx22=>some ({t with aR:=t.aR.set w_.toNat x22}:Table))))))
def jS(t:Table)(w_:Int)(x1:aH)(x3:Bool):Option Table:=
 (if x3 then(tO t w_).bind λx4=>some x4 else(if x1.Pc == 1 then(idx t.aR w_).bind λx5=>(GD x5).bind λx6=>some ({t with aR:=t.aR.set w_.toNat x6}:Table) else(bV x1.Pc 2 5).bind λx7=>(if x7 then(C3 t w_).bind λx8=>some x8 else(if x1.Pc == 6 then(zS t w_).bind λx9=>some x9 else(if x1.Pc == 7 then(C5 t w_).bind λx10=>some x10 else(if x1.Pc == 8 then(rE t w_).bind λx11=>some x11 else(bV x1.Pc 9 13).bind λx12=>(if x12 then(zU t w_).bind λx13=>some x13 else(if x1.Pc == 14 then lF t w_ x1 true else lF t w_ x1 (x1.Pc == 16)))))))))
def vB(t:Table)(w_:Int):Option Table:=
 (idx t.aR w_).bind λx1=>(if !x1.cO then(zI t w_).bind λx2=>some x2 else(if x1.Pc == 0 then jS t w_ x1 true else(if x1.Pc == 20 then jS t w_ x1 true else jS t w_ x1 (x1.Pc == 21))))
def aEP(x6:Table):Option Table:=
 some x6
def wX(x4:Int)(x7:Table):Option (Step (Int×Table) Table):=
 some (.next (bA (x4+1),x7))
def qD(x:wQ):(Int×Table)->Option (Step (Int×Table) Table)
 |(x4,x5)=>(if decide (x4<(((x.jW.take ((if 400<(x.jW.length:Int) then 400 else(x.jW.length:Int)).toNat)).drop 0).length:Int)) then(idx ((x.jW.take ((if 400<(x.jW.length:Int) then 400 else(x.jW.length:Int)).toNat)).drop 0) x4).bind λx8=>(gY x8).bind λx9=>(if x9 then(vB x5 x8).bind λx10=>wX x4 x10 else wX x4 x5) else some (.stop (x5)))
def aEQ:Table->Option Table
 |x6=>aEP x6
def GK(x:wQ):Option Table:=
 (JQ x.dC).bind λx1=>(if(x1.aR.length:Int) == 0 then some x1 else need (0<=(if 400<(x.jW.length:Int) then 400 else(x.jW.length:Int):Int)/\(if 400<(x.jW.length:Int) then 400 else(x.jW.length:Int):Int)<=(x.jW.length:Int)) ((loop (qD x) (0,x1)).bind (aEQ)))
def JZ(b:aA):Option aA:=
 (qB b.Mem).bind λx1=>(lW b.aC).bind λx2=>(lV b.aM).bind λx3=>(eQ b.oR).bind λx4=>some (⟨x1,x2,x3,x4⟩:aA)
def IX(s:List cR):Option (List cR):=
 need (([]:List cR).length+s.length<=1073741824) (some (([]:List cR)++s))
def rZ(s:List jV):Option (List jV):=
 need (([]:List jV).length+s.length<=1073741824) (some (([]:List jV)++s))
def S9(x3:aH):Option aH:=
 some x3
def IY(j x2:aH):Option aH:=
 (eQ j.gO).bind λx4=>(eQ j.bI).bind λx5=>(eQ j.cH).bind λx6=>S9 ({x2 with gO:=x4,bI:=x5,cH:=x6}:aH)
def J0(j:aH):Option aH:=
 (xQ j.Batch).bind λx1=>(p5 j.Reads).bind λx7=>(nW j.aI).bind λx8=>(rZ j.jV).bind λx9=>IY j ({j with Batch:=x1,Reads:=x7,aI:=x8,jV:=x9}:aH)
def LU(e_:H9)(x1:List kN)(x2:List jV):Option H9:=
 some ({e_ with bW:=x1,jV:=x2}:H9)
def NH(e_:H9):Option H9:=
 (lE e_.bW).bind λx3=>(rZ e_.jV).bind λx4=>LU e_ x3 x4
def aER(x11:Table):Option Table:=
 some x11
def GL(x9:Int)(x13:Table):Option (Step (Int×Table) Table):=
 some (.next (bA (x9+1),x13))
def mI(t:Table):(Int×Table)->Option (Step (Int×Table) Table)
 |(x9,x10)=>(if decide (x9<(t.Log.length:Int)) then(idx t.Log x9).bind λx12=>(NH x12).bind λx14=>need (x10.Log.length+([x14]).length<=1073741824)<|GL x9 ({x10 with Log:=x10.Log++([x14])}:Table) else some (.stop (x10)))
def aES:Table->Option Table
 |x11=>aER x11
def aET(t x6:Table):Option Table:=
 (loop (mI t) (0,({x6 with Log:=[]}:Table))).bind (aES)
def GM(x4:Int)(x16:Table):Option (Step (Int×Table) Table):=
 some (.next (bA (x4+1),({x16 with Log:=[]}:Table)))
def mJ(t:Table):(Int×Table)->Option (Step (Int×Table) Table)
 |(x4,x5)=>(if decide (x4<(t.aR.length:Int)) then(idx t.aR x4).bind λx15=>(J0 x15).bind λx17=>need (x5.aR.length+([x17]).length<=1073741824)<|GM x4 ({x5 with aR:=x5.aR++([x17]),Log:=[]}:Table) else some (.stop (({x5 with Log:=[]}:Table))))
def aEU(t:Table):Table->Option Table
 |x6=>aET t x6
def GN(t x1:Table):Option Table:=
 (loop (mJ t) (0,({x1 with aR:=[],Log:=[]}:Table))).bind (aEU t)
def GO(t:Table):Option Table:=
 (JZ t.aA).bind λx18=>(IX t.bS).bind λx19=>(xR t.dC).bind λx20=>GN t (⟨x18,x19,[],x20,[],t.aO⟩:Table)
def NI(h:Int):Option Bool:=
 (nH h).bind λx1=>some (!x1)
def J1(x1:Bool):Option Bool:=
 some x1
def UP(z:List Int):Option Bool:=
 (if(z.length:Int) == 3 then(fB z (λy0=>NI y0)).bind λx2=>J1 (!x2) else J1 false)
def tV(x1:Bool):Option Bool:=
 some x1
def DA(r_:dR)(k0:aA):Option Bool:=
 (xW k0.Mem r_.Handle).bind λx2=>(if !x2 then tV true else tV (decide (k0.aC.aE<r_.aE)))
def J2(l:bN)(k0:aA):Option Bool:=
 (i7 l.Rows (λy0=>DA y0 k0)).bind λx1=>some x1
def sA(b:aA)(x1:Bool):Option Bool:=
 (if x1 then some false else(iU b.aM (λy0=>J2 y0 b)).bind λx2=>some (!x2))
def QF(b:aA):Option Bool:=
 (yC b.Mem).bind λx3=>(if !x3 then sA b true else(pT b.aC).bind λx4=>(if !x4 then sA b true else(tN b.aM).bind λx5=>(if !x5 then sA b true else(UP b.oR).bind λx6=>sA b (!x6))))
def TA:Option Int:=
 some (-1)
def sB(s:List cR)(f:(cR->Option Bool)):Int->Option (Step Int (Out Unit Int))
 |x2=>(if decide (x2<(s.length:Int)) then(idx s x2).bind λx3=>(f x3).bind λx4=>(if x4 then some (.stop (Out.ret x2)) else some (.next (bA (x2+1)))) else some (.stop (Out.brk ())))
def EM:(Out Unit Int)->Option Int
 |.brk ()=>TA
 |.ret r=>some r
def KU(s:List cR)(f:(cR->Option Bool)):Option Int:=
 (loop (sB s f) 0).bind (EM)
def sC(s:List cR)(f:(cR->Option Bool)):Option Bool:=
 (KU s f).bind λx1=>some (decide (0<=x1))
def J3(x1:Bool):Option Bool:=
 some x1
def aCR(b:cR):Option Bool:=
 (nH b.Head).bind λx2=>(if x2 then(bV b.kC 0 1000000).bind λx3=>(if x3 then(bV b.gW 0 3).bind λx4=>J3 x4 else J3 false) else J3 false)
def OJ(b:cR):Option Bool:=
 (aCR b).bind λx1=>some (!x1)
def RN:Option Int:=
 some (-1)
def qP(s:List aH)(f:(aH->Option Bool)):Int->Option (Step Int (Out Unit Int))
 |x2=>(if decide (x2<(s.length:Int)) then(idx s x2).bind λx3=>(f x3).bind λx4=>(if x4 then some (.stop (Out.ret x2)) else some (.next (bA (x2+1)))) else some (.stop (Out.brk ())))
def BP:(Out Unit Int)->Option Int
 |.brk ()=>RN
 |.ret r=>some r
def II(s:List aH)(f:(aH->Option Bool)):Option Int:=
 (loop (qP s f) 0).bind (BP)
def gZ(s:List aH)(f:(aH->Option Bool)):Option Bool:=
 (II s f).bind λx1=>some (decide (0<=x1))
def aAR:Option Bool:=
 some true
def MI(s1 s2:List kN):Int->Option (Step Int (Out Unit Bool))
 |x2=>(if decide (x2<(s1.length:Int)) then(idx s1 x2).bind λx3=>(idx s2 x2).bind λx4=>(if !(decide (x3=x4)) then some (.stop (Out.ret false)) else some (.next (bA (x2+1)))) else some (.stop (Out.brk ())))
def aAS:(Out Unit Bool)->Option Bool
 |.brk ()=>aAR
 |.ret r=>some r
def IZ(s1 s2:List kN):Option Bool:=
 (if(s1.length:Int) != (s2.length:Int) then some false else(loop (MI s1 s2) 0).bind (aAS))
def GP(x1:Bool):Option Bool:=
 some x1
def GQ(a_ b:Batch):Option Bool:=
 (if a_.Collect == b.Collect then(IZ a_.bW b.bW).bind λx2=>GP x2 else GP false)
def YA:Option Bool:=
 some true
def KW(s1 s2:List Seen):Int->Option (Step Int (Out Unit Bool))
 |x2=>(if decide (x2<(s1.length:Int)) then(idx s1 x2).bind λx3=>(idx s2 x2).bind λx4=>(if !(decide (x3=x4)) then some (.stop (Out.ret false)) else some (.next (bA (x2+1)))) else some (.stop (Out.brk ())))
def YB:(Out Unit Bool)->Option Bool
 |.brk ()=>YA
 |.ret r=>some r
def wY(s1 s2:List Seen):Option Bool:=
 (if(s1.length:Int) != (s2.length:Int) then some false else(loop (KW s1 s2) 0).bind (YB))
def XF:Option Bool:=
 some true
def IJ(s1 s2:List aW):Int->Option (Step Int (Out Unit Bool))
 |x2=>(if decide (x2<(s1.length:Int)) then(idx s1 x2).bind λx3=>(idx s2 x2).bind λx4=>(if !(decide (x3=x4)) then some (.stop (Out.ret false)) else some (.next (bA (x2+1)))) else some (.stop (Out.brk ())))
def XG:(Out Unit Bool)->Option Bool
 |.brk ()=>XF
 |.ret r=>some r
def tW(s1 s2:List aW):Option Bool:=
 (if(s1.length:Int) != (s2.length:Int) then some false else(loop (IJ s1 s2) 0).bind (XG))
def aAT:Option Bool:=
 some true
def MJ(s1 s2:List jV):Int->Option (Step Int (Out Unit Bool))
 |x2=>(if decide (x2<(s1.length:Int)) then(idx s1 x2).bind λx3=>(idx s2 x2).bind λx4=>(if !(decide (x3=x4)) then some (.stop (Out.ret false)) else some (.next (bA (x2+1)))) else some (.stop (Out.brk ())))
def aAU:(Out Unit Bool)->Option Bool
 |.brk ()=>aAT
 |.ret r=>some r
def zV(s1 s2:List jV):Option Bool:=
 (if(s1.length:Int) != (s2.length:Int) then some false else(loop (MJ s1 s2) 0).bind (aAU))
def aAV:Option Bool:=
 some true
def MK(s1 s2:List Int):Int->Option (Step Int (Out Unit Bool))
 |x2=>(if decide (x2<(s1.length:Int)) then(idx s1 x2).bind λx3=>(idx s2 x2).bind λx4=>(if x3 != x4 then some (.stop (Out.ret false)) else some (.next (bA (x2+1)))) else some (.stop (Out.brk ())))
def aAW:(Out Unit Bool)->Option Bool
 |.brk ()=>aAV
 |.ret r=>some r
def nQ(s1 s2:List Int):Option Bool:=
 (if(s1.length:Int) != (s2.length:Int) then some false else(loop (MK s1 s2) 0).bind (aAW))
def b7(x1:Bool):Option Bool:=
 some x1
def J4(a_ b:aH):Option Bool:=
 (if a_.cO == b.cO then(GQ a_.Batch b.Batch).bind λx2=>(if x2 then(if a_.aO == b.aO then(if a_.Pc == b.Pc then(if a_.At == b.At then(if a_.K == b.K then(if a_.cR == b.cR then(if a_.kC == b.kC then(if a_.H == b.H then(if a_.gN == b.gN then(if decide (a_.Node=b.Node) then(if a_.Found == b.Found then(if a_.Code == b.Code then(if decide (a_.Sub=b.Sub) then(wY a_.Reads b.Reads).bind λx3=>(if x3 then(tW a_.aI b.aI).bind λx4=>(if x4 then(zV a_.jV b.jV).bind λx5=>(if x5 then(nQ a_.gO b.gO).bind λx6=>(if x6 then(nQ a_.bI b.bI).bind λx7=>(if x7 then(nQ a_.cH b.cH).bind λx8=>b7 x8 else b7 false) else b7 false) else b7 false) else b7 false) else b7 false) else b7 false) else b7 false) else b7 false) else b7 false) else b7 false) else b7 false) else b7 false) else b7 false) else b7 false) else b7 false) else b7 false) else b7 false) else b7 false) else b7 false)
def I0(b:Int):Option Bool:=
 (bV b 0 1).bind λx1=>some x1
def wZ(h:Int):Option Bool:=
 (iN h).bind λx1=>some (!x1)
def D3(x1:Bool):Option Bool:=
 some x1
def vC(list:List Int):Option Bool:=
 (if decide ((list.length:Int)<=6) then(fB list (λy0=>wZ y0)).bind λx2=>D3 (!x2) else D3 false)
def RO(s:Seen):Option Bool:=
 (I0 s.cR).bind λx1=>some (!x1)
def TB(list:List aW):Option Bool:=
 some (decide ((list.length:Int)<=6))
def lG(x2:Int)(x4:Bool):Option (Step Int (Out Unit Bool)):=
 (if x4 then some (.stop (Out.ret false)) else some (.next (bA (x2+1))))
def sD(list:List aW):Int->Option (Step Int (Out Unit Bool))
 |x2=>(if decide (x2<(list.length:Int)) then(idx list x2).bind λx3=>(bV x3.Key 0 99).bind λx5=>(if !x5 then lG x2 true else(bV x3.eI 0 65535).bind λx6=>(if !x6 then lG x2 true else(if decide (0<x2) then(idx list (bA (x2-1))).bind λx7=>lG x2 (decide (x3.Key<=x7.Key)) else lG x2 false))) else some (.stop (Out.brk ())))
def TC(list:List aW):(Out Unit Bool)->Option Bool
 |.brk ()=>TB list
 |.ret r=>some r
def J5(list:List aW):Option Bool:=
 (loop (sD list) 0).bind (TC list)
def iI(x4:Bool):Option Bool:=
 some x4
def YC(j:aH):Option Bool:=
 (FH j.Batch).bind λx5=>(if x5 then(nH j.H).bind λx6=>(if x6 then(nH j.gN).bind λx7=>(if x7 then(I0 j.cR).bind λx8=>(if x8 then(bV j.At 0 (j.Batch.bW.length:Int)).bind λx9=>(if x9 then(bV j.K 0 100).bind λx10=>(if x10 then(vC j.gO).bind λx11=>(if x11 then(vC j.cH).bind λx12=>(if x12 then(fU j.Reads (λy0=>RO y0)).bind λx13=>(if !x13 then(J5 j.aI).bind λx14=>iI x14 else iI false) else iI false) else iI false) else iI false) else iI false) else iI false) else iI false) else iI false) else iI false)
def GR(x3:Int)(x16:Bool):Option (Step Int (Out Unit Bool)):=
 (if x16 then some (.stop (Out.ret false)) else some (.next (bA (x3+1))))
def yG(j:aH):Int->Option (Step Int (Out Unit Bool))
 |x3=>(if decide (x3<(j.bI.length:Int)) then(idx j.bI x3).bind λx15=>(I0 x15).bind λx17=>(if !x17 then GR x3 true else need (0<=(x3:Int)/\(x3:Int)<=(j.bI.length:Int)) ((iW ((j.bI.take x3.toNat).drop 0) x15).bind λx18=>GR x3 x18)) else some (.stop (Out.brk ())))
def YD(j:aH):(Out Unit Bool)->Option Bool
 |.brk ()=>YC j
 |.ret r=>some r
def tD(j:aH):Option Bool:=
 (if !j.cO then(J4 j (⟨false,(⟨false,[]⟩:Batch),0,0,0,0,0,0,0,0,(⟨0,0,0⟩:gR),false,0,(⟨0,0,0,0,0,0,0,0,0,false⟩:Sub),[],[],[],[],[],[]⟩:aH)).bind λx1=>some x1 else(loop (yG j) 0).bind (YD j))
def OK(j:aH):Option Bool:=
 (tD j).bind λx1=>some (!x1)
def kQ(x1:Bool):Option Bool:=
 some x1
def GS(t:Table):Option Bool:=
 (QF t.aA).bind λx2=>(if x2 then(if(t.bS.length:Int) == 2 then(sC t.bS (λy0=>OJ y0)).bind λx3=>(if !x3 then(if(t.aR.length:Int) == 3 then(gZ t.aR (λy0=>OK y0)).bind λx4=>(if !x4 then(FJ t.dC).bind λx5=>(if x5 then(bV t.aO 0 1000000).bind λx6=>kQ x6 else kQ false) else kQ false) else kQ false) else kQ false) else kQ false) else kQ false)
def I1(j:aH):Option Bool:=
 some j.cO
def I2(q:aN):Option Bool:=
 some (decide (0<(q.List.length:Int)))
def GU(x1:Bool):Option Bool:=
 some x1
def GV(t:Table):Option Bool:=
 (gZ t.aR (λy0=>I1 y0)).bind λx2=>(if !x2 then(kE t.dC (λy0=>I2 y0)).bind λx3=>GU (!x3) else GU false)
def tX(j:aH):Option Bool:=
 (tD j).bind λx1=>some (!x1)
def aAX(x5:Table):Option Table:=
 some x5
def mZ(x3:Int)(x6:Bool)(x7:Table):Option (Step (Int×Table) (Out Table Table)):=
 (if x6 then some (.stop (Out.ret x7)) else(vB x7 (Int.tmod x3 3)).bind λx8=>some (.next (bA (x3+1),x8)))
def m5(n:Int)(finish:Bool):(Int×Table)->Option (Step (Int×Table) (Out Table Table))
 |(x3,x4)=>(if decide (x3<n) then(if finish then(GV x4).bind λx9=>(if x9 then mZ x3 true x4 else(gZ x4.aR (λy0=>tX y0)).bind λx10=>mZ x3 x10 x4) else(gZ x4.aR (λy0=>tX y0)).bind λx11=>mZ x3 x11 x4) else some (.stop (Out.brk x4)))
def ML:(Out Table Table)->Option Table
 |.brk x5=>aAX x5
 |.ret r=>some r
def I3(t:Table)(n:Int)(finish:Bool):Option Table:=
 (loop (m5 n finish) (0,t)).bind (ML)
def A0(x2:Table):Option Table:=
 some x2
def lH(t:Table):Option Table:=
 (GO t).bind λx1=>(GS t).bind λx3=>(if x3 then(I3 x1 3000 true).bind λx4=>A0 x4 else A0 x1)
def zW(x1:Bool):Option Bool:=
 some x1
def nI(h:Int):Option Bool:=
 (cS h 32 223).bind λx2=>(if x2 then zW (decide ((Int.tmod h 32)<24)) else zW false)
def jE(h:Int):Option Int:=
 (nI h).bind λx1=>(if !x1 then some (-1) else some (Int.tmod h 32))
def EN(slot:Int):Option Int:=
 (cS slot 0 23).bind λx1=>(if !x1 then some (-1) else some (bA (Int.tdiv slot 4)))
def zX(slot:Int):Option Int:=
 (cS slot 0 23).bind λx1=>(if !x1 then some (-1) else some (Int.tmod slot 4))
def KY(c:Int):Option Int:=
 (if c == 0 then some 8 else(if c == 1 then some 16 else(if c == 2 then some 40 else some 0)))
def BQ(c:Int):Option Int:=
 (cS c 0 2).bind λx1=>(if !x1 then some 0 else(KY c).bind λx2=>some (bA (4+x2)))
def nD(c:Int):Option Int:=
 (cS c 0 2).bind λx1=>(if !x1 then some 0 else(BQ c).bind λx2=>need (x2≠0) (some (bA (Int.tdiv 56 x2))))
def vD(h:Heap)(x1:Int)(x2:Bool):Option Int:=
 (if x2 then some (-1) else(idx h.Class x1).bind λx3=>some x3)
def tY(h:Heap)(slot:Int):Option Int:=
 (EN slot).bind λx1=>(if decide (x1<0) then vD h x1 true else(idx h.Class x1).bind λx4=>(if decide (x4<0) then vD h x1 true else(idx h.Class x1).bind λx5=>(zX slot).bind λx6=>(nD x5).bind λx7=>vD h x1 (decide (x7<=x6))))
def aL9(x5:Int):Option Int:=
 some x5
def yH(b:List Int)(at_ width:Int):(Int×Int)->Option (Step (Int×Int) Int)
 |(x3,x4)=>(if decide (x4<width) then(idx b (bA (at_+x4))).bind λx6=>some (.next (bA ((bA (x3*256))+x6),bA (x4+1))) else some (.stop (x3)))
def aMA:Int->Option Int
 |x5=>aL9 x5
def KZ(b:List Int)(at_ width:Int):Option Int:=
 (loop (yH b at_ width) (0,0)).bind (aMA)
def J6(slot c:Int)(x1:Bool):Option Int:=
 (if x1 then some (-1) else(EN slot).bind λx2=>(zX slot).bind λx3=>(BQ c).bind λx4=>some (bA ((bA ((bA (x2*64))+8))+(bA (x3*x4)))))
def yI(slot c:Int):Option Int:=
 (EN slot).bind λx5=>(if decide (x5<0) then J6 slot c true else(zX slot).bind λx6=>(nD c).bind λx7=>(cS x6 0 (bA (x7-1))).bind λx8=>J6 slot c (!x8))
def yJ(h:Heap)(slot:Int):Option Int:=
 (tY h slot).bind λx1=>(yI slot x1).bind λx2=>(KZ h.Bytes x2 4).bind λx3=>some x3
def aPR:Option Bool:=
 some false
def wE(l:List Int)(x:Int):Int->Option (Step Int (Out Unit Bool))
 |x2=>(if decide (x2<(l.length:Int)) then(idx l x2).bind λx3=>(if x3 == x then some (.stop (Out.ret true)) else some (.next (bA (x2+1)))) else some (.stop (Out.brk ())))
def aPS:(Out Unit Bool)->Option Bool
 |.brk ()=>aPR
 |.ret r=>some r
def I4(l:List Int)(x:Int):Option Bool:=
 (loop (wE l x) 0).bind (aPS)
def aPT(x10:List Int):Option (List Int):=
 some x10
def BR(l:aD):((List Int)×Int)->Option (Step ((List Int)×Int) (List Int))
 |(x8,x9)=>(if decide (x9<(l.Own.length:Int)) then(idx l.Own x9).bind λx11=>need (x8.length+x11.aT.length<=1073741824) (some (.next (x8++x11.aT,bA (x9+1)))) else some (.stop (x8)))
def aPU:(List Int)->Option (List Int)
 |x10=>aPT x10
def aBM(l:aD)(x5:List Int):Option (List Int):=
 (loop (BR l) (x5,0)).bind (aPU)
def BS(l:aD):((List Int)×Int)->Option (Step ((List Int)×Int) (List Int))
 |(x3,x4)=>(if decide (x4<(l.Global.length:Int)) then(idx l.Global x4).bind λx12=>need (x3.length+x12.aT.length<=1073741824) (some (.next (x3++x12.aT,bA (x4+1)))) else some (.stop (x3)))
def aBN(l:aD):(List Int)->Option (List Int)
 |x5=>aBM l x5
def OL(l:aD):Option (List Int):=
 (loop (BS l) (([]:List Int),0)).bind (aBN l)
def QG(l:aD)(slot:Int):Option Bool:=
 (OL l).bind λx1=>(I4 x1 slot).bind λx2=>some x2
def GW(m:Mem)(slot:Int):Option Int:=
 (tY m.Heap slot).bind λx1=>(if decide (x1<0) then some 0 else(QG m.aD slot).bind λx2=>(if x2 then some 1 else(yJ m.Heap slot).bind λx3=>(if decide (6<x3) then some 2 else some 3)))
def GX(h:Int):Option Int:=
 (nI h).bind λx1=>(if !x1 then some 0 else some (bA (Int.tdiv h 32)))
def vF(x1:Bool):Option Bool:=
 some x1
def GY(m:Mem)(h:Int):Option Bool:=
 (nI h).bind λx2=>(if x2 then(jE h).bind λx3=>(GW m x3).bind λx4=>(if x4 == 3 then(jE h).bind λx5=>(yJ m.Heap x5).bind λx6=>(GX h).bind λx7=>vF (x6 == x7) else vF false) else vF false)
def aMB(x5:List dR):Option (List dR):=
 some x5
def yK(l:List bN):((List dR)×Int)->Option (Step ((List dR)×Int) (List dR))
 |(x3,x4)=>(if decide (x4<(l.length:Int)) then(idx l x4).bind λx6=>need (x3.length+x6.Rows.length<=1073741824) (some (.next (x3++x6.Rows,bA (x4+1)))) else some (.stop (x3)))
def aMC:(List dR)->Option (List dR)
 |x5=>aMB x5
def yL(l:List bN):Option (List dR):=
 (loop (yK l) (([]:List dR),0)).bind (aMC)
def WN(b:List Int):Option Bool:=
 some (decide ((b.length:Int)<=1000))
def pC(b:List Int):Int->Option (Step Int (Out Unit Bool))
 |x2=>(if decide (x2<(b.length:Int)) then(idx b x2).bind λx3=>(cS x3 0 255).bind λx4=>(if !x4 then some (.stop (Out.ret false)) else some (.next (bA (x2+1)))) else some (.stop (Out.brk ())))
def LV(b:List Int):(Out Unit Bool)->Option Bool
 |.brk ()=>WN b
 |.ret r=>some r
def NJ(b:List Int):Option Bool:=
 (loop (pC b) 0).bind (LV b)
def aIN:Option Bool:=
 some true
def pD(h:Heap):Int->Option (Step Int (Out Unit Bool))
 |x3=>(if decide (x3<6) then(idx h.Class x3).bind λx4=>(cS x4 (-1) 2).bind λx5=>(if !x5 then some (.stop (Out.ret false)) else some (.next (bA (x3+1)))) else some (.stop (Out.brk ())))
def aIO:(Out Unit Bool)->Option Bool
 |.brk ()=>aIN
 |.ret r=>some r
def vG(h:Heap)(x1:Bool):Option Bool:=
 (if x1 then some false else(loop (pD h) 0).bind (aIO))
def NL(h:Heap):Option Bool:=
 (if(h.Bytes.length:Int) != 384 then vG h true else(if(h.Class.length:Int) != 6 then vG h true else(NJ h.Bytes).bind λx6=>vG h (!x6)))
def yN(page index:Int)(x1:Bool):Option Int:=
 (if x1 then some (-1) else some (bA ((bA (page*4))+index)))
def tE(page index:Int):Option Int:=
 (cS page 0 5).bind λx2=>(if !x2 then yN page index true else(cS index 0 3).bind λx3=>yN page index (!x3))
def aMD:Option Bool:=
 some true
def sE(h:Heap)(p:Int):Int->Option (Step Int (Out Unit Bool))
 |x3=>(if decide (x3<(bA ((bA (p*64))+64))) then(idx h.Bytes x3).bind λx4=>(if x4 != 0 then some (.stop (Out.ret false)) else some (.next (bA (x3+1)))) else some (.stop (Out.brk ())))
def aME:(Out Unit Bool)->Option Bool
 |.brk ()=>aMD
 |.ret r=>some r
def aMF:Option Bool:=
 some true
def sG(h:Heap)(p x1:Int):Int->Option (Step Int (Out Unit Bool))
 |x9=>(nD x1).bind λx10=>(if decide (x9<x10) then(tE p x9).bind λx11=>(yI x11 x1).bind λx12=>(KZ h.Bytes x12 4).bind λx13=>(cS x13 1 7).bind λx14=>(if !x14 then some (.stop (Out.ret false)) else some (.next (bA (x9+1)))) else some (.stop (Out.brk ())))
def aMG:(Out Unit Bool)->Option Bool
 |.brk ()=>aMF
 |.ret r=>some r
def YE(h:Heap)(p x1:Int):Option Bool:=
 (loop (sG h p x1) 0).bind (aMG)
def sH(h:Heap)(p:Int):Int->Option (Step Int (Out Unit Bool))
 |x7=>(if decide (x7<(bA ((bA (p*64))+8))) then(idx h.Bytes x7).bind λx15=>(if x15 != 0 then some (.stop (Out.ret false)) else some (.next (bA (x7+1)))) else some (.stop (Out.brk ())))
def YF(h:Heap)(p x1:Int):(Out Unit Bool)->Option Bool
 |.brk ()=>YE h p x1
 |.ret r=>some r
def lZ(h:Heap)(p x1:Int)(x5:Bool):Option Bool:=
 (if x5 then some false else(loop (sH h p) (bA ((bA (p*64))+3))).bind (YF h p x1))
def QH(h:Heap)(p:Int):Option Bool:=
 (idx h.Class p).bind λx1=>(if decide (x1<0) then(loop (sE h p) (bA (p*64))).bind (aME) else(idx h.Bytes (bA (p*64))).bind λx16=>(if x16 != 171 then lZ h p x1 true else(idx h.Bytes (bA ((bA (p*64))+1))).bind λx17=>(if x17 != x1 then lZ h p x1 true else(idx h.Bytes (bA ((bA (p*64))+2))).bind λx18=>(nD x1).bind λx19=>lZ h p x1 (x18 != x19))))
def aMH:Option Bool:=
 some true
def yO(h:Heap):Int->Option (Step Int (Out Unit Bool))
 |x3=>(if decide (x3<6) then(QH h x3).bind λx4=>(if !x4 then some (.stop (Out.ret false)) else some (.next (bA (x3+1)))) else some (.stop (Out.brk ())))
def aMI:(Out Unit Bool)->Option Bool
 |.brk ()=>aMH
 |.ret r=>some r
def QI(h:Heap):Option Bool:=
 (NL h).bind λx1=>(if !x1 then some false else(loop (yO h) 0).bind (aMI))
def aIP:Option Bool:=
 some true
def DB(x6:Int)(x7:Bool):Option (Step Int (Out Unit Bool)):=
 (if x7 then some (.stop (Out.ret false)) else some (.next (bA (x6+1))))
def pE(x4:(List Int)):Int->Option (Step Int (Out Unit Bool))
 |x6=>(if decide (x6<(x4.length:Int)) then(idx x4 x6).bind λx8=>(cS x8 0 23).bind λx9=>(if !x9 then DB x6 true else need (0<=(x6:Int)/\(x6:Int)<=(x4.length:Int)) ((I4 ((x4.take x6.toNat).drop 0) x8).bind λx10=>DB x6 x10)) else some (.stop (Out.brk ())))
def aIQ:(Out Unit Bool)->Option Bool
 |.brk ()=>aIP
 |.ret r=>some r
def WO(l:aD):Option Bool:=
 (OL l).bind λx4=>(loop (pE x4) 0).bind (aIQ)
def pG(l:aD):Int->Option (Step Int (Out Unit Bool))
 |x3=>(if decide (x3<(l.Own.length:Int)) then(idx l.Own x3).bind λx11=>(if decide (2<(x11.aT.length:Int)) then some (.stop (Out.ret false)) else some (.next (bA (x3+1)))) else some (.stop (Out.brk ())))
def WQ(l:aD):(Out Unit Bool)->Option Bool
 |.brk ()=>WO l
 |.ret r=>some r
def DC(l:aD)(x1:Bool):Option Bool:=
 (if x1 then some false else(loop (pG l) 0).bind (WQ l))
def NM(l:aD):Option Bool:=
 (if(l.Global.length:Int) != 3 then DC l true else DC l ((l.Own.length:Int) != 9))
def aGM:Option Bool:=
 some true
def zY(x2:Int)(x3:Bool):Option (Step Int (Out Unit Bool)):=
 (if x3 then some (.stop (Out.ret false)) else some (.next (bA (x2+1))))
def nR(h:Heap)(l:List Int)(c:Int):Int->Option (Step Int (Out Unit Bool))
 |x2=>(if decide (x2<(l.length:Int)) then(idx l x2).bind λx4=>(tY h x4).bind λx5=>(if x5 != c then zY x2 true else(idx l x2).bind λx6=>(yJ h x6).bind λx7=>zY x2 (decide (6<x7))) else some (.stop (Out.brk ())))
def aGN:(Out Unit Bool)->Option Bool
 |.brk ()=>aGM
 |.ret r=>some r
def BT(h:Heap)(l:List Int)(c:Int):Option Bool:=
 (loop (nR h l c) 0).bind (aGN)
def BU(w_ c:Int)(x1:Bool):Option Int:=
 (if x1 then some (-1) else some (bA ((bA (w_*3))+c)))
def yP(w_ c:Int):Option Int:=
 (cS w_ 0 2).bind λx2=>(if !x2 then BU w_ c true else(cS c 0 2).bind λx3=>BU w_ c (!x3))
def aPV:Option Bool:=
 some true
def aBO(x3:Int):Option (Step Int (Out Unit Bool)):=
 some (.next (bA (x3+1)))
def BV(m:Mem)(x3:Int):Int->Option (Step Int (Out Unit Bool))
 |x7=>(if decide (x7<3) then(yP x7 x3).bind λx8=>(idx m.aD.Own x8).bind λx9=>(BT m.Heap x9.aT x3).bind λx10=>(if !x10 then some (.stop (Out.ret false)) else some (.next (bA (x7+1)))) else some (.stop (Out.brk ())))
def aBP(x3:Int):(Out Unit Bool)->Option (Step Int (Out Unit Bool))
 |.brk ()=>aBO x3
 |.ret r=>some (.stop (Out.ret r))
def BW(m:Mem):Int->Option (Step Int (Out Unit Bool))
 |x3=>(if decide (x3<3) then(idx m.aD.Global x3).bind λx4=>(BT m.Heap x4.aT x3).bind λx5=>(if !x5 then some (.stop (Out.ret false)) else(loop (BV m x3) 0).bind (aBP x3)) else some (.stop (Out.brk ())))
def aPW:(Out Unit Bool)->Option Bool
 |.brk ()=>aPV
 |.ret r=>some r
def J7(m:Mem)(x1:Bool):Option Bool:=
 (if x1 then some false else(loop (BW m) 0).bind (aPW))
def UQ(m:Mem):Option Bool:=
 (QI m.Heap).bind λx11=>(if !x11 then J7 m true else(NM m.aD).bind λx12=>J7 m (!x12))
def WR:Option Bool:=
 some true
def mS(x3:Int)(x5:Bool):Option (Step Int (Out Unit Bool)):=
 (if x5 then some (.stop (Out.ret false)) else some (.next (bA (x3+1))))
def vH(c:aC):Int->Option (Step Int (Out Unit Bool))
 |x3=>(if decide (x3<3) then(idx c.cQ x3).bind λx4=>(if !x4.On then(if !(decide (x4=(⟨false,0,false,0⟩:vW))) then mS x3 true else(cS x4.aE 0 c.aE).bind λx6=>(if !x6 then mS x3 true else(cS x4.Seen 0 2).bind λx7=>mS x3 (!x7))) else(cS x4.aE 0 c.aE).bind λx8=>(if !x8 then mS x3 true else(cS x4.Seen 0 2).bind λx9=>mS x3 (!x9))) else some (.stop (Out.brk ())))
def LW:(Out Unit Bool)->Option Bool
 |.brk ()=>WR
 |.ret r=>some r
def pH(c:aC)(x1:Bool):Option Bool:=
 (if x1 then some false else(loop (vH c) 0).bind (LW))
def qE(c:aC):Option Bool:=
 (cS c.aE 0 100000).bind λx10=>(if !x10 then pH c true else pH c ((c.cQ.length:Int) != 3))
def aIR:Option Bool:=
 some true
def vI(x5:List Int)(x6 x8:Int)(x9:Bool):Option (Step ((List Int)×Int) (Out Unit Bool)):=
 (if x9 then some (.stop (Out.ret false)) else need (x5.length+([x8]).length<=1073741824) (some (.next (x5++([x8]),bA (x6+1)))))
def vJ(x1:(List dR)):((List Int)×Int)->Option (Step ((List Int)×Int) (Out Unit Bool))
 |(x5,x6)=>(if decide (x6<(x1.length:Int)) then(idx x1 x6).bind λx7=>(jE x7.Handle).bind λx8=>(if decide (x8<0) then vI x5 x6 x8 true else(cS x7.aE 0 100000).bind λx10=>(if !x10 then vI x5 x6 x8 true else(I4 x5 x8).bind λx11=>vI x5 x6 x8 x11)) else some (.stop (Out.brk ())))
def aIS:(Out Unit Bool)->Option Bool
 |.brk ()=>aIR
 |.ret r=>some r
def DD(x1:(List dR))(x2:Bool):Option Bool:=
 (if x2 then some false else(loop (vJ x1) (([]:List Int),0)).bind (aIS))
def NN(l:List bN):Option Bool:=
 (yL l).bind λx1=>(if(l.length:Int) != 3 then DD x1 true else DD x1 (decide (24<(x1.length:Int))))
def aBQ(z:List Int):Option Bool:=
 some ((z.length:Int) == 3)
def J8(x2:Int)(x3:Bool):Option (Step Int (Out Unit Bool)):=
 (if x3 then some (.stop (Out.ret false)) else some (.next (bA (x2+1))))
def BX(z:List Int):Int->Option (Step Int (Out Unit Bool))
 |x2=>(if decide (x2<(z.length:Int)) then(idx z x2).bind λx4=>(if x4 != 0 then(idx z x2).bind λx5=>(nI x5).bind λx6=>J8 x2 (!x6) else J8 x2 false) else some (.stop (Out.brk ())))
def aBR(z:List Int):(Out Unit Bool)->Option Bool
 |.brk ()=>aBQ z
 |.ret r=>some r
def UR(z:List Int):Option Bool:=
 (loop (BX z) 0).bind (aBR z)
def aMJ:Option Bool:=
 some true
def GZ(x4:Int)(x5:Bool):Option (Step Int (Out Unit Bool)):=
 (if x5 then some (.stop (Out.ret false)) else some (.next (bA (x4+1))))
def yQ(b:aA)(x2:(List dR)):Int->Option (Step Int (Out Unit Bool))
 |x4=>(if decide (x4<(x2.length:Int)) then(idx x2 x4).bind λx6=>(GY b.Mem x6.Handle).bind λx7=>(if !x7 then GZ x4 true else GZ x4 (decide (b.aC.aE<x6.aE))) else some (.stop (Out.brk ())))
def aMK:(Out Unit Bool)->Option Bool
 |.brk ()=>aMJ
 |.ret r=>some r
def sI(b:aA)(x1:Bool):Option Bool:=
 (if x1 then some false else(yL b.aM).bind λx2=>(loop (yQ b x2) 0).bind (aMK))
def QJ(b:aA):Option Bool:=
 (UQ b.Mem).bind λx8=>(if !x8 then sI b true else(qE b.aC).bind λx9=>(if !x9 then sI b true else(NN b.aM).bind λx10=>(if !x10 then sI b true else(UR b.oR).bind λx11=>sI b (!x11))))
def aIT:Option Bool:=
 some false
def vK(x3:Int)(x4:Bool):Option (Step Int (Out Unit Bool)):=
 (if x4 then some (.stop (Out.ret true)) else some (.next (bA (x3+1))))
def pI(slot:Int)(x1:(List dR)):Int->Option (Step Int (Out Unit Bool))
 |x3=>(if decide (x3<(x1.length:Int)) then(idx x1 x3).bind λx5=>(nI x5.Handle).bind λx6=>(if x6 then(jE x5.Handle).bind λx7=>vK x3 (x7 == slot) else vK x3 false) else some (.stop (Out.brk ())))
def aIU:(Out Unit Bool)->Option Bool
 |.brk ()=>aIT
 |.ret r=>some r
def G0(l:List bN)(slot:Int):Option Bool:=
 (yL l).bind λx1=>(loop (pI slot x1) 0).bind (aIU)
def zZ(x1:Int)(x2:Bool):Option Int:=
 (if x2 then some 4 else some x1)
def J9(b:aA)(slot:Int):Option Int:=
 (GW b.Mem slot).bind λx1=>(if x1 == 3 then(G0 b.aM slot).bind λx3=>zZ x1 (!x3) else zZ x1 false)
def aPX(x6:List Int):Option (List Int):=
 some x6
def BY(b:aA)(x4:List Int)(x5:Int)(x7:Bool):Option (Step ((List Int)×Int) (List Int)):=
 (if x7 then(J9 b x5).bind λx8=>(idx x4 x8).bind λx9=>some (.next (x4.set x8.toNat (bA (x9+1)),bA (x5+1))) else some (.stop (x4)))
def BZ(b:aA)(x1:Bool):((List Int)×Int)->Option (Step ((List Int)×Int) (List Int))
 |(x4,x5)=>(if decide (x5<24) then BY b x4 x5 x1 else BY b x4 x5 false)
def aPY:(List Int)->Option (List Int)
 |x6=>aPX x6
def US(b:aA):Option (List Int):=
 need (0<=(5:Int)/\(5:Int)<=4294967296) ((QJ b).bind λx1=>(loop (BZ b x1) (List.replicate ((5:Int).toNat) 0,0)).bind (aPY))
def aEV(slot c:Int):Option Int:=
 (yI slot c).bind λx1=>(if decide (x1<0) then some (-1) else some (bA (x1+4)))
def B4(x8:List Int)(x9:Int):Option (List Int):=
 need (0<=(x9:Int)/\(x9:Int)<=(x8.length:Int)) (need (0<=(x9:Int)/\(x9:Int)<=((cW x8 x9.toNat (List.replicate (x8.length-x9.toNat) 0)).length:Int)) (some (((cW x8 x9.toNat (List.replicate (x8.length-x9.toNat) 0)).take x9.toNat).drop 0)))
def jB(x7:Int)(x10:List Int)(x11:Int):Option (Step ((List Int)×Int×Int) ((List Int)×Int)):=
 some (.next (x10,x11,bA (x7+1)))
def lP(del:(Int->Option Bool)):((List Int)×Int×Int)->Option (Step ((List Int)×Int×Int) ((List Int)×Int))
 |(x5,x6,x7)=>(if decide (x7<(x5.length:Int)) then(idx x5 x7).bind λx12=>(del x12).bind λx13=>(if !x13 then(idx x5 x6).bind λx14=>jB x7 (x5.set x6.toNat x12) (bA (x6+1)) else jB x7 x5 x6) else some (.stop ((x5,x6))))
def B5:((List Int)×Int)->Option (List Int)
 |(x8,x9)=>B4 x8 x9
def oG(s:List Int)(del:(Int->Option Bool)):Option (List Int):=
 (gI s del).bind λx1=>(if x1 == (-1) then some s else(loop (lP del) (s,x1,bA (x1+1))).bind (B5))
def I5(n:Int):Option Bool:=
 some (n == 0)
def yR(list:List Int):Option (List Int):=
 (eQ list).bind λx1=>(oG x1 (λy0=>I5 y0)).bind λx2=>(vA x2).bind λx3=>(slices_Compact_int x3).bind λx4=>some x4
def YG(x11:List Int):Option (List Int):=
 some x11
def l5(slices:List (List Int)):((List Int)×Int)->Option (Step ((List Int)×Int) (List Int))
 |(x9,x10)=>(if decide (x10<(slices.length:Int)) then(idx slices x10).bind λx12=>need (x9.length+x12.length<=1073741824) (some (.next (x9++x12,bA (x10+1)))) else some (.stop (x9)))
def YH:(List Int)->Option (List Int)
 |x11=>YG x11
def YI(slices:List (List Int))(x5:Int):Option (List Int):=
 (aD0 Int x5).bind λx6=>(loop (l5 slices) (x6,0)).bind (YH)
def l6(slices:List (List Int)):(Int×Int)->Option (Step (Int×Int) Int)
 |(x3,x4)=>(if decide (x4<(slices.length:Int)) then(idx slices x4).bind λx13=>(if decide ((bA (x3+(x13.length:Int)))<0) then none else some (.next (bA (x3+(x13.length:Int)),bA (x4+1)))) else some (.stop (x3)))
def YJ(slices:List (List Int)):Int->Option (List Int)
 |x5=>YI slices x5
def xA(slices:List (List Int)):Option (List Int):=
 (loop (l6 slices) (0,0)).bind (YJ slices)
def aIV(x6:List Int):Option ((List Int)×Bool):=
 some (x6,true)
def DE(m:Mem)(x4:List Int)(x5:Int)(x7:Bool):Option (Step ((List Int)×Int) (Out (List Int) ((List Int)×Bool))):=
 (if x7 then some (.stop (Out.ret ([],false))) else(pZ m.Heap (Int.tmod x5 32)).bind λx8=>(KT x8).bind λx9=>(if !x9 then some (.stop (Out.ret ([],false))) else need (x4.length+([x5]).length<=1073741824) (some (.next (x4++([x5]),x8.Next)))))
def DF(m:Mem):((List Int)×Int)->Option (Step ((List Int)×Int) (Out (List Int) ((List Int)×Bool)))
 |(x4,x5)=>(if x5 != 0 then(wD m x5).bind λx10=>(if x10 != 0 then DE m x4 x5 true else(iW x4 x5).bind λx11=>DE m x4 x5 x11) else some (.stop (Out.brk x4)))
def aIW:(Out (List Int) ((List Int)×Bool))->Option ((List Int)×Bool)
 |.brk x6=>aIV x6
 |.ret r=>some r
def G3(m:Mem)(head:Int):Option ((List Int)×Bool):=
 (yC m).bind λx1=>(if !x1 then some (([]:List Int),false) else(loop (DF m) (([]:List Int),head)).bind (aIW))
def aML(x6:List (List Int)):Option ((List (List Int))×Bool):=
 some (x6,true)
def yS(t:Table):((List (List Int))×Int)->Option (Step ((List (List Int))×Int) (Out (List (List Int)) ((List (List Int))×Bool)))
 |(x4,x5)=>(if decide (x5<(t.bS.length:Int)) then(idx t.bS x5).bind λx7=>(G3 t.aA.Mem x7.Head).bind λx8=>(if !x8.2 then some (.stop (Out.ret ([],false))) else need (x4.length+([x8.1]).length<=1073741824) (some (.next (x4++([x8.1]),bA (x5+1))))) else some (.stop (Out.brk x4)))
def aMM:(Out (List (List Int)) ((List (List Int))×Bool))->Option ((List (List Int))×Bool)
 |.brk x6=>aML x6
 |.ret r=>some r
def EO(t:Table):Option ((List (List Int))×Bool):=
 (GS t).bind λx1=>(if !x1 then some (([]:List (List Int)),false) else(loop (yS t) (([]:List (List Int)),0)).bind (aMM))
def QK(t:Table):Option (List Int):=
 (EO t).bind λx1=>(xA x1.1).bind λx2=>(yR x2).bind λx3=>some x3
def UT:Option Int:=
 some (-1)
def tZ(s:List KV)(f:(KV->Option Bool)):Int->Option (Step Int (Out Unit Int))
 |x2=>(if decide (x2<(s.length:Int)) then(idx s x2).bind λx3=>(f x3).bind λx4=>(if x4 then some (.stop (Out.ret x2)) else some (.next (bA (x2+1)))) else some (.stop (Out.brk ())))
def UU:(Out Unit Int)->Option Int
 |.brk ()=>UT
 |.ret r=>some r
def iX(s:List KV)(f:(KV->Option Bool)):Option Int:=
 (loop (tZ s f) 0).bind (UU)
def EP(x8:List KV)(x9:Int):Option (List KV):=
 need (0<=(x9:Int)/\(x9:Int)<=(x8.length:Int)) (need (0<=(x9:Int)/\(x9:Int)<=((cW x8 x9.toNat (List.replicate (x8.length-x9.toNat) (⟨0,0⟩:KV))).length:Int)) (some (((cW x8 x9.toNat (List.replicate (x8.length-x9.toNat) (⟨0,0⟩:KV))).take x9.toNat).drop 0)))
def jZ(x7:Int)(x10:List KV)(x11:Int):Option (Step ((List KV)×Int×Int) ((List KV)×Int)):=
 some (.next (x10,x11,bA (x7+1)))
def mK(del:(KV->Option Bool)):((List KV)×Int×Int)->Option (Step ((List KV)×Int×Int) ((List KV)×Int))
 |(x5,x6,x7)=>(if decide (x7<(x5.length:Int)) then(idx x5 x7).bind λx12=>(del x12).bind λx13=>(if !x13 then(idx x5 x6).bind λx14=>jZ x7 (x5.set x6.toNat x12) (bA (x6+1)) else jZ x7 x5 x6) else some (.stop ((x5,x6))))
def ER:((List KV)×Int)->Option (List KV)
 |(x8,x9)=>EP x8 x9
def qG(s:List KV)(del:(KV->Option Bool)):Option (List KV):=
 (iX s del).bind λx1=>(if x1 == (-1) then some s else(loop (mK del) (s,x1,bA (x1+1))).bind (ER))
def LX(s:List KV):Option (List KV):=
 need (([]:List KV).length+s.length<=1073741824) (some (([]:List KV)++s))
def RP(x:KV)(k0:Int):Option Bool:=
 some (x.Key == k0)
def YK(l:List KV)(key:Int):Option (List KV):=
 (LX l).bind λx1=>(qG x1 (λy0=>RP y0 key)).bind λx2=>some x2
def RQ(x:KV)(k0:Int):Option Bool:=
 some (decide (k0<x.Key))
def I6(s:List KV)(i:Int)(v:List KV):Option (List KV):=
 need (0<=i/\i<=(s.length:Int)/\s.length+v.length<=1073741824) (some (s.take i.toNat++v++s.drop i.toNat))
def yT(key val:Int)(x1:(List KV))(x3:Int):Option (List KV):=
 (I6 x1 x3 ([(⟨key,val⟩:KV)])).bind λx4=>some x4
def ES(l:List KV)(key val:Int):Option (List KV):=
 (YK l key).bind λx1=>(iX x1 (λy0=>RQ y0 key)).bind λx2=>(if decide (x2<0) then yT key val x1 (x1.length:Int) else yT key val x1 x2)
def tmB(t:Table):List Int->List KV->Option (List KV)
 |[],m=>some m
 |h::l,m=>(tmB t l m).bind λm'=>(pZ t.aA.Mem.Heap (Int.tmod h 32)).bind λn=>ES m' n.Key n.eI
def tmL(t:Table):List (List Int)->List KV->Option (List KV)
 |[],m=>some m
 |l::ls,m=>(tmB t l m).bind (tmL t ls)
def wF(t:Table):Option (List KV):=(EO t).bind λx=>tmL t x.1 []
def G4(l:List bN):Option Int:=
 (yL l).bind λx1=>some (x1.length:Int)
def aIX:Option Bool:=
 some true
def vL(a_ b:List KV):Int->Option (Step Int (Out Unit Bool))
 |x2=>(if decide (x2<(a_.length:Int)) then(idx a_ x2).bind λx3=>(idx b x2).bind λx4=>(if !(decide (x3=x4)) then some (.stop (Out.ret false)) else some (.next (bA (x2+1)))) else some (.stop (Out.brk ())))
def aIY:(Out Unit Bool)->Option Bool
 |.brk ()=>aIX
 |.ret r=>some r
def NO(a_ b:List KV):Option Bool:=
 (if(a_.length:Int) != (b.length:Int) then some false else(loop (vL a_ b) 0).bind (aIY))
def gP(x13:Bool):Option Bool:=
 some x13
def G5(x6:List KV)(x11:Table):Option Bool:=
 (lH x11).bind λx12=>(G4 x12.aA.aM).bind λx14=>(if x14 == 0 then(if(x12.aR.length:Int) == 3 then(US x12.aA).bind λx15=>(idx x15 4).bind λx16=>(if x16 == (x6.length:Int) then(QK x12).bind λx17=>(if(x17.length:Int) == (x6.length:Int) then(wF x12).bind λx18=>(NO x18 x6).bind λx19=>gP x19 else gP false) else gP false) else gP false) else gP false)
def UW(x9:Int)(x24:Table):Option (Step (Int×Table) Table):=
 some (.next (bA (x9+1),x24))
def uA(x22:Int)(x25:Table):Option (Step (Int×Table) Table):=
 some (.next (bA (x22+1),x25))
def kK(x9:Int):(Int×Table)->Option (Step (Int×Table) Table)
 |(x22,x23)=>(if decide (x22<4) then(idx x23.dC x9).bind λx26=>need (x26.List.length+([(⟨true,[]⟩:Batch)]).length<=1073741824)<|uA x22 ({x23 with dC:=x23.dC.set x9.toNat (⟨x26.List++([(⟨true,[]⟩:Batch)])⟩:aN)}:Table) else some (.stop (x23)))
def UX(x9:Int):Table->Option (Step (Int×Table) Table)
 |x24=>UW x9 x24
def iQ:(Int×Table)->Option (Step (Int×Table) Table)
 |(x9,x10)=>(if decide (x9<3) then(loop (kK x9) (0,x10)).bind (UX x9) else some (.stop (x10)))
def G6(x6:List KV):Table->Option Bool
 |x11=>G5 x6 x11
def A1(code:List UInt8):Option Bool:=
 (aL4 code).bind λx1=>(if x1 then some true else(tI code).bind λx2=>(P6 x2).bind λx3=>(if !x3 then some true else(GK x2).bind λx4=>(lH x4).bind λx5=>(if(x5.dC.length:Int) != 3 then some false else(wF x5).bind λx6=>(loop (iQ) (0,x5)).bind (G6 x6))))
def aIZ:Option Int:=
 some (-1)
def fZ(size:Int):Int->Option (Step Int (Out Unit Int))
 |x2=>(if decide (x2<3) then(KY x2).bind λx3=>(cS size 1 x3).bind λx4=>(if x4 then some (.stop (Out.ret x2)) else some (.next (bA (x2+1)))) else some (.stop (Out.brk ())))
def aI0:(Out Unit Int)->Option Int
 |.brk ()=>aIZ
 |.ret r=>some r
def G7(size:Int):Option Int:=
 (loop (fZ size) 0).bind (aI0)
def RR(s:bE)(x1:Int):Option (bE×Int):=
 some ((⟨(s.aT.take ((bA ((s.aT.length:Int)-1)).toNat)).drop 0⟩:bE),x1)
def uB(s:bE):Option (bE×Int):=
 (if(s.aT.length:Int) == 0 then some (s,(-1)) else need (0<=(bA ((s.aT.length:Int)-1):Int)/\(bA ((s.aT.length:Int)-1):Int)<=(s.aT.length:Int)) ((idx s.aT (bA ((s.aT.length:Int)-1))).bind λx2=>RR s x2))
def aI1(x7:List Int):Option (List Int):=
 some x7
def DG(at_:Int):((List Int)×Int×Int)->Option (Step ((List Int)×Int×Int) (List Int))
 |(x4,x5,x6)=>(if decide (0<=x6) then(idx x4 (bA (at_+x6))).bind λx8=>some (.next (x4.set ((bA (at_+x6)).toNat) (Int.tmod x5 256),bA (Int.tdiv x5 256),bA (x6-1))) else some (.stop (x4)))
def aI2:(List Int)->Option (List Int)
 |x7=>aI1 x7
def G8(b:List Int)(at_ width n:Int):Option (List Int):=
 (loop (DG at_) (b,n,bA (width-1))).bind (aI2)
def aI3(h:Heap):Option (Heap×(List Int)):=
 some (h,([]:List Int))
def LY(x2:Int):Option (Step Int (Out Unit (Heap×(List Int)))):=
 some (.next (bA (x2+1)))
def aI4(h:Heap)(c x2:Int)(x14 x15:List Int):Option (Step Int (Out Unit (Heap×(List Int)))):=
 some (.stop (Out.ret ((⟨x15,h.Class.set x2.toNat c⟩:Heap),x14)))
def WS(x2:Int)(x11:List Int)(x12:Int)(x17:List Int):Option (Step ((List Int)×Int×(List Int)) ((List Int)×(List Int))):=
 (tE x2 x12).bind λx18=>need (x11.length+([x18]).length<=1073741824) (some (.next (x11++([x18]),bA (x12+1),x17)))
def DH(c x2:Int):((List Int)×Int×(List Int))->Option (Step ((List Int)×Int×(List Int)) ((List Int)×(List Int)))
 |(x11,x12,x13)=>(nD c).bind λx16=>(if decide (x12<x16) then(tE x2 x12).bind λx19=>(yI x19 c).bind λx20=>(G8 x13 x20 4 1).bind λx21=>WS x2 x11 x12 x21 else some (.stop ((x11,x13))))
def aI5(h:Heap)(c x2:Int):((List Int)×(List Int))->Option (Step Int (Out Unit (Heap×(List Int))))
 |(x14,x15)=>aI4 h c x2 x14 x15
def fJ(h:Heap)(c:Int):Int->Option (Step Int (Out Unit (Heap×(List Int))))
 |x2=>(if decide (x2<6) then(idx h.Class x2).bind λx3=>(if x3 != (-1) then LY x2 else(idx h.Bytes (bA (x2*64))).bind λx4=>(idx (h.Bytes.set ((bA (x2*64)).toNat) 171) (bA ((bA (x2*64))+1))).bind λx5=>(nD c).bind λx6=>(idx ((h.Bytes.set ((bA (x2*64)).toNat) 171).set ((bA ((bA (x2*64))+1)).toNat) c) (bA ((bA (x2*64))+2))).bind λx7=>(loop (DH c x2) (([]:List Int),0,((h.Bytes.set ((bA (x2*64)).toNat) 171).set ((bA ((bA (x2*64))+1)).toNat) c).set ((bA ((bA (x2*64))+2)).toNat) x6)).bind (aI5 h c x2)) else some (.stop (Out.brk ())))
def aI6(h:Heap):(Out Unit (Heap×(List Int)))->Option (Heap×(List Int))
 |.brk ()=>aI3 h
 |.ret r=>some r
def uC(h:Heap)(c:Int):Option (Heap×(List Int)):=
 (loop (fJ h c) 0).bind (aI6 h)
def LZ(m:Mem)(c:Int)(x1:Heap×(List Int))(x2:bE)(x3:Int):Option (Mem×Int):=
 some ((⟨x1.1,(⟨m.aD.Global.set c.toNat (⟨x2.aT++((x1.2.take x1.2.length).drop ((1:Int).toNat))⟩:bE),m.aD.Own⟩:aD)⟩:Mem),x3)
def G9(m:Mem)(c:Int):Option (Mem×Int):=
 (uC m.Heap c).bind λx1=>(if(x1.2.length:Int) == 0 then some ((⟨x1.1,m.aD⟩:Mem),(-1)) else(idx m.aD.Global c).bind λx2=>need (0<=(1:Int)/\(1:Int)<=(x1.2.length:Int)) (need (x2.aT.length+((x1.2.take x1.2.length).drop ((1:Int).toNat)).length<=1073741824) ((idx x1.2 0).bind λx4=>LZ m c x1 x2 x4)))
def z6(slot gen:Int)(x1:Bool):Option Int:=
 (if x1 then some 0 else some (bA ((bA (gen*32))+slot)))
def RS(slot gen:Int):Option Int:=
 (cS slot 0 23).bind λx2=>(if !x2 then z6 slot gen true else(cS gen 1 6).bind λx3=>z6 slot gen (!x3))
def B6(m:Mem)(slot:Int):Option Int:=
 (yJ m.Heap slot).bind λx1=>(RS slot x1).bind λx2=>some x2
def OM(x2 x3:List bE):Option aD:=
 some (⟨x2,x3⟩:aD)
def YL(x:aD)(slot x1:Int)(x4:bE):Option aD:=
 OM x.Global (x.Own.set x1.toNat (⟨x4.aT++([slot])⟩:bE))
def YM(x:aD)(x5:List bE):Option aD:=
 OM x5 x.Own
def YN(x:aD)(w_ c slot:Int):Option aD:=
 (yP w_ c).bind λx1=>(idx x.Own x1).bind λx4=>(if decide ((x4.aT.length:Int)<2) then need (x4.aT.length+([slot]).length<=1073741824)<|YL x slot x1 x4 else(idx x.Global c).bind λx6=>need (x6.aT.length+([slot]).length<=1073741824)<|YM x (x.Global.set c.toNat (⟨x6.aT++([slot])⟩:bE)))
def ON(x:Mem)(x3:List Int)(x4 x5:List bE):Option Mem:=
 some (⟨(⟨x3,x.Heap.Class⟩:Heap),(⟨x4,x5⟩:aD)⟩:Mem)
def OO(x:Mem)(w_ slot x1 x2:Int)(x3:List Int):Option Mem:=
 (if decide ((bA (x2+1))<=6) then(YN x.aD w_ x1 slot).bind λx6=>ON x x3 x6.Global x6.Own else ON x x3 x.aD.Global x.aD.Own)
def K0(x:Mem)(w_ slot:Int):Option Mem:=
 (tY x.Heap slot).bind λx1=>(yJ x.Heap slot).bind λx2=>(yI slot x1).bind λx7=>(G8 x.Heap.Bytes x7 4 (bA (x2+1))).bind λx8=>OO x w_ slot x1 x2 x8
def z7(c:aC):Option aC:=
 need (([]:List vW).length+c.cQ.length<=1073741824) (some (⟨c.aE,([]:List vW)++c.cQ⟩:aC))
def bT(s:Sub)(code:Int):Option Sub:=
 some ({s with Code:=code,gL:=true}:Sub)
def UY(b:aA)(s:Sub)(slot pc:Int):Option Sub:=
 (if decide (0<=slot) then(B6 b.Mem slot).bind λx1=>(bT ({s with Out:=x1}:Sub) 0).bind λx2=>some x2 else some ({s with Pc:=pc}:Sub))
def z8(s:Sub)(x3:Int)(x5:Bool)(x6:aA):Option (aA×Sub):=
 (if x5 then(bT s 3).bind λx7=>some (x6,x7) else(UY x6 s x3 (bA (s.Pc+1))).bind λx8=>some (x6,x8))
def j4(s:Sub)(x3:Int)(x4:aA):Option (aA×Sub):=
 (if decide (x3<0) then z8 s x3 (s.Pc == 3) x4 else z8 s x3 false x4)
def AA(b:aA)(s:Sub)(x1:Int)(x12:Bool):Option (aA×Sub):=
 (if x12 then(idx b.Mem.aD.Global x1).bind λx13=>(uB x13).bind λx14=>j4 s x14.2 ({b with Mem:=(⟨b.Mem.Heap,(⟨b.Mem.aD.Global.set x1.toNat x14.1,b.Mem.aD.Own⟩:aD)⟩:Mem)}:aA) else(if s.Pc == 2 then(G9 b.Mem x1).bind λx15=>j4 s x15.2 ({b with Mem:=x15.1}:aA) else(bT s 1).bind λx16=>some (b,x16)))
def B7(b:aA)(w_:Int)(s:Sub):Option (aA×Sub):=
 (G7 s.A).bind λx1=>(if decide (x1<0) then(bT s 2).bind λx2=>some (b,x2) else(if s.Pc == 0 then(yP w_ x1).bind λx9=>(idx b.Mem.aD.Own x9).bind λx10=>(uB x10).bind λx11=>j4 s x11.2 ({b with Mem:=(⟨b.Mem.Heap,(⟨b.Mem.aD.Global,b.Mem.aD.Own.set x9.toNat x11.1⟩:aD)⟩:Mem)}:aA) else(if s.Pc == 1 then AA b s x1 true else AA b s x1 (s.Pc == 3))))
def HA(b:aA)(s:Sub)(x5:List bN):Option (aA×Sub):=
 (bT s 0).bind λx6=>some (({b with aM:=x5}:aA),x6)
def xB(b:aA)(w_:Int)(s:Sub)(x3:Bool):Option (aA×Sub):=
 (if x3 then(bT s 4).bind λx4=>some (b,x4) else(idx b.aM w_).bind λx7=>need (x7.Rows.length+([(⟨s.A,s.E⟩:dR)]).length<=1073741824)<|HA b s (b.aM.set w_.toNat (⟨x7.Rows++([(⟨s.A,s.E⟩:dR)])⟩:bN)))
def yU(b:aA)(w_:Int)(s:Sub):Option (aA×Sub):=
 (if s.Pc == 0 then some (b,({s with Pc:=1,E:=b.aC.aE}:Sub)) else(if s.Pc == 1 then(cS s.E 0 b.aC.aE).bind λx1=>(if !x1 then(bT s 1).bind λx2=>some (b,x2) else(GY b.Mem s.A).bind λx8=>(if !x8 then xB b w_ s true else(jE s.A).bind λx9=>(G0 b.aM x9).bind λx10=>xB b w_ s x10)) else(bT s 1).bind λx11=>some (b,x11)))
def sJ(w_:Int)(x1:aC)(x3:vW)(x4:Bool):Option (aC×Bool):=
 (if x4 then some (x1,true) else(if x3.Seen == 2 then(idx x1.cQ w_).bind λx5=>some ((⟨x1.aE,x1.cQ.set w_.toNat ({x5 with gU:=true,Seen:=0}:vW)⟩:aC),true) else(idx x1.cQ w_).bind λx6=>some ((⟨x1.aE,x1.cQ.set w_.toNat ({x6 with Seen:=bA (x3.Seen+1)}:vW)⟩:aC),false)))
def HB(c:aC)(w_ e_:Int)(x1:aC)(x2:Bool):Option (aC×Bool):=
 (if x2 then some (x1,false) else(idx c.cQ w_).bind λx3=>(if !x3.On then sJ w_ x1 x3 true else(if x3.gU then sJ w_ x1 x3 true else sJ w_ x1 x3 (x3.aE == e_))))
def K2(c:aC)(w_ e_:Int):Option (aC×Bool):=
 (z7 c).bind λx1=>(qE c).bind λx7=>(if !x7 then HB c w_ e_ x1 true else(cS w_ 0 2).bind λx8=>HB c w_ e_ x1 (!x8))
def HC(e_:Int)(x1:aC)(x2:Bool):Option (aC×Bool):=
 (if x2 then some (x1,false) else some ((⟨bA (e_+1),x1.cQ⟩:aC),true))
def TD(c:aC)(e_:Int):Option (aC×Bool):=
 (z7 c).bind λx1=>(qE c).bind λx3=>(if !x3 then HC e_ x1 true else(if c.aE != e_ then HC e_ x1 true else HC e_ x1 (e_ == 100000)))
def uD(b:aA)(s:Sub)(x3:aC×Bool)(x5:Int):Option (aA×Sub):=
 some (({b with aC:=x3.1}:aA),({s with Pc:=x5,B:=bA (s.B+1)}:Sub))
def uE(b:aA)(s:Sub)(x6:aC×Bool)(x7:Int):Option (aA×Sub):=
 (bT ({s with Out:=x7}:Sub) 0).bind λx8=>some (({b with aC:=x6.1}:aA),x8)
def vM(b:aA)(s:Sub):Option (aA×Sub):=
 (if s.Pc == 0 then some (b,({s with Pc:=1,E:=b.aC.aE,B:=0}:Sub)) else(if s.Pc == 1 then(cS s.B 0 2).bind λx1=>(if !x1 then(bT s 1).bind λx2=>some (b,x2) else(K2 b.aC s.B s.E).bind λx3=>(if !x3.2 then(bT s 8).bind λx4=>some (({b with aC:=x3.1}:aA),x4) else(if(bA (s.B+1)) == 3 then uD b s x3 2 else uD b s x3 s.Pc))) else(if s.Pc == 2 then(TD b.aC s.E).bind λx6=>(if x6.2 then uE b s x6 1 else uE b s x6 s.Out) else(bT s 1).bind λx9=>some (b,x9))))
def NP(x1:Bool):Option Bool:=
 some x1
def NW(r_:dR)(e_:Int):Option Bool:=
 (if decide (2<=e_) then NP (decide (r_.aE<=(bA (e_-2)))) else NP false)
def aI7:Option Int:=
 some (-1)
def fK(l:List dR)(e_:Int):Int->Option (Step Int (Out Unit Int))
 |x2=>(if decide (x2<(l.length:Int)) then(idx l x2).bind λx3=>(NW x3 e_).bind λx4=>(if x4 then some (.stop (Out.ret x2)) else some (.next (bA (x2+1)))) else some (.stop (Out.brk ())))
def aI8:(Out Unit Int)->Option Int
 |.brk ()=>aI7
 |.ret r=>some r
def AB(l:List dR)(from_ e_:Int):Option Int:=
 (loop (fK l e_) (if 0<from_ then from_ else 0)).bind (aI8)
def uF(b:aA)(s:Sub)(x8:Int):Option (aA×Sub):=
 some (b,({s with Pc:=x8,B:=bA (s.B+1)}:Sub))
def fV(b:aA)(s:Sub)(x5:Bool):Option (aA×Sub):=
 (if x5 then(bT s 1).bind λx6=>some (b,x6) else(idx b.oR s.B).bind λx7=>(if x7 == s.H then some (b,({s with Pc:=1,Row:=bA (s.Row+1)}:Sub)) else(if(bA (s.B+1)) == 3 then uF b s 3 else uF b s s.Pc)))
def D4(s:Sub)(x14:aA):Option (aA×Sub):=
 some (x14,({s with Pc:=1,Out:=bA (s.Out+1)}:Sub))
def fW(b:aA)(w_:Int)(s:Sub)(x1:bN)(x12:Bool):Option (aA×Sub):=
 (if x12 then(bT s 1).bind λx13=>some (b,x13) else need (0<=(s.Row:Int)/\(s.Row:Int)<=(x1.Rows.length:Int)) (need (0<=(bA (s.Row+1):Int)/\(bA (s.Row+1):Int)<=(x1.Rows.length:Int)) (need (s.Row.toNat<=(bA (s.Row+1)).toNat) ((jE s.H).bind λx15=>(K0 b.Mem w_ x15).bind λx16=>D4 s ({b with Mem:=x16,aM:=b.aM.set w_.toNat (⟨((cW x1.Rows s.Row.toNat (x1.Rows.drop ((bA (s.Row+1)).toNat))).take (s.Row.toNat+(x1.Rows.length-((bA (s.Row+1)).toNat)))).drop 0⟩:bN)}:aA)))))
def vN(b:aA)(w_:Int)(s:Sub):Option (aA×Sub):=
 (idx b.aM w_).bind λx1=>(if s.Pc == 0 then some (b,({s with Pc:=1,E:=b.aC.aE,Row:=0}:Sub)) else(if s.Pc == 1 then(AB x1.Rows s.Row s.E).bind λx2=>(if decide (x2<0) then(bT s 0).bind λx3=>some (b,x3) else(idx x1.Rows x2).bind λx4=>some (b,({s with Pc:=2,Row:=x2,B:=0,H:=x4.Handle}:Sub))) else(if s.Pc == 2 then(cS s.B 0 2).bind λx9=>(if !x9 then fV b s true else(cS s.Row 0 (bA ((x1.Rows.length:Int)-1))).bind λx10=>(if !x10 then fV b s true else(idx x1.Rows s.Row).bind λx11=>fV b s (x11.Handle != s.H))) else(if s.Pc == 3 then(cS s.Row 0 (bA ((x1.Rows.length:Int)-1))).bind λx17=>(if !x17 then fW b w_ s x1 true else(idx x1.Rows s.Row).bind λx18=>(if x18.Handle != s.H then fW b w_ s x1 true else(NW x18 s.E).bind λx19=>fW b w_ s x1 (!x19))) else(bT s 1).bind λx20=>some (b,x20)))))
def B8(w_ e_:Int)(x1:aC)(x2:Bool):Option (aC×Bool):=
 (if x2 then some (x1,false) else(idx x1.cQ w_).bind λx3=>some ((⟨x1.aE,x1.cQ.set w_.toNat (⟨true,e_,false,0⟩:vW)⟩:aC),true))
def OQ(c:aC)(w_ e_:Int):Option (aC×Bool):=
 (z7 c).bind λx1=>(qE c).bind λx4=>(if !x4 then B8 w_ e_ x1 true else(cS w_ 0 2).bind λx5=>(if !x5 then B8 w_ e_ x1 true else(cS e_ 0 c.aE).bind λx6=>B8 w_ e_ x1 (!x6)))
def K3(b:aA)(w_:Int)(s:Sub):Option (aA×Sub):=
 (if s.Pc == 0 then some (b,({s with Pc:=1,E:=b.aC.aE}:Sub)) else(if s.Pc == 1 then(OQ b.aC w_ s.E).bind λx1=>(if !x1.2 then(bT s 1).bind λx2=>some (({b with aC:=x1.1}:aA),x2) else some (({b with aC:=x1.1}:aA),({s with Pc:=2}:Sub))) else(if s.Pc == 2 then(if b.aC.aE == s.E then(bT s 0).bind λx3=>some (b,x3) else some (b,({s with Pc:=0}:Sub))) else(bT s 1).bind λx4=>some (b,x4))))
def UZ(b:aA)(w_:Int)(s:Sub):Option (aA×Sub):=
 (if s.gL then some (b,s) else(if s.Kind == 1 then(B7 b w_ s).bind λx1=>some (x1.1,x1.2) else(if s.Kind == 2 then(yU b w_ s).bind λx2=>some (x2.1,x2.2) else(if s.Kind == 3 then(vM b s).bind λx3=>some (x3.1,x3.2) else(if s.Kind == 4 then(vN b w_ s).bind λx4=>some (x4.1,x4.2) else(if s.Kind == 5 then(K3 b w_ s).bind λx5=>some (x5.1,x5.2) else(bT s 1).bind λx6=>some (b,x6)))))))
def B9(w_:Int)(x1:aC)(x2:Bool):Option (aC×Bool):=
 (if x2 then some (x1,false) else(idx x1.cQ w_).bind λx3=>some ((⟨x1.aE,x1.cQ.set w_.toNat (⟨false,0,false,0⟩:vW)⟩:aC),true))
def U0(c:aC)(w_:Int):Option (aC×Bool):=
 (z7 c).bind λx1=>(qE c).bind λx4=>(if !x4 then B9 w_ x1 true else(cS w_ 0 2).bind λx5=>(if !x5 then B9 w_ x1 true else(idx c.cQ w_).bind λx6=>B9 w_ x1 (!x6.On)))
end
end Go.Gv
end
noncomputable section
set_option maxHeartbeats 4000000
set_option maxRecDepth 100000
namespace Go.Proofs.YtonmnllkifmclaaGreat
open Go.Gv Tryz
theorem bH:V2 prog 3 1 (.int .i64 0):=wK (b:=8) (by kernel_rfl) rfl
theorem l9:V2 prog 128 3 (.agg #[.int .i64 0,.int .i64 0,.int .i64 0]):=wK (b:=24) (by kernel_rfl) rfl
theorem uG:V2 prog 61 1 (.agg #[.slice none 0 0]):=wK (b:=24) (by kernel_rfl) rfl
theorem eF:V2 prog 64 2 (.agg #[.bool false,.slice none 0 0]):=wK (b:=32) (by kernel_rfl) rfl
theorem iZ:V2 prog 233 1 (.agg #[.slice none 0 0]):=wK (b:=24) (by kernel_rfl) rfl
theorem QL:V2 prog 157 4 (.agg #[.bool false,.int .i64 0,.bool false,.int .i64 0]):=wK (b:=32) (by kernel_rfl) rfl
theorem K4:V2 prog 175 1 (.agg #[.slice none 0 0]):=wK (b:=24) (by kernel_rfl) rfl
theorem U1:V2 prog 84 3 (.agg #[.int .i64 0,.int .i64 0,.int .i64 0]):=wK (b:=24) (by kernel_rfl) rfl
theorem U2:V2 prog 93 32 (.agg #[.bool false,.bool false,.slice none 0 0,.int .i64 0,.int .i64 0,.int .i64 0,.int .i64 0,.int .i64 0,.int .i64 0,.int .i64 0,.int .i64 0,.int .i64 0,.int .i64 0,.int .i64 0,.bool false,.int .i64 0,.int .i64 0,.int .i64 0,.int .i64 0,.int .i64 0,.int .i64 0,.int .i64 0,.int .i64 0,.int .i64 0,.int .i64 0,.bool false,.slice none 0 0,.slice none 0 0,.slice none 0 0,.slice none 0 0,.slice none 0 0,.slice none 0 0]):=wK (b:=368) (by kernel_rfl) rfl
theorem nJ:V2 prog 138 6 (.agg #[.int .i64 0,.int .i64 0,.int .i64 0,.int .i64 0,.slice none 0 0,.slice none 0 0]):=wK (b:=80) (by kernel_rfl) rfl
theorem aYV:V2 prog 32 1 (.slice none 0 0):=wK (b:=24) (by kernel_rfl) rfl
theorem a4E:V2 prog 5 1 (.int .u8 0):=wK (b:=1) (by kernel_rfl) rfl
theorem yV:V2 prog 147 2 (.agg #[.int .i64 0,.int .i64 0]):=wK (b:=16) (by kernel_rfl) rfl
theorem yW:V2 prog 152 3 (.agg #[.int .i64 0,.bool false,.int .i64 0]):=wK (b:=24) (by kernel_rfl) rfl
theorem ET:V2 prog 196 2 (.agg #[.bool false,.int .i64 0]):=wK (b:=16) (by kernel_rfl) rfl
theorem QM:V2 prog 150 2 (.agg #[.int .i64 0,.int .i64 0]):=wK (b:=16) (by kernel_rfl) rfl
theorem aCS:V2 prog 25 1 (.slice none 0 0):=wK (b:=24) (by kernel_rfl) rfl
theorem yX:V2 prog 122 2 (.agg #[.int .i64 0,.int .i64 0]):=wK (b:=16) (by kernel_rfl) rfl
theorem aG:prog.follows .mixedOrders=true:=by kernel_rfl
theorem aH0(D:Nat)(d d':vW)(w:World):(Op.eqFields (D+2) #[.bool (d.On),.int .i64 (d.aE),.bool (d.gU),.int .i64 (d.Seen)] #[.bool (d'.On),.int .i64 (d'.aE),.bool (d'.gU),.int .i64 (d'.Seen)] (match prog.underlying 157 with|some (.struct fs)=>fs|_=>#[]).toList).run prog w=.ok (decide (d=d')) w:=by
 rw[underlying157];have h:(d.On == d'.On && (d.aE == d'.aE && (d.gU == d'.gU && (d.Seen == d'.Seen && true))))=decide (d=d'):=by cases d;cases d';rw[KF];simp
 rw[<-h];exact fL _ _ _ _ _ rfl (fS isAgg4 rfl) (fS isAgg4 rfl) (aDY underlying4)<|
  fL _ _ _ _ _ rfl (fS isAgg3 rfl) (fS isAgg3 rfl) (m7 underlying3)<|
  fL _ _ _ _ _ rfl (fS isAgg4 rfl) (fS isAgg4 rfl) (aDY underlying4)<|
  fL _ _ _ _ _ rfl (fS isAgg3 rfl) (fS isAgg3 rfl) (m7 underlying3)<|
  PR _ _ _
theorem aVV(D:Nat)(d d':kN)(w:World):(Op.eqFields (D+2) #[.int .i64 (d.Kind),.int .i64 (d.Key),.int .i64 (d.eI)] #[.int .i64 (d'.Kind),.int .i64 (d'.Key),.int .i64 (d'.eI)] (match prog.underlying 128 with|some (.struct fs)=>fs|_=>#[]).toList).run prog w=.ok (decide (d=d')) w:=by
 rw[underlying128];have h:(d.Kind == d'.Kind && (d.Key == d'.Key && (d.eI == d'.eI && true)))=decide (d=d'):=by cases d;cases d';rw[KF];simp
 rw[<-h];exact fL _ _ _ _ _ rfl (fS isAgg3 rfl) (fS isAgg3 rfl) (m7 underlying3)<|
  fL _ _ _ _ _ rfl (fS isAgg3 rfl) (fS isAgg3 rfl) (m7 underlying3)<|
  fL _ _ _ _ _ rfl (fS isAgg3 rfl) (fS isAgg3 rfl) (m7 underlying3)<|
  PR _ _ _
theorem aVW(D:Nat)(d d':Seen)(w:World):(Op.eqFields (D+2) #[.int .i64 (d.cR),.int .i64 (d.kC)] #[.int .i64 (d'.cR),.int .i64 (d'.kC)] (match prog.underlying 150 with|some (.struct fs)=>fs|_=>#[]).toList).run prog w=.ok (decide (d=d')) w:=by
 rw[underlying150];have h:(d.cR == d'.cR && (d.kC == d'.kC && true))=decide (d=d'):=by cases d;cases d';rw[KF];simp
 rw[<-h];exact fL _ _ _ _ _ rfl (fS isAgg3 rfl) (fS isAgg3 rfl) (m7 underlying3)<|
  fL _ _ _ _ _ rfl (fS isAgg3 rfl) (fS isAgg3 rfl) (m7 underlying3)<|
  PR _ _ _
theorem aVX(D:Nat)(d d':aW)(w:World):(Op.eqFields (D+2) #[.int .i64 (d.Key),.bool (d.KJ),.int .i64 (d.eI)] #[.int .i64 (d'.Key),.bool (d'.KJ),.int .i64 (d'.eI)] (match prog.underlying 152 with|some (.struct fs)=>fs|_=>#[]).toList).run prog w=.ok (decide (d=d')) w:=by
 rw[underlying152];have h:(d.Key == d'.Key && (d.KJ == d'.KJ && (d.eI == d'.eI && true)))=decide (d=d'):=by cases d;cases d';rw[KF];simp
 rw[<-h];exact fL _ _ _ _ _ rfl (fS isAgg3 rfl) (fS isAgg3 rfl) (m7 underlying3)<|
  fL _ _ _ _ _ rfl (fS isAgg4 rfl) (fS isAgg4 rfl) (aDY underlying4)<|
  fL _ _ _ _ _ rfl (fS isAgg3 rfl) (fS isAgg3 rfl) (m7 underlying3)<|
  PR _ _ _
theorem aVY(D:Nat)(d d':jV)(w:World):(Op.eqFields (D+2) #[.bool (d.Is),.int .i64 (d.eI)] #[.bool (d'.Is),.int .i64 (d'.eI)] (match prog.underlying 196 with|some (.struct fs)=>fs|_=>#[]).toList).run prog w=.ok (decide (d=d')) w:=by
 rw[underlying196];have h:(d.Is == d'.Is && (d.eI == d'.eI && true))=decide (d=d'):=by cases d;cases d';rw[KF];simp
 rw[<-h];exact fL _ _ _ _ _ rfl (fS isAgg4 rfl) (fS isAgg4 rfl) (aDY underlying4)<|
  fL _ _ _ _ _ rfl (fS isAgg3 rfl) (fS isAgg3 rfl) (m7 underlying3)<|
  PR _ _ _
theorem aYW(D:Nat)(d d':gR)(w:World):(Op.eqFields (D+2) #[.int .i64 (d.Key),.int .i64 (d.eI),.int .i64 (d.Next)] #[.int .i64 (d'.Key),.int .i64 (d'.eI),.int .i64 (d'.Next)] (match prog.underlying 86 with|some (.struct fs)=>fs|_=>#[]).toList).run prog w=.ok (decide (d=d')) w:=by
 rw[underlying86];have h:(d.Key == d'.Key && (d.eI == d'.eI && (d.Next == d'.Next && true)))=decide (d=d'):=by cases d;cases d';rw[KF];simp
 rw[<-h];exact fL _ _ _ _ _ rfl (fS isAgg3 rfl) (fS isAgg3 rfl) (m7 underlying3)<|
  fL _ _ _ _ _ rfl (fS isAgg3 rfl) (fS isAgg3 rfl) (m7 underlying3)<|
  fL _ _ _ _ _ rfl (fS isAgg3 rfl) (fS isAgg3 rfl) (m7 underlying3)<|
  PR _ _ _
theorem aYX(D:Nat)(d d':Sub)(w:World):(Op.eqFields (D+2) #[.int .i64 (d.Kind),.int .i64 (d.A),.int .i64 (d.Pc),.int .i64 (d.E),.int .i64 (d.Row),.int .i64 (d.B),.int .i64 (d.H),.int .i64 (d.Out),.int .i64 (d.Code),.bool (d.gL)] #[.int .i64 (d'.Kind),.int .i64 (d'.A),.int .i64 (d'.Pc),.int .i64 (d'.E),.int .i64 (d'.Row),.int .i64 (d'.B),.int .i64 (d'.H),.int .i64 (d'.Out),.int .i64 (d'.Code),.bool (d'.gL)] (match prog.underlying 88 with|some (.struct fs)=>fs|_=>#[]).toList).run prog w=.ok (decide (d=d')) w:=by
 rw[underlying88];have h:(d.Kind == d'.Kind && (d.A == d'.A && (d.Pc == d'.Pc && (d.E == d'.E && (d.Row == d'.Row && (d.B == d'.B && (d.H == d'.H && (d.Out == d'.Out && (d.Code == d'.Code && (d.gL == d'.gL && true))))))))))=decide (d=d'):=by cases d;cases d';rw[KF];simp
 rw[<-h];exact fL _ _ _ _ _ rfl (fS isAgg3 rfl) (fS isAgg3 rfl) (m7 underlying3)<|
  fL _ _ _ _ _ rfl (fS isAgg3 rfl) (fS isAgg3 rfl) (m7 underlying3)<|
  fL _ _ _ _ _ rfl (fS isAgg3 rfl) (fS isAgg3 rfl) (m7 underlying3)<|
  fL _ _ _ _ _ rfl (fS isAgg3 rfl) (fS isAgg3 rfl) (m7 underlying3)<|
  fL _ _ _ _ _ rfl (fS isAgg3 rfl) (fS isAgg3 rfl) (m7 underlying3)<|
  fL _ _ _ _ _ rfl (fS isAgg3 rfl) (fS isAgg3 rfl) (m7 underlying3)<|
  fL _ _ _ _ _ rfl (fS isAgg3 rfl) (fS isAgg3 rfl) (m7 underlying3)<|
  fL _ _ _ _ _ rfl (fS isAgg3 rfl) (fS isAgg3 rfl) (m7 underlying3)<|
  fL _ _ _ _ _ rfl (fS isAgg3 rfl) (fS isAgg3 rfl) (m7 underlying3)<|
  fL _ _ _ _ _ rfl (fS isAgg4 rfl) (fS isAgg4 rfl) (aDY underlying4)<|
  PR _ _ _
theorem aVZ(D:Nat)(d d':KV)(w:World):(Op.eqFields (D+2) #[.int .i64 (d.Key),.int .i64 (d.eI)] #[.int .i64 (d'.Key),.int .i64 (d'.eI)] (match prog.underlying 122 with|some (.struct fs)=>fs|_=>#[]).toList).run prog w=.ok (decide (d=d')) w:=by
 rw[underlying122];have h:(d.Key == d'.Key && (d.eI == d'.eI && true))=decide (d=d'):=by cases d;cases d';rw[KF];simp
 rw[<-h];exact fL _ _ _ _ _ rfl (fS isAgg3 rfl) (fS isAgg3 rfl) (m7 underlying3)<|
  fL _ _ _ _ _ rfl (fS isAgg3 rfl) (fS isAgg3 rfl) (m7 underlying3)<|
  PR _ _ _
section
open Go.RowKit Go.Shelf Go.Lib Go.Gv
set_option maxRecDepth 100000
set_option maxHeartbeats 4000000
theorem aV0(b off n c i vb:Nat)(cs vs:List Value)(w:World)(hi:i<n)(hroom:n+1<=c)(hc63:c<=9223372036854775807)(hvb:vb≠b)(hcl:cs.length=n*3)(hvl:vs.length=3)
  (hcs:bB w b off cs) (hsp:∀j,j<c*3->(w.cell? ⟨b,off+j,none⟩).isSome=true) (hfz:∀j,j<c*3->w.frozen? ⟨b,off+j,none⟩=false)
  (hvs:bB w vb 0 vs) (h1c:∀v∈cs,v.oneCell'=true) (h1v:∀v∈vs,v.oneCell'=true)
  (tA tB:TypeId) (kA kB:Nat) (hsa:w.shape? vb=some (tA,kA)) (hsb:w.shape? b=some (tB,kB)) (hkB:kB≠0) (hfa:w.frozen? ⟨vb,0,none⟩=false) (hfe:w.frozen? ⟨vb,kA,none⟩=false) :
  Calls prog 336 #[.slice (some ⟨b,off,none⟩) n c,.int .i64 i,.slice (some ⟨vb,0,none⟩) 1 1] w λe w'=>
   e=.returned (.slice (some ⟨b,off,none⟩) (n+1) c)/\w'=(w.drew.setCells b (off+(i+1)*3) (cs.drop (i*3))).setCells b (off+i*3) vs:=by
 have u0:=run_underlying underlying90;have hz2:¬((i:Int)=(n:Int)):=by omega
 have hsz:(prog.info? 152).map (·.size)=some 3:=by kernel_rfl
 have hov:∀lb cb,(callFunc 362 #[.slice (some ⟨vb,0,none⟩) 1 1,.slice (some ⟨b,off+(i+1)*3,none⟩) lb cb]).run prog w=.ok (.value (.bool false)) w:=λlb cb=>by
  rw[run_callFunc_extern func362 (by kernel_rfl) (by kernel_rfl) (by kernel_rfl) (e:=Extern.SlicesOverlaps.overlaps #[90,90] #[4]) (by kernel_rfl),
   Lib.run_overlaps_apart w 90 4 152 underlying90 3 sizeOf152 ⟨vb,0,none⟩ ⟨b,off+(i+1)*3,none⟩ 1 1 lb cb hvb tA tB kA kB hsa hsb hkB hfa hfe]
  rfl
 have hdl:(cs.drop (i*3)).length=(n-i)*3:=by rw[PQ,hcl];omega
 have mixed:=aG;have hw1:IntKind.i64.wrap ((i:Int)+1)=(i:Int)+1:=by rw[IntKind.wrap_i64];omega
 have hw2:IntKind.i64.wrap ((n:Int)+1)=(n:Int)+1:=by rw[IntKind.wrap_i64];omega
 have hb1:(0:Int)<=(i:Int)+1:=by omega
 have hin:i<=n:=by omega
 have htn:((i:Int)+1).toNat=i+1:=by omega
 have htm:((n:Int)+1).toNat=n+1:=by omega
 have hb2:¬(c=i+1):=by omega
 have hb3:(i:Int)<=(n:Int)+1:=by omega
 have hb4:¬(c=i):=by omega
 have hcp1:∀ty dc sc,(Builtin.copy_ #[90,90] ty #[.slice (some ⟨b,off+(i+1)*3,none⟩) (n-i) dc,.slice (some ⟨b,off+i*3,none⟩) (n+1-i) sc]).run prog w.drew=.ok (goInt (n-i:Nat)) (w.drew.setCells b (off+(i+1)*3) (cs.drop (i*3))):=λty dc sc=>
  xN w.drew _ _ ty 152 3 b (off+(i+1)*3) (n-i) dc ⟨b,off+i*3,none⟩ (n+1-i) sc (n-i) (cs.drop (i*3)) underlying90 hsz (by simp only[Nat.min_def];split<;>omega) hdl
   (λj v hj=>by rw[Addr.add_lit,EF];exact hcs (i*3+j) v (by rwa [aHQ] at hj))
   (λj hj=>by rw[EF];exact hsp _ (by omega)) (λj hj=>by rw[EF];exact hfz _ (by omega)) (λv hv=>h1c v (VW hv))
 obtain⟨W1,hW1⟩:∃W1,W1=w.drew.setCells b (off+(i+1)*3) (cs.drop (i*3)):=⟨_,rfl⟩;have hsp1:∀k,k<c*3->(W1.cell? ⟨b,off+k,none⟩).isSome=true:=λk hk=>by rw[hW1];exact isSome_setCells b _ _ _ (λj hj=>by rw[EF];exact hsp _ (by omega)) _ (hsp k hk)
 have hcp2:∀(W:World),(∀x,W.cell? x=W1.cell? x)->(∀x,W.frozen? x=W1.frozen? x)->∀ty dc,(Builtin.copy_ #[90,90] ty #[.slice (some ⟨b,off+i*3,none⟩) (n+1-i) dc,.slice (some ⟨vb,0,none⟩) 1 1]).run prog W=.ok (goInt 1) (W.setCells b (off+i*3) vs):=λW hWc hWf ty dc=>
  xN W _ _ ty 152 3 b (off+i*3) (n+1-i) dc ⟨vb,0,none⟩ 1 1 1 vs underlying90 hsz (by simp only[Nat.min_def];split<;>omega) (by rw[hvl])
   (λj v hj=>by
    rw[Addr.add_lit,hWc,hW1,World.cell?_setCells_out b _ _ _ _ (λh _=>absurd h hvb)];exact hvs j v hj)
   (λj hj=>by rw[hWc,EF];exact hsp1 _ (by omega)) (λj hj=>by rw[hWf,hW1,World.frozen?_setCells,EF];exact hfz _ (by omega)) h1v
 rw[<-hW1] at hcp1
 go_enter func336,ntmps336
 go_wp2_with (simp only[hov])
 go_region_law_o (refine step_copy_runI rfl _ _ 90 90 rfl _ _ (by simp[Act.eval,Act.put]) (by simp[Act.eval,Act.put]) (hcp1 _ _ _) ?_)
 go_wp2_with (at_builtin;refine wpList_copy_runI _ rfl _ _ 90 90 rfl _ _ rfl rfl (hcp2 _ (λ_=>rfl) (λ_=>rfl) _ _) ?_)
 go_ret
 first|exact⟨rfl,rfl⟩|exact⟨rfl,by rw[hW1]⟩
end
section
open Go.RowKit Go.Shelf Go.Lib Go.Gv
set_option maxRecDepth 100000
set_option maxHeartbeats 4000000
theorem aYY(b off n c vb:Nat)(vs:List Value)(w:World)(hroom:n+1<=c)(hc63:c<=9223372036854775807)(hvl:vs.length=3)
  (hsp:∀j,j<c*3->(w.cell? ⟨b,off+j,none⟩).isSome=true) (hfz:∀j,j<c*3->w.frozen? ⟨b,off+j,none⟩=false) (hvs:bB w vb 0 vs) (h1v:∀v∈vs,v.oneCell'=true) :
  Calls prog 336 #[.slice (some ⟨b,off,none⟩) n c,.int .i64 n,.slice (some ⟨vb,0,none⟩) 1 1] w λe w'=>
   e=.returned (.slice (some ⟨b,off,none⟩) (n+1) c)/\w'=w.setCells b (off+n*3) vs:=by
 have u0:=run_underlying underlying90;have mixed:=aG;obtain⟨i0,hi0,hz0,hzs,hzb⟩:=yW;have hsrc:Src prog i0.size 90 (.slice (some ⟨vb,0,none⟩) 1 1) 1 vs w:=by rw[hzs];exact Src.ofSlice w underlying90 ⟨vb,0,none⟩ 1 1 vs (by omega) (λj u hj=>by rw[Addr.add_lit];exact hvs j u hj) h1v
 have hrun:=run_append_room_src w 90 90 90 152 i0 underlying90 hi0 b off n c (.slice (some ⟨vb,0,none⟩) 1 1) 1 vs hsrc hroom (by rw[hzs,hvl];exact λj hj=>by rw[EF];exact hsp _ (by omega)) (by rw[hzs,hvl];exact λj hj=>by rw[EF];exact hfz _ (by omega));rw[hzs] at hrun
 go_enter func336,ntmps336
 go_wp2_with (at_builtin;refine Lib.wpList_append_run _ rfl _ _ _ _ rfl _ _ rfl rfl _ _ hrun ?_)
 go_ret
 exact⟨rfl,rfl⟩
theorem a4F(base:Option Addr)(n c vb:Nat)(cs vs:List Value)(w:World)(hnc:n<=c)(hroom:c<n+1)(hbig:n+1<=1073741824)(hcl:cs.length=n*3)(hvl:vs.length=3)(hnil:base=none->n=0)
  (hcs:∀a,base=some a->∀j v,cs[j]?=some v->w.cell? (a.add j)=some v) (hvs:bB w vb 0 vs) (h1v:∀v∈vs,v.oneCell'=true) :
  Calls prog 336 #[.slice base n c,.int .i64 n,.slice (some ⟨vb,0,none⟩) 1 1] w λe w'=>
   e=.returned (.slice (some ⟨w.heap.size,0,none⟩) (n+1) (grownCap w (n+1) c 152)) /\
   w'=w.drew.alloc (.cells ((cs++vs).toArray++Builtin.zeroCells (.agg #[.int .i64 0,.bool false,.int .i64 0]:Value).cells (grownCap w (n+1) c 152-(n+1))) 152):=by
 have u0:=run_underlying underlying90;have mixed:=aG;obtain⟨i0,hi0,hz0,hzs,hzb⟩:=yW;have hsrc:Src prog i0.size 90 (.slice (some ⟨vb,0,none⟩) 1 1) 1 vs w:=by rw[hzs];exact Src.ofSlice w underlying90 ⟨vb,0,none⟩ 1 1 vs (by omega) (λj u hj=>by rw[Addr.add_lit];exact hvs j u hj) h1v
 have hold:(Builtin.firstCells i0.size n (.slice base n c)).run prog w.drew=.ok cs.toArray w.drew:=by
  rw[hzs];cases base with
  |none=>
   have h0:=hnil rfl;subst h0;rw[List.length_eq_zero_iff.1 (by omega:cs.length=0)];exact run_firstCells_none w.drew 3 0 0 c
  |some a=>exact run_firstCells_some w.drew 3 n a n c cs hcl (λj v hj=>hcs a rfl j v hj)
 have hfit:Builtin.nextslicecap (n+1) c*i0.bytes<=281474976710656:=growslice_fits hroom (mC (aDV hbig hzb) (by decide));have hrun:=run_append_grow_src w 90 90 90 152 i0 _ underlying90 hi0 hz0 base n c cs hold _ 1 vs hsrc hroom (by omega) hfit
 go_enter func336,ntmps336
 cases base with
 |none=>
  have h0:=hnil rfl;subst h0
  go_wp2_with (at_builtin;refine Lib.wpList_append_run _ rfl _ _ _ _ rfl _ _ rfl rfl _ _ hrun ?_)
  go_ret
  exact⟨rfl,rfl⟩
 |some a=>
  obtain⟨ab,ao,asp⟩:=a
  go_wp2_with (at_builtin;refine Lib.wpList_append_run _ rfl _ _ _ _ rfl _ _ rfl rfl _ _ hrun ?_)
  all_goals (go_ret;exact⟨rfl,rfl⟩)
theorem aYZ(b off n c i vb:Nat)(cs vs:List Value)(w:World)(hi:i<n)(hnc:n<=c)(hroom:c<n+1)(hbig:n+1<=1073741824)(hcl:cs.length=n*3)(hvl:vs.length=3)
  (hcs:bB w b off cs) (hvs:bB w vb 0 vs) (h1c:∀v∈cs,v.oneCell'=true) (h1v:∀v∈vs,v.oneCell'=true) :
  Calls prog 336 #[.slice (some ⟨b,off,none⟩) n c,.int .i64 i,.slice (some ⟨vb,0,none⟩) 1 1] w λe w'=>
   e=.returned (.slice (some ⟨w.heap.size,0,none⟩) (n+1) (grownCap w (n+1) c 152)) /\
   w'=(((w.alloc (.cells ((cs.take (i*3)).toArray++Builtin.zeroCells (.agg #[.int .i64 0,.bool false,.int .i64 0]:Value).cells (n+1-i)++Builtin.zeroCells (.agg #[.int .i64 0,.bool false,.int .i64 0]:Value).cells (grownCap w (n+1) c 152-(n+1))) 152)).drew.setCells w.heap.size (i*3) vs).drew).setCells w.heap.size ((i+1)*3) (cs.drop (i*3)):=by
 have u0:=run_underlying underlying90;have u3:=run_underlying underlying3;have mixed:=aG;obtain⟨i0,hi0,hz0,hzs,hzb⟩:=yW;have hz2:¬((i:Int)=(n:Int)):=by omega
 have hz3:(c:Int)<(n:Int)+1:=by omega
 have hsz:(prog.info? 152).map (·.size)=some 3:=by rw[hi0];simp[hzs]
 have hbw:b<w.heap.size:=block_lt_of_cell (hcs 0 _ (jK (by omega)));have hvw:vb<w.heap.size:=block_lt_of_cell (hvs 0 _ (jK (by omega)));have hkk:(n:Int)+1-(i:Int)=((n+1-i:Nat):Int):=by omega
 have hik:i+(n+1-i)=n+1:=by omega
 have htl:(cs.take (i*3)).length=i*3:=by rw[aBD];omega
 have hold:(Builtin.firstCells i0.size i (.slice (some ⟨b,off,none⟩) i c)).run prog w.drew=.ok (cs.take (i*3)).toArray w.drew:=by
  rw[hzs];exact run_firstCells_some w.drew 3 i ⟨b,off,none⟩ i c (cs.take (i*3)) htl (λj v hj=>by
   rw[Addr.add_lit];rw[aDU] at hj;split at hj
   ·exact hcs j v hj
   ·cases hj)
 have hfit:Builtin.nextslicecap (n+1) c*i0.bytes<=281474976710656:=growslice_fits hroom (mC (aDV hbig hzb) (by decide));have hrz:∀ty,(Builtin.append_ #[90,3] ty #[.slice (some ⟨b,off,none⟩) i c,.int .i64 ((n:Int)+1-(i:Int))]).run prog w =
   .ok (.slice (some ⟨w.heap.size,0,none⟩) (n+1) (grownCap w (n+1) c 152)) (w.drew.alloc (.cells ((cs.take (i*3)).toArray++Builtin.zeroCells (.agg #[.int .i64 0,.bool false,.int .i64 0]:Value).cells (n+1-i)++Builtin.zeroCells (.agg #[.int .i64 0,.bool false,.int .i64 0]:Value).cells (grownCap w (n+1) c 152-(n+1))) 152)):=λty=>by
  have h:=Lib.run_append_grow_zeros w 90 3 ty 152 i0 _ .i64 .i64 underlying90 underlying3 hi0 hz0 (some ⟨b,off,none⟩) i c (cs.take (i*3)) hold (n+1-i) (by omega) (by omega) (by omega) (by omega) (mC (aDV (show n+1-i<=1073741824 by omega) hzb) (by decide)) (by rw[hik];exact hfit);rw[hik] at h;rw[hkk];exact h
 obtain⟨G,hG⟩:∃G,G=grownCap w (n+1) c 152:=⟨_,rfl⟩;obtain⟨ROW,hROW⟩:∃ROW:Array Value,ROW=(cs.take (i*3)).toArray++Builtin.zeroCells (.agg #[.int .i64 0,.bool false,.int .i64 0]:Value).cells (n+1-i)++Builtin.zeroCells (.agg #[.int .i64 0,.bool false,.int .i64 0]:Value).cells (G-(n+1)):=⟨_,rfl⟩;rw[<-hG] at hrz ⊢;rw[<-hROW] at hrz ⊢;have hRl:(n+1)*3<=ROW.size:=by rw[hROW];simp only[Array.size_append,aLB,htl,size_zeroCells];have:(.agg #[.int .i64 0,.bool false,.int .i64 0]:Value).cells.size=3:=rfl;rw[this];omega
 obtain⟨W1,hW1⟩:∃W1,W1=w.drew.alloc (.cells ROW 152):=⟨_,rfl⟩;rw[<-hW1] at hrz;have hN:∀j,j<(n+1)*3->(W1.cell? ⟨w.heap.size,j,none⟩).isSome=true:=λj hj=>by rw[hW1,World.cell?_alloc_at (w:=w.drew) ROW _ w.heap.size j rfl,Array.getElem?_eq_getElem (by omega)];rfl
 have hNf:∀j,W1.frozen? ⟨w.heap.size,j,none⟩=false:=λj=>by rw[hW1];exact World.frozen?_alloc_at (w:=w.drew) ROW _ w.heap.size j rfl
 have hOb:∀j v,w.cell? ⟨b,j,none⟩=some v->W1.cell? ⟨b,j,none⟩=some v:=λj v h=>by rw[hW1,World.cell?_alloc_past (w:=w.drew) _ b j hbw];exact h
 have hOv:∀j v,w.cell? ⟨vb,j,none⟩=some v->W1.cell? ⟨vb,j,none⟩=some v:=λj v h=>by rw[hW1,World.cell?_alloc_past (w:=w.drew) _ vb j hvw];exact h
 have hcpA:∀(W:World),(∀x,W.cell? x=W1.cell? x)->(∀x,W.frozen? x=W1.frozen? x)->∀ty dc,(Builtin.copy_ #[90,90] ty #[.slice (some ⟨w.heap.size,i*3,none⟩) (n+1-i) dc,.slice (some ⟨vb,0,none⟩) 1 1]).run prog W=.ok (goInt 1) (W.setCells w.heap.size (i*3) vs):=λW hWc hWf ty dc=>
  xN W _ _ ty 152 3 w.heap.size (i*3) (n+1-i) dc ⟨vb,0,none⟩ 1 1 1 vs underlying90 hsz (by simp only[Nat.min_def];split<;>omega) (by rw[hvl])
   (λj v hj=>by rw[Addr.add_lit,hWc];exact hOv _ v (hvs j v hj))
   (λj hj=>by rw[hWc];exact hN _ (by omega)) (λj hj=>by rw[hWf];exact hNf _) h1v
 have hGn:n+1<=G:=by rw[hG];exact grownCap_ge w _ _ _
 have hG63:G<=9223372036854775807:=by have:=grownCap_le_maxLen w (n+1) c 152 (by unfold maxLen;omega);rw[<-hG] at this;unfold maxLen at this;omega
 have hGi:¬(G=i):=by omega
 have hGim:¬(G=i+1):=by omega
 have hci:¬(c=i):=by omega
 have hbN:b≠w.heap.size:=by omega
 have hdl:(cs.drop (i*3)).length=(n-i)*3:=by rw[PQ,hcl];omega
 have hcpB:∀(W:World),(∀x,W.cell? x=(W1.setCells w.heap.size (i*3) vs).cell? x)->(∀x,W.frozen? x=(W1.setCells w.heap.size (i*3) vs).frozen? x)->∀ty dc sc,(Builtin.copy_ #[90,90] ty #[.slice (some ⟨w.heap.size,(i+1)*3,none⟩) (n-i) dc,.slice (some ⟨b,off+i*3,none⟩) (n-i) sc]).run prog W=.ok (goInt (n-i:Nat)) (W.setCells w.heap.size ((i+1)*3) (cs.drop (i*3))):=λW hWc hWf ty dc sc=>
  xN W _ _ ty 152 3 w.heap.size ((i+1)*3) (n-i) dc ⟨b,off+i*3,none⟩ (n-i) sc (n-i) (cs.drop (i*3)) underlying90 hsz (by simp only[Nat.min_def];split<;>omega) hdl
   (λj v hj=>by
    rw[Addr.add_lit,hWc,World.cell?_setCells_out _ _ _ _ _ (λh _=>absurd h hbN),EF];exact hOb _ v (hcs (i*3+j) v (by rwa [aHQ] at hj)))
   (λj hj=>by rw[hWc];exact isSome_setCells _ _ _ _ (λt ht=>hN _ (by omega)) _ (hN _ (by omega)))
   (λj hj=>by rw[hWf,World.frozen?_setCells];exact hNf _) (λv hv=>h1c v (VW hv))
 subst hW1;have hE1:∀x,((w.alloc (.cells ROW 152)).drew).cell? x=(w.drew.alloc (.cells ROW 152)).cell? x:=λx=>rfl;have hE2:∀x,((w.alloc (.cells ROW 152)).drew).frozen? x=(w.drew.alloc (.cells ROW 152)).frozen? x:=λx=>rfl;have hF1:∀x,(((w.alloc (.cells ROW 152)).drew.setCells w.heap.size (i*3) vs).drew).cell? x=((w.drew.alloc (.cells ROW 152)).setCells w.heap.size (i*3) vs).cell? x:=λx=>rfl;have hF2:∀x,(((w.alloc (.cells ROW 152)).drew.setCells w.heap.size (i*3) vs).drew).frozen? x=((w.drew.alloc (.cells ROW 152)).setCells w.heap.size (i*3) vs).frozen? x:=λx=>rfl;have hw1:IntKind.i64.wrap ((i:Int)+1)=(i:Int)+1:=by rw[IntKind.wrap_i64];omega
 have hw2:IntKind.i64.wrap ((n:Int)+1)=(n:Int)+1:=by rw[IntKind.wrap_i64];omega
 have hw3:IntKind.i64.wrap ((n:Int)+1-(i:Int))=(n:Int)+1-(i:Int):=by rw[IntKind.wrap_i64];omega
 have hb1:(0:Int)<=(i:Int)+1:=by omega
 have hin:i<=n:=by omega
 have htn:((i:Int)+1).toNat=i+1:=by omega
 have hb3:(i:Int)<=(n:Int):=by omega
 clear hkk hik hold hROW hG hRl htl
 go_enter func336,ntmps336
 go_wp2_with (first
  |(at_builtin;refine Lib.wpList_append_run _ rfl _ _ _ _ rfl _ _ rfl rfl _ _ (hrz _) ?_)
  |(at_builtin;refine wpList_copy_runI _ rfl _ _ 90 90 rfl _ _ rfl rfl (hcpA _ hE1 hE2 _ _) ?_)
  |(at_builtin;refine wpList_copy_runI _ rfl _ _ 90 90 rfl _ _ rfl rfl (hcpB _ (λ_=>rfl) (λ_=>rfl) _ _ _) ?_))
 go_region_law_o (refine step_copy_runI rfl _ _ 90 90 rfl (.slice (some ⟨w.heap.size,(i+1)*3,none⟩) (n-i) (G-(i+1))) (.slice (some ⟨b,off+i*3,none⟩) (n-i) (c-i)) (by simp[Act.eval,Act.put]) (by simp[Act.eval,Act.put]) (hcpB _ hF1 hF2 3 (G-(i+1)) (c-i)) ?_)
 go_wp2
 go_ret
 exact⟨rfl,rfl⟩
end
section
open Go.RowKit Go.Shelf Go.Lib Go.Gv
set_option maxRecDepth 100000
set_option maxHeartbeats 4000000
theorem aV1(b off n c i vb:Nat)(cs vs:List Value)(w:World)(hi:i<n)(hroom:n+1<=c)(hc63:c<=9223372036854775807)(hvb:vb≠b)(hcl:cs.length=n*2)(hvl:vs.length=2)
  (hcs:bB w b off cs) (hsp:∀j,j<c*2->(w.cell? ⟨b,off+j,none⟩).isSome=true) (hfz:∀j,j<c*2->w.frozen? ⟨b,off+j,none⟩=false)
  (hvs:bB w vb 0 vs) (h1c:∀v∈cs,v.oneCell'=true) (h1v:∀v∈vs,v.oneCell'=true)
  (tA tB:TypeId) (kA kB:Nat) (hsa:w.shape? vb=some (tA,kA)) (hsb:w.shape? b=some (tB,kB)) (hkB:kB≠0) (hfa:w.frozen? ⟨vb,0,none⟩=false) (hfe:w.frozen? ⟨vb,kA,none⟩=false) :
  Calls prog 150 #[.slice (some ⟨b,off,none⟩) n c,.int .i64 i,.slice (some ⟨vb,0,none⟩) 1 1] w λe w'=>
   e=.returned (.slice (some ⟨b,off,none⟩) (n+1) c)/\w'=(w.drew.setCells b (off+(i+1)*2) (cs.drop (i*2))).setCells b (off+i*2) vs:=by
 have u0:=run_underlying underlying57;have hz2:¬((i:Int)=(n:Int)):=by omega
 have hsz:(prog.info? 122).map (·.size)=some 2:=by kernel_rfl
 have hov:∀lb cb,(callFunc 245 #[.slice (some ⟨vb,0,none⟩) 1 1,.slice (some ⟨b,off+(i+1)*2,none⟩) lb cb]).run prog w=.ok (.value (.bool false)) w:=λlb cb=>by
  rw[run_callFunc_extern func245 (by kernel_rfl) (by kernel_rfl) (by kernel_rfl) (e:=Extern.SlicesOverlaps.overlaps #[57,57] #[4]) (by kernel_rfl),
   Lib.run_overlaps_apart w 57 4 122 underlying57 2 sizeOf122 ⟨vb,0,none⟩ ⟨b,off+(i+1)*2,none⟩ 1 1 lb cb hvb tA tB kA kB hsa hsb hkB hfa hfe]
  rfl
 have hdl:(cs.drop (i*2)).length=(n-i)*2:=by rw[PQ,hcl];omega
 have mixed:=aG;have hw1:IntKind.i64.wrap ((i:Int)+1)=(i:Int)+1:=by rw[IntKind.wrap_i64];omega
 have hw2:IntKind.i64.wrap ((n:Int)+1)=(n:Int)+1:=by rw[IntKind.wrap_i64];omega
 have hb1:(0:Int)<=(i:Int)+1:=by omega
 have hin:i<=n:=by omega
 have htn:((i:Int)+1).toNat=i+1:=by omega
 have htm:((n:Int)+1).toNat=n+1:=by omega
 have hb2:¬(c=i+1):=by omega
 have hb3:(i:Int)<=(n:Int)+1:=by omega
 have hb4:¬(c=i):=by omega
 have hcp1:∀ty dc sc,(Builtin.copy_ #[57,57] ty #[.slice (some ⟨b,off+(i+1)*2,none⟩) (n-i) dc,.slice (some ⟨b,off+i*2,none⟩) (n+1-i) sc]).run prog w.drew=.ok (goInt (n-i:Nat)) (w.drew.setCells b (off+(i+1)*2) (cs.drop (i*2))):=λty dc sc=>
  xN w.drew _ _ ty 122 2 b (off+(i+1)*2) (n-i) dc ⟨b,off+i*2,none⟩ (n+1-i) sc (n-i) (cs.drop (i*2)) underlying57 hsz (by simp only[Nat.min_def];split<;>omega) hdl
   (λj v hj=>by rw[Addr.add_lit,EF];exact hcs (i*2+j) v (by rwa [aHQ] at hj))
   (λj hj=>by rw[EF];exact hsp _ (by omega)) (λj hj=>by rw[EF];exact hfz _ (by omega)) (λv hv=>h1c v (VW hv))
 obtain⟨W1,hW1⟩:∃W1,W1=w.drew.setCells b (off+(i+1)*2) (cs.drop (i*2)):=⟨_,rfl⟩;have hsp1:∀k,k<c*2->(W1.cell? ⟨b,off+k,none⟩).isSome=true:=λk hk=>by rw[hW1];exact isSome_setCells b _ _ _ (λj hj=>by rw[EF];exact hsp _ (by omega)) _ (hsp k hk)
 have hcp2:∀(W:World),(∀x,W.cell? x=W1.cell? x)->(∀x,W.frozen? x=W1.frozen? x)->∀ty dc,(Builtin.copy_ #[57,57] ty #[.slice (some ⟨b,off+i*2,none⟩) (n+1-i) dc,.slice (some ⟨vb,0,none⟩) 1 1]).run prog W=.ok (goInt 1) (W.setCells b (off+i*2) vs):=λW hWc hWf ty dc=>
  xN W _ _ ty 122 2 b (off+i*2) (n+1-i) dc ⟨vb,0,none⟩ 1 1 1 vs underlying57 hsz (by simp only[Nat.min_def];split<;>omega) (by rw[hvl])
   (λj v hj=>by
    rw[Addr.add_lit,hWc,hW1,World.cell?_setCells_out b _ _ _ _ (λh _=>absurd h hvb)];exact hvs j v hj)
   (λj hj=>by rw[hWc,EF];exact hsp1 _ (by omega)) (λj hj=>by rw[hWf,hW1,World.frozen?_setCells,EF];exact hfz _ (by omega)) h1v
 rw[<-hW1] at hcp1
 go_enter func150,ntmps150
 go_wp2_with (simp only[hov])
 go_region_law_o (refine step_copy_runI rfl _ _ 57 57 rfl _ _ (by simp[Act.eval,Act.put]) (by simp[Act.eval,Act.put]) (hcp1 _ _ _) ?_)
 go_wp2_with (at_builtin;refine wpList_copy_runI _ rfl _ _ 57 57 rfl _ _ rfl rfl (hcp2 _ (λ_=>rfl) (λ_=>rfl) _ _) ?_)
 go_ret
 first|exact⟨rfl,rfl⟩|exact⟨rfl,by rw[hW1]⟩
end
section
open Go.RowKit Go.Shelf Go.Lib Go.Gv
set_option maxRecDepth 100000
set_option maxHeartbeats 4000000
theorem aY0(b off n c vb:Nat)(vs:List Value)(w:World)(hroom:n+1<=c)(hc63:c<=9223372036854775807)(hvl:vs.length=2)
  (hsp:∀j,j<c*2->(w.cell? ⟨b,off+j,none⟩).isSome=true) (hfz:∀j,j<c*2->w.frozen? ⟨b,off+j,none⟩=false) (hvs:bB w vb 0 vs) (h1v:∀v∈vs,v.oneCell'=true) :
  Calls prog 150 #[.slice (some ⟨b,off,none⟩) n c,.int .i64 n,.slice (some ⟨vb,0,none⟩) 1 1] w λe w'=>
   e=.returned (.slice (some ⟨b,off,none⟩) (n+1) c)/\w'=w.setCells b (off+n*2) vs:=by
 have u0:=run_underlying underlying57;have mixed:=aG;obtain⟨i0,hi0,hz0,hzs,hzb⟩:=yX;have hsrc:Src prog i0.size 57 (.slice (some ⟨vb,0,none⟩) 1 1) 1 vs w:=by rw[hzs];exact Src.ofSlice w underlying57 ⟨vb,0,none⟩ 1 1 vs (by omega) (λj u hj=>by rw[Addr.add_lit];exact hvs j u hj) h1v
 have hrun:=run_append_room_src w 57 57 57 122 i0 underlying57 hi0 b off n c (.slice (some ⟨vb,0,none⟩) 1 1) 1 vs hsrc hroom (by rw[hzs,hvl];exact λj hj=>by rw[EF];exact hsp _ (by omega)) (by rw[hzs,hvl];exact λj hj=>by rw[EF];exact hfz _ (by omega));rw[hzs] at hrun
 go_enter func150,ntmps150
 go_wp2_with (at_builtin;refine Lib.wpList_append_run _ rfl _ _ _ _ rfl _ _ rfl rfl _ _ hrun ?_)
 go_ret
 exact⟨rfl,rfl⟩
theorem a4G(base:Option Addr)(n c vb:Nat)(cs vs:List Value)(w:World)(hnc:n<=c)(hroom:c<n+1)(hbig:n+1<=1073741824)(hcl:cs.length=n*2)(hvl:vs.length=2)(hnil:base=none->n=0)
  (hcs:∀a,base=some a->∀j v,cs[j]?=some v->w.cell? (a.add j)=some v) (hvs:bB w vb 0 vs) (h1v:∀v∈vs,v.oneCell'=true) :
  Calls prog 150 #[.slice base n c,.int .i64 n,.slice (some ⟨vb,0,none⟩) 1 1] w λe w'=>
   e=.returned (.slice (some ⟨w.heap.size,0,none⟩) (n+1) (grownCap w (n+1) c 122)) /\
   w'=w.drew.alloc (.cells ((cs++vs).toArray++Builtin.zeroCells (.agg #[.int .i64 0,.int .i64 0]:Value).cells (grownCap w (n+1) c 122-(n+1))) 122):=by
 have u0:=run_underlying underlying57;have mixed:=aG;obtain⟨i0,hi0,hz0,hzs,hzb⟩:=yX;have hsrc:Src prog i0.size 57 (.slice (some ⟨vb,0,none⟩) 1 1) 1 vs w:=by rw[hzs];exact Src.ofSlice w underlying57 ⟨vb,0,none⟩ 1 1 vs (by omega) (λj u hj=>by rw[Addr.add_lit];exact hvs j u hj) h1v
 have hold:(Builtin.firstCells i0.size n (.slice base n c)).run prog w.drew=.ok cs.toArray w.drew:=by
  rw[hzs];cases base with
  |none=>
   have h0:=hnil rfl;subst h0;rw[List.length_eq_zero_iff.1 (by omega:cs.length=0)];exact run_firstCells_none w.drew 2 0 0 c
  |some a=>exact run_firstCells_some w.drew 2 n a n c cs hcl (λj v hj=>hcs a rfl j v hj)
 have hfit:Builtin.nextslicecap (n+1) c*i0.bytes<=281474976710656:=growslice_fits hroom (mC (aDV hbig hzb) (by decide));have hrun:=run_append_grow_src w 57 57 57 122 i0 _ underlying57 hi0 hz0 base n c cs hold _ 1 vs hsrc hroom (by omega) hfit
 go_enter func150,ntmps150
 cases base with
 |none=>
  have h0:=hnil rfl;subst h0
  go_wp2_with (at_builtin;refine Lib.wpList_append_run _ rfl _ _ _ _ rfl _ _ rfl rfl _ _ hrun ?_)
  go_ret
  exact⟨rfl,rfl⟩
 |some a=>
  obtain⟨ab,ao,asp⟩:=a
  go_wp2_with (at_builtin;refine Lib.wpList_append_run _ rfl _ _ _ _ rfl _ _ rfl rfl _ _ hrun ?_)
  all_goals (go_ret;exact⟨rfl,rfl⟩)
theorem aY1(b off n c i vb:Nat)(cs vs:List Value)(w:World)(hi:i<n)(hnc:n<=c)(hroom:c<n+1)(hbig:n+1<=1073741824)(hcl:cs.length=n*2)(hvl:vs.length=2)
  (hcs:bB w b off cs) (hvs:bB w vb 0 vs) (h1c:∀v∈cs,v.oneCell'=true) (h1v:∀v∈vs,v.oneCell'=true) :
  Calls prog 150 #[.slice (some ⟨b,off,none⟩) n c,.int .i64 i,.slice (some ⟨vb,0,none⟩) 1 1] w λe w'=>
   e=.returned (.slice (some ⟨w.heap.size,0,none⟩) (n+1) (grownCap w (n+1) c 122)) /\
   w'=(((w.alloc (.cells ((cs.take (i*2)).toArray++Builtin.zeroCells (.agg #[.int .i64 0,.int .i64 0]:Value).cells (n+1-i)++Builtin.zeroCells (.agg #[.int .i64 0,.int .i64 0]:Value).cells (grownCap w (n+1) c 122-(n+1))) 122)).drew.setCells w.heap.size (i*2) vs).drew).setCells w.heap.size ((i+1)*2) (cs.drop (i*2)):=by
 have u0:=run_underlying underlying57;have u3:=run_underlying underlying3;have mixed:=aG;obtain⟨i0,hi0,hz0,hzs,hzb⟩:=yX;have hz2:¬((i:Int)=(n:Int)):=by omega
 have hz3:(c:Int)<(n:Int)+1:=by omega
 have hsz:(prog.info? 122).map (·.size)=some 2:=by rw[hi0];simp[hzs]
 have hbw:b<w.heap.size:=block_lt_of_cell (hcs 0 _ (jK (by omega)));have hvw:vb<w.heap.size:=block_lt_of_cell (hvs 0 _ (jK (by omega)));have hkk:(n:Int)+1-(i:Int)=((n+1-i:Nat):Int):=by omega
 have hik:i+(n+1-i)=n+1:=by omega
 have htl:(cs.take (i*2)).length=i*2:=by rw[aBD];omega
 have hold:(Builtin.firstCells i0.size i (.slice (some ⟨b,off,none⟩) i c)).run prog w.drew=.ok (cs.take (i*2)).toArray w.drew:=by
  rw[hzs];exact run_firstCells_some w.drew 2 i ⟨b,off,none⟩ i c (cs.take (i*2)) htl (λj v hj=>by
   rw[Addr.add_lit];rw[aDU] at hj;split at hj
   ·exact hcs j v hj
   ·cases hj)
 have hfit:Builtin.nextslicecap (n+1) c*i0.bytes<=281474976710656:=growslice_fits hroom (mC (aDV hbig hzb) (by decide));have hrz:∀ty,(Builtin.append_ #[57,3] ty #[.slice (some ⟨b,off,none⟩) i c,.int .i64 ((n:Int)+1-(i:Int))]).run prog w =
   .ok (.slice (some ⟨w.heap.size,0,none⟩) (n+1) (grownCap w (n+1) c 122)) (w.drew.alloc (.cells ((cs.take (i*2)).toArray++Builtin.zeroCells (.agg #[.int .i64 0,.int .i64 0]:Value).cells (n+1-i)++Builtin.zeroCells (.agg #[.int .i64 0,.int .i64 0]:Value).cells (grownCap w (n+1) c 122-(n+1))) 122)):=λty=>by
  have h:=Lib.run_append_grow_zeros w 57 3 ty 122 i0 _ .i64 .i64 underlying57 underlying3 hi0 hz0 (some ⟨b,off,none⟩) i c (cs.take (i*2)) hold (n+1-i) (by omega) (by omega) (by omega) (by omega) (mC (aDV (show n+1-i<=1073741824 by omega) hzb) (by decide)) (by rw[hik];exact hfit);rw[hik] at h;rw[hkk];exact h
 obtain⟨G,hG⟩:∃G,G=grownCap w (n+1) c 122:=⟨_,rfl⟩;obtain⟨ROW,hROW⟩:∃ROW:Array Value,ROW=(cs.take (i*2)).toArray++Builtin.zeroCells (.agg #[.int .i64 0,.int .i64 0]:Value).cells (n+1-i)++Builtin.zeroCells (.agg #[.int .i64 0,.int .i64 0]:Value).cells (G-(n+1)):=⟨_,rfl⟩;rw[<-hG] at hrz ⊢;rw[<-hROW] at hrz ⊢;have hRl:(n+1)*2<=ROW.size:=by rw[hROW];simp only[Array.size_append,aLB,htl,size_zeroCells];have:(.agg #[.int .i64 0,.int .i64 0]:Value).cells.size=2:=rfl;rw[this];omega
 obtain⟨W1,hW1⟩:∃W1,W1=w.drew.alloc (.cells ROW 122):=⟨_,rfl⟩;rw[<-hW1] at hrz;have hN:∀j,j<(n+1)*2->(W1.cell? ⟨w.heap.size,j,none⟩).isSome=true:=λj hj=>by rw[hW1,World.cell?_alloc_at (w:=w.drew) ROW _ w.heap.size j rfl,Array.getElem?_eq_getElem (by omega)];rfl
 have hNf:∀j,W1.frozen? ⟨w.heap.size,j,none⟩=false:=λj=>by rw[hW1];exact World.frozen?_alloc_at (w:=w.drew) ROW _ w.heap.size j rfl
 have hOb:∀j v,w.cell? ⟨b,j,none⟩=some v->W1.cell? ⟨b,j,none⟩=some v:=λj v h=>by rw[hW1,World.cell?_alloc_past (w:=w.drew) _ b j hbw];exact h
 have hOv:∀j v,w.cell? ⟨vb,j,none⟩=some v->W1.cell? ⟨vb,j,none⟩=some v:=λj v h=>by rw[hW1,World.cell?_alloc_past (w:=w.drew) _ vb j hvw];exact h
 have hcpA:∀(W:World),(∀x,W.cell? x=W1.cell? x)->(∀x,W.frozen? x=W1.frozen? x)->∀ty dc,(Builtin.copy_ #[57,57] ty #[.slice (some ⟨w.heap.size,i*2,none⟩) (n+1-i) dc,.slice (some ⟨vb,0,none⟩) 1 1]).run prog W=.ok (goInt 1) (W.setCells w.heap.size (i*2) vs):=λW hWc hWf ty dc=>
  xN W _ _ ty 122 2 w.heap.size (i*2) (n+1-i) dc ⟨vb,0,none⟩ 1 1 1 vs underlying57 hsz (by simp only[Nat.min_def];split<;>omega) (by rw[hvl])
   (λj v hj=>by rw[Addr.add_lit,hWc];exact hOv _ v (hvs j v hj))
   (λj hj=>by rw[hWc];exact hN _ (by omega)) (λj hj=>by rw[hWf];exact hNf _) h1v
 have hGn:n+1<=G:=by rw[hG];exact grownCap_ge w _ _ _
 have hG63:G<=9223372036854775807:=by have:=grownCap_le_maxLen w (n+1) c 122 (by unfold maxLen;omega);rw[<-hG] at this;unfold maxLen at this;omega
 have hGi:¬(G=i):=by omega
 have hGim:¬(G=i+1):=by omega
 have hci:¬(c=i):=by omega
 have hbN:b≠w.heap.size:=by omega
 have hdl:(cs.drop (i*2)).length=(n-i)*2:=by rw[PQ,hcl];omega
 have hcpB:∀(W:World),(∀x,W.cell? x=(W1.setCells w.heap.size (i*2) vs).cell? x)->(∀x,W.frozen? x=(W1.setCells w.heap.size (i*2) vs).frozen? x)->∀ty dc sc,(Builtin.copy_ #[57,57] ty #[.slice (some ⟨w.heap.size,(i+1)*2,none⟩) (n-i) dc,.slice (some ⟨b,off+i*2,none⟩) (n-i) sc]).run prog W=.ok (goInt (n-i:Nat)) (W.setCells w.heap.size ((i+1)*2) (cs.drop (i*2))):=λW hWc hWf ty dc sc=>
  xN W _ _ ty 122 2 w.heap.size ((i+1)*2) (n-i) dc ⟨b,off+i*2,none⟩ (n-i) sc (n-i) (cs.drop (i*2)) underlying57 hsz (by simp only[Nat.min_def];split<;>omega) hdl
   (λj v hj=>by
    rw[Addr.add_lit,hWc,World.cell?_setCells_out _ _ _ _ _ (λh _=>absurd h hbN),EF];exact hOb _ v (hcs (i*2+j) v (by rwa [aHQ] at hj)))
   (λj hj=>by rw[hWc];exact isSome_setCells _ _ _ _ (λt ht=>hN _ (by omega)) _ (hN _ (by omega)))
   (λj hj=>by rw[hWf,World.frozen?_setCells];exact hNf _) (λv hv=>h1c v (VW hv))
 subst hW1;have hE1:∀x,((w.alloc (.cells ROW 122)).drew).cell? x=(w.drew.alloc (.cells ROW 122)).cell? x:=λx=>rfl;have hE2:∀x,((w.alloc (.cells ROW 122)).drew).frozen? x=(w.drew.alloc (.cells ROW 122)).frozen? x:=λx=>rfl;have hF1:∀x,(((w.alloc (.cells ROW 122)).drew.setCells w.heap.size (i*2) vs).drew).cell? x=((w.drew.alloc (.cells ROW 122)).setCells w.heap.size (i*2) vs).cell? x:=λx=>rfl;have hF2:∀x,(((w.alloc (.cells ROW 122)).drew.setCells w.heap.size (i*2) vs).drew).frozen? x=((w.drew.alloc (.cells ROW 122)).setCells w.heap.size (i*2) vs).frozen? x:=λx=>rfl;have hw1:IntKind.i64.wrap ((i:Int)+1)=(i:Int)+1:=by rw[IntKind.wrap_i64];omega
 have hw2:IntKind.i64.wrap ((n:Int)+1)=(n:Int)+1:=by rw[IntKind.wrap_i64];omega
 have hw3:IntKind.i64.wrap ((n:Int)+1-(i:Int))=(n:Int)+1-(i:Int):=by rw[IntKind.wrap_i64];omega
 have hb1:(0:Int)<=(i:Int)+1:=by omega
 have hin:i<=n:=by omega
 have htn:((i:Int)+1).toNat=i+1:=by omega
 have hb3:(i:Int)<=(n:Int):=by omega
 clear hkk hik hold hROW hG hRl htl
 go_enter func150,ntmps150
 go_wp2_with (first
  |(at_builtin;refine Lib.wpList_append_run _ rfl _ _ _ _ rfl _ _ rfl rfl _ _ (hrz _) ?_)
  |(at_builtin;refine wpList_copy_runI _ rfl _ _ 57 57 rfl _ _ rfl rfl (hcpA _ hE1 hE2 _ _) ?_)
  |(at_builtin;refine wpList_copy_runI _ rfl _ _ 57 57 rfl _ _ rfl rfl (hcpB _ (λ_=>rfl) (λ_=>rfl) _ _ _) ?_))
 go_region_law_o (refine step_copy_runI rfl _ _ 57 57 rfl (.slice (some ⟨w.heap.size,(i+1)*2,none⟩) (n-i) (G-(i+1))) (.slice (some ⟨b,off+i*2,none⟩) (n-i) (c-i)) (by simp[Act.eval,Act.put]) (by simp[Act.eval,Act.put]) (hcpB _ hF1 hF2 3 (G-(i+1)) (c-i)) ?_)
 go_wp2
 go_ret
 exact⟨rfl,rfl⟩
end
section
open Go Go.RowKit
attribute [local go_sem] Oper.semAt_some
def bDW(x:Nat×Int):Array Value:=#[.int .i64 (x.1:Int),.int .i64 x.2]
theorem bKV{n l Bs n₀ z cap len:Nat}{a:Option Addr}{ls:List Int}{F:Fence}(hlen:ls.length=len)(h7:F.fn 144)(hro:F.round=none)(hn:1<=n)(hreach:len<=9223372036854775807)(hb:Bs<n₀/\Bs≠z)(J:List (Nat×Int)->World->Prop)
  (hY:∀pre x W,J pre W->(pre.length<len/\ls[len-1-pre.length]?=some x.2)->YieldAt F (n-1) prog l (bDW x) W λe W'=>e=.returned (.bool true)/\J (pre++[x]) W'/\KX n₀ z W W')
  (W:World) (hBs:W.cell? ⟨Bs,0,none⟩=some (.slice a len cap)) (hc:ls=[]\/∃b off,a=some ⟨b,off,none⟩/\(b<n₀/\b≠z)/\∀j v,ls[j]?=some v->W.cell? ⟨b,off+j,none⟩=some (.int .i64 v)) (h0:J [] W) :
  CallsIn F n prog 144 #[.func (.yield l) #[] #[],.pointer (some ⟨Bs,0,none⟩)] W λe W'=>(∃v,e=.returned v)/\∃xs,xs.length=len/\J xs W':=by
 have kx:∀{A B:World} {b o:Nat},KX n₀ z A B->b<n₀/\b≠z->B.cell? ⟨b,o,none⟩=A.cell? ⟨b,o,none⟩:=λh hb=>World.cell?_of_block (h.IS _ hb.1 hb.2);refine callsIn_of_wp func144 rfl h7 ?_ hro;simp only[ntmps144,aLB,BC,List.length_nil,Nat.reduceAdd,Nat.reduceSub,Array.replicate_succ,Array.replicate_zero,List.push_toArray,List.append_toArray,VX,KG]
 gi_wp2
 gi_loopw [3] (λi wr=>∃pre,pre.length<=len/\i=.int .i64 ((len:Int)-1-pre.length)/\J pre wr/\KX n₀ z W wr)
  (λi _=>(intOf i+1).toNat)
 case atStart=>exact⟨[],iY _,by simp,h0,KX.refl _ _ _⟩
 case round=>
  obtain⟨pre,hk,rfl,hJs,hnx⟩:=hrel;have hBs':=(kx (o:=0) hnx hb).trans hBs;by_cases hlt:pre.length<len
  ·obtain⟨b,off,rfl,hbn,hc⟩:=hc.resolve_left (by rintro rfl;simp at hlen;omega);have hi:len-1-pre.length<ls.length:=by omega
   obtain⟨fn,tmps,assign,body,hy,hR⟩:=hY _ (len-1-pre.length,ls[len-1-pre.length]) wr hJs ⟨hlt,jK hi⟩;have c0:=(kx (o:=off+(len-1-pre.length)) hnx hbn).trans (hc (len-1-pre.length) _ (jK hi));have e1:((len-1-pre.length:Nat):Int)=(len:Int)-1-pre.length:=by omega
   simp only[bDW] at hy;rw[e1] at hy;generalize hp:pre.length=k at *
   gi_wp2
   refine hR.mono ?_;rintro e W3 ⟨rfl,hJ3,hk3⟩
   gi_wp2
   go_roundw
   case rel=>exact⟨_,by simp;omega,by simp;omega,hJ3,hnx.trans hk3⟩
   case measure=>simp[intOf];omega
  ·generalize hp:pre.length=k at *;obtain rfl:k=len:=by omega
   gi_wp2
   go_end0
   exact⟨⟨_,rfl⟩,_,hp,hJs⟩
theorem bKW{F:Fence}(n:Nat)(h5:F.fn 64)(hro:F.round=none)(a:Option Addr)(len cap:Nat)(w:World) :
  CallsIn F n prog 64 #[.slice a len cap] w λe w'=>e=.returned (.func (.func 144) #[] #[.pointer (some ⟨w.heap.size,0,none⟩)])/\w'=w.alloc (.cells #[.slice a len cap] 25):=by
 refine callsIn_of_wp func64 rfl h5 ?_ hro;simp only[ntmps64,aLB,BC,List.length_nil,Nat.reduceAdd,Nat.reduceSub,Array.replicate_succ,Array.replicate_zero,List.push_toArray,List.append_toArray,VX,KG]
 gi_wp2
 go_ret
 exact⟨rfl,rfl⟩
theorem aMN{t:Table}{l:List Int}:∀{ls:List (List Int)} {m:List KV},tmL t (ls++[l]) m=(tmL t ls m).bind (tmB t l)
 |[],m=>by simp[tmL]
 |a::ls,m=>by simp only[KG,tmL,Option.bind_assoc];congr 1;funext m';exact aMN
theorem a18{t:Table}{b:List Int}{m r:List KV}:∀{a:List Int},tmB t (a++b) m=some r->∃q,tmB t b m=some q
 |[],h=>⟨r,h⟩
 |x::a,h=>by
  simp only[KG,tmB] at h;cases e:tmB t (a++b) m with
  |none=>rw[e] at h;cases h
  |some q=>exact a18 e
theorem a19{t:Table}:∀{a b:List (List Int)} {m r:List KV},tmL t (a++b) m=some r->∃q,tmL t a m=some q
 |[],b,m,r,h=>⟨m,rfl⟩
 |x::a,b,m,r,h=>by
  simp only[KG,tmL] at h ⊢;cases e:tmB t x m with
  |none=>rw[e] at h;cases h
  |some q=>rw[e] at h;exact a19 h
structure WF (w:World) (z:Nat) (A:Array Value) (y:AC) (L:List (List Int)) (m:List KV) (W:World):Prop where
 below:Below w.heap.size w W
 b1:W.heap[w.heap.size]?=some (.cells A 47 (0,0))
 b3:∃v,W.heap[z]?=some (.cells #[v] 57 (0,0))/\(∃yv:AC,v=yv.v m.length)/\OwZ w.heap.size z W v m
 ls:RdZ z W [y.v L.length] L
theorem WF.kept{w W W':World}{z:Nat}{A:Array Value}{y:AC}{L:List (List Int)}{m:List KV}(h:WF w z A y L m W)(hb:Below w.heap.size w W')(hz:w.heap.size≠z)(hk:CK z W W')(h3:W'.heap[z]?=W.heap[z]?):WF w z A y L m W':=by obtain⟨v,e1,e2,e3⟩:=h.b3;exact⟨hb,(hk _ _ _ _ hz h.b1).trans h.b1,⟨v,h3.trans e1,e2,e3.kept hk⟩,h.ls.kept hk⟩
theorem bDX{w:World}{t:Table}{v0 v1 v2 v3 v4 v5 v6 v7 v8 v9 v10 v11 v12:Value}{L:List (List Int)}{ok:Bool}{r:List KV}(hr:tmL t L []=some r)
  (hch:∀W,Below w.heap.size w W->CallsIn Fence.wide 7 prog 63 #[.agg #[v0,v1,v2,v3,v4,v5,v6,v7,v8,v9,v10,v11,v12]] W λe W'=>∃y:AC,e=.returned (.tuple #[y.v L.length,.bool ok])/\Below W.heap.size W W'/\∀z,z<W.heap.size->RdZ z W' [y.v L.length] L)
  (hnd:∀n W h nd,Below w.heap.size w W->pZ t.aA.Mem.Heap (Int.tmod h 32)=some nd->CallsIn Fence.wide n prog 65 #[.agg #[v0,v1],.int .i64 (Int.tmod h 32)] W λe W'=>e=.returned (.agg #[.int .i64 nd.Key,.int .i64 nd.eI,.int .i64 nd.Next])/\Below W.heap.size W W')
  (hmp:∀n W z v (m:List KV) k x q,w.heap.size<=W.heap.size->z<W.heap.size->(∃yv:AC,v=yv.v m.length)->RdZ z W [v] m->ES m k x=some q->CallsIn Fence.wide n prog 66 #[v,.int .i64 k,.int .i64 x] W λe W'=>∃y:AC,e=.returned (y.v q.length)/\Below W.heap.size W W'/\OwZ w.heap.size z W' (y.v q.length) q) :
  CallsIn Fence.wide 8 prog 20 #[.agg #[v0,v1,v2,v3,v4,v5,v6,v7,v8,v9,v10,v11,v12]] w λe W'=>∃y:AC,e=.returned (y.v r.length)/\Below w.heap.size w W'/\OwZ w.heap.size (w.heap.size+2) W' (y.v r.length) r:=by
 refine callsIn_of_wp_marks func20 rfl trivial ?_ rfl;simp only[ntmps20,aLB,BC,List.length_nil,Nat.reduceAdd,Nat.reduceSub,Array.replicate_succ,Array.replicate_zero,List.push_toArray,List.append_toArray,VX,KG]
 gi_wp2
 refine⟨trivial,(hch _ ?_).mono ?_⟩
 ·exact(((Below.refl _ w).alloc (iE _) _).alloc (by simp) _).alloc (by simp;omega) _
 ·rintro e W0 ⟨y,rfl,hb0,hL0⟩;simp only[]
  go_at_K
  gi_wp2
  have hb1:Below w.heap.size w W0:=((((Below.refl _ w).alloc (iE _) _).alloc (by simp) _).alloc (by simp;omega) _).trans (hb0.mono (by simp;omega));refine wpIn_loop (λa' W'=>∃(k:Nat) (u7 u20 u21 u22 u23 u24 u40:Value) (ds:List Deferred) (m:List KV),k<=L.length/\tmL t (L.take k) []=some m/\WF w (w.heap.size+2) #[v0,v1,v2,v3,v4,v5,v6,v7,v8,v9,v10,v11,v12] y L m W'/\(Mks ds W'/\∀D,mkD D∈ds->w.heap.size+2<D)/\a'=⟨#[.agg #[v0,v1,v2,v3,v4,v5,v6,v7,v8,v9,v10,v11,v12],.pointer (some ⟨w.heap.size,0,none⟩),.slice none 0 0,.pointer (some ⟨w.heap.size+1+1,0,none⟩),y.v L.length,.bool ok,undef,u7,undef,undef,undef,.slice (some ⟨w.heap.size+1,0,none⟩) 0 0,.tuple #[y.v L.length,.bool ok],.agg #[v0,v1,v2,v3,v4,v5,v6,v7,v8,v9,v10,v11,v12],.tuple #[y.v L.length,.bool ok],y.v L.length,.bool ok,y.v L.length,.int .i64 L.length,.int .i64 k,u20,u21,u22,u23,u24,undef,undef,undef,undef,undef,undef,undef,undef,undef,undef,undef,undef,undef,undef,undef,u40,undef],ds⟩) (λa' _=>L.length-(intOf (a'.tmps.getD 19 undef)).toNat) ?_ ?_
  ·refine⟨0,_,_,_,_,_,_,_,[],[],iY _,rfl,⟨hb1,?_,⟨_,?_,⟨⟨some ⟨w.heap.size+1,0,none⟩,0⟩,rfl⟩,bDO _ _⟩,hL0 _ (by simp)⟩,⟨trivial,λD h=>by cases h⟩,rfl⟩
   ·exact(hb0.block _ (by simp;omega)).trans (((Below.heap_alloc _ _ _ (by simp;omega)).trans (Below.heap_alloc _ _ _ (by simp))).trans (World.alloc_heap_new w _))
   ·have b2:=λo o' o''=>World.alloc_heap_new ((w.alloc o).alloc o') o'';simp only[World.size_alloc] at b2;exact(hb0.block _ (by simp)).trans (b2 _ _ _)
  ·rintro a' W ⟨k,u7,u20,u21,u22,u23,u24,u40,ds,m,hk,hm,hw,⟨hd1,hd2⟩,rfl⟩;by_cases hlt:k<L.length
   ·obtain⟨ya,yc,ye,q1,q2,q3⟩:=(show qZ _ _ _ _ from hw.ls);obtain⟨yb,yo,rfl,q4⟩:=q3.resolve_left (by rintro rfl;simp at hlt);obtain⟨ec,g1,g2,g3⟩:=q4 k hlt;obtain⟨la,lc,rfl,p1,p2,p3⟩:=(show qZ _ _ _ _ from g3);injection ye with ye
    rw[ye];have hc0:W.cell? ⟨yb,yo+k,none⟩=some (.slice la L[k].length lc):=by simpa[show aK.n (List Int)=1 from rfl] using g1 0 _ rfl
    have hin:L[k]=[]\/∃b off,la=some ⟨b,off,none⟩/\(b<W.heap.size/\b≠w.heap.size+2)/\∀j v,L[k][j]?=some v->W.cell? ⟨b,off+j,none⟩=some (.int .i64 v):=by
     refine Decidable.or_iff_not_imp_left.2 λhne=>?_;obtain⟨b,off,e,h⟩:=p3.resolve_left hne;have key:∀j v,L[k][j]?=some v->b≠w.heap.size+2/\W.cell? ⟨b,off+j,none⟩=some (.int .i64 v):=λj v hj=>by obtain⟨hlt,rfl⟩:=A8.1 hj;obtain⟨ec,c1,c2,c3⟩:=h j hlt;have c3:ec=[.int .i64 L[k][j]]:=c3;subst c3;simp only[show aK.n Int=1 from rfl,Nat.mul_one] at c1 c2;exact⟨(c2 (off+j) ⟨rfl,by omega,by simp⟩).1,by simpa using c1 0 _ rfl⟩
     have h0:=key 0 _ (jK (List.length_pos_iff.2 hne));exact⟨b,off,e,⟨World.block_lt_of_cell? W _ h0.2,h0.1⟩,λj v hj=>(key j v hj).2⟩
    have hsuc:∃m',tmB t L[k] m=some m'/\tmL t (L.take (k+1)) []=some m':=by obtain⟨q,hq⟩:=a19 (a:=L.take (k+1)) (b:=L.drop (k+1)) (by rw[aBH];exact hr);rw[MF hlt,aMN,hm] at hq;exact⟨q,hq,by rw[MF hlt,aMN,hm];exact hq⟩
    obtain⟨m',hm1,hm2⟩:=hsuc;have hLl:L.length<=9223372036854775807:=by have:=q1;simp only[maxLen] at q2;omega
    have hlen:L[k].length<=9223372036854775807:=by have:=p1;have:=p2;simp only[maxLen] at p2;omega
    clear g1 g2 g3 p1 p2 p3 q3 q4;generalize L[k]=ls at *
    gi_wp2
    refine⟨trivial,(bKW (F:=Fence.wide) 7 trivial rfl _ _ _ _).mono ?_⟩;rintro e W1 ⟨rfl,rfl⟩;simp only[]
    go_at_K
    gi_wp2
    have hdB:∀D,mkD D∈ds->D<W.heap.size:=λD hD=>(aH8.1 (hd1.at D hD)).1;have hzW:w.heap.size+2<W.heap.size:=(let ⟨_,h,_⟩:=hw.b3;(aH8.1 h).1);refine a8P (F:=Fence.wide) rfl (by decide) (gf:=144) (lb:=#[.pointer (some ⟨W.heap.size,0,none⟩)]) (n₀:=W.heap.size+1) (z:=w.heap.size+2) (encs:=bDW) (S:=λxs=>xs.length=ls.length) (R:=λpre x=>pre.length<ls.length/\ls[ls.length-1-pre.length]?=some x.2) (w0:=W.alloc (.cells #[.slice la ls.length lc] 25)) rfl trivial call144 ?hseq (by simp) (Below.refl _ _) (λ_=>rfl)
     (λpre W'=>∃m',tmB t (ls.drop (ls.length-pre.length)) m=some m'/\WF w (w.heap.size+2) #[v0,v1,v2,v3,v4,v5,v6,v7,v8,v9,v10,v11,v12] y L m' W'/\Mks ds W') ?hI ?h0 (λx=>⟨#[.agg #[v0,v1,v2,v3,v4,v5,v6,v7,v8,v9,v10,v11,v12],.pointer (some ⟨w.heap.size,0,none⟩),.slice none 0 0,.pointer (some ⟨w.heap.size+1+1,0,none⟩),.slice (some ⟨yb,yo,none⟩) L.length yc,.bool ok,undef,.slice la ls.length lc,undef,.int .i64 x.2,undef,.slice (some ⟨w.heap.size+1,0,none⟩) 0 0,.tuple #[.slice (some ⟨yb,yo,none⟩) L.length yc,.bool ok],.agg #[v0,v1,v2,v3,v4,v5,v6,v7,v8,v9,v10,v11,v12],.tuple #[.slice (some ⟨yb,yo,none⟩) L.length yc,.bool ok],.slice (some ⟨yb,yo,none⟩) L.length yc,.bool ok,.slice (some ⟨yb,yo,none⟩) L.length yc,.int .i64 L.length,.int .i64 k,.bool true,.pointer (some ⟨yb,yo+k,none⟩),.slice la ls.length lc,.slice la ls.length lc,.func (.func 144) #[] #[.pointer (some ⟨W.heap.size,0,none⟩)],.int .i64 (x.1:Int),.int .i64 x.2,undef,undef,undef,undef,undef,undef,undef,undef,undef,undef,undef,undef,undef,u40,undef],[]⟩) ?hassign ?hbody ?hdone
    case hassign=>
     rintro l x W'
     gi_wp2
     exact⟨by simp[bDW],trivial⟩
    case hbody=>
     rintro l pre x W' hs ⟨hp1,hp2⟩ ⟨m1,e1,e2,e3⟩;obtain⟨_,f1,⟨yv,rfl⟩,f3⟩:=e2.b3;have hnx:∃nd q,pZ t.aA.Mem.Heap (Int.tmod x.2 32)=some nd/\ES m1 nd.Key nd.eI=some q/\tmB t (ls.drop (ls.length-(pre++[x]).length)) m=some q:=by
      obtain⟨hi,hx⟩:=A8.1 hp2;have hdr:ls.drop (ls.length-(pre++[x]).length)=x.2::ls.drop (ls.length-pre.length):=by rw[show ls.length-(pre++[x]).length=ls.length-1-pre.length by simp;omega,AG hi,hx];congr 2;omega
      obtain⟨q,hq⟩:=a18 (a:=ls.take (ls.length-(pre++[x]).length)) (by rw[aBH];exact hm1);have hq':=hq;rw[hdr] at hq';simp only[tmB,e1,aJ] at hq';cases en:pZ t.aA.Mem.Heap (Int.tmod x.2 32) with
      |none=>rw[en] at hq';cases hq'
      |some nd=>rw[en] at hq';exact⟨nd,q,rfl,hq',hq⟩
     obtain⟨nd,q,d1,d2,d3⟩:=hnx;have hx0:W'.cell? ⟨w.heap.size,0,none⟩=some (v0):=by simp[World.cell?,e2.b1]
     have hx1:W'.cell? ⟨w.heap.size,1,none⟩=some (v1):=by simp[World.cell?,e2.b1]
     gi_wp2
     refine⟨trivial,(show CallsIn (Fence.wide.inRound l) 5 _ _ _ _ _ from hnd 5 W' x.2 nd e2.below d1).mono ?_⟩;rintro e W1 ⟨rfl,hb1⟩;simp only[]
     go_at_K
     have hzl:w.heap.size+2<W'.heap.size:=(aH8.1 f1).1;have hB12:Below W'.heap.size W' (W1.alloc (.cells #[.int .i64 nd.Key,.int .i64 nd.eI,.int .i64 nd.Next] 86)):=hb1.trans (((Below.refl _ W1).alloc (iE _) _).mono hb1.size);have c2:(W1.alloc (.cells #[.int .i64 nd.Key,.int .i64 nd.eI,.int .i64 nd.Next] 86)).heap[W1.heap.size]?=some (.cells #[.int .i64 nd.Key,.int .i64 nd.eI,.int .i64 nd.Next] 86):=World.alloc_heap_new W1 _;have c20:(W1.alloc (.cells #[.int .i64 nd.Key,.int .i64 nd.eI,.int .i64 nd.Next] 86)).cell? ⟨W1.heap.size,0,none⟩=some (.int .i64 nd.Key):=by simp only[World.cell?,c2];rfl
     have c21:(W1.alloc (.cells #[.int .i64 nd.Key,.int .i64 nd.eI,.int .i64 nd.Next] 86)).cell? ⟨W1.heap.size,1,none⟩=some (.int .i64 nd.eI):=by simp only[World.cell?,c2];rfl
     have c2z:(W1.alloc (.cells #[.int .i64 nd.Key,.int .i64 nd.eI,.int .i64 nd.Next] 86)).heap[w.heap.size+1+1]?=some (.cells #[yv.v m1.length] 57 (0,0)):=(hB12.block _ hzl).trans f1;have c23:(W1.alloc (.cells #[.int .i64 nd.Key,.int .i64 nd.eI,.int .i64 nd.Next] 86)).cell? ⟨w.heap.size+1+1,0,none⟩=some (yv.v m1.length):=by simp only[World.cell?,c2z];rfl
     gi_wp2
     refine⟨trivial,(show CallsIn (Fence.wide.inRound l) 5 _ _ _ _ _ from hmp 5 (W1.alloc (.cells #[.int .i64 nd.Key,.int .i64 nd.eI,.int .i64 nd.Next] 86)) (w.heap.size+2) _ m1 nd.Key nd.eI q (mC e2.below.size hB12.size) (ID hzl hB12.size) ⟨yv,rfl⟩ (f3.kept (CK.below hB12)).rdZ d2).mono ?_⟩;rintro e W3 ⟨y3,rfl,hb3,hr3⟩;simp only[]
     go_at_K
     have hB23:Below W'.heap.size W' W3:=hB12.trans (hb3.mono hB12.size);have c3z:W3.heap[w.heap.size+1+1]?=some (.cells #[yv.v m1.length] 57 (0,0)):=(hB23.block _ hzl).trans f1;have c30:W3.cell? ⟨w.heap.size+1+1,0,none⟩=some (yv.v m1.length):=by simp[World.cell?,c3z]
     have c31:W3.frozen? ⟨w.heap.size+1+1,0,none⟩=false:=by simp[World.frozen?,c3z]
     gi_wp2
     rw[aVJ c3z];have hW4:∃W4,W4=W3.putObj (w.heap.size+1+1) (.cells (#[yv.v m1.length].setIfInBounds 0 (.slice y3.a q.length y3.c)) 57 (0,0)):=⟨_,rfl⟩;obtain⟨W4,hW4⟩:=hW4;rw[<-hW4];have o4:∀b,b≠w.heap.size+2->W4.heap[b]?=W3.heap[b]?:=λb hb=>by rw[hW4];exact World.putObj_heap_other hb
     have z4:W4.heap[w.heap.size+2]?=some (.cells #[y3.v q.length] 57 (0,0)):=by rw[hW4];exact World.putObj_heap_same (ID hzl hB23.size)
     have s4':W4.heap.size=W3.heap.size:=by rw[hW4];simp[World.putObj]
     have k4:CK (w.heap.size+2) W3 W4:=λb _ _ _ hb _=>o4 b hb;simp only[World.size_alloc] at hs;refine⟨⟨by rw[s4'];exact hB23.size,λk o hk ho hoc=>?_⟩,⟨by rw[s4'];exact hB23.size,λk hk hz=>(o4 k hz).trans (hB23.block k (by omega))⟩,q,d3,⟨⟨?_,?_,?_,?_,λk hk=>?_⟩,(o4 _ (by omega)).trans ((hB23.block _ (by have:=e2.below.size;omega)).trans e2.b1),⟨_,z4,⟨y3,rfl⟩,hr3.kept k4⟩,e2.ls.kept ((CK.below hB23).trans k4)⟩,e3.kept λD hD _=>(o4 D (by have:=hd2 D hD;omega)).trans (hB23.block D (by have:=hdB D hD;omega))⟩
     ·simp only[World.size_alloc] at hk;exact(o4 k (by omega)).trans ((hB23.block k (aH8.1 ho).1).trans ho)
     ·rw[hW4];exact hB23.os.trans e2.below.os
     ·rw[hW4];exact hB23.tape.trans e2.below.tape
     ·rw[hW4];exact hB23.output.trans e2.below.output
     ·rw[s4'];exact mC e2.below.size hB23.size
     ·exact(o4 k (by omega)).trans ((hB23.block k (by have:=e2.below.size;omega)).trans (e2.below.block k hk))
    case hI=>
     rintro pre X Y row ⟨m1,e1,e2,e3⟩ hg hr;simp only[World.size_alloc] at hr;have hrow:∀j,row=some j->W.heap.size<j:=λj e=>by have:=(hr j e).1;omega
     have nc:∀b t c f,X.heap[b]?=some (Obj.cells c t f)->Y.heap[b]?=X.heap[b]?:=λb t c f hb=>hg.block b (aH8.1 hb).1 λe=>by obtain⟨_,o,ho,hoc⟩:=hr b e.symm;rw[hb] at ho;cases ho;cases hoc
     refine⟨m1,e1,e2.kept (e2.below.grown hg e2.below.size λj e=>by have:=hrow j e;omega) (by omega) (λb t c f _ hb=>nc b t c f hb) (let ⟨_,h,_⟩:=e2.b3;nc _ _ _ _ h),e3.kept λD hD h=>hg.block D (aH8.1 h).1 λe=>by have:=hrow D e.symm;have:=hdB D hD;omega⟩
    case h0=>
     have ba:Below W.heap.size W (W.alloc (.cells #[.slice la ls.length lc] 25)):=(Below.refl _ W).alloc (iE _) _;exact⟨m,by simp[tmB],hw.kept (hw.below.trans (ba.mono hw.below.size)) (by omega) (CK.below ba) (ba.block _ hzW),hd1.kept λD hD _=>ba.block D (hdB D hD)⟩
    case hseq=>
     intro l J W' hb _ hY hJ;have hb':Below W.heap.size W W':=((Below.refl _ W).alloc (iE _) _).trans (hb.mono (by simp));refine bKV (F:=Fence.wide) (n:=7) (l:=l) (Bs:=W.heap.size) (n₀:=W.heap.size+1) (z:=w.heap.size+2) (ls:=ls) (a:=la) (cap:=lc) rfl trivial rfl (by decide) ?_ ⟨by omega,by omega⟩ J (λpre x W1 h1 h2=>hY pre x W1 h1 h2) W' ?_ ?_ hJ
     ·have:=hlen;omega
     ·exact(World.cell?_of_block (hb.block W.heap.size (by simp))).trans (by simp only[World.cell?,World.alloc_heap_new];rfl)
     ·exact hin.imp id λ⟨b,off,e,hbz,hc⟩=>⟨b,off,e,⟨by omega,hbz.2⟩,λj v hj=>(World.cell?_of_block (hb'.block b hbz.1)).trans (hc j v hj)⟩
    case hdone=>
     rintro D xs W' hD hxs ⟨m1,e1,e2,e3⟩ hK;rw[hxs,Nat.sub_self,PO,hm1] at e1;cases e1
     gi_wp2
     simp only[World.size_alloc] at hD;refine⟨⟨k+1,_,_,_,_,_,_,_,mkD D::ds,m',hlt,hm2,e2,⟨⟨D,rfl,hK,λE hE=>by have:=hdB E hE;omega,e3⟩,λE hE=>?_⟩,rfl⟩,?_⟩
     ·rcases kD.1 hE with e|e
      ·simp only[mkD,Deferred.mk.injEq,Target.collected.injEq] at e;omega
      ·exact hd2 E e
     ·simp[intOf];omega
   ·obtain rfl:k=L.length:=by omega
    rw[List.take_length,hr] at hm;cases hm;obtain⟨_,f1,⟨yv,rfl⟩,f3⟩:=hw.b3;have c0:W.cell? ⟨w.heap.size+1+1,0,none⟩=some (yv.v r.length):=by simp only[World.cell?,f1];rfl
    gi_wp2
    refine hd1.leave λW' h2 h3 ⟨o1,o2,o3⟩=>⟨yv.v r.length,?_,yv,rfl,⟨o1.trans hw.below.os,o2.trans hw.below.tape,o3.trans hw.below.output,by rw[h3];exact hw.below.size,λk hk=>(h2 k λD hD=>by have:=hd2 D hD;omega).trans (hw.below.block k hk)⟩,f3.kept λb t' c f hz hb=>h2 b λD hD e=>?_⟩
    ·simp[results,f20,go_sem]
    ·have:=hd1.at D hD;rw[<-e,hb] at this;cases this
end
end Go.Proofs.YtonmnllkifmclaaGreat
end
