import Derived.Test.YtkinioiglogchaaGreatXTB
import Derived.Test.YtkinioiglogchaaGreatProg
set_option linter.unusedVariables false
set_option linter.unusedSimpArgs false
set_option linter.unusedSectionVars false
set_option linter.constructorNameAsVariable false
set_option linter.unnecessarySimpa false
noncomputable section
namespace Go.Gv
section
def WG(code:List UInt8):Option Bool:=some (decide (1048576<(code.length:Int)))
def aNU(x5:Int):Option (Int×Int):=some (0,x5)
def IF(code:List UInt8)(x3 x4:Int)(x6:Bool):Option (Step (Int×Int) Int):=(if x6 then(idx code x4).bind λx7=>some (.next (iI .and .i64 (aY ((aY ((aY (x3*131))+(x7.toNat:Int)))+7)) 1073741823,aY (x4+1))) else some (.stop (x3)))
def ZX(code:List UInt8):(Int×Int)->Option (Step (Int×Int) Int)
 |(x3,x4)=>(if decide (x4<(code.length:Int)) then IF code x3 x4 (decide (x4<4000)) else IF code x3 x4 false)
def aNV:Int->Option (Int×Int)
 |x5=>aNU x5
def SU(code:List UInt8):Option (Int×Int):=(loop (ZX code) (aY (10101+(code.length:Int)),0)).bind (aNV)
def EF(c:dL)(x1 x2:Int):Option (Int×(Int×Int)):=some (x1,(x2,aY ((aY (c.h*6364136223846793005))+1442695040888963407)))
def sN(c:dL):Option (Int×(Int×Int)):=(if decide (c.i<(c.b.length:Int)) then(idx c.b c.i).bind λx3=>EF c (iI .and .i64 (aY ((iI .and .i64 (iI .xor .i64 (o8 .i64 (aY ((aY (c.h*6364136223846793005))+1442695040888963407)) 33) (o8 .i64 (aY ((aY (c.h*6364136223846793005))+1442695040888963407)) 45)) 255)+(x3.toNat:Int))) 255) (aY (c.i+1)) else EF c (iI .and .i64 (iI .xor .i64 (o8 .i64 (aY ((aY (c.h*6364136223846793005))+1442695040888963407)) 33) (o8 .i64 (aY ((aY (c.h*6364136223846793005))+1442695040888963407)) 45)) 255) c.i)
def fZ(c:dL)(n:Int):Option (Int×(Int×Int)):=(if decide (n<=0) then some (0,(c.i,c.h)) else(if decide (n<=256) then(sN c).bind λx1=>need (n≠0) (some (Int.tmod x1.1 n,(x1.2.1,x1.2.2))) else(sN c).bind λx2=>(sN (⟨c.b,x2.2.1,x2.2.2⟩:dL)).bind λx3=>(sN (⟨c.b,x3.2.1,x3.2.2⟩:dL)).bind λx4=>(sN (⟨c.b,x4.2.1,x4.2.2⟩:dL)).bind λx5=>need (n≠0) (some (Int.tmod (aY ((aY ((aY ((aY (x2.1*16777216))+(aY (x3.1*65536))))+(aY (x4.1*256))))+x5.1)) n,(x5.2.1,x5.2.2)))))
def WH(c:dL)(n:Int):Option (Bool×(Int×Int)):=(fZ c n).bind λx1=>some (x1.1 == 0,(x1.2.1,x1.2.2))
def nN(c:dL)(list:List Int):Option (Int×(Int×Int)):=(fZ c (list.length:Int)).bind λx1=>(idx list x1.1).bind λx2=>some (x2,(x1.2.1,x1.2.2))
def EG(x1 x2:Int×(Int×Int))(x3 x4 x5:Int):Option (eJ×(Int×Int)):=some ((⟨x1.1,x2.1,x5⟩:eJ),(x3,x4))
def EH(c:dL)(x1 x2:Int×(Int×Int))(x6:Bool):Option (eJ×(Int×Int)):=(if x6 then(fZ (⟨c.b,x2.2.1,x2.2.2⟩:dL) 60000).bind λx7=>(nN (⟨c.b,x7.2.1,x7.2.2⟩:dL) ([1,65535,x7.1]:List Int)).bind λx8=>EG x1 x2 x8.2.1 x8.2.2 x8.1 else EG x1 x2 x2.2.1 x2.2.2 0)
def I7(c:dL):Option (eJ×(Int×Int)):=(nN c ([1,1,2,2,3,4,4]:List Int)).bind λx1=>(fZ (⟨c.b,x1.2.1,x1.2.2⟩:dL) 6).bind λx2=>(if x1.1 == 2 then EH c x1 x2 true else EH c x1 x2 (x1.1 == 4))
def aGN(x11 x12:Int)(x13:List eJ):Option (Batch×(Int×Int)):=some ((⟨false,x13⟩:Batch),(x11,x12))
def J6(x7 x14 x15:Int)(x16:List eJ):Option (Step (Int×Int×Int×(List eJ)) (Int×Int×(List eJ))):=some (.next (aY (x7-1),x14,x15,x16))
def UM(c:dL):(Int×Int×Int×(List eJ))->Option (Step (Int×Int×Int×(List eJ)) (Int×Int×(List eJ)))
 |(x7,x8,x9,x10)=>(if decide (0<x7) then(I7 (⟨c.b,x8,x9⟩:dL)).bind λx17=>need (x10.length+([x17.1]).length<=1073741824)<|J6 x7 x17.2.1 x17.2.2 (x10++([x17.1])) else some (.stop ((x8,x9,x10))))
def aGO:(Int×Int×(List eJ))->Option (Batch×(Int×Int))
 |(x11,x12,x13)=>aGN x11 x12 x13
def LC(c:dL):Option (Batch×(Int×Int)):=(WH c 4).bind λx1=>(if x1.1 then some ((⟨true,[]⟩:Batch),(x1.2.1,x1.2.2)) else(fZ (⟨c.b,x1.2.1,x1.2.2⟩:dL) 3).bind λx2=>(loop (UM c) (aY (1+x2.1),x2.2.1,x2.2.2,[])).bind (aGO))
def aCK(x9:List aJ)(x10 x11:Int):Option ((List aJ)×(Int×Int)):=some (x9,(x10,x11))
def ON(x5:List aJ)(x6 x21 x22:Int)(x23:List Batch):Option (Step ((List aJ)×Int×Int×Int) ((List aJ)×Int×Int)):=need (x5.length+([(⟨x23⟩:aJ)]).length<=1073741824) (some (.next (x5++([(⟨x23⟩:aJ)]),aY (x6+1),x21,x22)))
def EI(x17 x24 x25:Int)(x26:List Batch):Option (Step (Int×Int×Int×(List Batch)) (Int×Int×(List Batch))):=some (.next (aY (x17-1),x24,x25,x26))
def OO(c:dL):(Int×Int×Int×(List Batch))->Option (Step (Int×Int×Int×(List Batch)) (Int×Int×(List Batch)))
 |(x17,x18,x19,x20)=>(if decide (0<x17) then(LC (⟨c.b,x18,x19⟩:dL)).bind λx27=>need (x20.length+([x27.1]).length<=1073741824)<|EI x17 x27.2.1 x27.2.2 (x20++([x27.1])) else some (.stop ((x18,x19,x20))))
def OQ(x5:List aJ)(x6:Int):(Int×Int×(List Batch))->Option (Step ((List aJ)×Int×Int×Int) ((List aJ)×Int×Int))
 |(x21,x22,x23)=>ON x5 x6 x21 x22 x23
def OR(c:dL)(most:Int):((List aJ)×Int×Int×Int)->Option (Step ((List aJ)×Int×Int×Int) ((List aJ)×Int×Int))
 |(x5,x6,x7,x8)=>(if decide (x6<3) then(fZ (⟨c.b,x7,x8⟩:dL) (aY (most+1))).bind λx12=>(loop (OO c) (x12.1,x12.2.1,x12.2.2,[])).bind (OQ x5 x6) else some (.stop ((x5,x7,x8))))
def aCL:((List aJ)×Int×Int)->Option ((List aJ)×(Int×Int))
 |(x9,x10,x11)=>aCK x9 x10 x11
def xA(c:dL)(most:Int):Option ((List aJ)×(Int×Int)):=(loop (OR c most) (([]:List aJ),0,c.i,c.h)).bind (aCL)
def aET(x10:List Int)(x11 x12:Int):Option ((List Int)×(Int×Int)):=some (x10,(x11,x12))
def RE(x7:Int)(x14:Int×(Int×Int))(x19:List Int):Option (Step ((List Int)×Int×Int×Int) ((List Int)×Int×Int)):=some (.next (x19,aY (x7-1),x14.2.1,x14.2.2))
def RF(x13:Int×(Int×Int)):((List Int)×Int)->Option (Step ((List Int)×Int) (List Int))
 |(x17,x18)=>(if decide (0<x18) then need (x17.length+([x13.1]).length<=1073741824) (some (.next (x17++([x13.1]),aY (x18-1)))) else some (.stop (x17)))
def RG(x7:Int)(x14:Int×(Int×Int)):(List Int)->Option (Step ((List Int)×Int×Int×Int) ((List Int)×Int×Int))
 |x19=>RE x7 x14 x19
def RH(c:dL):((List Int)×Int×Int×Int)->Option (Step ((List Int)×Int×Int×Int) ((List Int)×Int×Int))
 |(x6,x7,x8,x9)=>(if decide (0<x7) then(fZ (⟨c.b,x8,x9⟩:dL) 3).bind λx13=>(fZ (⟨c.b,x13.2.1,x13.2.2⟩:dL) 8).bind λx14=>(loop (RF x13) (x6,aY (1+x14.1))).bind (RG x7 x14) else some (.stop ((x6,x8,x9))))
def aEU:((List Int)×Int×Int)->Option ((List Int)×(Int×Int))
 |(x10,x11,x12)=>aET x10 x11 x12
def IG(c:dL)(most:Int):Option ((List Int)×(Int×Int)):=(fZ c most).bind λx1=>(loop (RH c) (([]:List Int),x1.1,x1.2.1,x1.2.2)).bind (aEU)
def rJ(x2 x3 x4 x5 x6:Int):Option (eJ×(Int×Int)):=some ((⟨x4,x5,x6⟩:eJ),(x2,x3))
def OS(c:dL):Option (eJ×(Int×Int)):=(I7 c).bind λx1=>(fZ (⟨c.b,x1.2.1,x1.2.2⟩:dL) 14).bind λx7=>(if x7.1 == 0 then(nN (⟨c.b,x7.2.1,x7.2.2⟩:dL) ([0,5]:List Int)).bind λx8=>rJ x8.2.1 x8.2.2 x8.1 x1.1.Key x1.1.dC else(if x7.1 == 1 then(nN (⟨c.b,x7.2.1,x7.2.2⟩:dL) ([(-1),99,100]:List Int)).bind λx9=>rJ x9.2.1 x9.2.2 x1.1.Kind x9.1 x1.1.dC else(if x7.1 == 2 then(nN (⟨c.b,x7.2.1,x7.2.2⟩:dL) ([(-1),65536,1,0]:List Int)).bind λx10=>rJ x10.2.1 x10.2.2 x1.1.Kind x1.1.Key x10.1 else rJ x7.2.1 x7.2.2 x1.1.Kind x1.1.Key x1.1.dC)))
def lA(x2:List aJ)(x3 x4:Int):Option ((List aJ)×(Int×Int)):=some (x2,(x3,x4))
def ML(x13:List aJ)(x14 x15:Int):Option ((List aJ)×(Int×Int)):=lA x13 x14 x15
def CY(x10:List aJ)(x16:Bool)(x17 x18:Int):Option (Step ((List aJ)×Int×Int) ((List aJ)×Int×Int)):=(if x16 then(idx x10 1).bind λx19=>need (x19.List.length+([(⟨true,[]⟩:Batch)]).length<=1073741824) (some (.next (x10.set ((1:Int).toNat) (⟨x19.List++([(⟨true,[]⟩:Batch)])⟩:aJ),x17,x18))) else some (.stop ((x10,x17,x18))))
def MM(c:dL):((List aJ)×Int×Int)->Option (Step ((List aJ)×Int×Int) ((List aJ)×Int×Int))
 |(x10,x11,x12)=>(idx x10 1).bind λx20=>(fZ (⟨c.b,x11,x12⟩:dL) 2).bind λx21=>CY x10 (decide ((x20.List.length:Int)<(aY (12+x21.1)))) x21.2.1 x21.2.2
def aAV:((List aJ)×Int×Int)->Option ((List aJ)×(Int×Int))
 |(x13,x14,x15)=>ML x13 x14 x15
def CZ(x22:List aJ)(x23 x24:Int):Option ((List aJ)×(Int×Int)):=lA x22 x23 x24
def BS(c:dL):Option ((List aJ)×(Int×Int)):=
 (xA c 5).bind λx1=>(fZ (⟨c.b,x1.2.1,x1.2.2⟩:dL) 20).bind λx5=>(if x5.1 == 0 then need (0<=(2:Int)/\(2:Int)<=(x1.1.length:Int)) (some ((x1.1.take ((2:Int).toNat)).drop 0,(x5.2.1,x5.2.2))) else(if x5.1 == 1 then(idx x1.1 0).bind λx6=>need (x6.List.length+([(⟨false,[]⟩:Batch)]).length<=1073741824) (lA (x1.1.set ((0:Int).toNat) (⟨x6.List++([(⟨false,[]⟩:Batch)])⟩:aJ)) x5.2.1 x5.2.2) else(if x5.1 == 2 then(loop (MM c) (x1.1,x5.2.1,x5.2.2)).bind (aAV) else(if x5.1 == 3 then(idx x1.1 2).bind λx25=>(OS (⟨c.b,x5.2.1,x5.2.2⟩:dL)).bind λx26=>need (x25.List.length+([(⟨false,[x26.1]⟩:Batch)]).length<=1073741824)<|CZ (x1.1.set ((2:Int).toNat) (⟨x25.List++([(⟨false,[x26.1]⟩:Batch)])⟩:aJ)) x26.2.1 x26.2.2 else lA x1.1 x5.2.1 x5.2.2))))
def kX(x4:List aJ)(x5:List Int):Option pB:=some (⟨x4,x5⟩:pB)
def nP(code:List UInt8):Option pB:=(SU code).bind λx1=>(xA (⟨code,x1.1,x1.2⟩:dL) 6).bind λx2=>(IG (⟨code,x2.2.1,x2.2.2⟩:dL) 60).bind λx3=>(fZ (⟨code,x3.2.1,x3.2.2⟩:dL) 16).bind λx6=>(if x6.1 == 0 then(BS (⟨code,x6.2.1,x6.2.2⟩:dL)).bind λx7=>kX x7.1 x3.1 else(if x6.1 == 1 then need (x3.1.length+([(-1),3,1]:List Int).length<=1073741824) (kX x2.1 (x3.1++([(-1),3,1]:List Int))) else kX x2.1 x3.1))
def SW(x1:Bool):Option Bool:=some x1
def dN(x low high:Int):Option Bool:=(if decide (low<=x) then SW (decide (x<=high)) else SW false)
def PN(c:eJ)(x2:Bool):Option Bool:=(if x2 then(dN c.dC 0 65535).bind λx3=>some x3 else some (c.dC == 0))
def PO(c:eJ)(x1:Bool):Option Bool:=(if x1 then some false else(if c.Kind == 2 then PN c true else PN c (c.Kind == 4)))
def aAW(c:eJ):Option Bool:=(dN c.Kind 1 4).bind λx4=>(if !x4 then PO c true else(dN c.Key 0 99).bind λx5=>PO c (!x5))
def UN(b:Batch):Option Bool:=(dN (b.bN.length:Int) 1 6).bind λx3=>some x3
def oT(b:Batch):Int->Option (Step Int (Out Unit Bool))
 |x2=>(if decide (x2<(b.bN.length:Int)) then(idx b.bN x2).bind λx4=>(aAW x4).bind λx5=>(if !x5 then some (.stop (Out.ret false)) else some (.next (aY (x2+1)))) else some (.stop (Out.brk ())))
def UO(b:Batch):(Out Unit Bool)->Option Bool
 |.brk ()=>UN b
 |.ret r=>some r
def SX(b:Batch):Option Bool:=(if b.Collect then some ((b.bN.length:Int) == 0) else(loop (oT b) 0).bind (UO b))
def UP(todo:List aJ):Option Bool:=some ((todo.length:Int) == 3)
def UQ(x2:Int):Option (Step Int (Out Unit Bool)):=some (.next (aY (x2+1)))
def oV(todo:List aJ)(x2:Int):Int->Option (Step Int (Out Unit Bool))
 |x5=>(idx todo x2).bind λx6=>(if decide (x5<(x6.List.length:Int)) then(idx todo x2).bind λx7=>(idx x7.List x5).bind λx8=>(SX x8).bind λx9=>(if !x9 then some (.stop (Out.ret false)) else some (.next (aY (x5+1)))) else some (.stop (Out.brk ())))
def UR(x2:Int):(Out Unit Bool)->Option (Step Int (Out Unit Bool))
 |.brk ()=>UQ x2
 |.ret r=>some (.stop (Out.ret r))
def oW(todo:List aJ):Int->Option (Step Int (Out Unit Bool))
 |x2=>(if decide (x2<(todo.length:Int)) then(idx todo x2).bind λx3=>(if decide (12<(x3.List.length:Int)) then some (.stop (Out.ret false)) else(loop (oV todo x2) 0).bind (UR x2)) else some (.stop (Out.brk ())))
def US(todo:List aJ):(Out Unit Bool)->Option Bool
 |.brk ()=>UP todo
 |.ret r=>some r
def SY(todo:List aJ):Option Bool:=(loop (oW todo) 0).bind (US todo)
def aGP(x5:List Int):Option Heap:=some (⟨List.replicate ((384:Int).toNat) 0,x5⟩:Heap)
def uM:(Int×(List Int))->Option (Step (Int×(List Int)) (List Int))
 |(x3,x4)=>(if decide (x3<6) then need (x4.length+([(-1)]).length<=1073741824) (some (.next (aY (x3+1),x4++([(-1)])))) else some (.stop (x4)))
def aGQ:(List Int)->Option Heap
 |x5=>aGP x5
def SZ:Option Heap:=need (0<=(384:Int)/\(384:Int)<=4294967296) ((loop (uM) (0,[])).bind (aGQ))
def aEV:Option aE:=some (⟨List.replicate ((3:Int).toNat) (⟨[]⟩:bH),List.replicate ((9:Int).toNat) (⟨[]⟩:bH)⟩:aE)
def ZY:Option aE:=
 need (0<=(3:Int)/\(3:Int)<=4294967296)<|need (0<=(9:Int)/\(9:Int)<=4294967296)<|aEV
def aF9:Option Mem:=(SZ).bind λx1=>(ZY).bind λx2=>some (⟨x1,x2⟩:Mem)
def ZZ:Option aC:=need (0<=(3:Int)/\(3:Int)<=4294967296) (some (⟨0,List.replicate ((3:Int).toNat) (⟨false,0,false,0⟩:wU)⟩:aC))
def Z0:Option (List bU):=need (0<=(3:Int)/\(3:Int)<=4294967296) (some (List.replicate ((3:Int).toNat) (⟨[]⟩:bU)))
def aGA:Option (List Int):=need (0<=(3:Int)/\(3:Int)<=4294967296) (some (List.replicate ((3:Int).toNat) 0))
def S1:Option aA:=(aF9).bind λx1=>(ZZ).bind λx2=>(Z0).bind λx3=>(aGA).bind λx4=>some (⟨x1,x2,x3,x4⟩:aA)
def aCM(l:List eJ):Option (List eJ):=need (([]:List eJ).length+l.length<=1073741824) (some (([]:List eJ)++l))
def PQ(b:Batch):Option Batch:=(aCM b.bN).bind λx1=>some (⟨b.Collect,x1⟩:Batch)
def aCN(x5:List aJ):Option (List aJ):=some x5
def OT(x3:List aJ)(x4:Int)(x10:List Batch):Option (Step ((List aJ)×Int) (List aJ)):=need (x3.length+([(⟨x10⟩:aJ)]).length<=1073741824) (some (.next (x3++([(⟨x10⟩:aJ)]),aY (x4+1))))
def OU(x8:Int)(x12:List Batch):Option (Step (Int×(List Batch)) (List Batch)):=some (.next (aY (x8+1),x12))
def EJ(l:List aJ)(x4:Int):(Int×(List Batch))->Option (Step (Int×(List Batch)) (List Batch))
 |(x8,x9)=>(idx l x4).bind λx11=>(if decide (x8<(x11.List.length:Int)) then(idx l x4).bind λx13=>(idx x13.List x8).bind λx14=>(PQ x14).bind λx15=>need (x9.length+([x15]).length<=1073741824)<|OU x8 (x9++([x15])) else some (.stop (x9)))
def OV(x3:List aJ)(x4:Int):(List Batch)->Option (Step ((List aJ)×Int) (List aJ))
 |x10=>OT x3 x4 x10
def EK(l:List aJ):((List aJ)×Int)->Option (Step ((List aJ)×Int) (List aJ))
 |(x3,x4)=>(if decide (x4<(l.length:Int)) then(loop (EJ l x4) (0,[])).bind (OV x3 x4) else some (.stop (x3)))
def aCO:(List aJ)->Option (List aJ)
 |x5=>aCN x5
def MN(l:List aJ):Option (List aJ):=(loop (EK l) (([]:List aJ),0)).bind (aCO)
def aEW(x2:Table):Option Table:=some ({x2 with Log:=[]}:Table)
def Z1(todo:List aJ):Option Table:=
 (SY todo).bind λx1=>(if !x1 then some (⟨(⟨(⟨(⟨[],[]⟩:Heap),(⟨[],[]⟩:aE)⟩:Mem),(⟨0,[]⟩:aC),[],[]⟩:aA),[],[],[],[],0⟩:Table) else(S1).bind λx3=>need (0<=(2:Int)/\(2:Int)<=4294967296)<|need (0<=(3:Int)/\(3:Int)<=4294967296)<|(MN todo).bind λx4=>aEW (⟨x3,List.replicate ((2:Int).toNat) (⟨0,0,0⟩:bW),List.replicate ((3:Int).toNat) (⟨false,(⟨false,[]⟩:Batch),0,0,0,0,0,0,0,0,(⟨0,0,0⟩:gR),false,0,(⟨0,0,0,0,0,0,0,0,0,false⟩:Sub),[],[],[],[],[],[]⟩:aI),x4,[],0⟩:Table))
def lB(s:List eJ):Option (List eJ):=need (([]:List eJ).length+s.length<=1073741824) (some (([]:List eJ)++s))
def rK(s:List hU):Option (List hU):=need (([]:List hU).length+s.length<=1073741824) (some (([]:List hU)++s))
def J7(e_:j7)(x1:List eJ)(x2:List hU):Option j7:=some ({e_ with bN:=x1,hU:=x2}:j7)
def EL(e_:j7):Option j7:=(lB e_.bN).bind λx3=>(rK e_.hU).bind λx4=>J7 e_ x3 x4
def xB(b:Batch):Option Batch:=(lB b.bN).bind λx1=>some (⟨b.Collect,x1⟩:Batch)
def aCP(x5:List aJ):Option (List aJ):=some x5
def OW(x3:List aJ)(x4:Int)(x11:List Batch):Option (Step ((List aJ)×Int) (List aJ)):=need (x3.length+([(⟨x11⟩:aJ)]).length<=1073741824) (some (.next (x3++([(⟨x11⟩:aJ)]),aY (x4+1))))
def EM(x9:Int)(x13:List Batch):Option (Step (Int×(List Batch)) (List Batch)):=some (.next (aY (x9+1),x13))
def EN(x6:aJ):(Int×(List Batch))->Option (Step (Int×(List Batch)) (List Batch))
 |(x9,x10)=>(if decide (x9<(x6.List.length:Int)) then(idx x6.List x9).bind λx12=>(xB x12).bind λx14=>need (x10.length+([x14]).length<=1073741824)<|EM x9 (x10++([x14])) else some (.stop (x10)))
def OX(x3:List aJ)(x4:Int):(List Batch)->Option (Step ((List aJ)×Int) (List aJ))
 |x11=>OW x3 x4 x11
def EO(todo:List aJ):((List aJ)×Int)->Option (Step ((List aJ)×Int) (List aJ))
 |(x3,x4)=>(if decide (x4<(todo.length:Int)) then(idx todo x4).bind λx6=>(loop (EN x6) (0,[])).bind (OX x3 x4) else some (.stop (x3)))
def aCQ:(List aJ)->Option (List aJ)
 |x5=>aCP x5
def xC(todo:List aJ):Option (List aJ):=(loop (EO todo) (([]:List aJ),0)).bind (aCQ)
def gD(s:List Int):Option (List Int):=need (([]:List Int).length+s.length<=1073741824) (some (([]:List Int)++s))
def vP(h:Heap):Option Heap:=(gD h.Bytes).bind λx1=>(gD h.Class).bind λx2=>some (⟨x1,x2⟩:Heap)
def aCR(x5 x10:List bH):Option aE:=some (⟨x5,x10⟩:aE)
def EP(x8:Int)(x12:List bH):Option (Step (Int×(List bH)) (List bH)):=some (.next (aY (x8+1),x12))
def ER(l:aE):(Int×(List bH))->Option (Step (Int×(List bH)) (List bH))
 |(x8,x9)=>(if decide (x8<(l.Own.length:Int)) then(idx l.Own x8).bind λx11=>(gD x11.aV).bind λx13=>need (x9.length+([(⟨x13⟩:bH)]).length<=1073741824)<|EP x8 (x9++([(⟨x13⟩:bH)])) else some (.stop (x9)))
def aCS(x5:List bH):(List bH)->Option aE
 |x10=>aCR x5 x10
def OY(l:aE)(x5:List bH):Option aE:=(loop (ER l) (0,[])).bind (aCS x5)
def ES(x3:Int)(x15:List bH):Option (Step (Int×(List bH)) (List bH)):=some (.next (aY (x3+1),x15))
def ET(l:aE):(Int×(List bH))->Option (Step (Int×(List bH)) (List bH))
 |(x3,x4)=>(if decide (x3<(l.Global.length:Int)) then(idx l.Global x3).bind λx14=>(gD x14.aV).bind λx16=>need (x4.length+([(⟨x16⟩:bH)]).length<=1073741824)<|ES x3 (x4++([(⟨x16⟩:bH)])) else some (.stop (x4)))
def OZ(l:aE):(List bH)->Option aE
 |x5=>OY l x5
def jF(l:aE):Option aE:=(loop (ET l) (0,[])).bind (OZ l)
def pC(m:Mem):Option Mem:=(vP m.Heap).bind λx1=>(jF m.aE).bind λx2=>some (⟨x1,x2⟩:Mem)
def yW(s:List wU):Option (List wU):=need (([]:List wU).length+s.length<=1073741824) (some (([]:List wU)++s))
def lQ(c:aC):Option aC:=(yW c.cO).bind λx1=>some (⟨c.aL,x1⟩:aC)
def wF(s:List eR):Option (List eR):=need (([]:List eR).length+s.length<=1073741824) (some (([]:List eR)++s))
def aCT(x5:List bU):Option (List bU):=some x5
def EU(l:List bU):((List bU)×Int)->Option (Step ((List bU)×Int) (List bU))
 |(x3,x4)=>(if decide (x4<(l.length:Int)) then(idx l x4).bind λx6=>(wF x6.Rows).bind λx7=>need (x3.length+([(⟨x7⟩:bU)]).length<=1073741824) (some (.next (x3++([(⟨x7⟩:bU)]),aY (x4+1)))) else some (.stop (x3)))
def aCU:(List bU)->Option (List bU)
 |x5=>aCT x5
def lR(l:List bU):Option (List bU):=(loop (EU l) (([]:List bU),0)).bind (aCU)
def IH(b:aA):Option aA:=(pC b.Mem).bind λx1=>(lQ b.aC).bind λx2=>(lR b.aQ).bind λx3=>(gD b.qT).bind λx4=>some (⟨x1,x2,x3,x4⟩:aA)
def HP(s:List bW):Option (List bW):=need (([]:List bW).length+s.length<=1073741824) (some (([]:List bW)++s))
def pD(s:List Seen):Option (List Seen):=need (([]:List Seen).length+s.length<=1073741824) (some (([]:List Seen)++s))
def nQ(s:List aU):Option (List aU):=need (([]:List aU).length+s.length<=1073741824) (some (([]:List aU)++s))
def RI(x3:aI):Option aI:=some x3
def HQ(j x2:aI):Option aI:=(gD j.gL).bind λx4=>(gD j.bE).bind λx5=>(gD j.cB).bind λx6=>RI ({x2 with gL:=x4,bE:=x5,cB:=x6}:aI)
def II(j:aI):Option aI:=(xB j.Batch).bind λx1=>(pD j.Reads).bind λx7=>(nQ j.aH).bind λx8=>(rK j.hU).bind λx9=>HQ j ({j with Batch:=x1,Reads:=x7,aH:=x8,hU:=x9}:aI)
def aCV(x11:Table):Option Table:=some x11
def EV(x9:Int)(x13:Table):Option (Step (Int×Table) Table):=some (.next (aY (x9+1),x13))
def l5(t:Table):(Int×Table)->Option (Step (Int×Table) Table)
 |(x9,x10)=>(if decide (x9<(t.Log.length:Int)) then(idx t.Log x9).bind λx12=>(EL x12).bind λx14=>need (x10.Log.length+([x14]).length<=1073741824)<|EV x9 ({x10 with Log:=x10.Log++([x14])}:Table) else some (.stop (x10)))
def aCW:Table->Option Table
 |x11=>aCV x11
def aCX(t x6:Table):Option Table:=(loop (l5 t) (0,({x6 with Log:=[]}:Table))).bind (aCW)
def EW(x4:Int)(x16:Table):Option (Step (Int×Table) Table):=some (.next (aY (x4+1),({x16 with Log:=[]}:Table)))
def l6(t:Table):(Int×Table)->Option (Step (Int×Table) Table)
 |(x4,x5)=>(if decide (x4<(t.aS.length:Int)) then(idx t.aS x4).bind λx15=>(II x15).bind λx17=>need (x5.aS.length+([x17]).length<=1073741824)<|EW x4 ({x5 with aS:=x5.aS++([x17]),Log:=[]}:Table) else some (.stop (({x5 with Log:=[]}:Table))))
def aCY(t:Table):Table->Option Table
 |x6=>aCX t x6
def EX(t x1:Table):Option Table:=(loop (l6 t) (0,({x1 with aS:=[],Log:=[]}:Table))).bind (aCY t)
def EY(t:Table):Option Table:=(IH t.aA).bind λx18=>(HP t.aR).bind λx19=>(xC t.fI).bind λx20=>EX t (⟨x18,x19,[],x20,[],t.aG⟩:Table)
def MO:Option Int:=some (-1)
def nR(s:List aJ)(f:(aJ->Option Bool)):Int->Option (Step Int (Out Unit Int))
 |x2=>(if decide (x2<(s.length:Int)) then(idx s x2).bind λx3=>(f x3).bind λx4=>(if x4 then some (.stop (Out.ret x2)) else some (.next (aY (x2+1)))) else some (.stop (Out.brk ())))
def xD:(Out Unit Int)->Option Int
 |.brk ()=>MO
 |.ret r=>some r
def DP(s:List aJ)(f:(aJ->Option Bool)):Option Int:=(loop (nR s f) 0).bind (xD)
def j9(s:List aJ)(f:(aJ->Option Bool)):Option Bool:=(DP s f).bind λx1=>some (decide (0<=x1))
def N3:Option Int:=some (-1)
def oJ(s:List Batch)(f:(Batch->Option Bool)):Int->Option (Step Int (Out Unit Int))
 |x2=>(if decide (x2<(s.length:Int)) then(idx s x2).bind λx3=>(f x3).bind λx4=>(if x4 then some (.stop (Out.ret x2)) else some (.next (aY (x2+1)))) else some (.stop (Out.brk ())))
def zT:(Out Unit Int)->Option Int
 |.brk ()=>N3
 |.ret r=>some r
def EZ(s:List Batch)(f:(Batch->Option Bool)):Option Int:=(loop (oJ s f) 0).bind (zT)
def oK(s:List Batch)(f:(Batch->Option Bool)):Option Bool:=(EZ s f).bind λx1=>some (decide (0<=x1))
def E0(x1:Bool):Option Bool:=some x1
def bS(n low high:Int):Option Bool:=(if decide (low<=n) then E0 (decide (n<=high)) else E0 false)
def RJ:Option Int:=some (-1)
def rL(s:List eJ)(f:(eJ->Option Bool)):Int->Option (Step Int (Out Unit Int))
 |x2=>(if decide (x2<(s.length:Int)) then(idx s x2).bind λx3=>(f x3).bind λx4=>(if x4 then some (.stop (Out.ret x2)) else some (.next (aY (x2+1)))) else some (.stop (Out.brk ())))
def DQ:(Out Unit Int)->Option Int
 |.brk ()=>RJ
 |.ret r=>some r
def I8(s:List eJ)(f:(eJ->Option Bool)):Option Int:=(loop (rL s f) 0).bind (DQ)
def rM(s:List eJ)(f:(eJ->Option Bool)):Option Bool:=(I8 s f).bind λx1=>some (decide (0<=x1))
def qG(x2:Bool):Option Bool:=some x2
def vQ(c:eJ)(x1:Bool):Option Bool:=(bS c.Kind 1 4).bind λx3=>(if x3 then(bS c.Key 0 99).bind λx4=>(if x4 then(if x1 then(bS c.dC 0 65535).bind λx5=>(if x5 then qG true else qG (c.dC == 0)) else qG (c.dC == 0)) else qG false) else qG false)
def S3(c:eJ):Option Bool:=(if c.Kind == 2 then vQ c true else vQ c (c.Kind == 4))
def MP(c:eJ):Option Bool:=(S3 c).bind λx1=>some (!x1)
def uN(x1:Bool):Option Bool:=some x1
def E1(b:Batch):Option Bool:=(if b.Collect then some ((b.bN.length:Int) == 0) else(bS (b.bN.length:Int) 1 6).bind λx2=>(if x2 then(rM b.bN (λy0=>MP y0)).bind λx3=>uN (!x3) else uN false))
def HR(b:Batch):Option Bool:=(E1 b).bind λx1=>some (!x1)
def wG(x1:Bool):Option Bool:=some x1
def E2(q:aJ):Option Bool:=(if decide (12<(q.List.length:Int)) then wG true else(oK q.List (λy0=>HR y0)).bind λx2=>wG x2)
def BT(x1:Bool):Option Bool:=some x1
def E3(todo:List aJ):Option Bool:=(if(todo.length:Int) == 3 then(j9 todo (λy0=>E2 y0)).bind λx2=>BT (!x2) else BT false)
def DR:Option Int:=some (-1)
def jU(s:List Int)(f:(Int->Option Bool)):Int->Option (Step Int (Out Unit Int))
 |x2=>(if decide (x2<(s.length:Int)) then(idx s x2).bind λx3=>(f x3).bind λx4=>(if x4 then some (.stop (Out.ret x2)) else some (.next (aY (x2+1)))) else some (.stop (Out.brk ())))
def rN:(Out Unit Int)->Option Int
 |.brk ()=>DR
 |.ret r=>some r
def xE(s:List Int)(f:(Int->Option Bool)):Option Int:=(loop (jU s f) 0).bind (rN)
def fA(s:List Int)(f:(Int->Option Bool)):Option Bool:=(xE s f).bind λx1=>some (decide (0<=x1))
def WI(x:Int):Option Bool:=(bS x 0 255).bind λx1=>some x1
def E4(x:Int):Option Bool:=(WI x).bind λx1=>some (!x1)
def BU(x1:Bool):Option Bool:=some x1
def LD(b:List Int):Option Bool:=(if decide ((b.length:Int)<=1000) then(fA b (λy0=>E4 y0)).bind λx2=>BU (!x2) else BU false)
def IJ(c:Int):Option Bool:=(bS c (-1) 2).bind λx1=>some (!x1)
def rO(x1:Bool):Option Bool:=some x1
def I9(h:Heap):Option Bool:=(if(h.Bytes.length:Int) == 384 then(LD h.Bytes).bind λx2=>(if x2 then(if(h.Class.length:Int) == 6 then(fA h.Class (λy0=>IJ y0)).bind λx3=>rO (!x3) else rO false) else rO false) else rO false)
def aGR(x5:Int):Option Int:=some x5
def uO(b:List Int)(at_ width:Int):(Int×Int)->Option (Step (Int×Int) Int)
 |(x3,x4)=>(if decide (x4<(((b.take ((aY (at_+width)).toNat)).drop at_.toNat).length:Int)) then(idx ((b.take ((aY (at_+width)).toNat)).drop at_.toNat) x4).bind λx6=>some (.next (aY ((aY (256*x3))+x6),aY (x4+1))) else some (.stop (x3)))
def aGS:Int->Option Int
 |x5=>aGR x5
def pE(b:List Int)(at_ width:Int):Option Int:=need (0<=(at_:Int)/\(at_:Int)<=(aY (at_+width):Int)/\(aY (at_+width):Int)<=(b.length:Int)) ((loop (uO b at_ width) (0,0)).bind (aGS))
def lK(c:Int):Option Bool:=(bS c 0 2).bind λx1=>some x1
def DS(c:Int):Option Int:=(lK c).bind λx1=>(if !x1 then some 0 else(idx ([8,16,40]:List Int) c).bind λx2=>some x2)
def vR(c:Int):Option Int:=(lK c).bind λx1=>(if !x1 then some 0 else(DS c).bind λx2=>some (aY (4+x2)))
def pG(c:Int):Option Int:=(lK c).bind λx1=>(if !x1 then some 0 else(vR c).bind λx2=>need (x2≠0) (some (aY (Int.tdiv 56 x2))))
def IK(x:Int):Option Bool:=some (x != 0)
def JA(b:List Int):Option Bool:=(fA b (λy0=>IK y0)).bind λx1=>some (!x1)
def aKH:Option Bool:=some true
def rP(h:Heap)(page x1 x4:Int):Int->Option (Step Int (Out Unit Bool))
 |x6=>(if decide (x6<x4) then(vR x1).bind λx7=>(pE ((h.Bytes.take ((aY ((aY (page+1))*64)).toNat)).drop ((aY (page*64)).toNat)) (aY (8+(aY (x6*x7)))) 4).bind λx8=>(bS x8 1 7).bind λx9=>(if !x9 then some (.stop (Out.ret false)) else some (.next (aY (x6+1)))) else some (.stop (Out.brk ())))
def aKI:(Out Unit Bool)->Option Bool
 |.brk ()=>aKH
 |.ret r=>some r
def kC(h:Heap)(page x1:Int)(x3:Bool):Option Bool:=(if x3 then some false else(pG x1).bind λx4=>(loop (rP h page x1 x4) 0).bind (aKI))
def O0(h:Heap)(page:Int):Option Bool:=(idx h.Class page).bind λx1=>need (0<=(aY (page*64):Int)/\(aY (page*64):Int)<=(aY ((aY (page+1))*64):Int)/\(aY ((aY (page+1))*64):Int)<=(h.Bytes.length:Int)) ((if decide (x1<0) then(JA ((h.Bytes.take ((aY ((aY (page+1))*64)).toNat)).drop ((aY (page*64)).toNat))).bind λx2=>some x2 else(idx ((h.Bytes.take ((aY ((aY (page+1))*64)).toNat)).drop ((aY (page*64)).toNat)) 0).bind λx10=>(if x10 != 171 then kC h page x1 true else(idx ((h.Bytes.take ((aY ((aY (page+1))*64)).toNat)).drop ((aY (page*64)).toNat)) 1).bind λx11=>(if x11 != x1 then kC h page x1 true else(idx ((h.Bytes.take ((aY ((aY (page+1))*64)).toNat)).drop ((aY (page*64)).toNat)) 2).bind λx12=>(pG x1).bind λx13=>(if x12 != x13 then kC h page x1 true else need (0<=(3:Int)/\(3:Int)<=(8:Int)/\(8:Int)<=(((h.Bytes.take ((aY ((aY (page+1))*64)).toNat)).drop ((aY (page*64)).toNat)).length:Int)) ((JA ((((h.Bytes.take ((aY ((aY (page+1))*64)).toNat)).drop ((aY (page*64)).toNat)).take ((8:Int).toNat)).drop ((3:Int).toNat))).bind λx14=>kC h page x1 (!x14)))))))
def aKJ:Option Bool:=some true
def xF(h:Heap):Int->Option (Step Int (Out Unit Bool))
 |x3=>(if decide (x3<6) then(O0 h x3).bind λx4=>(if !x4 then some (.stop (Out.ret false)) else some (.next (aY (x3+1)))) else some (.stop (Out.brk ())))
def aKK:(Out Unit Bool)->Option Bool
 |.brk ()=>aKJ
 |.ret r=>some r
def JC(h:Heap):Option Bool:=(I9 h).bind λx1=>(if !x1 then some false else(loop (xF h) 0).bind (aKK))
def sO(slot:Int):Option Bool:=(bS slot 0 23).bind λx1=>some x1
def S4(x11:List Raw):Option (List Raw):=some x11
def mY(slices:List (List Raw)):((List Raw)×Int)->Option (Step ((List Raw)×Int) (List Raw))
 |(x9,x10)=>(if decide (x10<(slices.length:Int)) then(idx slices x10).bind λx12=>need (x9.length+x12.length<=1073741824) (some (.next (x9++x12,aY (x10+1)))) else some (.stop (x9)))
def S5:(List Raw)->Option (List Raw)
 |x11=>S4 x11
def E5(slices:List (List Raw))(x5:Int):Option (List Raw):=(aZI Raw x5).bind λx6=>(loop (mY slices) (x6,0)).bind (S5)
def kD(slices:List (List Raw)):(Int×Int)->Option (Step (Int×Int) Int)
 |(x3,x4)=>(if decide (x4<(slices.length:Int)) then(idx slices x4).bind λx13=>(if decide ((aY (x3+(x13.length:Int)))<0) then none else some (.next (aY (x3+(x13.length:Int)),aY (x4+1)))) else some (.stop (x3)))
def E6(slices:List (List Raw)):Int->Option (List Raw)
 |x5=>E5 slices x5
def z6(slices:List (List Raw)):Option (List Raw):=(loop (kD slices) (0,0)).bind (E6 slices)
def aGT:Option Bool:=some true
def UT(x4:Int)(x12:List Bool):Option (Step (Int×(List Bool)) (Out Unit Bool)):=some (.next (aY (x4+1),x12))
def uP(x10:Int)(x11:List Bool)(x13:Int)(x14:Bool):Option (Step (Int×(List Bool)) (Out (List Bool) Bool)):=(if x14 then some (.stop (Out.ret false)) else need (0<=(x13:Int)/\(x13:Int)<24) ((idx (x11:List Bool) x13).bind λx15=>some (.next (aY (x10+1),x11.set (x13.toNat) true))))
def uQ(x6:bH):(Int×(List Bool))->Option (Step (Int×(List Bool)) (Out (List Bool) Bool))
 |(x10,x11)=>(if decide (x10<(x6.aV.length:Int)) then(idx x6.aV x10).bind λx13=>(sO x13).bind λx16=>(if !x16 then uP x10 x11 x13 true else need (0<=(x13:Int)/\(x13:Int)<24) ((idx (x11:List Bool) x13).bind λx17=>uP x10 x11 x13 x17)) else some (.stop (Out.brk x11)))
def UU(x4:Int):(Out (List Bool) Bool)->Option (Step (Int×(List Bool)) (Out Unit Bool))
 |.brk x12=>UT x4 x12
 |.ret r=>some (.stop (Out.ret r))
def oX(x4:Int)(x5:List Bool)(x6:bH)(x7:Bool):Option (Step (Int×(List Bool)) (Out Unit Bool)):=(if x7 then some (.stop (Out.ret false)) else(loop (uQ x6) (0,x5)).bind (UU x4))
def uR(l:aE):(Int×(List Bool))->Option (Step (Int×(List Bool)) (Out Unit Bool))
 |(x4,x5)=>(if decide (x4<((l.Own++l.Global).length:Int)) then(idx (l.Own++l.Global) x4).bind λx6=>(if decide (x4<(l.Own.length:Int)) then oX x4 x5 x6 (decide (2<(x6.aV.length:Int))) else oX x4 x5 x6 false) else some (.stop (Out.brk ())))
def aGU:(Out Unit Bool)->Option Bool
 |.brk ()=>aGT
 |.ret r=>some r
def BV(l:aE)(x1:Bool):Option Bool:=(if x1 then some false else need (l.Own.length+l.Global.length<=1073741824) ((loop (uR l) (0,List.replicate 24 false)).bind (aGU)))
def pH(l:aE):Option Bool:=(if(l.Global.length:Int) != 3 then BV l true else BV l ((l.Own.length:Int) != 9))
def AZ(slot c:Int)(x1:Bool):Option Int:=(if x1 then some (-1) else(vR c).bind λx2=>some (aY ((aY ((aY ((aY (Int.tdiv slot 4))*64))+8))+(aY ((Int.tmod slot 4)*x2)))))
def xG(slot c:Int):Option Int:=(sO slot).bind λx3=>(if !x3 then AZ slot c true else(lK c).bind λx4=>(if !x4 then AZ slot c true else(pG c).bind λx5=>AZ slot c (decide (x5<=(Int.tmod slot 4)))))
def BW(h:Heap)(slot:Int)(x1:Bool):Option Int:=(if x1 then some (-1) else(idx h.Class (aY (Int.tdiv slot 4))).bind λx2=>some x2)
def lL(h:Heap)(slot:Int):Option Int:=(sO slot).bind λx3=>(if !x3 then BW h slot true else(idx h.Class (aY (Int.tdiv slot 4))).bind λx4=>(xG slot x4).bind λx5=>BW h slot (decide (x5<0)))
def E7(h:Heap)(slot:Int):Option Int:=(I9 h).bind λx1=>(if !x1 then some (-1) else(lL h slot).bind λx2=>some x2)
def C0(h:Heap)(slot:Int):Option Int:=(E7 h slot).bind λx1=>(if decide (x1<0) then some 0 else(xG slot x1).bind λx2=>(pE h.Bytes x2 4).bind λx3=>some x3)
def aEX:Option Bool:=some true
def yX(x2:Int)(x4:Bool):Option (Step Int (Out Unit Bool)):=(if x4 then some (.stop (Out.ret false)) else some (.next (aY (x2+1))))
def nE(h:Heap)(s:bH)(c:Int):Int->Option (Step Int (Out Unit Bool))
 |x2=>(if decide (x2<(s.aV.length:Int)) then(idx s.aV x2).bind λx3=>(lL h x3).bind λx5=>(if x5 != c then yX x2 true else(C0 h x3).bind λx6=>yX x2 (decide (6<x6))) else some (.stop (Out.brk ())))
def aEY:(Out Unit Bool)->Option Bool
 |.brk ()=>aEX
 |.ret r=>some r
def A0(h:Heap)(s:bH)(c:Int):Option Bool:=(loop (nE h s c) 0).bind (aEY)
def aNW:Option Bool:=some true
def vS(m:Mem):Int->Option (Step Int (Out Unit Bool))
 |x5=>(if decide (x5<(m.aE.Own.length:Int)) then(idx m.aE.Own x5).bind λx6=>(A0 m.Heap x6 (Int.tmod x5 3)).bind λx7=>(if !x7 then some (.stop (Out.ret false)) else some (.next (aY (x5+1)))) else some (.stop (Out.brk ())))
def aNX:(Out Unit Bool)->Option Bool
 |.brk ()=>aNW
 |.ret r=>some r
def Z2(m:Mem):Option Bool:=(loop (vS m) 0).bind (aNX)
def vT(m:Mem):Int->Option (Step Int (Out Unit Bool))
 |x3=>(if decide (x3<(m.aE.Global.length:Int)) then(idx m.aE.Global x3).bind λx8=>(A0 m.Heap x8 x3).bind λx9=>(if !x9 then some (.stop (Out.ret false)) else some (.next (aY (x3+1)))) else some (.stop (Out.brk ())))
def Z3(m:Mem):(Out Unit Bool)->Option Bool
 |.brk ()=>Z2 m
 |.ret r=>some r
def IL(m:Mem)(x1:Bool):Option Bool:=(if x1 then some false else(loop (vT m) 0).bind (Z3 m))
def xH(m:Mem):Option Bool:=(JC m.Heap).bind λx10=>(if !x10 then IL m true else(pH m.aE).bind λx11=>IL m (!x11))
def DT:Option Int:=some (-1)
def jV(s:List wU)(f:(wU->Option Bool)):Int->Option (Step Int (Out Unit Int))
 |x2=>(if decide (x2<(s.length:Int)) then(idx s x2).bind λx3=>(f x3).bind λx4=>(if x4 then some (.stop (Out.ret x2)) else some (.next (aY (x2+1)))) else some (.stop (Out.brk ())))
def rQ:(Out Unit Int)->Option Int
 |.brk ()=>DT
 |.ret r=>some r
def xI(s:List wU)(f:(wU->Option Bool)):Option Int:=(loop (jV s f) 0).bind (rQ)
def l9(s:List wU)(f:(wU->Option Bool)):Option Bool:=(xI s f).bind λx1=>some (decide (0<=x1))
def mA(x1:Bool):Option Bool:=some x1
def xJ(p:wU)(k0:aC):Option Bool:=(bS p.aL 0 k0.aL).bind λx2=>(if !x2 then mA true else(bS p.Seen 0 2).bind λx3=>(if !x3 then mA true else(if !p.On then mA (!(decide (p=(⟨false,0,false,0⟩:wU)))) else mA false)))
def uS(x1:Bool):Option Bool:=some x1
def pI(c:aC):Option Bool:=(bS c.aL 0 100000).bind λx2=>(if x2 then(if(c.cO.length:Int) == 3 then(l9 c.cO (λy0=>xJ y0 c)).bind λx3=>uS (!x3) else uS false) else uS false)
def yY(x1:Bool):Option Bool:=some x1
def iS(h:Int):Option Bool:=(bS h 32 223).bind λx2=>(if x2 then yY (decide ((Int.tmod h 32)<24)) else yY false)
def aCZ(x5:Int):Option Int:=some x5
def pJ(l:List bU):(Int×Int)->Option (Step (Int×Int) Int)
 |(x3,x4)=>(if decide (x4<(l.length:Int)) then(idx l x4).bind λx6=>some (.next (aY (x3+(x6.Rows.length:Int)),aY (x4+1))) else some (.stop (x3)))
def aC0:Int->Option Int
 |x5=>aCZ x5
def E8(l:List bU):Option Int:=(loop (pJ l) (0,0)).bind (aC0)
def UW(l:List bU):Option Bool:=(E8 l).bind λx5=>some (decide (x5<=24))
def UX(x3:Int)(x11:List Bool):Option (Step (Int×(List Bool)) (Out Unit Bool)):=some (.next (aY (x3+1),x11))
def mI(x9:Int)(x10:List Bool)(x12:eR)(x13:Bool):Option (Step (Int×(List Bool)) (Out (List Bool) Bool)):=(if x13 then some (.stop (Out.ret false)) else need (0<=(Int.tmod x12.Handle 32:Int)/\(Int.tmod x12.Handle 32:Int)<24) ((idx (x10:List Bool) (Int.tmod x12.Handle 32)).bind λx14=>some (.next (aY (x9+1),x10.set ((Int.tmod x12.Handle 32).toNat) true))))
def uT(x6:bU):(Int×(List Bool))->Option (Step (Int×(List Bool)) (Out (List Bool) Bool))
 |(x9,x10)=>(if decide (x9<(x6.Rows.length:Int)) then(idx x6.Rows x9).bind λx12=>(iS x12.Handle).bind λx15=>(if !x15 then mI x9 x10 x12 true else(bS x12.aL 0 100000).bind λx16=>(if !x16 then mI x9 x10 x12 true else need (0<=(Int.tmod x12.Handle 32:Int)/\(Int.tmod x12.Handle 32:Int)<24) ((idx (x10:List Bool) (Int.tmod x12.Handle 32)).bind λx17=>mI x9 x10 x12 x17))) else some (.stop (Out.brk x10)))
def UY(x3:Int):(Out (List Bool) Bool)->Option (Step (Int×(List Bool)) (Out Unit Bool))
 |.brk x11=>UX x3 x11
 |.ret r=>some (.stop (Out.ret r))
def uU(l:List bU):(Int×(List Bool))->Option (Step (Int×(List Bool)) (Out Unit Bool))
 |(x3,x4)=>(if decide (x3<(l.length:Int)) then(idx l x3).bind λx6=>(loop (uT x6) (0,x4)).bind (UY x3) else some (.stop (Out.brk ())))
def UZ(l:List bU):(Out Unit Bool)->Option Bool
 |.brk ()=>UW l
 |.ret r=>some r
def tC(l:List bU):Option Bool:=(if(l.length:Int) != 3 then some false else(loop (uU l) (0,List.replicate 24 false)).bind (UZ l))
def xK(x1:Bool):Option Bool:=some x1
def m8(h:Int):Option Bool:=(if h == 0 then xK true else(iS h).bind λx2=>xK x2)
def LF(h:Int):Option Bool:=(m8 h).bind λx1=>some (!x1)
def IM(x1:Bool):Option Bool:=some x1
def S6(z:List Int):Option Bool:=(if(z.length:Int) == 3 then(fA z (λy0=>LF y0)).bind λx2=>IM (!x2) else IM false)
def zU:Option Int:=some (-1)
def kU(s:List bU)(f:(bU->Option Bool)):Int->Option (Step Int (Out Unit Int))
 |x2=>(if decide (x2<(s.length:Int)) then(idx s x2).bind λx3=>(f x3).bind λx4=>(if x4 then some (.stop (Out.ret x2)) else some (.next (aY (x2+1)))) else some (.stop (Out.brk ())))
def zV:(Out Unit Int)->Option Int
 |.brk ()=>zU
 |.ret r=>some r
def tD(s:List bU)(f:(bU->Option Bool)):Option Int:=(loop (kU s f) 0).bind (zV)
def i4(s:List bU)(f:(bU->Option Bool)):Option Bool:=(tD s f).bind λx1=>some (decide (0<=x1))
def A1:Option Int:=some (-1)
def lM(s:List eR)(f:(eR->Option Bool)):Int->Option (Step Int (Out Unit Int))
 |x2=>(if decide (x2<(s.length:Int)) then(idx s x2).bind λx3=>(f x3).bind λx4=>(if x4 then some (.stop (Out.ret x2)) else some (.next (aY (x2+1)))) else some (.stop (Out.brk ())))
def A2:(Out Unit Int)->Option Int
 |.brk ()=>A1
 |.ret r=>some r
def wC(s:List eR)(f:(eR->Option Bool)):Option Int:=(loop (lM s f) 0).bind (A2)
def jG(s:List eR)(f:(eR->Option Bool)):Option Bool:=(wC s f).bind λx1=>some (decide (0<=x1))
def KY:Option Int:=some (-1)
def fE(s:List Int)(v:Int):Int->Option (Step Int (Out Unit Int))
 |x2=>(if decide (x2<(s.length:Int)) then(idx s x2).bind λx3=>(if v == x3 then some (.stop (Out.ret x2)) else some (.next (aY (x2+1)))) else some (.stop (Out.brk ())))
def z7:(Out Unit Int)->Option Int
 |.brk ()=>KY
 |.ret r=>some r
def nG(s:List Int)(v:Int):Option Int:=(loop (fE s v) 0).bind (z7)
def i7(s:List Int)(v:Int):Option Bool:=(nG s v).bind λx1=>some (decide (0<=x1))
def qH(s:bH)(k0:Int):Option Bool:=(i7 s.aV k0).bind λx1=>some x1
def zW:Option Int:=some (-1)
def kV(s:List bH)(f:(bH->Option Bool)):Int->Option (Step Int (Out Unit Int))
 |x2=>(if decide (x2<(s.length:Int)) then(idx s x2).bind λx3=>(f x3).bind λx4=>(if x4 then some (.stop (Out.ret x2)) else some (.next (aY (x2+1)))) else some (.stop (Out.brk ())))
def zX:(Out Unit Int)->Option Int
 |.brk ()=>zW
 |.ret r=>some r
def tE(s:List bH)(f:(bH->Option Bool)):Option Int:=(loop (kV s f) 0).bind (zX)
def i5(s:List bH)(f:(bH->Option Bool)):Option Bool:=(tE s f).bind λx1=>some (decide (0<=x1))
def E9(x1:Bool):Option Bool:=some x1
def JD(l:aE)(slot:Int):Option Bool:=(i5 l.Global (λy0=>qH y0 slot)).bind λx2=>(if x2 then E9 true else(i5 l.Own (λy0=>qH y0 slot)).bind λx3=>E9 x3)
def LG(m:Mem)(slot:Int):Option Int:=(lL m.Heap slot).bind λx1=>(if decide (x1<0) then some 0 else(JD m.aE slot).bind λx2=>(if x2 then some 1 else(C0 m.Heap slot).bind λx3=>(if decide (6<x3) then some 2 else some 3)))
def xL(x1:Bool):Option Bool:=some x1
def xM(m:Mem)(h:Int):Option Bool:=(iS h).bind λx2=>(if x2 then(LG m (Int.tmod h 32)).bind λx3=>(if x3 == 3 then(C0 m.Heap (Int.tmod h 32)).bind λx4=>xL (x4 == (aY (Int.tdiv h 32))) else xL false) else xL false)
def tF(x1:Bool):Option Bool:=some x1
def BX(r_:eR)(k0:aA):Option Bool:=(xM k0.Mem r_.Handle).bind λx2=>(if !x2 then tF true else tF (decide (k0.aC.aL<r_.aL)))
def IN(l:bU)(k0:aA):Option Bool:=(jG l.Rows (λy0=>BX y0 k0)).bind λx1=>some x1
def rR(b:aA)(x1:Bool):Option Bool:=(if x1 then some false else(i4 b.aQ (λy0=>IN y0 b)).bind λx2=>some (!x2))
def O1(b:aA):Option Bool:=(xH b.Mem).bind λx3=>(if !x3 then rR b true else(pI b.aC).bind λx4=>(if !x4 then rR b true else(tC b.aQ).bind λx5=>(if !x5 then rR b true else(S6 b.qT).bind λx6=>rR b (!x6))))
def RK:Option Int:=some (-1)
def rS(s:List bW)(f:(bW->Option Bool)):Int->Option (Step Int (Out Unit Int))
 |x2=>(if decide (x2<(s.length:Int)) then(idx s x2).bind λx3=>(f x3).bind λx4=>(if x4 then some (.stop (Out.ret x2)) else some (.next (aY (x2+1)))) else some (.stop (Out.brk ())))
def DU:(Out Unit Int)->Option Int
 |.brk ()=>RK
 |.ret r=>some r
def JE(s:List bW)(f:(bW->Option Bool)):Option Int:=(loop (rS s f) 0).bind (DU)
def rT(s:List bW)(f:(bW->Option Bool)):Option Bool:=(JE s f).bind λx1=>some (decide (0<=x1))
def IP(x1:Bool):Option Bool:=some x1
def aAX(b:bW):Option Bool:=(m8 b.Head).bind λx2=>(if x2 then(bS b.eO 0 1000000).bind λx3=>(if x3 then(bS b.eM 0 3).bind λx4=>IP x4 else IP false) else IP false)
def MQ(b:bW):Option Bool:=(aAX b).bind λx1=>some (!x1)
def PR:Option Int:=some (-1)
def qI(s:List aI)(f:(aI->Option Bool)):Int->Option (Step Int (Out Unit Int))
 |x2=>(if decide (x2<(s.length:Int)) then(idx s x2).bind λx3=>(f x3).bind λx4=>(if x4 then some (.stop (Out.ret x2)) else some (.next (aY (x2+1)))) else some (.stop (Out.brk ())))
def A3:(Out Unit Int)->Option Int
 |.brk ()=>PR
 |.ret r=>some r
def HE(s:List aI)(f:(aI->Option Bool)):Option Int:=(loop (qI s f) 0).bind (A3)
def gY(s:List aI)(f:(aI->Option Bool)):Option Bool:=(HE s f).bind λx1=>some (decide (0<=x1))
def Y8:Option Bool:=some true
def KZ(s1 s2:List hU):Int->Option (Step Int (Out Unit Bool))
 |x2=>(if decide (x2<(s1.length:Int)) then(idx s1 x2).bind λx3=>(idx s2 x2).bind λx4=>(if !(decide (x3=x4)) then some (.stop (Out.ret false)) else some (.next (aY (x2+1)))) else some (.stop (Out.brk ())))
def Y9:(Out Unit Bool)->Option Bool
 |.brk ()=>Y8
 |.ret r=>some r
def yZ(s1 s2:List hU):Option Bool:=(if(s1.length:Int) != (s2.length:Int) then some false else(loop (KZ s1 s2) 0).bind (Y9))
def ZA:Option Bool:=some true
def K0(s1 s2:List eJ):Int->Option (Step Int (Out Unit Bool))
 |x2=>(if decide (x2<(s1.length:Int)) then(idx s1 x2).bind λx3=>(idx s2 x2).bind λx4=>(if !(decide (x3=x4)) then some (.stop (Out.ret false)) else some (.next (aY (x2+1)))) else some (.stop (Out.brk ())))
def ZB:(Out Unit Bool)->Option Bool
 |.brk ()=>ZA
 |.ret r=>some r
def HT(s1 s2:List eJ):Option Bool:=(if(s1.length:Int) != (s2.length:Int) then some false else(loop (K0 s1 s2) 0).bind (ZB))
def FA(x1:Bool):Option Bool:=some x1
def FB(a_ b:Batch):Option Bool:=(if a_.Collect == b.Collect then(HT a_.bN b.bN).bind λx2=>FA x2 else FA false)
def WJ:Option Bool:=some true
def JF(s1 s2:List Seen):Int->Option (Step Int (Out Unit Bool))
 |x2=>(if decide (x2<(s1.length:Int)) then(idx s1 x2).bind λx3=>(idx s2 x2).bind λx4=>(if !(decide (x3=x4)) then some (.stop (Out.ret false)) else some (.next (aY (x2+1)))) else some (.stop (Out.brk ())))
def WK:(Out Unit Bool)->Option Bool
 |.brk ()=>WJ
 |.ret r=>some r
def wH(s1 s2:List Seen):Option Bool:=(if(s1.length:Int) != (s2.length:Int) then some false else(loop (JF s1 s2) 0).bind (WK))
def VN:Option Bool:=some true
def HF(s1 s2:List aU):Int->Option (Step Int (Out Unit Bool))
 |x2=>(if decide (x2<(s1.length:Int)) then(idx s1 x2).bind λx3=>(idx s2 x2).bind λx4=>(if !(decide (x3=x4)) then some (.stop (Out.ret false)) else some (.next (aY (x2+1)))) else some (.stop (Out.brk ())))
def VO:(Out Unit Bool)->Option Bool
 |.brk ()=>VN
 |.ret r=>some r
def tG(s1 s2:List aU):Option Bool:=(if(s1.length:Int) != (s2.length:Int) then some false else(loop (HF s1 s2) 0).bind (VO))
def ZC:Option Bool:=some true
def K2(s1 s2:List Int):Int->Option (Step Int (Out Unit Bool))
 |x2=>(if decide (x2<(s1.length:Int)) then(idx s1 x2).bind λx3=>(idx s2 x2).bind λx4=>(if x3 != x4 then some (.stop (Out.ret false)) else some (.next (aY (x2+1)))) else some (.stop (Out.brk ())))
def ZD:(Out Unit Bool)->Option Bool
 |.brk ()=>ZC
 |.ret r=>some r
def nH(s1 s2:List Int):Option Bool:=(if(s1.length:Int) != (s2.length:Int) then some false else(loop (K2 s1 s2) 0).bind (ZD))
def bY(x1:Bool):Option Bool:=some x1
def IQ(a_ b:aI):Option Bool:=(if a_.bQ == b.bQ then(FB a_.Batch b.Batch).bind λx2=>(if x2 then(if a_.aG == b.aG then(if a_.Pc == b.Pc then(if a_.At == b.At then(if a_.K == b.K then(if a_.bW == b.bW then(if a_.eO == b.eO then(if a_.H == b.H then(if a_.gT == b.gT then(if decide (a_.Node=b.Node) then(if a_.Found == b.Found then(if a_.Code == b.Code then(if decide (a_.Sub=b.Sub) then(wH a_.Reads b.Reads).bind λx3=>(if x3 then(tG a_.aH b.aH).bind λx4=>(if x4 then(yZ a_.hU b.hU).bind λx5=>(if x5 then(nH a_.gL b.gL).bind λx6=>(if x6 then(nH a_.bE b.bE).bind λx7=>(if x7 then(nH a_.cB b.cB).bind λx8=>bY x8 else bY false) else bY false) else bY false) else bY false) else bY false) else bY false) else bY false) else bY false) else bY false) else bY false) else bY false) else bY false) else bY false) else bY false) else bY false) else bY false) else bY false) else bY false) else bY false)
def HU(b:Int):Option Bool:=(bS b 0 1).bind λx1=>some x1
def wI(h:Int):Option Bool:=(iS h).bind λx1=>some (!x1)
def C1(x1:Bool):Option Bool:=some x1
def uV(list:List Int):Option Bool:=(if decide ((list.length:Int)<=6) then(fA list (λy0=>wI y0)).bind λx2=>C1 (!x2) else C1 false)
def PT:Option Int:=some (-1)
def jH(s:List Seen)(f:(Seen->Option Bool)):Int->Option (Step Int (Out Unit Int))
 |x2=>(if decide (x2<(s.length:Int)) then(idx s x2).bind λx3=>(f x3).bind λx4=>(if x4 then some (.stop (Out.ret x2)) else some (.next (aY (x2+1)))) else some (.stop (Out.brk ())))
def A4:(Out Unit Int)->Option Int
 |.brk ()=>PT
 |.ret r=>some r
def eY(s:List Seen)(f:(Seen->Option Bool)):Option Int:=(loop (jH s f) 0).bind (A4)
def fS(s:List Seen)(f:(Seen->Option Bool)):Option Bool:=(eY s f).bind λx1=>some (decide (0<=x1))
def PU(s:Seen):Option Bool:=(HU s.bW).bind λx1=>some (!x1)
def RL(list:List aU):Option Bool:=some (decide ((list.length:Int)<=6))
def lC(x2:Int)(x4:Bool):Option (Step Int (Out Unit Bool)):=(if x4 then some (.stop (Out.ret false)) else some (.next (aY (x2+1))))
def rU(list:List aU):Int->Option (Step Int (Out Unit Bool))
 |x2=>(if decide (x2<(list.length:Int)) then(idx list x2).bind λx3=>(bS x3.Key 0 99).bind λx5=>(if !x5 then lC x2 true else(bS x3.dC 0 65535).bind λx6=>(if !x6 then lC x2 true else(if decide (0<x2) then(idx list (aY (x2-1))).bind λx7=>lC x2 (decide (x3.Key<=x7.Key)) else lC x2 false))) else some (.stop (Out.brk ())))
def RM(list:List aU):(Out Unit Bool)->Option Bool
 |.brk ()=>RL list
 |.ret r=>some r
def IS(list:List aU):Option Bool:=(loop (rU list) 0).bind (RM list)
def iK(x4:Bool):Option Bool:=some x4
def WL(j:aI):Option Bool:=(E1 j.Batch).bind λx5=>(if x5 then(m8 j.H).bind λx6=>(if x6 then(m8 j.gT).bind λx7=>(if x7 then(HU j.bW).bind λx8=>(if x8 then(bS j.At 0 (j.Batch.bN.length:Int)).bind λx9=>(if x9 then(bS j.K 0 100).bind λx10=>(if x10 then(uV j.gL).bind λx11=>(if x11 then(uV j.cB).bind λx12=>(if x12 then(fS j.Reads (λy0=>PU y0)).bind λx13=>(if !x13 then(IS j.aH).bind λx14=>iK x14 else iK false) else iK false) else iK false) else iK false) else iK false) else iK false) else iK false) else iK false) else iK false)
def FD(x3:Int)(x16:Bool):Option (Step Int (Out Unit Bool)):=(if x16 then some (.stop (Out.ret false)) else some (.next (aY (x3+1))))
def xN(j:aI):Int->Option (Step Int (Out Unit Bool))
 |x3=>(if decide (x3<(j.bE.length:Int)) then(idx j.bE x3).bind λx15=>(HU x15).bind λx17=>(if !x17 then FD x3 true else need (0<=(x3:Int)/\(x3:Int)<=(j.bE.length:Int)) ((i7 ((j.bE.take x3.toNat).drop 0) x15).bind λx18=>FD x3 x18)) else some (.stop (Out.brk ())))
def WM(j:aI):(Out Unit Bool)->Option Bool
 |.brk ()=>WL j
 |.ret r=>some r
def sP(j:aI):Option Bool:=(if !j.bQ then(IQ j (⟨false,(⟨false,[]⟩:Batch),0,0,0,0,0,0,0,0,(⟨0,0,0⟩:gR),false,0,(⟨0,0,0,0,0,0,0,0,0,false⟩:Sub),[],[],[],[],[],[]⟩:aI)).bind λx1=>some x1 else(loop (xN j) 0).bind (WM j))
def MR(j:aI):Option Bool:=(sP j).bind λx1=>some (!x1)
def kL(x1:Bool):Option Bool:=some x1
def FE(t:Table):Option Bool:=(O1 t.aA).bind λx2=>(if x2 then(if(t.aR.length:Int) == 2 then(rT t.aR (λy0=>MQ y0)).bind λx3=>(if !x3 then(if(t.aS.length:Int) == 3 then(gY t.aS (λy0=>MR y0)).bind λx4=>(if !x4 then(E3 t.fI).bind λx5=>(if x5 then(bS t.aG 0 1000000).bind λx6=>kL x6 else kL false) else kL false) else kL false) else kL false) else kL false) else kL false)
def K3(s:List Batch)(i j:Int):Option (List Batch):=need (0<=i/\i<=j/\j<=(s.length:Int)) (some (s.take i.toNat++s.drop j.toNat))
def lS(kind a_:Int):Option Sub:=some (⟨kind,a_,0,0,0,0,0,0,0,false⟩:Sub)
def z8(t:Table)(w_:Int)(x2:aJ)(x3:Batch)(x6:aI)(x8:List j7):Option Table:=some (⟨t.aA,t.aR,t.aS.set w_.toNat ({x6 with Batch:=(⟨x6.Batch.Collect,x3.bN⟩:Batch),Reads:=[],aH:=[],hU:=[],gL:=[],bE:=[],cB:=[]}:aI),t.fI.set w_.toNat (⟨x2.List.drop 1⟩:aJ),x8,aY (t.aG+1)⟩:Table)
def mM(t:Table)(w_:Int)(x2:aJ)(x3:Batch)(x6:aI):Option Table:=
 (idx t.aS w_).bind λx7=>(lB x3.bN).bind λx9=>need (t.Log.length+([(⟨1,w_,x6.aG,0,x9,[]⟩:j7)]).length<=1073741824)<|z8 t w_ x2 x3 x6 (t.Log++([(⟨1,w_,x6.aG,0,x9,[]⟩:j7)]))
def AA(t:Table)(w_:Int)(x2:aJ)(x3:Batch)(x5:aI):Option Table:=(if x3.Collect then(lS 3 0).bind λx10=>mM t w_ x2 x3 ({x5 with Batch:=(⟨x5.Batch.Collect,x3.bN⟩:Batch),Pc:=20,Sub:=x10,Reads:=[],aH:=[],hU:=[],gL:=[],bE:=[],cB:=[]}:aI) else mM t w_ x2 x3 ({x5 with Batch:=(⟨x5.Batch.Collect,x3.bN⟩:Batch),Reads:=[],aH:=[],hU:=[],gL:=[],bE:=[],cB:=[]}:aI))
def mN(t:Table)(w_:Int)(x1:Bool):Option Table:=(if x1 then some t else(idx t.fI w_).bind λx2=>(idx x2.List 0).bind λx3=>(K3 x2.List 0 1).bind λx4=>(lS 5 0).bind λx11=>AA t w_ x2 x3 (⟨true,x3,aY (t.aG+1),0,0,0,0,0,0,0,(⟨0,0,0⟩:gR),false,0,x11,[],[],[],[],[],[]⟩:aI))
def y5(t:Table)(w_:Int):Option Table:=(idx t.fI w_).bind λx12=>(if(x12.List.length:Int) == 0 then mN t w_ true else mN t w_ (t.aG == 1000000))
def bJ(s:Sub)(code:Int):Option Sub:=some ({s with Code:=code,gX:=true}:Sub)
def aGV:Option Int:=some (-1)
def BY(x2:Int)(x3:Bool):Option (Step Int (Out Unit Int)):=(if x3 then some (.stop (Out.ret x2)) else some (.next (aY (x2+1))))
def kM(size:Int):Int->Option (Step Int (Out Unit Int))
 |x2=>(if decide (x2<3) then(if decide (1<=size) then(DS x2).bind λx4=>BY x2 (decide (size<=x4)) else BY x2 false) else some (.stop (Out.brk ())))
def aGW:(Out Unit Int)->Option Int
 |.brk ()=>aGV
 |.ret r=>some r
def LH(size:Int):Option Int:=(loop (kM size) 0).bind (aGW)
def gZ(w_:Int):Option Bool:=(bS w_ 0 2).bind λx1=>some x1
def IT(w_ c:Int)(x1:Bool):Option Int:=(if x1 then some (-1) else some (aY ((aY (w_*3))+c)))
def MS(w_ c:Int):Option Int:=(gZ w_).bind λx2=>(if !x2 then IT w_ c true else(lK c).bind λx3=>IT w_ c (!x3))
def xO(s:bH):Option (Int×bH):=(if decide ((aY ((s.aV.length:Int)-1))<0) then some ((-1),s) else(idx s.aV (aY ((s.aV.length:Int)-1))).bind λx1=>need (0<=(aY ((s.aV.length:Int)-1):Int)/\(aY ((s.aV.length:Int)-1):Int)<=(aY ((s.aV.length:Int)-1):Int)/\(aY ((s.aV.length:Int)-1):Int)<=(s.aV.length:Int)) (some (x1,(⟨(s.aV.take ((aY ((s.aV.length:Int)-1)).toNat)).drop 0⟩:bH))))
def BZ(x1:aE)(x2:Int)(x3:Bool):Option (aE×Int):=(if x3 then some (x1,(-1)) else(idx x1.Own x2).bind λx4=>(xO x4).bind λx5=>some ((⟨x1.Global,x1.Own.set x2.toNat x5.2⟩:aE),x5.1))
def LI(l:aE)(w_ c:Int):Option (aE×Int):=(jF l).bind λx1=>(MS w_ c).bind λx2=>(pH l).bind λx6=>(if !x6 then BZ x1 x2 true else BZ x1 x2 (decide (x2<0)))
def tH(c:Int)(x1:aE)(x2:Bool):Option (aE×Int):=(if x2 then some (x1,(-1)) else(idx x1.Global c).bind λx3=>(xO x3).bind λx4=>some ((⟨x1.Global.set c.toNat x4.2,x1.Own⟩:aE),x4.1))
def B4(l:aE)(c:Int):Option (aE×Int):=(jF l).bind λx1=>(pH l).bind λx5=>(if !x5 then tH c x1 true else(lK c).bind λx6=>tH c x1 (!x6))
def MU(b x5:List Int):Option (List Int):=need (x5.length=b.length) (some x5)
def lT(b:List Int)(at_:Int)(text:List UInt8):((List Int)×Int)->Option (Step ((List Int)×Int) (List Int))
 |(x3,x4)=>need (x3.length=b.length) ((if decide (x4<(text.length:Int)) then(idx text x4).bind λx6=>(idx x3 (aY (at_+x4))).bind λx7=>some (.next (x3.set ((aY (at_+x4)).toNat) (x6.toNat:Int),aY (x4+1))) else some (.stop (x3))))
def MV(b:List Int):(List Int)->Option (List Int)
 |x5=>MU b x5
def m9(b:List Int)(at_:Int)(text:List UInt8):Option (List Int):=(loop (lT b at_ text) (b,0)).bind (MV b)
def y6(width:Int):Option Bool:=(bS width 1 7).bind λx1=>some x1
def aNY(x8:List UInt8):Option (List UInt8):=some x8
def qJ:(Int×(List UInt8)×Int)->Option (Step (Int×(List UInt8)×Int) (List UInt8))
 |(x5,x6,x7)=>(if decide (0<=x7) then(idx x6 x7).bind λx9=>some (.next (o8 .i64 x5 8,x6.set x7.toNat (u8 x5),aY (x7-1))) else some (.stop (x6)))
def aNZ:(List UInt8)->Option (List UInt8)
 |x8=>aNY x8
def vU(n width:Int)(x1:Bool):Option (List UInt8):=(if x1 then some ([]) else need (0<=(width:Int)/\(width:Int)<=4294967296) ((loop (qJ) (n,List.replicate (width.toNat) 0,aY (width-1))).bind (aNZ)))
def mJ(n width:Int):Option (List UInt8):=(y6 width).bind λx10=>(if !x10 then vU n width true else(if decide (n<0) then vU n width true else need (0<=(IntKind.u64.wrap (aY (8*width)):Int)) (vU n width (decide ((aJN .i64 1 (IntKind.u64.wrap (aY (8*width))))<=n)))))
def FF(page index:Int)(x1:Bool):Option Int:=(if x1 then some (-1) else some (aY ((aY (page*4))+index)))
def O2(page index:Int):Option Int:=(bS page 0 5).bind λx2=>(if !x2 then FF page index true else(bS index 0 3).bind λx3=>FF page index (!x3))
def aN0(c:Int)(x1:Heap)(x2:Int)(x13 x14:List Int):Option (Heap×(List Int)):=some ((⟨x14,x1.Class.set x2.toNat c⟩:Heap),x13)
def PW(x10:List Int)(x11 x15:Int)(x16:List Int):Option (Step ((List Int)×Int×(List Int)) ((List Int)×(List Int))):=need (x10.length+([x15]).length<=1073741824) (some (.next (x10++([x15]),aY (x11+1),x16)))
def IU(c x2 x6:Int):((List Int)×Int×(List Int))->Option (Step ((List Int)×Int×(List Int)) ((List Int)×(List Int)))
 |(x10,x11,x12)=>(if decide (x11<x6) then(O2 x2 x11).bind λx15=>(xG x15 c).bind λx17=>(mJ 1 4).bind λx18=>(m9 x12 x17 x18).bind λx19=>PW x10 x11 x15 x19 else some (.stop ((x10,x12))))
def aN1(c:Int)(x1:Heap)(x2:Int):((List Int)×(List Int))->Option (Heap×(List Int))
 |(x13,x14)=>aN0 c x1 x2 x13 x14
def PX(c:Int)(x1:Heap)(x2:Int)(x5:List Int):Option (Heap×(List Int)):=(pG c).bind λx6=>(loop (IU c x2 x6) (([]:List Int),0,x5)).bind (aN1 c x1 x2)
def A5(c:Int)(x1:Heap)(x2:Int)(x3:Bool):Option (Heap×(List Int)):=
 (if x3 then some (x1,([]:List Int)) else(idx x1.Class x2).bind λx4=>need (0<=(aY (x2*64):Int)/\(aY (x2*64):Int)<=(x1.Bytes.length:Int))<|(pG c).bind λx20=>PX c x1 x2 (cS x1.Bytes ((aY (x2*64)).toNat) ([171,c,x20]:List Int)))
def HV(h:Heap)(c:Int):Option (Heap×(List Int)):=(vP h).bind λx1=>(nG h.Class (-1)).bind λx2=>(JC h).bind λx21=>(if !x21 then A5 c x1 x2 true else(lK c).bind λx22=>(if !x22 then A5 c x1 x2 true else A5 c x1 x2 (decide (x2<0))))
def J8(x4:Int)(x5:Mem):Option (Mem×Int):=some (x5,x4)
def J9(c:Int)(x1:Heap×(List Int))(x2:Mem):Option (Mem×Int):=(if(x1.2.length:Int) == 0 then some (x2,(-1)) else(idx x2.aE.Global c).bind λx3=>need (0<=(1:Int)/\(1:Int)<=(x1.2.length:Int)) (need (x3.aV.length+((x1.2.take x1.2.length).drop ((1:Int).toNat)).length<=1073741824) ((idx x1.2 0).bind λx6=>J8 x6 (⟨x2.Heap,(⟨x2.aE.Global.set c.toNat (⟨x3.aV++((x1.2.take x1.2.length).drop ((1:Int).toNat))⟩:bH),x2.aE.Own⟩:aE)⟩:Mem))))
def LJ(m:Mem)(c:Int):Option (Mem×Int):=(HV m.Heap c).bind λx1=>(jF m.aE).bind λx7=>J9 c x1 (⟨x1.1,x7⟩:Mem)
def y7(slot gen:Int)(x1:Bool):Option Int:=(if x1 then some 0 else some (aY ((aY (gen*32))+slot)))
def PY(slot gen:Int):Option Int:=(sO slot).bind λx2=>(if !x2 then y7 slot gen true else(bS gen 1 6).bind λx3=>y7 slot gen (!x3))
def IV(m:Mem)(slot:Int):Option Int:=(C0 m.Heap slot).bind λx1=>(PY slot x1).bind λx2=>some x2
def jE(s:Sub)(x3:Int)(x4:aA):Option (Sub×aA):=(if decide (0<=x3) then(IV x4.Mem x3).bind λx5=>(bJ ({s with Out:=x5}:Sub) 0).bind λx6=>some (x6,x4) else(if s.Pc == 3 then(bJ s 3).bind λx7=>some (x7,x4) else some (({s with Pc:=aY (s.Pc+1)}:Sub),x4)))
def oA(s:Sub)(b:aA)(x1:Int)(x9:Bool):Option (Sub×aA):=(if x9 then(B4 b.Mem.aE x1).bind λx10=>jE s x10.2 ({b with Mem:=(⟨b.Mem.Heap,x10.1⟩:Mem)}:aA) else(if s.Pc == 2 then(LJ b.Mem x1).bind λx11=>jE s x11.2 ({b with Mem:=x11.1}:aA) else(bJ s 1).bind λx12=>some (x12,b)))
def tI(s:Sub)(b:aA)(w_:Int):Option (Sub×aA):=(LH s.A).bind λx1=>(if decide (x1<0) then(bJ s 2).bind λx2=>some (x2,b) else(if s.Pc == 0 then(LI b.Mem.aE w_ x1).bind λx8=>jE s x8.2 ({b with Mem:=(⟨b.Mem.Heap,x8.1⟩:Mem)}:aA) else(if s.Pc == 1 then oA s b x1 true else oA s b x1 (s.Pc == 3))))
def qY(x1:Bool):Option Bool:=some x1
def rV(r_:eR)(k0:Int):Option Bool:=(iS r_.Handle).bind λx2=>(if x2 then qY ((Int.tmod r_.Handle 32) == k0) else qY false)
def FG(own:bU)(k0:Int):Option Bool:=(jG own.Rows (λy0=>rV y0 k0)).bind λx1=>some x1
def FH(l:List bU)(slot:Int):Option Bool:=(i4 l (λy0=>FG y0 slot)).bind λx1=>some x1
def y8(l:List bU)(w_ h e_:Int)(x1:Bool):Option ((List bU)×Bool):=(if x1 then(lR l).bind λx2=>some (x2,false) else(lR l).bind λx3=>(idx x3 w_).bind λx4=>need (x4.Rows.length+([(⟨h,e_⟩:eR)]).length<=1073741824) ((tC (x3.set w_.toNat (⟨x4.Rows++([(⟨h,e_⟩:eR)])⟩:bU))).bind λx5=>(if !x5 then(lR l).bind λx6=>some (x6,false) else some (x3.set w_.toNat (⟨x4.Rows++([(⟨h,e_⟩:eR)])⟩:bU),true))))
def IW(l:List bU)(w_ h e_:Int):Option ((List bU)×Bool):=(tC l).bind λx7=>(if !x7 then y8 l w_ h e_ true else(gZ w_).bind λx8=>y8 l w_ h e_ (!x8))
def mZ(s:Sub)(b:aA)(w_:Int)(x3:Bool):Option (Sub×aA):=(if x3 then(bJ s 4).bind λx4=>some (x4,b) else(IW b.aQ w_ s.A s.E).bind λx5=>(bJ s 0).bind λx6=>some (x6,({b with aQ:=x5.1}:aA)))
def m0(s:Sub)(b:aA)(w_:Int)(x1:Bool):Option (Sub×aA):=(if x1 then(bJ s 1).bind λx2=>some (x2,b) else(xM b.Mem s.A).bind λx7=>(if !x7 then mZ s b w_ true else(FH b.aQ (Int.tmod s.A 32)).bind λx8=>mZ s b w_ x8))
def qZ(s:Sub)(b:aA)(w_:Int):Option (Sub×aA):=(if s.Pc == 0 then some (({s with Pc:=1,E:=b.aC.aL}:Sub),b) else(if s.Pc != 1 then m0 s b w_ true else(bS s.E 0 b.aC.aL).bind λx9=>m0 s b w_ (!x9)))
def rW(w_:Int)(x1:aC)(x4:Bool):Option (aC×Bool):=(if x4 then some (x1,true) else(idx x1.cO w_).bind λx5=>(if decide (x5.Seen<2) then some ((⟨x1.aL,x1.cO.set w_.toNat ({x5 with Seen:=aY (x5.Seen+1)}:wU)⟩:aC),false) else some ((⟨x1.aL,x1.cO.set w_.toNat ({x5 with gP:=true,Seen:=0}:wU)⟩:aC),true)))
def FI(w_ e_:Int)(x1:aC)(x2:Bool):Option (aC×Bool):=(if x2 then some (x1,false) else(idx x1.cO w_).bind λx3=>(if !x3.On then rW w_ x1 true else(if x3.gP then rW w_ x1 true else rW w_ x1 (x3.aL == e_))))
def O3(c:aC)(w_ e_:Int):Option (aC×Bool):=(lQ c).bind λx1=>(pI c).bind λx6=>(if !x6 then FI w_ e_ x1 true else(gZ w_).bind λx7=>FI w_ e_ x1 (!x7))
def FJ(x1:aC)(x2:Bool):Option (aC×Bool):=(if x2 then some (x1,false) else some ((⟨aY (x1.aL+1),x1.cO⟩:aC),true))
def YW(c:aC)(e_:Int):Option (aC×Bool):=(lQ c).bind λx1=>(pI c).bind λx3=>(if !x3 then FJ x1 true else(if c.aL != e_ then FJ x1 true else FJ x1 (c.aL == 100000)))
def mB(s:Sub)(b:aA)(x4:aC×Bool)(x5:Int):Option (Sub×aA):=(bJ ({s with Out:=x5}:Sub) 0).bind λx6=>some (x6,({b with aC:=x4.1}:aA))
def mC(s:Sub)(b:aA)(x1:Bool):Option (Sub×aA):=(if x1 then(O3 b.aC s.B s.E).bind λx2=>(if !x2.2 then(bJ s 8).bind λx3=>some (x3,({b with aC:=x2.1}:aA)) else(if(aY (s.B+1)) == 3 then some (({s with Pc:=2,B:=aY (s.B+1)}:Sub),({b with aC:=x2.1}:aA)) else some (({s with B:=aY (s.B+1)}:Sub),({b with aC:=x2.1}:aA)))) else(if s.Pc == 2 then(YW b.aC s.E).bind λx4=>(if x4.2 then mB s b x4 1 else mB s b x4 s.Out) else(bJ s 1).bind λx7=>some (x7,b)))
def pK(s:Sub)(b:aA):Option (Sub×aA):=(if s.Pc == 0 then some (({s with Pc:=1,E:=b.aC.aL,B:=0}:Sub),b) else(if s.Pc == 1 then(gZ s.B).bind λx8=>mC s b x8 else mC s b false))
def MW(x3 x5:List Int):Option (Heap×Bool):=some ((⟨x5,x3⟩:Heap),true)
def FK(slot gen x1:Int)(x2 x3:List Int)(x4:Bool):Option (Heap×Bool):=(if x4 then some ((⟨x2,x3⟩:Heap),false) else(xG slot x1).bind λx6=>(mJ gen 4).bind λx7=>(m9 x2 x6 x7).bind λx8=>MW x3 x8)
def MX(slot gen x1:Int)(x2 x3:List Int):Option (Heap×Bool):=(if decide (x1<0) then FK slot gen x1 x2 x3 true else(bS gen 1 7).bind λx9=>FK slot gen x1 x2 x3 (!x9))
def WN(h:Heap)(slot gen:Int):Option (Heap×Bool):=(vP h).bind λx10=>(E7 h slot).bind λx11=>MX slot gen x11 x10.Bytes x10.Class
def y9(c slot:Int)(x1:aE)(x2:Int)(x3:Bool):Option (aE×Bool):=(if x3 then some (x1,false) else(idx x1.Own x2).bind λx4=>(if decide (2<=(x4.aV.length:Int)) then(idx x1.Global c).bind λx5=>need (x5.aV.length+([slot]).length<=1073741824) (some ((⟨x1.Global.set c.toNat (⟨x5.aV++([slot])⟩:bH),x1.Own⟩:aE),true)) else need (x4.aV.length+([slot]).length<=1073741824) (some ((⟨x1.Global,x1.Own.set x2.toNat (⟨x4.aV++([slot])⟩:bH)⟩:aE),true))))
def aEZ(l:aE)(w_ c slot:Int):Option (aE×Bool):=(jF l).bind λx1=>(MS w_ c).bind λx2=>(pH l).bind λx6=>(if !x6 then y9 c slot x1 x2 true else(if decide (x2<0) then y9 c slot x1 x2 true else(sO slot).bind λx7=>(if !x7 then y9 c slot x1 x2 true else(JD l slot).bind λx8=>y9 c slot x1 x2 x8)))
def PZ(x3:Mem):Option Mem:=some x3
def P0(m:Mem)(w_ h:Int)(x2:Mem):Option Mem:=(if decide ((aY ((aY (Int.tdiv h 32))+1))<=6) then(lL m.Heap (Int.tmod h 32)).bind λx4=>(aEZ m.aE w_ x4 (Int.tmod h 32)).bind λx5=>PZ (⟨x2.Heap,x5.1⟩:Mem) else PZ x2)
def MY(m:Mem)(w_ h:Int):Option Mem:=(WN m.Heap (Int.tmod h 32) (aY ((aY (Int.tdiv h 32))+1))).bind λx1=>(jF m.aE).bind λx6=>P0 m w_ h (⟨x1.1,x6⟩:Mem)
def FL(x1:Bool):Option Bool:=some x1
def JG(l:List bU)(w_ i:Int):Option Bool:=(gZ w_).bind λx2=>(if x2 then(idx l w_).bind λx3=>(bS i 0 (aY ((x3.Rows.length:Int)-1))).bind λx4=>FL x4 else FL false)
def LK(x1:Bool):Option Bool:=some x1
def RN(r_:eR)(e_:Int):Option Bool:=(if decide (2<=e_) then LK (decide (r_.aL<=(aY (e_-2)))) else LK false)
def JH(s:Sub)(b:aA):Option (Sub×aA):=(bJ s 0).bind λx3=>some (x3,b)
def fM(s:Sub)(b:aA)(w_:Int):Int->Option (Step Int (Out Unit (Sub×aA)))
 |x2=>(idx b.aQ w_).bind λx4=>(if decide (x2<(x4.Rows.length:Int)) then(idx x4.Rows x2).bind λx5=>(RN x5 s.E).bind λx6=>(if x6 then some (.stop (Out.ret (({s with Pc:=2,Row:=x2,B:=0,H:=x5.Handle}:Sub),b))) else some (.next (aY (x2+1)))) else some (.stop (Out.brk ())))
def WO(s:Sub)(b:aA):(Out Unit (Sub×aA))->Option (Sub×aA)
 |.brk ()=>JH s b
 |.ret r=>some r
def pL(s:Sub)(b:aA)(w_:Int):Option (Sub×aA):=(loop (fM s b w_) (if s.Row<0 then 0 else s.Row)).bind (WO s b)
def C2(s:List eR)(i j:Int):Option (List eR):=need (0<=(i:Int)/\(i:Int)<=(j:Int)/\(j:Int)<=((s.length:Int):Int)/\((s.length:Int):Int)<=(s.length:Int)) ((if i == j then some s else need (0<=(i:Int)/\(i:Int)<=(s.length:Int)) (need (0<=(j:Int)/\(j:Int)<=(s.length:Int)) (need (i.toNat<=j.toNat) (need (0<=(((((cS s i.toNat (s.drop j.toNat)).take (i.toNat+(s.length-j.toNat))).drop 0).length:Int):Int)/\(((((cS s i.toNat (s.drop j.toNat)).take (i.toNat+(s.length-j.toNat))).drop 0).length:Int):Int)<=((s.length:Int):Int)/\((s.length:Int):Int)<=((cS s i.toNat (s.drop j.toNat)).length:Int)) (some (((cS s i.toNat (s.drop j.toNat)).take (i.toNat+(s.length-j.toNat))).drop 0)))))))
def B5(w_ i:Int)(x1:(List bU))(x2:Bool):Option ((List bU)×Bool):=(if x2 then some (x1,false) else(idx x1 w_).bind λx3=>(C2 x3.Rows i (aY (i+1))).bind λx4=>some (x1.set w_.toNat (⟨x4⟩:bU),true))
def LL(l:List bU)(w_ i:Int):Option ((List bU)×Bool):=(lR l).bind λx1=>(tC l).bind λx5=>(if !x5 then B5 w_ i x1 true else(JG l w_ i).bind λx6=>B5 w_ i x1 (!x6))
def dR(s:Sub)(b:aA)(w_:Int)(x5:Bool):Option (Sub×aA):=(if x5 then(LL b.aQ w_ s.Row).bind λx6=>(MY b.Mem w_ s.H).bind λx7=>some (({s with Pc:=1,Out:=aY (s.Out+1)}:Sub),({b with Mem:=x7,aQ:=x6.1}:aA)) else(bJ s 1).bind λx8=>some (x8,b))
def fB(s:Sub)(b:aA)(w_:Int)(x1 x3:Bool):Option (Sub×aA):=(if x3 then(idx b.qT s.B).bind λx4=>(if x4 == s.H then some (({s with Pc:=1,Row:=aY (s.Row+1)}:Sub),b) else(if(aY (s.B+1)) == 3 then some (({s with Pc:=3,B:=aY (s.B+1)}:Sub),b) else some (({s with B:=aY (s.B+1)}:Sub),b))) else(if s.Pc == 3 then(if x1 then(idx b.aQ w_).bind λx9=>(idx x9.Rows s.Row).bind λx10=>(RN x10 s.E).bind λx11=>dR s b w_ x11 else dR s b w_ false) else dR s b w_ false))
def gE(s:Sub)(b:aA)(w_:Int)(x1:Bool):Option (Sub×aA):=(if s.Pc == 0 then some (({s with Pc:=1,E:=b.aC.aL,Row:=0}:Sub),b) else(if s.Pc == 1 then(pL s b w_).bind λx2=>some (x2.1,x2.2) else(if s.Pc == 2 then(gZ s.B).bind λx12=>(if x12 then fB s b w_ x1 x1 else fB s b w_ x1 false) else fB s b w_ x1 false)))
def pM(s:Sub)(b:aA)(w_:Int):Option (Sub×aA):=(JG b.aQ w_ s.Row).bind λx13=>(if x13 then(idx b.aQ w_).bind λx14=>(idx x14.Rows s.Row).bind λx15=>gE s b w_ (x15.Handle == s.H) else gE s b w_ false)
def A6(w_ e_:Int)(x1:aC)(x2:Bool):Option (aC×Bool):=(if x2 then some (x1,false) else(idx x1.cO w_).bind λx3=>some ((⟨x1.aL,x1.cO.set w_.toNat (⟨true,e_,false,0⟩:wU)⟩:aC),true))
def S7(c:aC)(w_ e_:Int):Option (aC×Bool):=(lQ c).bind λx1=>(pI c).bind λx4=>(if !x4 then A6 w_ e_ x1 true else(gZ w_).bind λx5=>(if !x5 then A6 w_ e_ x1 true else(bS e_ 0 c.aL).bind λx6=>A6 w_ e_ x1 (!x6)))
def AB(s:Sub)(b:aA)(x1:Bool)(x2:Int)(x3:List wU):Option (Sub×aA):=(if !x1 then(bJ s 1).bind λx4=>some (x4,b) else some (({s with Pc:=2}:Sub),({b with aC:=(⟨x2,x3⟩:aC)}:aA)))
def zA(s:Sub)(b:aA)(w_:Int):Option (Sub×aA):=(if s.Pc == 0 then some (({s with Pc:=1,E:=b.aC.aL}:Sub),b) else(if s.Pc == 1 then(S7 b.aC w_ s.E).bind λx5=>AB s b x5.2 x5.1.aL x5.1.cO else(if s.Pc == 2 then(if b.aC.aL == s.E then(bJ s 0).bind λx6=>some (x6,b) else some (({s with Pc:=0}:Sub),b)) else(bJ s 1).bind λx7=>some (x7,b))))
def qK(s:Sub)(b:aA)(w_:Int):Option (Sub×aA):=(if s.gX then some (s,b) else(if s.Kind == 1 then(tI s b w_).bind λx1=>some (x1.1,x1.2) else(if s.Kind == 2 then(qZ s b w_).bind λx2=>some (x2.1,x2.2) else(if s.Kind == 3 then(pK s b).bind λx3=>some (x3.1,x3.2) else(if s.Kind == 4 then(pM s b w_).bind λx4=>some (x4.1,x4.2) else(if s.Kind == 5 then(zA s b w_).bind λx5=>some (x5.1,x5.2) else(bJ s 1).bind λx6=>some (x6,b)))))))
def tJ(t:Table)(w_:Int):Option Table:=(idx t.aS w_).bind λx1=>(qK x1.Sub t.aA w_).bind λx2=>(if !x2.1.gX then some ({t with aA:=x2.2,aS:=t.aS.set w_.toNat ({x1 with Sub:=x2.1}:aI)}:Table) else(if x1.Pc == 0 then some ({t with aA:=x2.2,aS:=t.aS.set w_.toNat ({x1 with Pc:=1,Sub:=x2.1}:aI)}:Table) else(if x1.Pc == 20 then(lS 4 0).bind λx3=>some ({t with aA:=x2.2,aS:=t.aS.set w_.toNat ({x1 with Pc:=21,Sub:=x3}:aI)}:Table) else some ({t with aA:=x2.2,aS:=t.aS.set w_.toNat ({x1 with Pc:=19,Sub:=x2.1}:aI)}:Table))))
def pN(j:aI):Option (eJ×Bool×aI):=(bS j.At 0 (aY ((j.Batch.bN.length:Int)-1))).bind λx1=>(if !x1 then some ((⟨0,0,0⟩:eJ),false,j) else(idx j.Batch.bN j.At).bind λx2=>some (x2,true,j))
def cK(j:aI)(code:Int):Option aI:=some ({j with Pc:=16,Code:=code}:aI)
def N4:Option Int:=some (-1)
def oN(s:List aU)(f:(aU->Option Bool)):Int->Option (Step Int (Out Unit Int))
 |x2=>(if decide (x2<(s.length:Int)) then(idx s x2).bind λx3=>(f x3).bind λx4=>(if x4 then some (.stop (Out.ret x2)) else some (.next (aY (x2+1)))) else some (.stop (Out.brk ())))
def N5:(Out Unit Int)->Option Int
 |.brk ()=>N4
 |.ret r=>some r
def cV(s:List aU)(f:(aU->Option Bool)):Option Int:=(loop (oN s f) 0).bind (N5)
def xP(x8:List aU)(x9:Int):Option (List aU):=need (0<=(x9:Int)/\(x9:Int)<=(x8.length:Int)) (need (0<=(x9:Int)/\(x9:Int)<=((cS x8 x9.toNat (List.replicate (x8.length-x9.toNat) (⟨0,false,0⟩:aU))).length:Int)) (some (((cS x8 x9.toNat (List.replicate (x8.length-x9.toNat) (⟨0,false,0⟩:aU))).take x9.toNat).drop 0)))
def iL(x7:Int)(x10:List aU)(x11:Int):Option (Step ((List aU)×Int×Int) ((List aU)×Int)):=some (.next (x10,x11,aY (x7+1)))
def kE(del:(aU->Option Bool)):((List aU)×Int×Int)->Option (Step ((List aU)×Int×Int) ((List aU)×Int))
 |(x5,x6,x7)=>(if decide (x7<(x5.length:Int)) then(idx x5 x7).bind λx12=>(del x12).bind λx13=>(if !x13 then(idx x5 x6).bind λx14=>iL x7 (x5.set x6.toNat x12) (aY (x6+1)) else iL x7 x5 x6) else some (.stop ((x5,x6))))
def xQ:((List aU)×Int)->Option (List aU)
 |(x8,x9)=>xP x8 x9
def jW(s:List aU)(del:(aU->Option Bool)):Option (List aU):=(cV s del).bind λx1=>(if x1 == (-1) then some s else(loop (kE del) (s,x1,aY (x1+1))).bind (xQ))
def KA(x k0:aU):Option Bool:=some (x.Key == k0.Key)
def B6(x k0:aU):Option Bool:=some (decide (k0.Key<x.Key))
def rA(s:List aU)(i:Int)(v:List aU):Option (List aU):=need (0<=i/\i<=(s.length:Int)/\s.length+v.length<=1073741824) (some (s.take i.toNat++v++s.drop i.toNat))
def rX(w_:aU)(x2:(List aU))(x4:Int):Option (List aU):=(rA x2 x4 ([w_])).bind λx5=>some x5
def IX(l:List aU)(w_:aU):Option (List aU):=(nQ l).bind λx1=>(jW x1 (λy0=>KA y0 w_)).bind λx2=>(cV x2 (λy0=>B6 y0 w_)).bind λx3=>(if decide (x3<0) then rX w_ x2 (x2.length:Int) else rX w_ x2 x3)
def rY(j:aI)(x:aU):Option (Bool×aI):=(IX j.aH x).bind λx1=>(if decide (6<(x1.length:Int)) then(cK j 1).bind λx2=>some (false,x2) else some (true,({j with aH:=x1}:aI)))
def FM(x:aU)(k0:Int):Option Bool:=some (x.Key == k0)
def LM(l:List aU)(key:Int):Option (aU×Bool):=(cV l (λy0=>FM y0 key)).bind λx1=>(if decide (x1<0) then some ((⟨0,false,0⟩:aU),false) else(idx l x1).bind λx2=>some (x2,true))
def aAY(a_ b:Int):Option Int:=some (Int.tmod (aY (a_+b)) 65536)
def rB(x5:aI):Option aI:=some ({x5 with Pc:=1,At:=aY (x5.At+1)}:aI)
def mO(x2:aI)(x3:Bool)(x4:Int):Option aI:=
 need (x2.hU.length+([(⟨x3,x4⟩:hU)]).length<=1073741824)<|rB ({x2 with hU:=x2.hU++([(⟨x3,x4⟩:hU)])}:aI)
def mP(j:aI)(c:eJ)(is:Bool)(x1:Int):Option aI:=(if c.Kind == 4 then(aAY x1 c.dC).bind λx6=>(rY j (⟨c.Key,false,x6⟩:aU)).bind λx7=>(if !x7.1 then some x7.2 else mO x7.2 true x6) else mO j is x1)
def rZ(j:aI)(c:eJ)(val:Int)(is:Bool):Option aI:=(if !is then mP j c is 0 else mP j c is val)
def HW(key:Int):Option Int:=(bS key 0 99).bind λx1=>(if !x1 then some (-1) else some (Int.tmod key 2))
def FN(x1:eJ×Bool×aI)(x6:Bool)(x7:aI)(x8:Int)(x9:Bool)(x10:Int):Option aI:=(if x6 then(rZ x7 x1.1 x10 (!x9)).bind λx11=>some x11 else(HW x1.1.Key).bind λx12=>some ({x7 with Pc:=2,bW:=x12}:aI))
def kG(x1:eJ×Bool×aI)(x3:Bool)(x4:aI):Option aI:=(if x3 then(rY x4 (⟨x1.1.Key,x1.1.Kind == 3,x1.1.dC⟩:aU)).bind λx5=>(if x5.1 then need (x5.2.hU.length+([(⟨false,0⟩:hU)]).length<=1073741824) (some (⟨x5.2.bQ,x5.2.Batch,x5.2.aG,x5.2.Pc,aY (x5.2.At+1),x5.2.K,x5.2.bW,x5.2.eO,x5.2.H,x5.2.gT,x5.2.Node,x5.2.Found,x5.2.Code,x5.2.Sub,x5.2.Reads,x5.2.aH,x5.2.hU++([(⟨false,0⟩:hU)]),x5.2.gL,x5.2.bE,x5.2.cB⟩:aI)) else some x5.2) else(LM x4.aH x1.1.Key).bind λx13=>FN x1 x13.2 x4 x13.1.Key x13.1.G6 x13.1.dC)
def FO(j:aI):Option aI:=(pN j).bind λx1=>(if !x1.2.1 then(lS 1 16).bind λx2=>some (⟨x1.2.2.bQ,x1.2.2.Batch,x1.2.2.aG,6,x1.2.2.At,0,x1.2.2.bW,x1.2.2.eO,x1.2.2.H,x1.2.2.gT,x1.2.2.Node,x1.2.2.Found,x1.2.2.Code,x2,x1.2.2.Reads,x1.2.2.aH,x1.2.2.hU,x1.2.2.gL,x1.2.2.bE,x1.2.2.cB⟩:aI) else(if x1.1.Kind == 2 then kG x1 true x1.2.2 else kG x1 (x1.1.Kind == 3) x1.2.2))
def LN(slot c:Int):Option Int:=(xG slot c).bind λx1=>(if decide (x1<0) then some (-1) else some (aY (x1+4)))
def zC(h:Heap)(slot:Int):Option Int:=(lL h slot).bind λx1=>(LN slot x1).bind λx2=>some x2
def pO(h:Heap)(slot:Int):Option gR:=(zC h slot).bind λx1=>(pE h.Bytes x1 2).bind λx2=>(pE h.Bytes (aY (x1+2)) 4).bind λx3=>(pE h.Bytes (aY (x1+6)) 4).bind λx4=>some (⟨x2,x3,x4⟩:gR)
def FP(h:Heap)(slot:Int):Option Bool:=(lL h slot).bind λx1=>(DS x1).bind λx2=>some (decide (10<=x2))
def FQ(m:Mem)(h:Int)(x1:Bool):Option (gR×Int):=(if x1 then some ((⟨0,0,0⟩:gR),4) else(FP m.Heap (Int.tmod h 32)).bind λx2=>(if !x2 then some ((⟨0,0,0⟩:gR),2) else(pO m.Heap (Int.tmod h 32)).bind λx3=>some (x3,0)))
def JJ(m:Mem)(h:Int):Option (gR×Int):=(iS h).bind λx4=>(if !x4 then FQ m h true else(lL m.Heap (Int.tmod h 32)).bind λx5=>FQ m h (decide (x5<0)))
def oB(x1:Bool):Option Bool:=some x1
def C3(p:wU):Option Bool:=(if p.On then oB (!p.gP) else oB false)
def iA(n:gR):Option Int:=(iS n.Next).bind λx1=>(if !x1 then some 0 else some n.Next)
def FR(s:Seen)(k0:Int):Option Bool:=some (s.bW == k0)
def LO(l:List Seen)(b v:Int):Option ((List Seen)×Bool):=(pD l).bind λx1=>(eY l (λy0=>FR y0 b)).bind λx2=>(if decide (x2<0) then need (x1.length+([(⟨b,v⟩:Seen)]).length<=1073741824) (some (x1++([(⟨b,v⟩:Seen)]),true)) else(idx l x2).bind λx3=>some (x1,x3.eO == v))
def tK(t:Table)(w_:Int)(x13:List aI)(x14:Bool):Option Table:=(if x14 then(idx x13 w_).bind λx15=>some ({t with aS:=x13.set w_.toNat ({x15 with Pc:=5}:aI)}:Table) else some ({t with aS:=x13}:Table))
def C4(t:Table)(w_:Int)(x13:List aI):Option Table:=(idx x13 w_).bind λx16=>(if x16.Found then tK t w_ x13 true else tK t w_ x13 (x16.H == 0))
def MZ(t:Table)(x26:List aI):Option Table:=some ({t with aS:=x26}:Table)
def C5(t:Table)(w_:Int)(x6:eJ×Bool×aI)(x21:List Seen)(x22:Bool):Option Table:=(idx (t.aS.set w_.toNat x6.2.2) w_).bind λx23=>(if !x22 then(cK ({x23 with Reads:=x21}:aI) 7).bind λx24=>some ({t with aS:=(t.aS.set w_.toNat x6.2.2).set w_.toNat x24}:Table) else(if !x6.2.1 then(cK ({x23 with Reads:=x21}:aI) 1).bind λx25=>some ({t with aS:=(t.aS.set w_.toNat x6.2.2).set w_.toNat x25}:Table) else(rZ ({x23 with Reads:=x21}:aI) x6.1 x23.Node.dC x23.Found).bind λx27=>MZ t ((t.aS.set w_.toNat x6.2.2).set w_.toNat x27)))
def jN(t:Table)(w_:Int)(x6:eJ×Bool×aI)(x18:Bool):Option Table:=(if x18 then(idx (t.aS.set w_.toNat x6.2.2) w_).bind λx19=>(cK x19 7).bind λx20=>some ({t with aS:=(t.aS.set w_.toNat x6.2.2).set w_.toNat x20}:Table) else(idx (t.aS.set w_.toNat x6.2.2) w_).bind λx28=>(LO x28.Reads x28.bW x28.eO).bind λx29=>C5 t w_ x6 x29.1 x29.2)
def C6(t:Table)(w_ x2 x3 x4:Int):Option Table:=(idx t.aS w_).bind λx5=>(pN x5).bind λx6=>(if x6.2.2.Pc == 2 then(if x4 != 0 then(cK x6.2.2 7).bind λx7=>some ({t with aS:=t.aS.set w_.toNat x7}:Table) else(if x2 == 0 then some ({t with aS:=t.aS.set w_.toNat (⟨x6.2.2.bQ,x6.2.2.Batch,x6.2.2.aG,5,x6.2.2.At,x6.2.2.K,x6.2.2.bW,x3,x2,x6.2.2.gT,(⟨0,0,0⟩:gR),false,x6.2.2.Code,x6.2.2.Sub,x6.2.2.Reads,x6.2.2.aH,x6.2.2.hU,x6.2.2.gL,x6.2.2.bE,x6.2.2.cB⟩:aI)}:Table) else some ({t with aS:=t.aS.set w_.toNat (⟨x6.2.2.bQ,x6.2.2.Batch,x6.2.2.aG,3,x6.2.2.At,x6.2.2.K,x6.2.2.bW,x3,x2,x6.2.2.gT,(⟨0,0,0⟩:gR),false,x6.2.2.Code,x6.2.2.Sub,x6.2.2.Reads,x6.2.2.aH,x6.2.2.hU,x6.2.2.gL,x6.2.2.bE,x6.2.2.cB⟩:aI)}:Table))) else(if x6.2.2.Pc == 3 then(JJ t.aA.Mem x6.2.2.H).bind λx8=>some ({t with aS:=t.aS.set w_.toNat (⟨x6.2.2.bQ,x6.2.2.Batch,x6.2.2.aG,4,x6.2.2.At,x6.2.2.K,x6.2.2.bW,x6.2.2.eO,x6.2.2.H,x6.2.2.gT,x8.1,x6.2.2.Found,x6.2.2.Code,x6.2.2.Sub,x6.2.2.Reads,x6.2.2.aH,x6.2.2.hU,x6.2.2.gL,x6.2.2.bE,x6.2.2.cB⟩:aI)}:Table) else(if x6.2.2.Pc == 4 then(idx t.aA.aC.cO w_).bind λx9=>(C3 x9).bind λx10=>(if !x10 then(cK x6.2.2 6).bind λx11=>some ({t with aS:=t.aS.set w_.toNat x11}:Table) else(if !x6.2.1 then(cK x6.2.2 1).bind λx12=>some ({t with aS:=t.aS.set w_.toNat x12}:Table) else(iA x6.2.2.Node).bind λx17=>C4 t w_ (t.aS.set w_.toNat (⟨x6.2.2.bQ,x6.2.2.Batch,x6.2.2.aG,3,x6.2.2.At,x6.2.2.K,x6.2.2.bW,x6.2.2.eO,x17,x6.2.2.gT,x6.2.2.Node,x6.2.2.Node.Key == x6.1.Key,x6.2.2.Code,x6.2.2.Sub,x6.2.2.Reads,x6.2.2.aH,x6.2.2.hU,x6.2.2.gL,x6.2.2.bE,x6.2.2.cB⟩:aI)))) else(if x4 != 0 then jN t w_ x6 true else jN t w_ x6 (x3 != x6.2.2.eO)))))
def B7(t:Table)(w_:Int):Option Table:=(idx t.aS w_).bind λx1=>(idx t.aR x1.bW).bind λx30=>C6 t w_ x30.Head x30.eO x30.eM
def aRD(x5:Int):Option Int:=some x5
def FT(x4 x6:Int):Option (Step (Int×Int) Int):=some (.next (x6,aY (x4+1)))
def S8(l:List aU)(n:Int):(Int×Int)->Option (Step (Int×Int) Int)
 |(x3,x4)=>(if decide (x4<(((l.take ((if(if(l.length:Int)<n then(l.length:Int) else n)<0 then 0 else(if(l.length:Int)<n then(l.length:Int) else n)).toNat)).drop 0).length:Int)) then(idx ((l.take ((if(if(l.length:Int)<n then(l.length:Int) else n)<0 then 0 else(if(l.length:Int)<n then(l.length:Int) else n)).toNat)).drop 0) x4).bind λx7=>(if !x7.G6 then FT x4 (aY (x3+1)) else FT x4 x3) else some (.stop (x3)))
def aRE:Int->Option Int
 |x5=>aRD x5
def RO(l:List aU)(n:Int):Option Int:=need (0<=(if(if(l.length:Int)<n then(l.length:Int) else n)<0 then 0 else(if(l.length:Int)<n then(l.length:Int) else n):Int)/\(if(if(l.length:Int)<n then(l.length:Int) else n)<0 then 0 else(if(l.length:Int)<n then(l.length:Int) else n):Int)<=(l.length:Int)) ((loop (S8 l n) (0,0)).bind (aRE))
def AD(x11:Table):Option Table:=some x11
def AE(w_:Int)(x10:Table):Option Table:=(idx x10.aS w_).bind λx12=>(lS 1 16).bind λx13=>AD ({x10 with aS:=x10.aS.set w_.toNat ({x12 with K:=aY (x12.K+1),Sub:=x13}:aI)}:Table)
def iB(w_:Int)(x6:Bool)(x7:Table):Option Table:=
 (if x6 then(idx x7.aS w_).bind λx8=>(cK x8 x8.Sub.Code).bind λx9=>some ({x7 with aS:=x7.aS.set w_.toNat x9}:Table) else(idx x7.aS w_).bind λx14=>need (x14.gL.length+([x14.Sub.Out]).length<=1073741824)<|AE w_ ({x7 with aS:=x7.aS.set w_.toNat ({x14 with gL:=x14.gL++([x14.Sub.Out])}:aI)}:Table))
def AF(t:Table)(w_:Int)(x2:Bool):Option Table:=(if x2 then(idx t.aS w_).bind λx3=>some ({t with aS:=t.aS.set w_.toNat ({x3 with Pc:=7,K:=0}:aI)}:Table) else(idx t.aS w_).bind λx4=>(qK x4.Sub t.aA w_).bind λx5=>(if !x5.1.gX then some ({t with aA:=x5.2,aS:=t.aS.set w_.toNat ({x4 with Sub:=x5.1}:aI)}:Table) else(if x5.1.Code != 0 then iB w_ true ({t with aA:=x5.2,aS:=t.aS.set w_.toNat ({x4 with Sub:=x5.1}:aI)}:Table) else(iS x5.1.Out).bind λx15=>(if !x15 then iB w_ true ({t with aA:=x5.2,aS:=t.aS.set w_.toNat ({x4 with Sub:=x5.1}:aI)}:Table) else iB w_ (decide (6<=(x4.gL.length:Int))) ({t with aA:=x5.2,aS:=t.aS.set w_.toNat ({x4 with Sub:=x5.1}:aI)}:Table)))))
def zD(t:Table)(w_:Int):Option Table:=(idx t.aS w_).bind λx1=>(RO x1.aH (x1.aH.length:Int)).bind λx16=>AF t w_ (decide (x16<=x1.K))
def cmp_isNaN_int(x:Int):Option Bool:=some (x != x)
def uW(x1:Bool):Option Bool:=some x1
def cmp_Less_int(x y:Int):Option Bool:=(cmp_isNaN_int x).bind λx2=>(if x2 then(cmp_isNaN_int y).bind λx3=>(if !x3 then uW true else uW (decide (x<y))) else uW (decide (x<y)))
def jO(data x5:List Int):Option (List Int):=need (x5.length=data.length) (some x5)
def nS(data:List Int)(x4:Int)(x10:List Int):Option (Step ((List Int)×Int) (List Int)):=need (x10.length=data.length) (some (.next (x10,aY (x4+1))))
def jP(data:List Int)(x9:Int)(x12:List Int):Option (Step ((List Int)×Int) (List Int)):=need (x12.length=data.length) (some (.next (x12,aY (x9-1))))
def dS(data x8:List Int)(x9:Int)(x11:Bool):Option (Step ((List Int)×Int) (List Int)):=need (x8.length=data.length) ((if x11 then(idx x8 (aY (x9-1))).bind λx13=>(idx x8 x9).bind λx14=>(idx (x8.set x9.toNat x13) (aY (x9-1))).bind λx15=>jP data x9 ((x8.set x9.toNat x13).set ((aY (x9-1)).toNat) x14) else some (.stop (x8))))
def dU(data:List Int)(a_:Int):((List Int)×Int)->Option (Step ((List Int)×Int) (List Int))
 |(x8,x9)=>need (x8.length=data.length) ((if decide (a_<x9) then(idx x8 x9).bind λx16=>(idx x8 (aY (x9-1))).bind λx17=>(cmp_Less_int x16 x17).bind λx18=>dS data x8 x9 x18 else dS data x8 x9 false))
def nT(data:List Int)(x4:Int):(List Int)->Option (Step ((List Int)×Int) (List Int))
 |x10=>nS data x4 x10
def dB(data:List Int)(a_ b:Int):((List Int)×Int)->Option (Step ((List Int)×Int) (List Int))
 |(x3,x4)=>need (x3.length=data.length) ((if decide (x4<b) then(loop (dU data a_) (x3,x4)).bind (nT data x4) else some (.stop (x3))))
def jQ(data:List Int):(List Int)->Option (List Int)
 |x5=>jO data x5
def iH(data:List Int)(a_ b:Int):Option (List Int):=(loop (dB data a_ b) (data,aY (a_+1))).bind (jQ data)
def uX(data:List Int)(a_ b limit:Int):Unit->Option (Step Unit (List Int))
 |()=>(if decide ((aY (b-a_))<=12) then(iH data a_ b).bind λx1=>some (.stop (x1)) else(if limit == 0 then none else none))
def KB:(List Int)->Option (List Int)
 |r=>some r
def oP(data:List Int)(a_ b limit:Int):Option (List Int):=(loop (uX data a_ b limit) ()).bind (KB)
def C7(x5 x6:Int):Option Int:=(idx ([0,1,2,2,3,3,3,3,4,4,4,4,4,4,4,4,5,5,5,5,5,5,5,5,5,5,5,5,5,5,5,5,6,6,6,6,6,6,6,6,6,6,6,6,6,6,6,6,6,6,6,6,6,6,6,6,6,6,6,6,6,6,6,6,7,7,7,7,7,7,7,7,7,7,7,7,7,7,7,7,7,7,7,7,7,7,7,7,7,7,7,7,7,7,7,7,7,7,7,7,7,7,7,7,7,7,7,7,7,7,7,7,7,7,7,7,7,7,7,7,7,7,7,7,7,7,7,7,8,8,8,8,8,8,8,8,8,8,8,8,8,8,8,8,8,8,8,8,8,8,8,8,8,8,8,8,8,8,8,8,8,8,8,8,8,8,8,8,8,8,8,8,8,8,8,8,8,8,8,8,8,8,8,8,8,8,8,8,8,8,8,8,8,8,8,8,8,8,8,8,8,8,8,8,8,8,8,8,8,8,8,8,8,8,8,8,8,8,8,8,8,8,8,8,8,8,8,8,8,8,8,8,8,8,8,8,8,8,8,8,8,8,8,8,8,8,8,8,8,8,8,8,8,8,8,8]:List UInt8) ((u8 x5).toNat:Int)).bind λx7=>some (aY (x6+(x7.toNat:Int)))
def C8(x3 x4:Int):Option Int:=(if decide (256<=x3) then C7 (o8 .u64 x3 8) (aY (x4+8)) else C7 x3 x4)
def C9(x1 x2:Int):Option Int:=(if decide (65536<=x1) then C8 (o8 .u64 x1 16) (aY (x2+16)) else C8 x1 x2)
def U0(x:Int):Option Int:=(if decide (4294967296<=x) then C9 (o8 .u64 x 32) 32 else C9 x 0)
def A7(x:Int):Option Int:=(U0 x).bind λx1=>some x1
def B8(x:List Int):Option (List Int):=(A7 (IntKind.u64.wrap (x.length:Int))).bind λx1=>(oP x 0 (x.length:Int) x1).bind λx2=>some x2
def KC(x5:List Int):Option (List Int):=(B8 x5).bind λx6=>(slices_Compact_int x6).bind λx7=>some x7
def B9(x4:Int)(x8:List Int):Option (Step ((List Int)×Int) (List Int)):=some (.next (x8,aY (x4+1)))
def KD(l:List aU):((List Int)×Int)->Option (Step ((List Int)×Int) (List Int))
 |(x3,x4)=>(if decide (x4<(l.length:Int)) then(idx l x4).bind λx9=>(HW x9.Key).bind λx10=>(if decide (0<=x10) then need (x3.length+([x10]).length<=1073741824) (B9 x4 (x3++([x10]))) else B9 x4 x3) else some (.stop (x3)))
def U1:(List Int)->Option (List Int)
 |x5=>KC x5
def LP(l:List aU):Option (List Int):=(loop (KD l) (([]:List Int),0)).bind (U1)
def pP(x1:Bool):Option Bool:=some x1
def wJ(s:Seen)(k0:Int)(k1:bW):Option Bool:=(if s.bW == k0 then pP (s.eO != k1.eO) else pP false)
def tL(t:Table)(w_:Int)(x3:List bW)(x4:List aI)(x5:aI):Option Table:=(idx x4 w_).bind λx6=>some ({t with aR:=x3,aS:=x4.set w_.toNat ({x6 with Pc:=8,K:=0}:aI),Log:=t.Log++([(⟨2,w_,x5.aG,0,[],[]⟩:j7)])}:Table)
def nU(t:Table)(w_:Int)(x2:(List Int))(x3:List bW)(x4:List aI):Option Table:=
 (idx x4 w_).bind λx5=>(if decide ((x2.length:Int)<=x5.K) then need (t.Log.length+([(⟨2,w_,x5.aG,0,[],[]⟩:j7)]).length<=1073741824)<|tL t w_ x3 x4 x5 else some ({t with aR:=x3,aS:=x4}:Table))
def nV(t:Table)(w_:Int)(x2:(List Int))(x7:Int)(x12:bW)(x15:List aI):Option Table:=(idx x15 w_).bind λx16=>nU t w_ x2 (t.aR.set x7.toNat ({x12 with eM:=aY (w_+1)}:bW)) (x15.set w_.toNat ({x16 with K:=aY (x16.K+1)}:aI))
def DA(t:Table)(w_:Int)(x2:(List Int))(x7:Int)(x12:bW)(x17:aI):Option Table:=nV t w_ x2 x7 x12 (t.aS.set w_.toNat ({x17 with bE:=x17.bE++([x7])}:aI))
def iM(t:Table)(w_:Int)(x2:(List Int))(x7:Int)(x9:Bool):Option Table:=
 (if x9 then(idx t.aS w_).bind λx10=>(cK x10 7).bind λx11=>some ({t with aS:=t.aS.set w_.toNat x11}:Table) else(idx t.aR x7).bind λx12=>(if x12.eO == 1000000 then(idx t.aS w_).bind λx13=>(cK x13 3).bind λx14=>some ({t with aS:=t.aS.set w_.toNat x14}:Table) else(idx t.aS w_).bind λx17=>(i7 x17.bE x7).bind λx18=>(if !x18 then need (x17.bE.length+([x7]).length<=1073741824)<|DA t w_ x2 x7 x12 x17 else nV t w_ x2 x7 x12 t.aS)))
def CA(t:Table)(w_:Int):Option Table:=(idx t.aS w_).bind λx1=>(LP x1.aH).bind λx2=>(if decide (x1.K<(x2.length:Int)) then(idx x2 x1.K).bind λx7=>(idx t.aR x7).bind λx8=>(if x8.eM != 0 then iM t w_ x2 x7 true else(fS x1.Reads (λy0=>wJ y0 x7 x8)).bind λx19=>iM t w_ x2 x7 x19) else nU t w_ x2 t.aR t.aS)
def fN(t:Table)(w_:Int)(x8:Bool):Option Table:=(if x8 then(idx t.aS w_).bind λx9=>(cK x9 7).bind λx10=>some ({t with aS:=t.aS.set w_.toNat x10}:Table) else(idx t.aS w_).bind λx11=>some ({t with aS:=t.aS.set w_.toNat ({x11 with K:=aY (x11.K+1)}:aI)}:Table))
def tM(t:Table)(w_ x4 x5 x6 x7:Int):Option Table:=(if x7 != 0 then(if x7 != (aY (w_+1)) then fN t w_ true else fN t w_ (x6 != x4)) else fN t w_ (x6 != x4))
def tN(t:Table)(w_ x3 x4:Int):Option Table:=(idx t.aR x3).bind λx12=>tM t w_ x4 x12.Head x12.eO x12.eM
def tO(t:Table)(w_:Int)(x1:aI):Option Table:=(if decide ((x1.Reads.length:Int)<=x1.K) then(idx t.aS w_).bind λx2=>some ({t with aS:=t.aS.set w_.toNat ({x2 with Pc:=9,K:=0}:aI)}:Table) else(idx t.aS w_).bind λx13=>(idx x13.Reads x13.K).bind λx14=>tN t w_ x14.bW x14.eO)
def rC(t:Table)(w_:Int):Option Table:=(idx t.aS w_).bind λx1=>tO t w_ x1
def oY(j:aI)(x:aU):Option aI:=(if x.G6 then some ({j with Pc:=9,K:=aY (j.K+1)}:aI) else some ({j with Pc:=12}:aI))
def vV(m:Mem)(h:Int):Option Int:=(xM m h).bind λx1=>(if !x1 then some 4 else(FP m.Heap (Int.tmod h 32)).bind λx2=>(if !x2 then some 2 else some 0))
def M0(x4:Int)(x5:Mem):Option (Mem×Int):=some (x5,x4)
def WQ(x4:Int)(x6:Mem):Option (Mem×Int):=M0 x4 x6
def FU(m:Mem)(h next_:Int)(x2:Bool)(x3:Mem):Option (Mem×Int):=(if x2 then some (x3,1) else(vV m h).bind λx4=>(if x4 == 0 then(zC m.Heap (Int.tmod h 32)).bind λx7=>(mJ next_ 4).bind λx8=>(m9 x3.Heap.Bytes (aY (x7+6)) x8).bind λx9=>WQ x4 (⟨(⟨x9,x3.Heap.Class⟩:Heap),x3.aE⟩:Mem) else M0 x4 x3))
def O4(m:Mem)(h next_:Int):Option (Mem×Int):=(pC m).bind λx1=>(xH m).bind λx10=>(if !x10 then FU m h next_ true x1 else(m8 next_).bind λx11=>FU m h next_ (!x11) x1)
def xR(x1:Bool):Option Bool:=some x1
def JK(n:gR):Option Bool:=(bS n.Key 0 99).bind λx2=>(if x2 then(bS n.dC 0 65535).bind λx3=>(if x3 then(m8 n.Next).bind λx4=>xR x4 else xR false) else xR false)
def KE(x4:Int)(x5:Mem):Option (Mem×Int):=some (x5,x4)
def U2(x4:Int)(x6:Mem):Option (Mem×Int):=KE x4 x6
def CB(m:Mem)(h:Int)(n:gR)(x2:Bool)(x3:Mem):Option (Mem×Int):=
 (if x2 then some (x3,1) else(vV m h).bind λx4=>(if x4 == 0 then(zC m.Heap (Int.tmod h 32)).bind λx7=>(mJ n.Key 2).bind λx8=>(mJ n.dC 4).bind λx9=>need (x8.length+x9.length<=9223372036854775807)<|(mJ n.Next 4).bind λx10=>need ((x8++x9).length+x10.length<=9223372036854775807)<|(m9 x3.Heap.Bytes x7 ((x8++x9)++x10)).bind λx11=>U2 x4 (⟨(⟨x11,x3.Heap.Class⟩:Heap),x3.aE⟩:Mem) else KE x4 x3))
def LQ(m:Mem)(h:Int)(n:gR):Option (Mem×Int):=(pC m).bind λx1=>(xH m).bind λx12=>(if !x12 then CB m h n true x1 else(JK n).bind λx13=>CB m h n (!x13) x1)
def DB(t:Table)(j:aI)(b:bW)(x3:Table):Option (Table×aI×bW):=some (({x3 with aR:=t.aR,aS:=t.aS}:Table),({j with Pc:=13}:aI),b)
def KF(t:Table)(j:aI)(x:aU)(b:bW):Option (Table×aI×bW):=(RO j.aH j.K).bind λx1=>(if decide ((j.gL.length:Int)<=x1) then(cK j 1).bind λx2=>some (t,x2,b) else(if j.Pc == 12 then(idx j.gL x1).bind λx4=>(LQ t.aA.Mem x4 ({x with Next:=b.Head}:gR)).bind λx5=>DB t j b ({t with aA:=(⟨x5.1,t.aA.aC,t.aA.aQ,t.aA.qT⟩:aA)}:Table) else(idx j.gL x1).bind λx6=>some (t,({j with Pc:=9,K:=aY (j.K+1)}:aI),({b with Head:=x6}:bW))))
def AG(t:Table)(x13:List aI):Option Table:=some ({t with aS:=x13}:Table)
def mQ(w_ x3:Int)(x4:Bool)(x5:Int)(x16:Table):Option Table:=(idx x16.aS w_).bind λx17=>(oY x17 (⟨x3,x4,x5⟩:aU)).bind λx18=>some ({x16 with aS:=x16.aS.set w_.toNat x18}:Table)
def AI(w_ x3:Int)(x4:Bool)(x5:Int)(x21:Table):Option Table:=mQ w_ x3 x4 x5 x21
def rD(w_ x3:Int)(x4:Bool)(x5:Int)(x19:Bool)(x20:Table):Option Table:=
 (if x19 then(idx x20.aS w_).bind λx22=>need (x22.cB.length+([x22.H]).length<=1073741824)<|AI w_ x3 x4 x5 ({x20 with aS:=x20.aS.set w_.toNat ({x22 with cB:=x22.cB++([x22.H])}:aI)}:Table) else mQ w_ x3 x4 x5 x20)
def mR(w_ x3:Int)(x4:Bool)(x5:Int)(x15:Table):Option Table:=(idx x15.aS w_).bind λx23=>(iS x23.H).bind λx24=>(if x24 then rD w_ x3 x4 x5 (decide ((x23.cB.length:Int)<6)) x15 else rD w_ x3 x4 x5 false x15)
def AJ(w_ x3:Int)(x4:Bool)(x5:Int)(x26:Table):Option Table:=mR w_ x3 x4 x5 x26
def AK(t:Table)(w_ x3:Int)(x4:Bool)(x5:Int):Option Table:=(HW x3).bind λx6=>(idx t.aR x6).bind λx7=>(idx t.aS w_).bind λx8=>(if x8.Pc == 9 then(if x7.Head == 0 then(oY ({x8 with Pc:=10,H:=x7.Head,gT:=0}:aI) (⟨x3,x4,x5⟩:aU)).bind λx9=>some ({t with aS:=t.aS.set w_.toNat x9}:Table) else some ({t with aS:=t.aS.set w_.toNat ({x8 with Pc:=10,H:=x7.Head,gT:=0}:aI)}:Table)) else(if x8.Pc == 10 then(JJ t.aA.Mem x8.H).bind λx10=>(if x10.1.Key == x3 then some ({t with aS:=t.aS.set w_.toNat ({x8 with Pc:=11,Node:=x10.1}:aI)}:Table) else(iA x10.1).bind λx11=>(if x11 == 0 then(oY ({x8 with Node:=x10.1}:aI) (⟨x3,x4,x5⟩:aU)).bind λx12=>some ({t with aS:=t.aS.set w_.toNat x12}:Table) else(iA x10.1).bind λx14=>AG t (t.aS.set w_.toNat ({x8 with H:=x14,gT:=x8.H,Node:=x10.1}:aI)))) else(if x8.Pc == 11 then(if x8.gT == 0 then(iA x8.Node).bind λx25=>mR w_ x3 x4 x5 ({t with aR:=t.aR.set x6.toNat ({x7 with Head:=x25}:bW)}:Table) else(iA x8.Node).bind λx27=>(O4 t.aA.Mem x8.gT x27).bind λx28=>AJ w_ x3 x4 x5 ({t with aA:=(⟨x28.1,t.aA.aC,t.aA.aQ,t.aA.qT⟩:aA)}:Table)) else(KF t x8 (⟨x3,x4,x5⟩:aU) x7).bind λx29=>some (⟨x29.1.aA,t.aR.set x6.toNat x29.2.2,t.aS.set w_.toNat x29.2.1,x29.1.fI,x29.1.Log,x29.1.aG⟩:Table))))
def AL(t:Table)(w_:Int)(x1:aI):Option Table:=(if decide ((x1.aH.length:Int)<=x1.K) then(idx t.aS w_).bind λx2=>some ({t with aS:=t.aS.set w_.toNat ({x2 with Pc:=14}:aI)}:Table) else(idx t.aS w_).bind λx30=>(idx x30.aH x30.K).bind λx31=>AK t w_ x31.Key x31.G6 x31.dC)
def zE(t:Table)(w_:Int):Option Table:=(idx t.aS w_).bind λx1=>AL t w_ x1
def pQ(s:List Int)(i j:Int):Option (List Int):=need (0<=(i:Int)/\(i:Int)<=(j:Int)/\(j:Int)<=((s.length:Int):Int)/\((s.length:Int):Int)<=(s.length:Int)) ((if i == j then some s else need (0<=(i:Int)/\(i:Int)<=(s.length:Int)) (need (0<=(j:Int)/\(j:Int)<=(s.length:Int)) (need (i.toNat<=j.toNat) (need (0<=(((((cS s i.toNat (s.drop j.toNat)).take (i.toNat+(s.length-j.toNat))).drop 0).length:Int):Int)/\(((((cS s i.toNat (s.drop j.toNat)).take (i.toNat+(s.length-j.toNat))).drop 0).length:Int):Int)<=((s.length:Int):Int)/\((s.length:Int):Int)<=((cS s i.toNat (s.drop j.toNat)).length:Int)) (some (((cS s i.toNat (s.drop j.toNat)).take (i.toNat+(s.length-j.toNat))).drop 0)))))))
def sA(x1:aI):Option aI:=some x1
def lU(j:aI):Option aI:=(if decide (j.K<(j.cB.length:Int)) then(idx j.cB j.K).bind λx2=>(lS 2 x2).bind λx3=>sA ({j with Sub:=x3}:aI) else some j)
def lV(t:Table)(w_:Int)(x4:List bW):Option Table:=(idx t.aS w_).bind λx5=>(pQ x5.bE 0 1).bind λx6=>some ({t with aR:=x4,aS:=t.aS.set w_.toNat ({x5 with bE:=x6}:aI)}:Table)
def wK(t:Table)(w_:Int):Option Table:=(idx t.aS w_).bind λx1=>(if decide (0<(x1.bE.length:Int)) then(idx x1.bE 0).bind λx2=>(idx t.aR x2).bind λx3=>(if x1.Pc == 14 then lV t w_ (t.aR.set x2.toNat (⟨x3.Head,if 1000000<(aY (x3.eO+1)) then 1000000 else(aY (x3.eO+1)),0⟩:bW)) else lV t w_ (t.aR.set x2.toNat ({x3 with eM:=0}:bW))) else(if x1.Pc == 16 then some ({t with aS:=t.aS.set w_.toNat ({x1 with Pc:=17}:aI)}:Table) else(lU ({x1 with Pc:=15,K:=0}:aI)).bind λx7=>some ({t with aS:=t.aS.set w_.toNat x7}:Table)))
def xS(t:Table)(w_:Int)(x1:aI):Option Table:=(if decide ((x1.cB.length:Int)<=x1.K) then(idx t.aS w_).bind λx2=>some ({t with aS:=t.aS.set w_.toNat ({x2 with Pc:=18}:aI)}:Table) else(idx t.aS w_).bind λx3=>(qK x3.Sub t.aA w_).bind λx4=>(if x4.1.gX then(lU ({x3 with K:=aY (x3.K+1),Sub:=x4.1}:aI)).bind λx5=>some ({t with aA:=x4.2,aS:=t.aS.set w_.toNat x5}:Table) else some ({t with aA:=x4.2,aS:=t.aS.set w_.toNat ({x3 with Sub:=x4.1}:aI)}:Table)))
def wL(t:Table)(w_:Int):Option Table:=(idx t.aS w_).bind λx1=>xS t w_ x1
def CC(m:Mem)(w_ h:Int)(x1:Bool):Option (Mem×Int):=(if x1 then(pC m).bind λx2=>some (x2,1) else(xM m h).bind λx3=>(if !x3 then(pC m).bind λx4=>some (x4,4) else(MY m w_ h).bind λx5=>some (x5,0)))
def LR(m:Mem)(w_ h:Int):Option (Mem×Int):=(xH m).bind λx6=>(if !x6 then CC m w_ h true else(gZ w_).bind λx7=>CC m w_ h (!x7))
def CD(t:Table)(w_:Int):Option Table:=(idx t.aS w_).bind λx1=>(if(x1.gL.length:Int) == 0 then some ({t with aS:=t.aS.set w_.toNat ({x1 with Pc:=18}:aI)}:Table) else(idx x1.gL 0).bind λx2=>(pQ x1.gL 0 1).bind λx3=>(FH t.aA.aQ (Int.tmod x2 32)).bind λx4=>(if !x4 then(LR t.aA.Mem w_ x2).bind λx5=>some ({t with aA:=(⟨x5.1,t.aA.aC,t.aA.aQ,t.aA.qT⟩:aA),aS:=t.aS.set w_.toNat ({x1 with gL:=x3}:aI)}:Table) else some ({t with aS:=t.aS.set w_.toNat ({x1 with gL:=x3}:aI)}:Table)))
def A8(w_:Int)(x1:aC)(x2:Bool):Option (aC×Bool):=(if x2 then some (x1,false) else(idx x1.cO w_).bind λx3=>some ((⟨x1.aL,x1.cO.set w_.toNat (⟨false,0,false,0⟩:wU)⟩:aC),true))
def S9(c:aC)(w_:Int):Option (aC×Bool):=(lQ c).bind λx1=>(pI c).bind λx4=>(if !x4 then A8 w_ x1 true else(gZ w_).bind λx5=>(if !x5 then A8 w_ x1 true else(idx c.cO w_).bind λx6=>A8 w_ x1 (!x6.On)))
def CE(b:aA)(w_:Int):Option (Bool×aA):=(S9 b.aC w_).bind λx1=>some (x1.2,({b with aC:=x1.1}:aA))
def HH(t:Table)(w_:Int)(x1:aI):Option Table:=some ({t with aS:=t.aS.set w_.toNat (⟨false,(⟨false,[]⟩:Batch),0,0,0,0,0,0,0,0,(⟨0,0,0⟩:gR),false,0,(⟨0,0,0,0,0,0,0,0,0,false⟩:Sub),[],[],[],[],[],[]⟩:aI),Log:=t.Log++([({x1 with Kind:=3,Who:=w_,bN:=[]}:j7)])}:Table)
def HI(t:Table)(w_:Int)(x1:aI):Option Table:=some ({t with aS:=t.aS.set w_.toNat (⟨false,(⟨false,[]⟩:Batch),0,0,0,0,0,0,0,0,(⟨0,0,0⟩:gR),false,0,(⟨0,0,0,0,0,0,0,0,0,false⟩:Sub),[],[],[],[],[],[]⟩:aI),Log:=t.Log++([(⟨3,w_,x1.aG,x1.Code,[],[]⟩:j7)])}:Table)
def tP(t:Table)(w_:Int):Option Table:=
 (idx t.aS w_).bind λx1=>(if x1.Code == 0 then need (t.Log.length+([({x1 with Kind:=3,Who:=w_,bN:=[]}:j7)]).length<=1073741824)<|HH t w_ x1 else need (t.Log.length+([(⟨3,w_,x1.aG,x1.Code,[],[]⟩:j7)]).length<=1073741824)<|HI t w_ x1)
def lD(t:Table)(w_:Int)(x1:aI)(x14:Bool):Option Table:=(if x14 then(wK t w_).bind λx15=>some x15 else(if x1.Pc == 15 then(wL t w_).bind λx16=>some x16 else(if x1.Pc == 17 then(CD t w_).bind λx17=>some x17 else(if x1.Pc == 18 then(CE t.aA w_).bind λx18=>(idx t.aS w_).bind λx19=>some ({t with aA:=x18.2,aS:=t.aS.set w_.toNat ({x19 with Pc:=19}:aI)}:Table) else(if x1.Pc == 19 then(tP t w_).bind λx20=>some x20 else(idx t.aS w_).bind λx21=>(cK x21 1).bind λx22=>some ({t with aS:=t.aS.set w_.toNat x22}:Table))))))
def jR(t:Table)(w_:Int)(x1:aI)(x3:Bool):Option Table:=(if x3 then(tJ t w_).bind λx4=>some x4 else(if x1.Pc == 1 then(idx t.aS w_).bind λx5=>(FO x5).bind λx6=>some ({t with aS:=t.aS.set w_.toNat x6}:Table) else(bS x1.Pc 2 5).bind λx7=>(if x7 then(B7 t w_).bind λx8=>some x8 else(if x1.Pc == 6 then(zD t w_).bind λx9=>some x9 else(if x1.Pc == 7 then(CA t w_).bind λx10=>some x10 else(if x1.Pc == 8 then(rC t w_).bind λx11=>some x11 else(bS x1.Pc 9 13).bind λx12=>(if x12 then(zE t w_).bind λx13=>some x13 else(if x1.Pc == 14 then lD t w_ x1 true else lD t w_ x1 (x1.Pc == 16)))))))))
def uY(t:Table)(w_:Int):Option Table:=(idx t.aS w_).bind λx1=>(if !x1.bQ then(y5 t w_).bind λx2=>some x2 else(if x1.Pc == 0 then jR t w_ x1 true else(if x1.Pc == 20 then jR t w_ x1 true else jR t w_ x1 (x1.Pc == 21))))
def HX(j:aI):Option Bool:=some j.bQ
def HY(q:aJ):Option Bool:=some (decide (0<(q.List.length:Int)))
def FV(x1:Bool):Option Bool:=some x1
def FW(t:Table):Option Bool:=(gY t.aS (λy0=>HX y0)).bind λx2=>(if !x2 then(j9 t.fI (λy0=>HY y0)).bind λx3=>FV (!x3) else FV false)
def tQ(j:aI):Option Bool:=(sP j).bind λx1=>some (!x1)
def ZE(x5:Table):Option Table:=some x5
def mS(x3:Int)(x6:Bool)(x7:Table):Option (Step (Int×Table) (Out Table Table)):=(if x6 then some (.stop (Out.ret x7)) else(uY x7 (Int.tmod x3 3)).bind λx8=>some (.next (aY (x3+1),x8)))
def mT(n:Int)(finish:Bool):(Int×Table)->Option (Step (Int×Table) (Out Table Table))
 |(x3,x4)=>(if decide (x3<n) then(if finish then(FW x4).bind λx9=>(if x9 then mS x3 true x4 else(gY x4.aS (λy0=>tQ y0)).bind λx10=>mS x3 x10 x4) else(gY x4.aS (λy0=>tQ y0)).bind λx11=>mS x3 x11 x4) else some (.stop (Out.brk x4)))
def K4:(Out Table Table)->Option Table
 |.brk x5=>ZE x5
 |.ret r=>some r
def HZ(t:Table)(n:Int)(finish:Bool):Option Table:=(loop (mT n finish) (0,t)).bind (K4)
def AM(x2:Table):Option Table:=some x2
def lE(t:Table):Option Table:=(EY t).bind λx1=>(FE t).bind λx3=>(if x3 then(HZ x1 3000 true).bind λx4=>AM x4 else AM x1)
def U3(x y:Int):Option (Int×Int):=some (IntKind.u64.wrap ((IntKind.u64.wrap ((IntKind.u64.wrap ((o8 .u64 x 32)*(o8 .u64 y 32)))+(o8 .u64 (IntKind.u64.wrap ((IntKind.u64.wrap ((o8 .u64 x 32)*(iI .and .u64 y 4294967295)))+(o8 .u64 (IntKind.u64.wrap ((iI .and .u64 x 4294967295)*(iI .and .u64 y 4294967295))) 32))) 32)))+(o8 .u64 (IntKind.u64.wrap ((iI .and .u64 (IntKind.u64.wrap ((IntKind.u64.wrap ((o8 .u64 x 32)*(iI .and .u64 y 4294967295)))+(o8 .u64 (IntKind.u64.wrap ((iI .and .u64 x 4294967295)*(iI .and .u64 y 4294967295))) 32))) 4294967295)+(IntKind.u64.wrap ((iI .and .u64 x 4294967295)*(o8 .u64 y 32))))) 32)),IntKind.u64.wrap (x*y))
def P1(x y:Int):Option (Int×Int):=(U3 x y).bind λx1=>some (x1.1,x1.2)
def WR(x7:List Int):Option (List Int):=some x7
def lW:((List Int)×Int)->Option (Step ((List Int)×Int) (List Int))
 |(x5,x6)=>(if decide (x6<(x5.length:Int)) then need (0<=(x6:Int)/\(x6:Int)<=(x5.length:Int)) (need (0<=(x6:Int)/\(x6:Int)<=(x5.length:Int)) (some (.next (cS x5 x6.toNat ((x5.take x6.toNat).drop 0),aY (x6+((min ((x5.take x6.toNat).drop 0).length (x5.length-x6.toNat):Nat):Int)))))) else some (.stop (x5)))
def WS:(List Int)->Option (List Int)
 |x7=>WR x7
def pR(x:List Int)(x1:Int×Int)(x2:Bool):Option (List Int):=(if x2 then none else need (0<=(IntKind.i64.wrap x1.2:Int)/\(IntKind.i64.wrap x1.2:Int)<=4294967296) ((loop (lW) (cS (List.replicate ((IntKind.i64.wrap x1.2).toNat) 0) 0 x,((min x.length ((List.replicate ((IntKind.i64.wrap x1.2).toNat) 0:List Int).length-0):Nat):Int))).bind (WS)))
def wM(x:List Int)(count:Int):Option (List Int):=(if decide (count<0) then none else(P1 (IntKind.u64.wrap (x.length:Int)) (IntKind.u64.wrap count)).bind λx1=>(if decide (0<x1.1) then pR x x1 true else pR x x1 (decide (9223372036854775807<x1.2))))
def U4(x1:List Int):Option Heap:=some (⟨List.replicate ((384:Int).toNat) 0,x1⟩:Heap)
def LS:Option Heap:=
 need (0<=(384:Int)/\(384:Int)<=4294967296)<|(wM ([(-1)]) 6).bind λx2=>U4 x2
def RP:Option aE:=some (⟨List.replicate ((3:Int).toNat) (⟨[]⟩:bH),List.replicate ((9:Int).toNat) (⟨[]⟩:bH)⟩:aE)
def P2:Option aE:=
 need (0<=(3:Int)/\(3:Int)<=4294967296)<|need (0<=(9:Int)/\(9:Int)<=4294967296)<|RP
def WT:Option Mem:=(LS).bind λx1=>(P2).bind λx2=>some (⟨x1,x2⟩:Mem)
def P3:Option aC:=need (0<=(3:Int)/\(3:Int)<=4294967296) (some (⟨0,List.replicate ((3:Int).toNat) (⟨false,0,false,0⟩:wU)⟩:aC))
def P4:Option (List bU):=need (0<=(3:Int)/\(3:Int)<=4294967296) (some (List.replicate ((3:Int).toNat) (⟨[]⟩:bU)))
def WU:Option (List Int):=need (0<=(3:Int)/\(3:Int)<=4294967296) (some (List.replicate ((3:Int).toNat) 0))
def LU:Option aA:=(WT).bind λx1=>(P3).bind λx2=>(P4).bind λx3=>(WU).bind λx4=>some (⟨x1,x2,x3,x4⟩:aA)
def RQ(x2:Table):Option Table:=some ({x2 with Log:=[]}:Table)
def IY(todo:List aJ):Option Table:=
 (E3 todo).bind λx1=>(if !x1 then some (⟨(⟨(⟨(⟨[],[]⟩:Heap),(⟨[],[]⟩:aE)⟩:Mem),(⟨0,[]⟩:aC),[],[]⟩:aA),[],[],[],[],0⟩:Table) else(LU).bind λx3=>need (0<=(2:Int)/\(2:Int)<=4294967296)<|need (0<=(3:Int)/\(3:Int)<=4294967296)<|(xC todo).bind λx4=>RQ (⟨x3,List.replicate ((2:Int).toNat) (⟨0,0,0⟩:bW),List.replicate ((3:Int).toNat) (⟨false,(⟨false,[]⟩:Batch),0,0,0,0,0,0,0,0,(⟨0,0,0⟩:gR),false,0,(⟨0,0,0,0,0,0,0,0,0,false⟩:Sub),[],[],[],[],[],[]⟩:aI),x4,[],0⟩:Table))
def aC1(x6:Table):Option Table:=some x6
def wN(x4:Int)(x7:Table):Option (Step (Int×Table) Table):=some (.next (aY (x4+1),x7))
def pS(x:pB):(Int×Table)->Option (Step (Int×Table) Table)
 |(x4,x5)=>(if decide (x4<(((x.fY.take ((if 400<(x.fY.length:Int) then 400 else(x.fY.length:Int)).toNat)).drop 0).length:Int)) then(idx ((x.fY.take ((if 400<(x.fY.length:Int) then 400 else(x.fY.length:Int)).toNat)).drop 0) x4).bind λx8=>(gZ x8).bind λx9=>(if x9 then(uY x5 x8).bind λx10=>wN x4 x10 else wN x4 x5) else some (.stop (x5)))
def aC2:Table->Option Table
 |x6=>aC1 x6
def xT(x:pB):Option Table:=(IY x.fI).bind λx1=>(if(x1.aS.length:Int) == 0 then some x1 else need (0<=(if 400<(x.fY.length:Int) then 400 else(x.fY.length:Int):Int)/\(if 400<(x.fY.length:Int) then 400 else(x.fY.length:Int):Int)<=(x.fY.length:Int)) ((loop (pS x) (0,x1)).bind (aC2)))
def aAZ(x5:List j7):Option (List j7):=some x5
def tR(x4:Int)(x6:List j7):Option (Step ((List j7)×Int) (List j7)):=some (.next (x6,aY (x4+1)))
def nW(t:Table):((List j7)×Int)->Option (Step ((List j7)×Int) (List j7))
 |(x3,x4)=>(if decide (x4<(t.Log.length:Int)) then(idx t.Log x4).bind λx7=>(if x7.Kind == 3 then(EL x7).bind λx8=>need (x3.length+([x8]).length<=1073741824) (tR x4 (x3++([x8]))) else tR x4 x3) else some (.stop (x3)))
def aA0:(List j7)->Option (List j7)
 |x5=>aAZ x5
def CF(t:Table):Option (List j7):=(loop (nW t) (([]:List j7),0)).bind (aA0)
def aGX:Option Int:=some (-1)
def CG(x2:Int)(x3:Bool):Option (Step Int (Out Unit Int)):=(if x3 then some (.stop (Out.ret x2)) else some (.next (aY (x2+1))))
def U5(l:List j7)(kind serial:Int):Int->Option (Step Int (Out Unit Int))
 |x2=>(if decide (x2<(l.length:Int)) then(idx l x2).bind λx4=>(if x4.Kind == kind then(idx l x2).bind λx5=>CG x2 (x5.aG == serial) else CG x2 false) else some (.stop (Out.brk ())))
def aGY:(Out Unit Int)->Option Int
 |.brk ()=>aGX
 |.ret r=>some r
def LV(l:List j7)(kind serial:Int):Option Int:=(loop (U5 l kind serial) 0).bind (aGY)
def KG(s:List KV):Option (List KV):=need (([]:List KV).length+s.length<=1073741824) (some (([]:List KV)++s))
def TA:Option Int:=some (-1)
def tS(s:List KV)(f:(KV->Option Bool)):Int->Option (Step Int (Out Unit Int))
 |x2=>(if decide (x2<(s.length:Int)) then(idx s x2).bind λx3=>(f x3).bind λx4=>(if x4 then some (.stop (Out.ret x2)) else some (.next (aY (x2+1)))) else some (.stop (Out.brk ())))
def TB:(Out Unit Int)->Option Int
 |.brk ()=>TA
 |.ret r=>some r
def jA(s:List KV)(f:(KV->Option Bool)):Option Int:=(loop (tS s f) 0).bind (TB)
def DV(x8:List KV)(x9:Int):Option (List KV):=need (0<=(x9:Int)/\(x9:Int)<=(x8.length:Int)) (need (0<=(x9:Int)/\(x9:Int)<=((cS x8 x9.toNat (List.replicate (x8.length-x9.toNat) (⟨0,0⟩:KV))).length:Int)) (some (((cS x8 x9.toNat (List.replicate (x8.length-x9.toNat) (⟨0,0⟩:KV))).take x9.toNat).drop 0)))
def jX(x7:Int)(x10:List KV)(x11:Int):Option (Step ((List KV)×Int×Int) ((List KV)×Int)):=some (.next (x10,x11,aY (x7+1)))
def mD(del:(KV->Option Bool)):((List KV)×Int×Int)->Option (Step ((List KV)×Int×Int) ((List KV)×Int))
 |(x5,x6,x7)=>(if decide (x7<(x5.length:Int)) then(idx x5 x7).bind λx12=>(del x12).bind λx13=>(if !x13 then(idx x5 x6).bind λx14=>jX x7 (x5.set x6.toNat x12) (aY (x6+1)) else jX x7 x5 x6) else some (.stop ((x5,x6))))
def DW:((List KV)×Int)->Option (List KV)
 |(x8,x9)=>DV x8 x9
def pT(s:List KV)(del:(KV->Option Bool)):Option (List KV):=(jA s del).bind λx1=>(if x1 == (-1) then some s else(loop (mD del) (s,x1,aY (x1+1))).bind (DW))
def P5(x:KV)(k0:Int):Option Bool:=some (x.Key == k0)
def WV(l:List KV)(key:Int):Option (List KV):=(KG l).bind λx1=>(pT x1 (λy0=>P5 y0 key)).bind λx2=>some x2
def P6(x:KV)(k0:Int):Option Bool:=some (decide (k0<x.Key))
def H0(s:List KV)(i:Int)(v:List KV):Option (List KV):=need (0<=i/\i<=(s.length:Int)/\s.length+v.length<=1073741824) (some (s.take i.toNat++v++s.drop i.toNat))
def xU(key val:Int)(x1:(List KV))(x3:Int):Option (List KV):=(H0 x1 x3 ([(⟨key,val⟩:KV)])).bind λx4=>some x4
def DX(l:List KV)(key val:Int):Option (List KV):=(WV l key).bind λx1=>(jA x1 (λy0=>P6 y0 key)).bind λx2=>(if decide (x2<0) then xU key val x1 (x1.length:Int) else xU key val x1 x2)
def aGZ(x6:List Int):Option ((List Int)×Bool):=some (x6,true)
def CH(m:Mem)(x4:List Int)(x5:Int)(x7:Bool):Option (Step ((List Int)×Int) (Out (List Int) ((List Int)×Bool))):=(if x7 then some (.stop (Out.ret ([],false))) else(pO m.Heap (Int.tmod x5 32)).bind λx8=>(JK x8).bind λx9=>(if !x9 then some (.stop (Out.ret ([],false))) else need (x4.length+([x5]).length<=1073741824) (some (.next (x4++([x5]),x8.Next)))))
def CI(m:Mem):((List Int)×Int)->Option (Step ((List Int)×Int) (Out (List Int) ((List Int)×Bool)))
 |(x4,x5)=>(if x5 != 0 then(vV m x5).bind λx10=>(if x10 != 0 then CH m x4 x5 true else(i7 x4 x5).bind λx11=>CH m x4 x5 x11) else some (.stop (Out.brk x4)))
def aG0:(Out (List Int) ((List Int)×Bool))->Option ((List Int)×Bool)
 |.brk x6=>aGZ x6
 |.ret r=>some r
def FX(m:Mem)(head:Int):Option ((List Int)×Bool):=(xH m).bind λx1=>(if !x1 then some (([]:List Int),false) else(loop (CI m) (([]:List Int),head)).bind (aG0))
def aKL(x6:List (List Int)):Option ((List (List Int))×Bool):=some (x6,true)
def xV(t:Table):((List (List Int))×Int)->Option (Step ((List (List Int))×Int) (Out (List (List Int)) ((List (List Int))×Bool)))
 |(x4,x5)=>(if decide (x5<(t.aR.length:Int)) then(idx t.aR x5).bind λx7=>(FX t.aA.Mem x7.Head).bind λx8=>(if !x8.2 then some (.stop (Out.ret ([],false))) else need (x4.length+([x8.1]).length<=1073741824) (some (.next (x4++([x8.1]),aY (x5+1))))) else some (.stop (Out.brk x4)))
def aKM:(Out (List (List Int)) ((List (List Int))×Bool))->Option ((List (List Int))×Bool)
 |.brk x6=>aKL x6
 |.ret r=>some r
def JM(t:Table):Option ((List (List Int))×Bool):=(FE t).bind λx1=>(if !x1 then some (([]:List (List Int)),false) else(loop (xV t) (([]:List (List Int)),0)).bind (aKM))
def tmB(t:Table):List Int->List KV->Option (List KV)
 |[],m=>some m
 |h::l,m=>(tmB t l m).bind λm'=>(pO t.aA.Mem.Heap (Int.tmod h 32)).bind λn=>DX m' n.Key n.dC
def tmL(t:Table):List (List Int)->List KV->Option (List KV)
 |[],m=>some m
 |l::ls,m=>(tmB t l m).bind (tmL t ls)
def vW(t:Table):Option (List KV):=(JM t).bind λx=>tmL t x.1 []
def TC(code:List UInt8)(i:Int):Option Int:=(if decide (i<(code.length:Int)) then(idx code i).bind λx1=>some (x1.toNat:Int) else some (Int.tmod (aY ((aY (i*37))+(aY ((code.length:Int)*11)))) 256))
def aKN:Option (Int×Bool):=some (0,false)
def xW(l:List KV)(key:Int):Int->Option (Step Int (Out Unit (Int×Bool)))
 |x2=>(if decide (x2<(l.length:Int)) then(idx l x2).bind λx3=>(if x3.Key == key then(idx l x2).bind λx4=>some (.stop (Out.ret (x4.dC,true))) else some (.next (aY (x2+1)))) else some (.stop (Out.brk ())))
def aKO:(Out Unit (Int×Bool))->Option (Int×Bool)
 |.brk ()=>aKN
 |.ret r=>some r
def DY(l:List KV)(key:Int):Option (Int×Bool):=(loop (xW l key) 0).bind (aKO)
def aN2(x5:Int):Option Int:=some x5
def IZ(x4 x6:Int):Option (Step (Int×Int) Int):=some (.next (x6,aY (x4+1)))
def I0(x3 x4:Int)(x8:Bool):Option (Step (Int×Int) Int):=(if x8 then IZ x4 (aY (x3+1)) else IZ x4 x3)
def A9(l:List j7)(code:Int):(Int×Int)->Option (Step (Int×Int) Int)
 |(x3,x4)=>(if decide (x4<(l.length:Int)) then(idx l x4).bind λx7=>(if x7.Kind == 3 then I0 x3 x4 (x7.Code == code) else I0 x3 x4 false) else some (.stop (x3)))
def aN3:Int->Option Int
 |x5=>aN2 x5
def M1(l:List j7)(code:Int):Option Int:=(loop (A9 l code) (0,0)).bind (aN3)
def mE(x20:Bool):Option Bool:=some x20
def FY(x16:Int)(x17:Table):Option Bool:=(vW x17).bind λx18=>(DY x18 7).bind λx19=>(if(x17.aS.length:Int) == 3 then(if x19.1 == (Int.tmod x16 65536) then(if x19.2 == (decide (0<x16)) then(M1 x17.Log 0).bind λx21=>mE (decide (9<=x21)) else mE false) else mE false) else mE false)
def pU(x14 x22:Int)(x23:Table):Option (Step (Int×Int×Table) (Out (Int×Table) Bool)):=some (.next (x22,aY (x14+1),x23))
def wO(x13 x14:Int)(x24:Bool)(x25:Table):Option (Step (Int×Int×Table) (Out (Int×Table) Bool)):=(if x24 then(idx x25.Log x14).bind λx26=>(LV x25.Log 1 x26.aG).bind λx27=>(if decide (x27<0) then some (.stop (Out.ret false)) else(idx x25.Log x27).bind λx28=>(if(x28.bN.length:Int) == 1 then(idx x28.bN 0).bind λx29=>pU x14 (aY (x13+x29.dC)) x25 else pU x14 x13 x25)) else pU x14 x13 x25)
def pW:(Int×Int×Table)->Option (Step (Int×Int×Table) (Out (Int×Table) Bool))
 |(x13,x14,x15)=>(if decide (x14<(x15.Log.length:Int)) then(idx x15.Log x14).bind λx30=>(if x30.Kind == 3 then wO x13 x14 (x30.Code == 0) x15 else wO x13 x14 false x15) else some (.stop (Out.brk (x13,x15))))
def O5:(Out (Int×Table) Bool)->Option Bool
 |.brk (x16,x17)=>FY x16 x17
 |.ret r=>some r
def O6(x2:pB)(x7:List aJ):Option Bool:=(xT (⟨x7,x2.fY⟩:pB)).bind λx8=>(lE x8).bind λx9=>(loop (pW) (0,0,x9)).bind (O5)
def FZ(x5:Int)(x6:List aJ)(x35:List Batch):Option (Step (Int×(List aJ)) (List aJ)):=need (x6.length+([(⟨x35⟩:aJ)]).length<=1073741824) (some (.next (aY (x5+1),x6++([(⟨x35⟩:aJ)]))))
def F5(x33:Int)(x36:List Batch):Option (Step (Int×(List Batch)) (List Batch)):=some (.next (aY (x33+1),x36))
def mF(code:List UInt8)(x5:Int):(Int×(List Batch))->Option (Step (Int×(List Batch)) (List Batch))
 |(x33,x34)=>(if decide (x33<3) then(TC code (aY ((aY (x5*3))+x33))).bind λx37=>need (x34.length+([(⟨false,[(⟨4,7,aY (1+x37)⟩:eJ)]⟩:Batch),(⟨true,[]⟩:Batch)]:List Batch).length<=1073741824)<|F5 x33 (x34++([(⟨false,[(⟨4,7,aY (1+x37)⟩:eJ)]⟩:Batch),(⟨true,[]⟩:Batch)]:List Batch)) else some (.stop (x34)))
def F6(x5:Int)(x6:List aJ):(List Batch)->Option (Step (Int×(List aJ)) (List aJ))
 |x35=>FZ x5 x6 x35
def pX(code:List UInt8):(Int×(List aJ))->Option (Step (Int×(List aJ)) (List aJ))
 |(x5,x6)=>(if decide (x5<3) then(loop (mF code x5) (0,[])).bind (F6 x5 x6) else some (.stop (x6)))
def O7(x2:pB):(List aJ)->Option Bool
 |x7=>O6 x2 x7
def M3(code:List UInt8):Option Bool:=(WG code).bind λx1=>(if x1 then some true else(nP code).bind λx2=>(loop (pX code) (0,[])).bind (O7 x2))
def xX(x19:Bool):Option Bool:=some x19
def M4(x10:(List j7))(x15:Table):Option Bool:=(vW x15).bind λx16=>(DY x16 1).bind λx17=>(DY x16 2).bind λx18=>(if(x10.length:Int) == 18 then(if(Int.tmod (aY (x17.1+x18.1)) 65536) == 0 then(M1 x15.Log 0).bind λx20=>xX (decide (9<=x20)) else xX false) else xX false)
def xY(x13:Int)(x21:Bool)(x22:Table):Option (Step (Int×Table) (Out Table Bool)):=(if x21 then some (.stop (Out.ret false)) else some (.next (aY (x13+1),x22)))
def xZ(x10:(List j7)):(Int×Table)->Option (Step (Int×Table) (Out Table Bool))
 |(x13,x14)=>(if decide (x13<(x10.length:Int)) then(idx x10 x13).bind λx23=>(if x23.Who == 2 then(idx x10 x13).bind λx24=>(if(x24.hU.length:Int) == 2 then(idx x10 x13).bind λx25=>(idx x25.hU 0).bind λx26=>(idx x10 x13).bind λx27=>(idx x27.hU 1).bind λx28=>xY x13 ((Int.tmod (aY (x26.dC+x28.dC)) 65536) != 0) x14 else xY x13 false x14) else xY x13 false x14) else some (.stop (Out.brk x14)))
def WW(x10:(List j7)):(Out Table Bool)->Option Bool
 |.brk x15=>M4 x10 x15
 |.ret r=>some r
def WX(x2:List Int)(x7:List aJ):Option Bool:=(xT (⟨x7,x2⟩:pB)).bind λx8=>(lE x8).bind λx9=>(CF x9).bind λx10=>(loop (xZ x10) (0,x9)).bind (WW x10)
def M5(x5:Int)(x32:List aJ):Option (Step (Int×(List aJ)) (List aJ)):=some (.next (aY (x5+1),x32))
def M6(x5:Int)(x31:List aJ):Option (Step (Int×(List aJ)) (List aJ)):=
 (idx x31 2).bind λx33=>need (x33.List.length+([(⟨false,([(⟨1,1,0⟩:eJ),(⟨1,2,0⟩:eJ)]:List eJ)⟩:Batch),(⟨true,[]⟩:Batch)]:List Batch).length<=1073741824)<|M5 x5 (x31.set ((2:Int).toNat) (⟨x33.List++([(⟨false,([(⟨1,1,0⟩:eJ),(⟨1,2,0⟩:eJ)]:List eJ)⟩:Batch),(⟨true,[]⟩:Batch)]:List Batch)⟩:aJ))
def M7(x5 x29:Int)(x30:List aJ):Option (Step (Int×(List aJ)) (List aJ)):=
 (idx x30 1).bind λx34=>need (x34.List.length+([(⟨false,([(⟨4,2,aY (1+x29)⟩:eJ),(⟨4,1,aY (65536-(aY (1+x29)))⟩:eJ)]:List eJ)⟩:Batch),(⟨true,[]⟩:Batch)]:List Batch).length<=1073741824)<|M6 x5 (x30.set ((1:Int).toNat) (⟨x34.List++([(⟨false,([(⟨4,2,aY (1+x29)⟩:eJ),(⟨4,1,aY (65536-(aY (1+x29)))⟩:eJ)]:List eJ)⟩:Batch),(⟨true,[]⟩:Batch)]:List Batch)⟩:aJ))
def yA(code:List UInt8):(Int×(List aJ))->Option (Step (Int×(List aJ)) (List aJ))
 |(x5,x6)=>(if decide (x5<3) then(TC code x5).bind λx29=>(idx x6 0).bind λx35=>need (x35.List.length+([(⟨false,([(⟨4,1,aY (1+x29)⟩:eJ),(⟨4,2,aY (65536-(aY (1+x29)))⟩:eJ)]:List eJ)⟩:Batch),(⟨true,[]⟩:Batch)]:List Batch).length<=1073741824)<|M7 x5 x29 (x6.set ((0:Int).toNat) (⟨x35.List++([(⟨false,([(⟨4,1,aY (1+x29)⟩:eJ),(⟨4,2,aY (65536-(aY (1+x29)))⟩:eJ)]:List eJ)⟩:Batch),(⟨true,[]⟩:Batch)]:List Batch)⟩:aJ)) else some (.stop (x6)))
def WY(x2:List Int):(List aJ)->Option Bool
 |x7=>WX x2 x7
def M8(code:List UInt8)(x2:List Int):Option Bool:=(loop (yA code) (0,List.replicate ((3:Int).toNat) (⟨[]⟩:aJ))).bind (WY x2)
def WZ(code:List UInt8):Option Bool:=
 (WG code).bind λx1=>(if x1 then some true else(nP code).bind λx36=>need (0<=(3:Int)/\(3:Int)<=4294967296)<|M8 code x36.fY)
def U6:Option Bool:=some true
def oZ(x3:Int)(x5:Bool):Option (Step Int (Out Unit Bool)):=(if x5 then some (.stop (Out.ret false)) else some (.next (aY (x3+1))))
def uZ(c:aC):Int->Option (Step Int (Out Unit Bool))
 |x3=>(if decide (x3<3) then(idx c.cO x3).bind λx4=>(if !x4.On then(if !(decide (x4=(⟨false,0,false,0⟩:wU))) then oZ x3 true else(dN x4.aL 0 c.aL).bind λx6=>(if !x6 then oZ x3 true else(dN x4.Seen 0 2).bind λx7=>oZ x3 (!x7))) else(dN x4.aL 0 c.aL).bind λx8=>(if !x8 then oZ x3 true else(dN x4.Seen 0 2).bind λx9=>oZ x3 (!x9))) else some (.stop (Out.brk ())))
def KH:(Out Unit Bool)->Option Bool
 |.brk ()=>U6
 |.ret r=>some r
def vA(c:aC)(x1:Bool):Option Bool:=(if x1 then some false else(loop (uZ c) 0).bind (KH))
def zF(c:aC):Option Bool:=(dN c.aL 0 100000).bind λx10=>(if !x10 then vA c true else vA c ((c.cO.length:Int) != 3))
def aKP(x5:Int):Option Int:=some x5
def yC(b:List Int)(at_ width:Int):(Int×Int)->Option (Step (Int×Int) Int)
 |(x3,x4)=>(if decide (x4<width) then(idx b (aY (at_+x4))).bind λx6=>some (.next (aY ((aY (x3*256))+x6),aY (x4+1))) else some (.stop (x3)))
def aKQ:Int->Option Int
 |x5=>aKP x5
def W5(b:List Int)(at_ width:Int):Option Int:=(loop (yC b at_ width) (0,0)).bind (aKQ)
def O8(c:Int):Option Int:=(if c == 0 then some 8 else(if c == 1 then some 16 else(if c == 2 then some 40 else some 0)))
def I1(c:Int):Option Int:=(dN c 0 2).bind λx1=>(if !x1 then some 0 else(O8 c).bind λx2=>some (aY (4+x2)))
def zG(c:Int):Option Int:=(dN c 0 2).bind λx1=>(if !x1 then some 0 else(I1 c).bind λx2=>need (x2≠0) (some (aY (Int.tdiv 56 x2))))
def JN(slot:Int):Option Int:=(dN slot 0 23).bind λx1=>(if !x1 then some (-1) else some (aY (Int.tdiv slot 4)))
def F7(slot:Int):Option Int:=(dN slot 0 23).bind λx1=>(if !x1 then some (-1) else some (Int.tmod slot 4))
def P7(slot c:Int)(x1:Bool):Option Int:=(if x1 then some (-1) else(JN slot).bind λx2=>(F7 slot).bind λx3=>(I1 c).bind λx4=>some (aY ((aY ((aY (x2*64))+8))+(aY (x3*x4)))))
def H3(slot c:Int):Option Int:=(JN slot).bind λx5=>(if decide (x5<0) then P7 slot c true else(F7 slot).bind λx6=>(zG c).bind λx7=>(dN x6 0 (aY (x7-1))).bind λx8=>P7 slot c (!x8))
def M9(page index:Int)(x1:Bool):Option Int:=(if x1 then some (-1) else some (aY ((aY (page*4))+index)))
def O9(page index:Int):Option Int:=(dN page 0 5).bind λx2=>(if !x2 then M9 page index true else(dN index 0 3).bind λx3=>M9 page index (!x3))
def aN4:Option Bool:=some false
def vX(l:List Int)(x:Int):Int->Option (Step Int (Out Unit Bool))
 |x2=>(if decide (x2<(l.length:Int)) then(idx l x2).bind λx3=>(if x3 == x then some (.stop (Out.ret true)) else some (.next (aY (x2+1)))) else some (.stop (Out.brk ())))
def aN5:(Out Unit Bool)->Option Bool
 |.brk ()=>aN4
 |.ret r=>some r
def aA1(l:List Int)(x:Int):Option Bool:=(loop (vX l x) 0).bind (aN5)
def aN6(x10:List Int):Option (List Int):=some x10
def BA(l:aE):((List Int)×Int)->Option (Step ((List Int)×Int) (List Int))
 |(x8,x9)=>(if decide (x9<(l.Own.length:Int)) then(idx l.Own x9).bind λx11=>need (x8.length+x11.aV.length<=1073741824) (some (.next (x8++x11.aV,aY (x9+1)))) else some (.stop (x8)))
def aN7:(List Int)->Option (List Int)
 |x10=>aN6 x10
def Z4(l:aE)(x5:List Int):Option (List Int):=(loop (BA l) (x5,0)).bind (aN7)
def BC(l:aE):((List Int)×Int)->Option (Step ((List Int)×Int) (List Int))
 |(x3,x4)=>(if decide (x4<(l.Global.length:Int)) then(idx l.Global x4).bind λx12=>need (x3.length+x12.aV.length<=1073741824) (some (.next (x3++x12.aV,aY (x4+1)))) else some (.stop (x3)))
def Z5(l:aE):(List Int)->Option (List Int)
 |x5=>Z4 l x5
def aA2(l:aE):Option (List Int):=(loop (BC l) (([]:List Int),0)).bind (Z5 l)
def CJ(h:Heap)(x1:Int)(x2:Bool):Option Int:=(if x2 then some (-1) else(idx h.Class x1).bind λx3=>some x3)
def F8(h:Heap)(slot:Int):Option Int:=(JN slot).bind λx1=>(if decide (x1<0) then CJ h x1 true else(idx h.Class x1).bind λx4=>(if decide (x4<0) then CJ h x1 true else(idx h.Class x1).bind λx5=>(F7 slot).bind λx6=>(zG x5).bind λx7=>CJ h x1 (decide (x7<=x6))))
def H4(h:Heap)(slot:Int):Option Int:=(F8 h slot).bind λx1=>(H3 slot x1).bind λx2=>(W5 h.Bytes x2 4).bind λx3=>some x3
def P8(w_ c:Int)(x1:Bool):Option Int:=(if x1 then some (-1) else some (aY ((aY (w_*3))+c)))
def TD(w_ c:Int):Option Int:=(dN w_ 0 2).bind λx2=>(if !x2 then P8 w_ c true else(dN c 0 2).bind λx3=>P8 w_ c (!x3))
def aKR(x5:List eR):Option (List eR):=some x5
def yD(l:List bU):((List eR)×Int)->Option (Step ((List eR)×Int) (List eR))
 |(x3,x4)=>(if decide (x4<(l.length:Int)) then(idx l x4).bind λx6=>need (x3.length+x6.Rows.length<=1073741824) (some (.next (x3++x6.Rows,aY (x4+1)))) else some (.stop (x3)))
def aKS:(List eR)->Option (List eR)
 |x5=>aKR x5
def W6(l:List bU):Option (List eR):=(loop (yD l) (([]:List eR),0)).bind (aKS)
def H5(x1:Bool):Option Bool:=some x1
def vY(h:Int):Option Bool:=(dN h 32 223).bind λx2=>(if x2 then H5 (decide ((Int.tmod h 32)<24)) else H5 false)
def mK(h:Int):Option Int:=(vY h).bind λx1=>(if !x1 then some (-1) else some (Int.tmod h 32))
def W7(l:aE)(slot:Int):Option Bool:=(aA2 l).bind λx1=>(aA1 x1 slot).bind λx2=>some x2
def TE(m:Mem)(slot:Int):Option Int:=(F8 m.Heap slot).bind λx1=>(if decide (x1<0) then some 0 else(W7 m.aE slot).bind λx2=>(if x2 then some 1 else(H4 m.Heap slot).bind λx3=>(if decide (6<x3) then some 2 else some 3)))
def NA(h:Int):Option Int:=(vY h).bind λx1=>(if !x1 then some 0 else some (aY (Int.tdiv h 32)))
def CL(x1:Bool):Option Bool:=some x1
def TF(m:Mem)(h:Int):Option Bool:=(vY h).bind λx2=>(if x2 then(mK h).bind λx3=>(TE m x3).bind λx4=>(if x4 == 3 then(mK h).bind λx5=>(H4 m.Heap x5).bind λx6=>(NA h).bind λx7=>CL (x6 == x7) else CL false) else CL false)
def aG1:Option Bool:=some false
def CM(x3:Int)(x4:Bool):Option (Step Int (Out Unit Bool)):=(if x4 then some (.stop (Out.ret true)) else some (.next (aY (x3+1))))
def o5(slot:Int)(x1:(List eR)):Int->Option (Step Int (Out Unit Bool))
 |x3=>(if decide (x3<(x1.length:Int)) then(idx x1 x3).bind λx5=>(vY x5.Handle).bind λx6=>(if x6 then(mK x5.Handle).bind λx7=>CM x3 (x7 == slot) else CM x3 false) else some (.stop (Out.brk ())))
def aG2:(Out Unit Bool)->Option Bool
 |.brk ()=>aG1
 |.ret r=>some r
def TG(l:List bU)(slot:Int):Option Bool:=(W6 l).bind λx1=>(loop (o5 slot x1) 0).bind (aG2)
def aG3:Option Int:=some (-1)
def gA(size:Int):Int->Option (Step Int (Out Unit Int))
 |x2=>(if decide (x2<3) then(O8 x2).bind λx3=>(dN size 1 x3).bind λx4=>(if x4 then some (.stop (Out.ret x2)) else some (.next (aY (x2+1)))) else some (.stop (Out.brk ())))
def aG4:(Out Unit Int)->Option Int
 |.brk ()=>aG3
 |.ret r=>some r
def F9(size:Int):Option Int:=(loop (gA size) 0).bind (aG4)
def aC3(slot c:Int):Option Int:=(H3 slot c).bind λx1=>(if decide (x1<0) then some (-1) else some (aY (x1+4)))
def P9(s:bH)(x1:Int):Option (bH×Int):=some ((⟨(s.aV.take ((aY ((s.aV.length:Int)-1)).toNat)).drop 0⟩:bH),x1)
def tT(s:bH):Option (bH×Int):=(if(s.aV.length:Int) == 0 then some (s,(-1)) else need (0<=(aY ((s.aV.length:Int)-1):Int)/\(aY ((s.aV.length:Int)-1):Int)<=(s.aV.length:Int)) ((idx s.aV (aY ((s.aV.length:Int)-1))).bind λx2=>P9 s x2))
def aG5(x7:List Int):Option (List Int):=some x7
def CN(at_:Int):((List Int)×Int×Int)->Option (Step ((List Int)×Int×Int) (List Int))
 |(x4,x5,x6)=>(if decide (0<=x6) then(idx x4 (aY (at_+x6))).bind λx8=>some (.next (x4.set ((aY (at_+x6)).toNat) (Int.tmod x5 256),aY (Int.tdiv x5 256),aY (x6-1))) else some (.stop (x4)))
def aG6:(List Int)->Option (List Int)
 |x7=>aG5 x7
def GA(b:List Int)(at_ width n:Int):Option (List Int):=(loop (CN at_) (b,n,aY (width-1))).bind (aG6)
def aG7(h:Heap):Option (Heap×(List Int)):=some (h,([]:List Int))
def KI(x2:Int):Option (Step Int (Out Unit (Heap×(List Int)))):=some (.next (aY (x2+1)))
def aG8(h:Heap)(c x2:Int)(x14 x15:List Int):Option (Step Int (Out Unit (Heap×(List Int)))):=some (.stop (Out.ret ((⟨x15,h.Class.set x2.toNat c⟩:Heap),x14)))
def U7(x2:Int)(x11:List Int)(x12:Int)(x17:List Int):Option (Step ((List Int)×Int×(List Int)) ((List Int)×(List Int))):=(O9 x2 x12).bind λx18=>need (x11.length+([x18]).length<=1073741824) (some (.next (x11++([x18]),aY (x12+1),x17)))
def CP(c x2:Int):((List Int)×Int×(List Int))->Option (Step ((List Int)×Int×(List Int)) ((List Int)×(List Int)))
 |(x11,x12,x13)=>(zG c).bind λx16=>(if decide (x12<x16) then(O9 x2 x12).bind λx19=>(H3 x19 c).bind λx20=>(GA x13 x20 4 1).bind λx21=>U7 x2 x11 x12 x21 else some (.stop ((x11,x13))))
def aG9(h:Heap)(c x2:Int):((List Int)×(List Int))->Option (Step Int (Out Unit (Heap×(List Int))))
 |(x14,x15)=>aG8 h c x2 x14 x15
def fK(h:Heap)(c:Int):Int->Option (Step Int (Out Unit (Heap×(List Int))))
 |x2=>(if decide (x2<6) then(idx h.Class x2).bind λx3=>(if x3 != (-1) then KI x2 else(idx h.Bytes (aY (x2*64))).bind λx4=>(idx (h.Bytes.set ((aY (x2*64)).toNat) 171) (aY ((aY (x2*64))+1))).bind λx5=>(zG c).bind λx6=>(idx ((h.Bytes.set ((aY (x2*64)).toNat) 171).set ((aY ((aY (x2*64))+1)).toNat) c) (aY ((aY (x2*64))+2))).bind λx7=>(loop (CP c x2) (([]:List Int),0,((h.Bytes.set ((aY (x2*64)).toNat) 171).set ((aY ((aY (x2*64))+1)).toNat) c).set ((aY ((aY (x2*64))+2)).toNat) x6)).bind (aG9 h c x2)) else some (.stop (Out.brk ())))
def aHA(h:Heap):(Out Unit (Heap×(List Int)))->Option (Heap×(List Int))
 |.brk ()=>aG7 h
 |.ret r=>some r
def tU(h:Heap)(c:Int):Option (Heap×(List Int)):=(loop (fK h c) 0).bind (aHA h)
def KJ(m:Mem)(c:Int)(x1:Heap×(List Int))(x2:bH)(x3:Int):Option (Mem×Int):=some ((⟨x1.1,(⟨m.aE.Global.set c.toNat (⟨x2.aV++((x1.2.take x1.2.length).drop ((1:Int).toNat))⟩:bH),m.aE.Own⟩:aE)⟩:Mem),x3)
def GB(m:Mem)(c:Int):Option (Mem×Int):=(tU m.Heap c).bind λx1=>(if(x1.2.length:Int) == 0 then some ((⟨x1.1,m.aE⟩:Mem),(-1)) else(idx m.aE.Global c).bind λx2=>need (0<=(1:Int)/\(1:Int)<=(x1.2.length:Int)) (need (x2.aV.length+((x1.2.take x1.2.length).drop ((1:Int).toNat)).length<=1073741824) ((idx x1.2 0).bind λx4=>KJ m c x1 x2 x4)))
def zH(slot gen:Int)(x1:Bool):Option Int:=(if x1 then some 0 else some (aY ((aY (gen*32))+slot)))
def QA(slot gen:Int):Option Int:=(dN slot 0 23).bind λx2=>(if !x2 then zH slot gen true else(dN gen 1 6).bind λx3=>zH slot gen (!x3))
def BD(m:Mem)(slot:Int):Option Int:=(H4 m.Heap slot).bind λx1=>(QA slot x1).bind λx2=>some x2
def NB(x2 x3:List bH):Option aE:=some (⟨x2,x3⟩:aE)
def W8(x:aE)(slot x1:Int)(x4:bH):Option aE:=NB x.Global (x.Own.set x1.toNat (⟨x4.aV++([slot])⟩:bH))
def W9(x:aE)(x5:List bH):Option aE:=NB x5 x.Own
def XA(x:aE)(w_ c slot:Int):Option aE:=
 (TD w_ c).bind λx1=>(idx x.Own x1).bind λx4=>(if decide ((x4.aV.length:Int)<2) then need (x4.aV.length+([slot]).length<=1073741824)<|W8 x slot x1 x4 else(idx x.Global c).bind λx6=>need (x6.aV.length+([slot]).length<=1073741824)<|W9 x (x.Global.set c.toNat (⟨x6.aV++([slot])⟩:bH)))
def NC(x:Mem)(x3:List Int)(x4 x5:List bH):Option Mem:=some (⟨(⟨x3,x.Heap.Class⟩:Heap),(⟨x4,x5⟩:aE)⟩:Mem)
def ND(x:Mem)(w_ slot x1 x2:Int)(x3:List Int):Option Mem:=(if decide ((aY (x2+1))<=6) then(XA x.aE w_ x1 slot).bind λx6=>NC x x3 x6.Global x6.Own else NC x x3 x.aE.Global x.aE.Own)
def JO(x:Mem)(w_ slot:Int):Option Mem:=(F8 x.Heap slot).bind λx1=>(H4 x.Heap slot).bind λx2=>(H3 slot x1).bind λx7=>(GA x.Heap.Bytes x7 4 (aY (x2+1))).bind λx8=>ND x w_ slot x1 x2 x8
def zI(c:aC):Option aC:=need (([]:List wU).length+c.cO.length<=1073741824) (some (⟨c.aL,([]:List wU)++c.cO⟩:aC))
def bO(s:Sub)(code:Int):Option Sub:=some ({s with Code:=code,gX:=true}:Sub)
def TH(b:aA)(s:Sub)(slot pc:Int):Option Sub:=(if decide (0<=slot) then(BD b.Mem slot).bind λx1=>(bO ({s with Out:=x1}:Sub) 0).bind λx2=>some x2 else some ({s with Pc:=pc}:Sub))
def zJ(s:Sub)(x3:Int)(x5:Bool)(x6:aA):Option (aA×Sub):=(if x5 then(bO s 3).bind λx7=>some (x6,x7) else(TH x6 s x3 (aY (s.Pc+1))).bind λx8=>some (x6,x8))
def jY(s:Sub)(x3:Int)(x4:aA):Option (aA×Sub):=(if decide (x3<0) then zJ s x3 (s.Pc == 3) x4 else zJ s x3 false x4)
def zK(b:aA)(s:Sub)(x1:Int)(x12:Bool):Option (aA×Sub):=(if x12 then(idx b.Mem.aE.Global x1).bind λx13=>(tT x13).bind λx14=>jY s x14.2 ({b with Mem:=(⟨b.Mem.Heap,(⟨b.Mem.aE.Global.set x1.toNat x14.1,b.Mem.aE.Own⟩:aE)⟩:Mem)}:aA) else(if s.Pc == 2 then(GB b.Mem x1).bind λx15=>jY s x15.2 ({b with Mem:=x15.1}:aA) else(bO s 1).bind λx16=>some (b,x16)))
def BE(b:aA)(w_:Int)(s:Sub):Option (aA×Sub):=(F9 s.A).bind λx1=>(if decide (x1<0) then(bO s 2).bind λx2=>some (b,x2) else(if s.Pc == 0 then(TD w_ x1).bind λx9=>(idx b.Mem.aE.Own x9).bind λx10=>(tT x10).bind λx11=>jY s x11.2 ({b with Mem:=(⟨b.Mem.Heap,(⟨b.Mem.aE.Global,b.Mem.aE.Own.set x9.toNat x11.1⟩:aE)⟩:Mem)}:aA) else(if s.Pc == 1 then zK b s x1 true else zK b s x1 (s.Pc == 3))))
def GC(b:aA)(s:Sub)(x5:List bU):Option (aA×Sub):=(bO s 0).bind λx6=>some (({b with aQ:=x5}:aA),x6)
def wP(b:aA)(w_:Int)(s:Sub)(x3:Bool):Option (aA×Sub):=
 (if x3 then(bO s 4).bind λx4=>some (b,x4) else(idx b.aQ w_).bind λx7=>need (x7.Rows.length+([(⟨s.A,s.E⟩:eR)]).length<=1073741824)<|GC b s (b.aQ.set w_.toNat (⟨x7.Rows++([(⟨s.A,s.E⟩:eR)])⟩:bU)))
def yE(b:aA)(w_:Int)(s:Sub):Option (aA×Sub):=(if s.Pc == 0 then some (b,({s with Pc:=1,E:=b.aC.aL}:Sub)) else(if s.Pc == 1 then(dN s.E 0 b.aC.aL).bind λx1=>(if !x1 then(bO s 1).bind λx2=>some (b,x2) else(TF b.Mem s.A).bind λx8=>(if !x8 then wP b w_ s true else(mK s.A).bind λx9=>(TG b.aQ x9).bind λx10=>wP b w_ s x10)) else(bO s 1).bind λx11=>some (b,x11)))
def sB(w_:Int)(x1:aC)(x3:wU)(x4:Bool):Option (aC×Bool):=(if x4 then some (x1,true) else(if x3.Seen == 2 then(idx x1.cO w_).bind λx5=>some ((⟨x1.aL,x1.cO.set w_.toNat ({x5 with gP:=true,Seen:=0}:wU)⟩:aC),true) else(idx x1.cO w_).bind λx6=>some ((⟨x1.aL,x1.cO.set w_.toNat ({x6 with Seen:=aY (x3.Seen+1)}:wU)⟩:aC),false)))
def GD(c:aC)(w_ e_:Int)(x1:aC)(x2:Bool):Option (aC×Bool):=(if x2 then some (x1,false) else(idx c.cO w_).bind λx3=>(if !x3.On then sB w_ x1 x3 true else(if x3.gP then sB w_ x1 x3 true else sB w_ x1 x3 (x3.aL == e_))))
def JQ(c:aC)(w_ e_:Int):Option (aC×Bool):=(zI c).bind λx1=>(zF c).bind λx7=>(if !x7 then GD c w_ e_ x1 true else(dN w_ 0 2).bind λx8=>GD c w_ e_ x1 (!x8))
def GF(e_:Int)(x1:aC)(x2:Bool):Option (aC×Bool):=(if x2 then some (x1,false) else some ((⟨aY (e_+1),x1.cO⟩:aC),true))
def RR(c:aC)(e_:Int):Option (aC×Bool):=(zI c).bind λx1=>(zF c).bind λx3=>(if !x3 then GF e_ x1 true else(if c.aL != e_ then GF e_ x1 true else GF e_ x1 (e_ == 100000)))
def tV(b:aA)(s:Sub)(x3:aC×Bool)(x5:Int):Option (aA×Sub):=some (({b with aC:=x3.1}:aA),({s with Pc:=x5,B:=aY (s.B+1)}:Sub))
def tW(b:aA)(s:Sub)(x6:aC×Bool)(x7:Int):Option (aA×Sub):=(bO ({s with Out:=x7}:Sub) 0).bind λx8=>some (({b with aC:=x6.1}:aA),x8)
def vB(b:aA)(s:Sub):Option (aA×Sub):=(if s.Pc == 0 then some (b,({s with Pc:=1,E:=b.aC.aL,B:=0}:Sub)) else(if s.Pc == 1 then(dN s.B 0 2).bind λx1=>(if !x1 then(bO s 1).bind λx2=>some (b,x2) else(JQ b.aC s.B s.E).bind λx3=>(if !x3.2 then(bO s 8).bind λx4=>some (({b with aC:=x3.1}:aA),x4) else(if(aY (s.B+1)) == 3 then tV b s x3 2 else tV b s x3 s.Pc))) else(if s.Pc == 2 then(RR b.aC s.E).bind λx6=>(if x6.2 then tW b s x6 1 else tW b s x6 s.Out) else(bO s 1).bind λx9=>some (b,x9))))
def LW(x1:Bool):Option Bool:=some x1
def ME(r_:eR)(e_:Int):Option Bool:=(if decide (2<=e_) then LW (decide (r_.aL<=(aY (e_-2)))) else LW false)
def aHB:Option Int:=some (-1)
def fL(l:List eR)(e_:Int):Int->Option (Step Int (Out Unit Int))
 |x2=>(if decide (x2<(l.length:Int)) then(idx l x2).bind λx3=>(ME x3 e_).bind λx4=>(if x4 then some (.stop (Out.ret x2)) else some (.next (aY (x2+1)))) else some (.stop (Out.brk ())))
def aHC:(Out Unit Int)->Option Int
 |.brk ()=>aHB
 |.ret r=>some r
def zL(l:List eR)(from_ e_:Int):Option Int:=(loop (fL l e_) (if 0<from_ then from_ else 0)).bind (aHC)
def tX(b:aA)(s:Sub)(x8:Int):Option (aA×Sub):=some (b,({s with Pc:=x8,B:=aY (s.B+1)}:Sub))
def fT(b:aA)(s:Sub)(x5:Bool):Option (aA×Sub):=(if x5 then(bO s 1).bind λx6=>some (b,x6) else(idx b.qT s.B).bind λx7=>(if x7 == s.H then some (b,({s with Pc:=1,Row:=aY (s.Row+1)}:Sub)) else(if(aY (s.B+1)) == 3 then tX b s 3 else tX b s s.Pc)))
def DC(s:Sub)(x14:aA):Option (aA×Sub):=some (x14,({s with Pc:=1,Out:=aY (s.Out+1)}:Sub))
def fU(b:aA)(w_:Int)(s:Sub)(x1:bU)(x12:Bool):Option (aA×Sub):=(if x12 then(bO s 1).bind λx13=>some (b,x13) else need (0<=(s.Row:Int)/\(s.Row:Int)<=(x1.Rows.length:Int)) (need (0<=(aY (s.Row+1):Int)/\(aY (s.Row+1):Int)<=(x1.Rows.length:Int)) (need (s.Row.toNat<=(aY (s.Row+1)).toNat) ((mK s.H).bind λx15=>(JO b.Mem w_ x15).bind λx16=>DC s ({b with Mem:=x16,aQ:=b.aQ.set w_.toNat (⟨((cS x1.Rows s.Row.toNat (x1.Rows.drop ((aY (s.Row+1)).toNat))).take (s.Row.toNat+(x1.Rows.length-((aY (s.Row+1)).toNat)))).drop 0⟩:bU)}:aA)))))
def vC(b:aA)(w_:Int)(s:Sub):Option (aA×Sub):=(idx b.aQ w_).bind λx1=>(if s.Pc == 0 then some (b,({s with Pc:=1,E:=b.aC.aL,Row:=0}:Sub)) else(if s.Pc == 1 then(zL x1.Rows s.Row s.E).bind λx2=>(if decide (x2<0) then(bO s 0).bind λx3=>some (b,x3) else(idx x1.Rows x2).bind λx4=>some (b,({s with Pc:=2,Row:=x2,B:=0,H:=x4.Handle}:Sub))) else(if s.Pc == 2 then(dN s.B 0 2).bind λx9=>(if !x9 then fT b s true else(dN s.Row 0 (aY ((x1.Rows.length:Int)-1))).bind λx10=>(if !x10 then fT b s true else(idx x1.Rows s.Row).bind λx11=>fT b s (x11.Handle != s.H))) else(if s.Pc == 3 then(dN s.Row 0 (aY ((x1.Rows.length:Int)-1))).bind λx17=>(if !x17 then fU b w_ s x1 true else(idx x1.Rows s.Row).bind λx18=>(if x18.Handle != s.H then fU b w_ s x1 true else(ME x18 s.E).bind λx19=>fU b w_ s x1 (!x19))) else(bO s 1).bind λx20=>some (b,x20)))))
def BF(w_ e_:Int)(x1:aC)(x2:Bool):Option (aC×Bool):=(if x2 then some (x1,false) else(idx x1.cO w_).bind λx3=>some ((⟨x1.aL,x1.cO.set w_.toNat (⟨true,e_,false,0⟩:wU)⟩:aC),true))
def NF(c:aC)(w_ e_:Int):Option (aC×Bool):=(zI c).bind λx1=>(zF c).bind λx4=>(if !x4 then BF w_ e_ x1 true else(dN w_ 0 2).bind λx5=>(if !x5 then BF w_ e_ x1 true else(dN e_ 0 c.aL).bind λx6=>BF w_ e_ x1 (!x6)))
def JR(b:aA)(w_:Int)(s:Sub):Option (aA×Sub):=(if s.Pc == 0 then some (b,({s with Pc:=1,E:=b.aC.aL}:Sub)) else(if s.Pc == 1 then(NF b.aC w_ s.E).bind λx1=>(if !x1.2 then(bO s 1).bind λx2=>some (({b with aC:=x1.1}:aA),x2) else some (({b with aC:=x1.1}:aA),({s with Pc:=2}:Sub))) else(if s.Pc == 2 then(if b.aC.aL == s.E then(bO s 0).bind λx3=>some (b,x3) else some (b,({s with Pc:=0}:Sub))) else(bO s 1).bind λx4=>some (b,x4))))
def TJ(b:aA)(w_:Int)(s:Sub):Option (aA×Sub):=(if s.gX then some (b,s) else(if s.Kind == 1 then(BE b w_ s).bind λx1=>some (x1.1,x1.2) else(if s.Kind == 2 then(yE b w_ s).bind λx2=>some (x2.1,x2.2) else(if s.Kind == 3 then(vB b s).bind λx3=>some (x3.1,x3.2) else(if s.Kind == 4 then(vC b w_ s).bind λx4=>some (x4.1,x4.2) else(if s.Kind == 5 then(JR b w_ s).bind λx5=>some (x5.1,x5.2) else(bO s 1).bind λx6=>some (b,x6)))))))
def BG(w_:Int)(x1:aC)(x2:Bool):Option (aC×Bool):=(if x2 then some (x1,false) else(idx x1.cO w_).bind λx3=>some ((⟨x1.aL,x1.cO.set w_.toNat (⟨false,0,false,0⟩:wU)⟩:aC),true))
def TL(c:aC)(w_:Int):Option (aC×Bool):=(zI c).bind λx1=>(zF c).bind λx4=>(if !x4 then BG w_ x1 true else(dN w_ 0 2).bind λx5=>(if !x5 then BG w_ x1 true else(idx c.cO w_).bind λx6=>BG w_ x1 (!x6.On)))
end
end Go.Gv
end
noncomputable section
set_option maxHeartbeats 4000000
set_option maxRecDepth 100000
namespace Go.Proofs.YtkinioiglogchaaGreat
open Go.Gv Tryz
theorem bX:SJ prog 3 1 (.int .i64 0):=wB (b:=8) (by kernel_rfl) rfl
theorem lF:SJ prog 67 3 (.agg #[.int .i64 0,.int .i64 0,.int .i64 0]):=wB (b:=24) (by kernel_rfl) rfl
theorem iN:SJ prog 64 1 (.agg #[.slice none 0 0]):=wB (b:=24) (by kernel_rfl) rfl
theorem dV:SJ prog 69 2 (.agg #[.bool false,.slice none 0 0]):=wB (b:=32) (by kernel_rfl) rfl
theorem nA:SJ prog 239 1 (.agg #[.slice none 0 0]):=wB (b:=24) (by kernel_rfl) rfl
theorem XB:SJ prog 206 4 (.agg #[.bool false,.int .i64 0,.bool false,.int .i64 0]):=wB (b:=32) (by kernel_rfl) rfl
theorem PA:SJ prog 179 1 (.agg #[.slice none 0 0]):=wB (b:=24) (by kernel_rfl) rfl
theorem XC:SJ prog 116 3 (.agg #[.int .i64 0,.int .i64 0,.int .i64 0]):=wB (b:=24) (by kernel_rfl) rfl
theorem XD:SJ prog 122 32 (.agg #[.bool false,.bool false,.slice none 0 0,.int .i64 0,.int .i64 0,.int .i64 0,.int .i64 0,.int .i64 0,.int .i64 0,.int .i64 0,.int .i64 0,.int .i64 0,.int .i64 0,.int .i64 0,.bool false,.int .i64 0,.int .i64 0,.int .i64 0,.int .i64 0,.int .i64 0,.int .i64 0,.int .i64 0,.int .i64 0,.int .i64 0,.int .i64 0,.bool false,.slice none 0 0,.slice none 0 0,.slice none 0 0,.slice none 0 0,.slice none 0 0,.slice none 0 0]):=wB (b:=368) (by kernel_rfl) rfl
theorem H6:SJ prog 74 2 (.agg #[.bool false,.int .i64 0]):=wB (b:=16) (by kernel_rfl) rfl
theorem JS:SJ prog 182 2 (.agg #[.int .i64 0,.int .i64 0]):=wB (b:=16) (by kernel_rfl) rfl
theorem PB:SJ prog 168 2 (.agg #[.int .i64 0,.int .i64 0]):=wB (b:=16) (by kernel_rfl) rfl
theorem yF:SJ prog 171 3 (.agg #[.int .i64 0,.bool false,.int .i64 0]):=wB (b:=24) (by kernel_rfl) rfl
theorem lG:SJ prog 56 6 (.agg #[.int .i64 0,.int .i64 0,.int .i64 0,.int .i64 0,.slice none 0 0,.slice none 0 0]):=wB (b:=80) (by kernel_rfl) rfl
theorem aXI:SJ prog 32 1 (.slice none 0 0):=wB (b:=24) (by kernel_rfl) rfl
theorem a23:SJ prog 5 1 (.int .u8 0):=wB (b:=1) (by kernel_rfl) rfl
theorem DD:SJ prog 90 2 (.agg #[.int .i64 0,.int .i64 0]):=wB (b:=16) (by kernel_rfl) rfl
theorem aA3:SJ prog 25 1 (.slice none 0 0):=wB (b:=24) (by kernel_rfl) rfl
theorem aK:prog.follows .mixedOrders=true:=by kernel_rfl
theorem aT7(D:Nat)(d d':wU)(w:World):(Op.eqFields (D+2) #[.bool (d.On),.int .i64 (d.aL),.bool (d.gP),.int .i64 (d.Seen)] #[.bool (d'.On),.int .i64 (d'.aL),.bool (d'.gP),.int .i64 (d'.Seen)] (match prog.underlying 206 with|some (.struct fs)=>fs|_=>#[]).toList).run prog w=.ok (decide (d=d')) w:=by
 rw[underlying206];have h:(d.On == d'.On && (d.aL == d'.aL && (d.gP == d'.gP && (d.Seen == d'.Seen && true))))=decide (d=d'):=by cases d;cases d';rw[HM];simp
 rw[<-h];exact gC _ _ _ _ _ rfl (gI isAgg4 rfl) (gI isAgg4 rfl) (aB5 underlying4)<|
  gC _ _ _ _ _ rfl (gI isAgg3 rfl) (gI isAgg3 rfl) (oH underlying3)<|
  gC _ _ _ _ _ rfl (gI isAgg4 rfl) (gI isAgg4 rfl) (aB5 underlying4)<|
  gC _ _ _ _ _ rfl (gI isAgg3 rfl) (gI isAgg3 rfl) (oH underlying3)<|
  SI _ _ _
theorem aXJ(D:Nat)(d d':hU)(w:World):(Op.eqFields (D+2) #[.bool (d.Is),.int .i64 (d.dC)] #[.bool (d'.Is),.int .i64 (d'.dC)] (match prog.underlying 74 with|some (.struct fs)=>fs|_=>#[]).toList).run prog w=.ok (decide (d=d')) w:=by
 rw[underlying74];have h:(d.Is == d'.Is && (d.dC == d'.dC && true))=decide (d=d'):=by cases d;cases d';rw[HM];simp
 rw[<-h];exact gC _ _ _ _ _ rfl (gI isAgg4 rfl) (gI isAgg4 rfl) (aB5 underlying4)<|
  gC _ _ _ _ _ rfl (gI isAgg3 rfl) (gI isAgg3 rfl) (oH underlying3)<|
  SI _ _ _
theorem aXK(D:Nat)(d d':eJ)(w:World):(Op.eqFields (D+2) #[.int .i64 (d.Kind),.int .i64 (d.Key),.int .i64 (d.dC)] #[.int .i64 (d'.Kind),.int .i64 (d'.Key),.int .i64 (d'.dC)] (match prog.underlying 67 with|some (.struct fs)=>fs|_=>#[]).toList).run prog w=.ok (decide (d=d')) w:=by
 rw[underlying67];have h:(d.Kind == d'.Kind && (d.Key == d'.Key && (d.dC == d'.dC && true)))=decide (d=d'):=by cases d;cases d';rw[HM];simp
 rw[<-h];exact gC _ _ _ _ _ rfl (gI isAgg3 rfl) (gI isAgg3 rfl) (oH underlying3)<|
  gC _ _ _ _ _ rfl (gI isAgg3 rfl) (gI isAgg3 rfl) (oH underlying3)<|
  gC _ _ _ _ _ rfl (gI isAgg3 rfl) (gI isAgg3 rfl) (oH underlying3)<|
  SI _ _ _
theorem aT8(D:Nat)(d d':Seen)(w:World):(Op.eqFields (D+2) #[.int .i64 (d.bW),.int .i64 (d.eO)] #[.int .i64 (d'.bW),.int .i64 (d'.eO)] (match prog.underlying 168 with|some (.struct fs)=>fs|_=>#[]).toList).run prog w=.ok (decide (d=d')) w:=by
 rw[underlying168];have h:(d.bW == d'.bW && (d.eO == d'.eO && true))=decide (d=d'):=by cases d;cases d';rw[HM];simp
 rw[<-h];exact gC _ _ _ _ _ rfl (gI isAgg3 rfl) (gI isAgg3 rfl) (oH underlying3)<|
  gC _ _ _ _ _ rfl (gI isAgg3 rfl) (gI isAgg3 rfl) (oH underlying3)<|
  SI _ _ _
theorem aT9(D:Nat)(d d':aU)(w:World):(Op.eqFields (D+2) #[.int .i64 (d.Key),.bool (d.G6),.int .i64 (d.dC)] #[.int .i64 (d'.Key),.bool (d'.G6),.int .i64 (d'.dC)] (match prog.underlying 171 with|some (.struct fs)=>fs|_=>#[]).toList).run prog w=.ok (decide (d=d')) w:=by
 rw[underlying171];have h:(d.Key == d'.Key && (d.G6 == d'.G6 && (d.dC == d'.dC && true)))=decide (d=d'):=by cases d;cases d';rw[HM];simp
 rw[<-h];exact gC _ _ _ _ _ rfl (gI isAgg3 rfl) (gI isAgg3 rfl) (oH underlying3)<|
  gC _ _ _ _ _ rfl (gI isAgg4 rfl) (gI isAgg4 rfl) (aB5 underlying4)<|
  gC _ _ _ _ _ rfl (gI isAgg3 rfl) (gI isAgg3 rfl) (oH underlying3)<|
  SI _ _ _
theorem aUA(D:Nat)(d d':gR)(w:World):(Op.eqFields (D+2) #[.int .i64 (d.Key),.int .i64 (d.dC),.int .i64 (d.Next)] #[.int .i64 (d'.Key),.int .i64 (d'.dC),.int .i64 (d'.Next)] (match prog.underlying 100 with|some (.struct fs)=>fs|_=>#[]).toList).run prog w=.ok (decide (d=d')) w:=by
 rw[underlying100];have h:(d.Key == d'.Key && (d.dC == d'.dC && (d.Next == d'.Next && true)))=decide (d=d'):=by cases d;cases d';rw[HM];simp
 rw[<-h];exact gC _ _ _ _ _ rfl (gI isAgg3 rfl) (gI isAgg3 rfl) (oH underlying3)<|
  gC _ _ _ _ _ rfl (gI isAgg3 rfl) (gI isAgg3 rfl) (oH underlying3)<|
  gC _ _ _ _ _ rfl (gI isAgg3 rfl) (gI isAgg3 rfl) (oH underlying3)<|
  SI _ _ _
theorem aUB(D:Nat)(d d':Sub)(w:World):(Op.eqFields (D+2) #[.int .i64 (d.Kind),.int .i64 (d.A),.int .i64 (d.Pc),.int .i64 (d.E),.int .i64 (d.Row),.int .i64 (d.B),.int .i64 (d.H),.int .i64 (d.Out),.int .i64 (d.Code),.bool (d.gX)] #[.int .i64 (d'.Kind),.int .i64 (d'.A),.int .i64 (d'.Pc),.int .i64 (d'.E),.int .i64 (d'.Row),.int .i64 (d'.B),.int .i64 (d'.H),.int .i64 (d'.Out),.int .i64 (d'.Code),.bool (d'.gX)] (match prog.underlying 118 with|some (.struct fs)=>fs|_=>#[]).toList).run prog w=.ok (decide (d=d')) w:=by
 rw[underlying118];have h:(d.Kind == d'.Kind && (d.A == d'.A && (d.Pc == d'.Pc && (d.E == d'.E && (d.Row == d'.Row && (d.B == d'.B && (d.H == d'.H && (d.Out == d'.Out && (d.Code == d'.Code && (d.gX == d'.gX && true))))))))))=decide (d=d'):=by cases d;cases d';rw[HM];simp
 rw[<-h];exact gC _ _ _ _ _ rfl (gI isAgg3 rfl) (gI isAgg3 rfl) (oH underlying3)<|
  gC _ _ _ _ _ rfl (gI isAgg3 rfl) (gI isAgg3 rfl) (oH underlying3)<|
  gC _ _ _ _ _ rfl (gI isAgg3 rfl) (gI isAgg3 rfl) (oH underlying3)<|
  gC _ _ _ _ _ rfl (gI isAgg3 rfl) (gI isAgg3 rfl) (oH underlying3)<|
  gC _ _ _ _ _ rfl (gI isAgg3 rfl) (gI isAgg3 rfl) (oH underlying3)<|
  gC _ _ _ _ _ rfl (gI isAgg3 rfl) (gI isAgg3 rfl) (oH underlying3)<|
  gC _ _ _ _ _ rfl (gI isAgg3 rfl) (gI isAgg3 rfl) (oH underlying3)<|
  gC _ _ _ _ _ rfl (gI isAgg3 rfl) (gI isAgg3 rfl) (oH underlying3)<|
  gC _ _ _ _ _ rfl (gI isAgg3 rfl) (gI isAgg3 rfl) (oH underlying3)<|
  gC _ _ _ _ _ rfl (gI isAgg4 rfl) (gI isAgg4 rfl) (aB5 underlying4)<|
  SI _ _ _
section
open Go.RowKit Go.Shelf Go.Lib Go.Gv
set_option maxRecDepth 100000
set_option maxHeartbeats 4000000
theorem aUC(b off n c i vb:Nat)(cs vs:List Value)(w:World)(hi:i<n)(hroom:n+1<=c)(hc63:c<=9223372036854775807)(hvb:vb≠b)(hcl:cs.length=n*3)(hvl:vs.length=3)
  (hcs:bA w b off cs) (hsp:∀j,j<c*3->(w.cell? ⟨b,off+j,none⟩).isSome=true) (hfz:∀j,j<c*3->w.frozen? ⟨b,off+j,none⟩=false)
  (hvs:bA w vb 0 vs) (h1c:∀v∈cs,v.oneCell'=true) (h1v:∀v∈vs,v.oneCell'=true)
  (tA tB:TypeId) (kA kB:Nat) (hsa:w.shape? vb=some (tA,kA)) (hsb:w.shape? b=some (tB,kB)) (hkB:kB≠0) (hfa:w.frozen? ⟨vb,0,none⟩=false) (hfe:w.frozen? ⟨vb,kA,none⟩=false) :
  Calls prog 263 #[.slice (some ⟨b,off,none⟩) n c,.int .i64 i,.slice (some ⟨vb,0,none⟩) 1 1] w λe w'=>
   e=.returned (.slice (some ⟨b,off,none⟩) (n+1) c)/\w'=(w.drew.setCells b (off+(i+1)*3) (cs.drop (i*3))).setCells b (off+i*3) vs:=by
 have u0:=run_underlying underlying120;have hz2:¬((i:Int)=(n:Int)):=aa
 have hsz:(prog.info? 171).map (·.size)=some 3:=by kernel_rfl
 have hov:∀lb cb,(callFunc 286 #[.slice (some ⟨vb,0,none⟩) 1 1,.slice (some ⟨b,off+(i+1)*3,none⟩) lb cb]).run prog w=.ok (.value (.bool false)) w:=λlb cb=>by
  rw[run_callFunc_extern func286 (by kernel_rfl) (by kernel_rfl) (by kernel_rfl) (e:=Extern.SlicesOverlaps.overlaps #[120,120] #[4]) (by kernel_rfl),
   Lib.run_overlaps_apart w 120 4 171 underlying120 3 sizeOf171 ⟨vb,0,none⟩ ⟨b,off+(i+1)*3,none⟩ 1 1 lb cb hvb tA tB kA kB hsa hsb hkB hfa hfe]
  rfl
 have hdl:(cs.drop (i*3)).length=(n-i)*3:=by rw[UH,hcl];omega
 have mixed:=aK;have hw1:IntKind.i64.wrap ((i:Int)+1)=(i:Int)+1:=by rw[IntKind.wrap_i64];omega
 have hw2:IntKind.i64.wrap ((n:Int)+1)=(n:Int)+1:=by rw[IntKind.wrap_i64];omega
 have hb1:(0:Int)<=(i:Int)+1:=aa
 have hin:i<=n:=aa
 have htn:((i:Int)+1).toNat=i+1:=aa
 have htm:((n:Int)+1).toNat=n+1:=aa
 have hb2:¬(c=i+1):=aa
 have hb3:(i:Int)<=(n:Int)+1:=aa
 have hb4:¬(c=i):=aa
 have hcp1:∀ty dc sc,(Builtin.copy_ #[120,120] ty #[.slice (some ⟨b,off+(i+1)*3,none⟩) (n-i) dc,.slice (some ⟨b,off+i*3,none⟩) (n+1-i) sc]).run prog w.drew=.ok (goInt (n-i:Nat)) (w.drew.setCells b (off+(i+1)*3) (cs.drop (i*3))):=λty dc sc=>
  wZ w.drew _ _ ty 171 3 b (off+(i+1)*3) (n-i) dc ⟨b,off+i*3,none⟩ (n+1-i) sc (n-i) (cs.drop (i*3)) underlying120 hsz (by simp only[Nat.min_def];split<;>omega) hdl
   (λj v hj=>by rw[Addr.add_lit,EB];exact hcs (i*3+j) v (by rwa [aFX] at hj))
   (λj hj=>by rw[EB];exact hsp _ aa) (λj hj=>by rw[EB];exact hfz _ aa) (λv hv=>h1c v (OH hv))
 obtain⟨W1,hW1⟩:∃W1,W1=w.drew.setCells b (off+(i+1)*3) (cs.drop (i*3)):=⟨_,rfl⟩;have hsp1:∀k,k<c*3->(W1.cell? ⟨b,off+k,none⟩).isSome=true:=λk hk=>by rw[hW1];exact isSome_setCells b _ _ _ (λj hj=>by rw[EB];exact hsp _ aa) _ (hsp k hk)
 have hcp2:∀(W:World),(∀x,W.cell? x=W1.cell? x)->(∀x,W.frozen? x=W1.frozen? x)->∀ty dc,(Builtin.copy_ #[120,120] ty #[.slice (some ⟨b,off+i*3,none⟩) (n+1-i) dc,.slice (some ⟨vb,0,none⟩) 1 1]).run prog W=.ok (goInt 1) (W.setCells b (off+i*3) vs):=λW hWc hWf ty dc=>
  wZ W _ _ ty 171 3 b (off+i*3) (n+1-i) dc ⟨vb,0,none⟩ 1 1 1 vs underlying120 hsz (by simp only[Nat.min_def];split<;>omega) (by rw[hvl])
   (λj v hj=>by
    rw[Addr.add_lit,hWc,hW1,World.cell?_setCells_out b _ _ _ _ (λh _=>absurd h hvb)];exact hvs j v hj)
   (λj hj=>by rw[hWc,EB];exact hsp1 _ aa) (λj hj=>by rw[hWf,hW1,World.frozen?_setCells,EB];exact hfz _ aa) h1v
 rw[<-hW1] at hcp1
 go_enter func263,ntmps263
 go_wp2_with (simp only[hov])
 go_region_law_o (refine step_copy_runI rfl _ _ 120 120 rfl _ _ (by simp[Act.eval,Act.put]) (by simp[Act.eval,Act.put]) (hcp1 _ _ _) ?_)
 go_wp2_with (at_builtin;refine wpList_copy_runI _ rfl _ _ 120 120 rfl _ _ rfl rfl (hcp2 _ (λ_=>rfl) (λ_=>rfl) _ _) ?_)
 go_ret
 first|exact⟨rfl,rfl⟩|exact⟨rfl,by rw[hW1]⟩
end
section
open Go.RowKit Go.Shelf Go.Lib Go.Gv
set_option maxRecDepth 100000
set_option maxHeartbeats 4000000
theorem aXL(b off n c vb:Nat)(vs:List Value)(w:World)(hroom:n+1<=c)(hc63:c<=9223372036854775807)(hvl:vs.length=3)
  (hsp:∀j,j<c*3->(w.cell? ⟨b,off+j,none⟩).isSome=true) (hfz:∀j,j<c*3->w.frozen? ⟨b,off+j,none⟩=false) (hvs:bA w vb 0 vs) (h1v:∀v∈vs,v.oneCell'=true) :
  Calls prog 263 #[.slice (some ⟨b,off,none⟩) n c,.int .i64 n,.slice (some ⟨vb,0,none⟩) 1 1] w λe w'=>
   e=.returned (.slice (some ⟨b,off,none⟩) (n+1) c)/\w'=w.setCells b (off+n*3) vs:=by
 have u0:=run_underlying underlying120;have mixed:=aK;obtain⟨i0,hi0,hz0,hzs,hzb⟩:=yF;have hsrc:Src prog i0.size 120 (.slice (some ⟨vb,0,none⟩) 1 1) 1 vs w:=by rw[hzs];exact Src.ofSlice w underlying120 ⟨vb,0,none⟩ 1 1 vs aa (λj u hj=>by rw[Addr.add_lit];exact hvs j u hj) h1v
 have hrun:=run_append_room_src w 120 120 120 171 i0 underlying120 hi0 b off n c (.slice (some ⟨vb,0,none⟩) 1 1) 1 vs hsrc hroom (by rw[hzs,hvl];exact λj hj=>by rw[EB];exact hsp _ aa) (by rw[hzs,hvl];exact λj hj=>by rw[EB];exact hfz _ aa);rw[hzs] at hrun
 go_enter func263,ntmps263
 go_wp2_with (at_builtin;refine Lib.wpList_append_run _ rfl _ _ _ _ rfl _ _ rfl rfl _ _ hrun ?_)
 go_ret
 exact⟨rfl,rfl⟩
theorem a25(base:Option Addr)(n c vb:Nat)(cs vs:List Value)(w:World)(hnc:n<=c)(hroom:c<n+1)(hbig:n+1<=1073741824)(hcl:cs.length=n*3)(hvl:vs.length=3)(hnil:base=none->n=0)
  (hcs:∀a,base=some a->∀j v,cs[j]?=some v->w.cell? (a.add j)=some v) (hvs:bA w vb 0 vs) (h1v:∀v∈vs,v.oneCell'=true) :
  Calls prog 263 #[.slice base n c,.int .i64 n,.slice (some ⟨vb,0,none⟩) 1 1] w λe w'=>
   e=.returned (.slice (some ⟨w.heap.size,0,none⟩) (n+1) (grownCap w (n+1) c 171)) /\
   w'=w.drew.alloc (.cells ((cs++vs).toArray++Builtin.zeroCells (.agg #[.int .i64 0,.bool false,.int .i64 0]:Value).cells (grownCap w (n+1) c 171-(n+1))) 171):=by
 have u0:=run_underlying underlying120;have mixed:=aK;obtain⟨i0,hi0,hz0,hzs,hzb⟩:=yF;have hsrc:Src prog i0.size 120 (.slice (some ⟨vb,0,none⟩) 1 1) 1 vs w:=by rw[hzs];exact Src.ofSlice w underlying120 ⟨vb,0,none⟩ 1 1 vs aa (λj u hj=>by rw[Addr.add_lit];exact hvs j u hj) h1v
 have hold:(Builtin.firstCells i0.size n (.slice base n c)).run prog w.drew=.ok cs.toArray w.drew:=by
  rw[hzs];cases base with
  |none=>
   have h0:=hnil rfl;subst h0;rw[List.length_eq_zero_iff.1 (by omega:cs.length=0)];exact run_firstCells_none w.drew 3 0 0 c
  |some a=>exact run_firstCells_some w.drew 3 n a n c cs hcl (λj v hj=>hcs a rfl j v hj)
 have hfit:Builtin.nextslicecap (n+1) c*i0.bytes<=281474976710656:=growslice_fits hroom (lO (aB1 hbig hzb) ai);have hrun:=run_append_grow_src w 120 120 120 171 i0 _ underlying120 hi0 hz0 base n c cs hold _ 1 vs hsrc hroom aa hfit
 go_enter func263,ntmps263
 cases base with
 |none=>
  have h0:=hnil rfl;subst h0
  go_wp2_with (at_builtin;refine Lib.wpList_append_run _ rfl _ _ _ _ rfl _ _ rfl rfl _ _ hrun ?_)
  go_ret
  exact⟨rfl,rfl⟩
 |some a=>
  obtain⟨ab,ao,asp⟩:=a
  go_wp2_with (at_builtin;refine Lib.wpList_append_run _ rfl _ _ _ _ rfl _ _ rfl rfl _ _ hrun ?_)
  all_goals (go_ret;exact⟨rfl,rfl⟩)
theorem aXM(b off n c i vb:Nat)(cs vs:List Value)(w:World)(hi:i<n)(hnc:n<=c)(hroom:c<n+1)(hbig:n+1<=1073741824)(hcl:cs.length=n*3)(hvl:vs.length=3)
  (hcs:bA w b off cs) (hvs:bA w vb 0 vs) (h1c:∀v∈cs,v.oneCell'=true) (h1v:∀v∈vs,v.oneCell'=true) :
  Calls prog 263 #[.slice (some ⟨b,off,none⟩) n c,.int .i64 i,.slice (some ⟨vb,0,none⟩) 1 1] w λe w'=>
   e=.returned (.slice (some ⟨w.heap.size,0,none⟩) (n+1) (grownCap w (n+1) c 171)) /\
   w'=(((w.alloc (.cells ((cs.take (i*3)).toArray++Builtin.zeroCells (.agg #[.int .i64 0,.bool false,.int .i64 0]:Value).cells (n+1-i)++Builtin.zeroCells (.agg #[.int .i64 0,.bool false,.int .i64 0]:Value).cells (grownCap w (n+1) c 171-(n+1))) 171)).drew.setCells w.heap.size (i*3) vs).drew).setCells w.heap.size ((i+1)*3) (cs.drop (i*3)):=by
 have u0:=run_underlying underlying120;have u3:=run_underlying underlying3;have mixed:=aK;obtain⟨i0,hi0,hz0,hzs,hzb⟩:=yF;have hz2:¬((i:Int)=(n:Int)):=aa
 have hz3:(c:Int)<(n:Int)+1:=aa
 have hsz:(prog.info? 171).map (·.size)=some 3:=by rw[hi0];simp[hzs]
 have hbw:b<w.heap.size:=block_lt_of_cell (hcs 0 _ (jC aa));have hvw:vb<w.heap.size:=block_lt_of_cell (hvs 0 _ (jC aa));have hkk:(n:Int)+1-(i:Int)=((n+1-i:Nat):Int):=aa
 have hik:i+(n+1-i)=n+1:=aa
 have htl:(cs.take (i*3)).length=i*3:=by rw[ZR];omega
 have hold:(Builtin.firstCells i0.size i (.slice (some ⟨b,off,none⟩) i c)).run prog w.drew=.ok (cs.take (i*3)).toArray w.drew:=by
  rw[hzs];exact run_firstCells_some w.drew 3 i ⟨b,off,none⟩ i c (cs.take (i*3)) htl (λj v hj=>by
   rw[Addr.add_lit];rw[aBZ] at hj;split at hj
   ·exact hcs j v hj
   ·cases hj)
 have hfit:Builtin.nextslicecap (n+1) c*i0.bytes<=281474976710656:=growslice_fits hroom (lO (aB1 hbig hzb) ai);have hrz:∀ty,(Builtin.append_ #[120,3] ty #[.slice (some ⟨b,off,none⟩) i c,.int .i64 ((n:Int)+1-(i:Int))]).run prog w =
   .ok (.slice (some ⟨w.heap.size,0,none⟩) (n+1) (grownCap w (n+1) c 171)) (w.drew.alloc (.cells ((cs.take (i*3)).toArray++Builtin.zeroCells (.agg #[.int .i64 0,.bool false,.int .i64 0]:Value).cells (n+1-i)++Builtin.zeroCells (.agg #[.int .i64 0,.bool false,.int .i64 0]:Value).cells (grownCap w (n+1) c 171-(n+1))) 171)):=λty=>by
  have h:=Lib.run_append_grow_zeros w 120 3 ty 171 i0 _ .i64 .i64 underlying120 underlying3 hi0 hz0 (some ⟨b,off,none⟩) i c (cs.take (i*3)) hold (n+1-i) aa aa aa aa (lO (aB1 (show n+1-i<=1073741824 by omega) hzb) ai) (by rw[hik];exact hfit);rw[hik] at h;rw[hkk];exact h
 obtain⟨G,hG⟩:∃G,G=grownCap w (n+1) c 171:=⟨_,rfl⟩;obtain⟨ROW,hROW⟩:∃ROW:Array Value,ROW=(cs.take (i*3)).toArray++Builtin.zeroCells (.agg #[.int .i64 0,.bool false,.int .i64 0]:Value).cells (n+1-i)++Builtin.zeroCells (.agg #[.int .i64 0,.bool false,.int .i64 0]:Value).cells (G-(n+1)):=⟨_,rfl⟩;rw[<-hG] at hrz ⊢;rw[<-hROW] at hrz ⊢;have hRl:(n+1)*3<=ROW.size:=by rw[hROW];simp only[Array.size_append,aJM,htl,size_zeroCells];have:(.agg #[.int .i64 0,.bool false,.int .i64 0]:Value).cells.size=3:=rfl;rw[this];omega
 obtain⟨W1,hW1⟩:∃W1,W1=w.drew.alloc (.cells ROW 171):=⟨_,rfl⟩;rw[<-hW1] at hrz;have hN:∀j,j<(n+1)*3->(W1.cell? ⟨w.heap.size,j,none⟩).isSome=true:=λj hj=>by rw[hW1,World.cell?_alloc_at (w:=w.drew) ROW _ w.heap.size j rfl,Array.getElem?_eq_getElem aa];rfl
 have hNf:∀j,W1.frozen? ⟨w.heap.size,j,none⟩=false:=λj=>by rw[hW1];exact World.frozen?_alloc_at (w:=w.drew) ROW _ w.heap.size j rfl
 have hOb:∀j v,w.cell? ⟨b,j,none⟩=some v->W1.cell? ⟨b,j,none⟩=some v:=λj v h=>by rw[hW1,World.cell?_alloc_past (w:=w.drew) _ b j hbw];exact h
 have hOv:∀j v,w.cell? ⟨vb,j,none⟩=some v->W1.cell? ⟨vb,j,none⟩=some v:=λj v h=>by rw[hW1,World.cell?_alloc_past (w:=w.drew) _ vb j hvw];exact h
 have hcpA:∀(W:World),(∀x,W.cell? x=W1.cell? x)->(∀x,W.frozen? x=W1.frozen? x)->∀ty dc,(Builtin.copy_ #[120,120] ty #[.slice (some ⟨w.heap.size,i*3,none⟩) (n+1-i) dc,.slice (some ⟨vb,0,none⟩) 1 1]).run prog W=.ok (goInt 1) (W.setCells w.heap.size (i*3) vs):=λW hWc hWf ty dc=>
  wZ W _ _ ty 171 3 w.heap.size (i*3) (n+1-i) dc ⟨vb,0,none⟩ 1 1 1 vs underlying120 hsz (by simp only[Nat.min_def];split<;>omega) (by rw[hvl])
   (λj v hj=>by rw[Addr.add_lit,hWc];exact hOv _ v (hvs j v hj))
   (λj hj=>by rw[hWc];exact hN _ aa) (λj hj=>by rw[hWf];exact hNf _) h1v
 have hGn:n+1<=G:=by rw[hG];exact grownCap_ge w _ _ _
 have hG63:G<=9223372036854775807:=by have:=grownCap_le_maxLen w (n+1) c 171 (by unfold maxLen;omega);rw[<-hG] at this;unfold maxLen at this;omega
 have hGi:¬(G=i):=aa
 have hGim:¬(G=i+1):=aa
 have hci:¬(c=i):=aa
 have hbN:b≠w.heap.size:=aa
 have hdl:(cs.drop (i*3)).length=(n-i)*3:=by rw[UH,hcl];omega
 have hcpB:∀(W:World),(∀x,W.cell? x=(W1.setCells w.heap.size (i*3) vs).cell? x)->(∀x,W.frozen? x=(W1.setCells w.heap.size (i*3) vs).frozen? x)->∀ty dc sc,(Builtin.copy_ #[120,120] ty #[.slice (some ⟨w.heap.size,(i+1)*3,none⟩) (n-i) dc,.slice (some ⟨b,off+i*3,none⟩) (n-i) sc]).run prog W=.ok (goInt (n-i:Nat)) (W.setCells w.heap.size ((i+1)*3) (cs.drop (i*3))):=λW hWc hWf ty dc sc=>
  wZ W _ _ ty 171 3 w.heap.size ((i+1)*3) (n-i) dc ⟨b,off+i*3,none⟩ (n-i) sc (n-i) (cs.drop (i*3)) underlying120 hsz (by simp only[Nat.min_def];split<;>omega) hdl
   (λj v hj=>by
    rw[Addr.add_lit,hWc,World.cell?_setCells_out _ _ _ _ _ (λh _=>absurd h hbN),EB];exact hOb _ v (hcs (i*3+j) v (by rwa [aFX] at hj)))
   (λj hj=>by rw[hWc];exact isSome_setCells _ _ _ _ (λt ht=>hN _ aa) _ (hN _ aa))
   (λj hj=>by rw[hWf,World.frozen?_setCells];exact hNf _) (λv hv=>h1c v (OH hv))
 subst hW1;have hE1:∀x,((w.alloc (.cells ROW 171)).drew).cell? x=(w.drew.alloc (.cells ROW 171)).cell? x:=λx=>rfl;have hE2:∀x,((w.alloc (.cells ROW 171)).drew).frozen? x=(w.drew.alloc (.cells ROW 171)).frozen? x:=λx=>rfl;have hF1:∀x,(((w.alloc (.cells ROW 171)).drew.setCells w.heap.size (i*3) vs).drew).cell? x=((w.drew.alloc (.cells ROW 171)).setCells w.heap.size (i*3) vs).cell? x:=λx=>rfl;have hF2:∀x,(((w.alloc (.cells ROW 171)).drew.setCells w.heap.size (i*3) vs).drew).frozen? x=((w.drew.alloc (.cells ROW 171)).setCells w.heap.size (i*3) vs).frozen? x:=λx=>rfl;have hw1:IntKind.i64.wrap ((i:Int)+1)=(i:Int)+1:=by rw[IntKind.wrap_i64];omega
 have hw2:IntKind.i64.wrap ((n:Int)+1)=(n:Int)+1:=by rw[IntKind.wrap_i64];omega
 have hw3:IntKind.i64.wrap ((n:Int)+1-(i:Int))=(n:Int)+1-(i:Int):=by rw[IntKind.wrap_i64];omega
 have hb1:(0:Int)<=(i:Int)+1:=aa
 have hin:i<=n:=aa
 have htn:((i:Int)+1).toNat=i+1:=aa
 have hb3:(i:Int)<=(n:Int):=aa
 clear hkk hik hold hROW hG hRl htl
 go_enter func263,ntmps263
 go_wp2_with (first
  |(at_builtin;refine Lib.wpList_append_run _ rfl _ _ _ _ rfl _ _ rfl rfl _ _ (hrz _) ?_)
  |(at_builtin;refine wpList_copy_runI _ rfl _ _ 120 120 rfl _ _ rfl rfl (hcpA _ hE1 hE2 _ _) ?_)
  |(at_builtin;refine wpList_copy_runI _ rfl _ _ 120 120 rfl _ _ rfl rfl (hcpB _ (λ_=>rfl) (λ_=>rfl) _ _ _) ?_))
 go_region_law_o (refine step_copy_runI rfl _ _ 120 120 rfl (.slice (some ⟨w.heap.size,(i+1)*3,none⟩) (n-i) (G-(i+1))) (.slice (some ⟨b,off+i*3,none⟩) (n-i) (c-i)) (by simp[Act.eval,Act.put]) (by simp[Act.eval,Act.put]) (hcpB _ hF1 hF2 3 (G-(i+1)) (c-i)) ?_)
 go_wp2
 go_ret
 exact⟨rfl,rfl⟩
end
section
open Go.RowKit Go.Shelf Go.Lib Go.Gv
set_option maxRecDepth 100000
set_option maxHeartbeats 4000000
theorem aXN(b off n c i vb:Nat)(cs vs:List Value)(w:World)(hi:i<n)(hroom:n+1<=c)(hc63:c<=9223372036854775807)(hvb:vb≠b)(hcl:cs.length=n*2)(hvl:vs.length=2)
  (hcs:bA w b off cs) (hsp:∀j,j<c*2->(w.cell? ⟨b,off+j,none⟩).isSome=true) (hfz:∀j,j<c*2->w.frozen? ⟨b,off+j,none⟩=false)
  (hvs:bA w vb 0 vs) (h1c:∀v∈cs,v.oneCell'=true) (h1v:∀v∈vs,v.oneCell'=true)
  (tA tB:TypeId) (kA kB:Nat) (hsa:w.shape? vb=some (tA,kA)) (hsb:w.shape? b=some (tB,kB)) (hkB:kB≠0) (hfa:w.frozen? ⟨vb,0,none⟩=false) (hfe:w.frozen? ⟨vb,kA,none⟩=false) :
  Calls prog 94 #[.slice (some ⟨b,off,none⟩) n c,.int .i64 i,.slice (some ⟨vb,0,none⟩) 1 1] w λe w'=>
   e=.returned (.slice (some ⟨b,off,none⟩) (n+1) c)/\w'=(w.drew.setCells b (off+(i+1)*2) (cs.drop (i*2))).setCells b (off+i*2) vs:=by
 have u0:=run_underlying underlying59;have hz2:¬((i:Int)=(n:Int)):=aa
 have hsz:(prog.info? 90).map (·.size)=some 2:=by kernel_rfl
 have hov:∀lb cb,(callFunc 177 #[.slice (some ⟨vb,0,none⟩) 1 1,.slice (some ⟨b,off+(i+1)*2,none⟩) lb cb]).run prog w=.ok (.value (.bool false)) w:=λlb cb=>by
  rw[run_callFunc_extern func177 (by kernel_rfl) (by kernel_rfl) (by kernel_rfl) (e:=Extern.SlicesOverlaps.overlaps #[59,59] #[4]) (by kernel_rfl),
   Lib.run_overlaps_apart w 59 4 90 underlying59 2 sizeOf90 ⟨vb,0,none⟩ ⟨b,off+(i+1)*2,none⟩ 1 1 lb cb hvb tA tB kA kB hsa hsb hkB hfa hfe]
  rfl
 have hdl:(cs.drop (i*2)).length=(n-i)*2:=by rw[UH,hcl];omega
 have mixed:=aK;have hw1:IntKind.i64.wrap ((i:Int)+1)=(i:Int)+1:=by rw[IntKind.wrap_i64];omega
 have hw2:IntKind.i64.wrap ((n:Int)+1)=(n:Int)+1:=by rw[IntKind.wrap_i64];omega
 have hb1:(0:Int)<=(i:Int)+1:=aa
 have hin:i<=n:=aa
 have htn:((i:Int)+1).toNat=i+1:=aa
 have htm:((n:Int)+1).toNat=n+1:=aa
 have hb2:¬(c=i+1):=aa
 have hb3:(i:Int)<=(n:Int)+1:=aa
 have hb4:¬(c=i):=aa
 have hcp1:∀ty dc sc,(Builtin.copy_ #[59,59] ty #[.slice (some ⟨b,off+(i+1)*2,none⟩) (n-i) dc,.slice (some ⟨b,off+i*2,none⟩) (n+1-i) sc]).run prog w.drew=.ok (goInt (n-i:Nat)) (w.drew.setCells b (off+(i+1)*2) (cs.drop (i*2))):=λty dc sc=>
  wZ w.drew _ _ ty 90 2 b (off+(i+1)*2) (n-i) dc ⟨b,off+i*2,none⟩ (n+1-i) sc (n-i) (cs.drop (i*2)) underlying59 hsz (by simp only[Nat.min_def];split<;>omega) hdl
   (λj v hj=>by rw[Addr.add_lit,EB];exact hcs (i*2+j) v (by rwa [aFX] at hj))
   (λj hj=>by rw[EB];exact hsp _ aa) (λj hj=>by rw[EB];exact hfz _ aa) (λv hv=>h1c v (OH hv))
 obtain⟨W1,hW1⟩:∃W1,W1=w.drew.setCells b (off+(i+1)*2) (cs.drop (i*2)):=⟨_,rfl⟩;have hsp1:∀k,k<c*2->(W1.cell? ⟨b,off+k,none⟩).isSome=true:=λk hk=>by rw[hW1];exact isSome_setCells b _ _ _ (λj hj=>by rw[EB];exact hsp _ aa) _ (hsp k hk)
 have hcp2:∀(W:World),(∀x,W.cell? x=W1.cell? x)->(∀x,W.frozen? x=W1.frozen? x)->∀ty dc,(Builtin.copy_ #[59,59] ty #[.slice (some ⟨b,off+i*2,none⟩) (n+1-i) dc,.slice (some ⟨vb,0,none⟩) 1 1]).run prog W=.ok (goInt 1) (W.setCells b (off+i*2) vs):=λW hWc hWf ty dc=>
  wZ W _ _ ty 90 2 b (off+i*2) (n+1-i) dc ⟨vb,0,none⟩ 1 1 1 vs underlying59 hsz (by simp only[Nat.min_def];split<;>omega) (by rw[hvl])
   (λj v hj=>by
    rw[Addr.add_lit,hWc,hW1,World.cell?_setCells_out b _ _ _ _ (λh _=>absurd h hvb)];exact hvs j v hj)
   (λj hj=>by rw[hWc,EB];exact hsp1 _ aa) (λj hj=>by rw[hWf,hW1,World.frozen?_setCells,EB];exact hfz _ aa) h1v
 rw[<-hW1] at hcp1
 go_enter func94,ntmps94
 go_wp2_with (simp only[hov])
 go_region_law_o (refine step_copy_runI rfl _ _ 59 59 rfl _ _ (by simp[Act.eval,Act.put]) (by simp[Act.eval,Act.put]) (hcp1 _ _ _) ?_)
 go_wp2_with (at_builtin;refine wpList_copy_runI _ rfl _ _ 59 59 rfl _ _ rfl rfl (hcp2 _ (λ_=>rfl) (λ_=>rfl) _ _) ?_)
 go_ret
 first|exact⟨rfl,rfl⟩|exact⟨rfl,by rw[hW1]⟩
end
section
open Go.RowKit Go.Shelf Go.Lib Go.Gv
set_option maxRecDepth 100000
set_option maxHeartbeats 4000000
theorem a26(b off n c vb:Nat)(vs:List Value)(w:World)(hroom:n+1<=c)(hc63:c<=9223372036854775807)(hvl:vs.length=2)
  (hsp:∀j,j<c*2->(w.cell? ⟨b,off+j,none⟩).isSome=true) (hfz:∀j,j<c*2->w.frozen? ⟨b,off+j,none⟩=false) (hvs:bA w vb 0 vs) (h1v:∀v∈vs,v.oneCell'=true) :
  Calls prog 94 #[.slice (some ⟨b,off,none⟩) n c,.int .i64 n,.slice (some ⟨vb,0,none⟩) 1 1] w λe w'=>
   e=.returned (.slice (some ⟨b,off,none⟩) (n+1) c)/\w'=w.setCells b (off+n*2) vs:=by
 have u0:=run_underlying underlying59;have mixed:=aK;obtain⟨i0,hi0,hz0,hzs,hzb⟩:=DD;have hsrc:Src prog i0.size 59 (.slice (some ⟨vb,0,none⟩) 1 1) 1 vs w:=by rw[hzs];exact Src.ofSlice w underlying59 ⟨vb,0,none⟩ 1 1 vs aa (λj u hj=>by rw[Addr.add_lit];exact hvs j u hj) h1v
 have hrun:=run_append_room_src w 59 59 59 90 i0 underlying59 hi0 b off n c (.slice (some ⟨vb,0,none⟩) 1 1) 1 vs hsrc hroom (by rw[hzs,hvl];exact λj hj=>by rw[EB];exact hsp _ aa) (by rw[hzs,hvl];exact λj hj=>by rw[EB];exact hfz _ aa);rw[hzs] at hrun
 go_enter func94,ntmps94
 go_wp2_with (at_builtin;refine Lib.wpList_append_run _ rfl _ _ _ _ rfl _ _ rfl rfl _ _ hrun ?_)
 go_ret
 exact⟨rfl,rfl⟩
theorem a76(base:Option Addr)(n c vb:Nat)(cs vs:List Value)(w:World)(hnc:n<=c)(hroom:c<n+1)(hbig:n+1<=1073741824)(hcl:cs.length=n*2)(hvl:vs.length=2)(hnil:base=none->n=0)
  (hcs:∀a,base=some a->∀j v,cs[j]?=some v->w.cell? (a.add j)=some v) (hvs:bA w vb 0 vs) (h1v:∀v∈vs,v.oneCell'=true) :
  Calls prog 94 #[.slice base n c,.int .i64 n,.slice (some ⟨vb,0,none⟩) 1 1] w λe w'=>
   e=.returned (.slice (some ⟨w.heap.size,0,none⟩) (n+1) (grownCap w (n+1) c 90)) /\
   w'=w.drew.alloc (.cells ((cs++vs).toArray++Builtin.zeroCells (.agg #[.int .i64 0,.int .i64 0]:Value).cells (grownCap w (n+1) c 90-(n+1))) 90):=by
 have u0:=run_underlying underlying59;have mixed:=aK;obtain⟨i0,hi0,hz0,hzs,hzb⟩:=DD;have hsrc:Src prog i0.size 59 (.slice (some ⟨vb,0,none⟩) 1 1) 1 vs w:=by rw[hzs];exact Src.ofSlice w underlying59 ⟨vb,0,none⟩ 1 1 vs aa (λj u hj=>by rw[Addr.add_lit];exact hvs j u hj) h1v
 have hold:(Builtin.firstCells i0.size n (.slice base n c)).run prog w.drew=.ok cs.toArray w.drew:=by
  rw[hzs];cases base with
  |none=>
   have h0:=hnil rfl;subst h0;rw[List.length_eq_zero_iff.1 (by omega:cs.length=0)];exact run_firstCells_none w.drew 2 0 0 c
  |some a=>exact run_firstCells_some w.drew 2 n a n c cs hcl (λj v hj=>hcs a rfl j v hj)
 have hfit:Builtin.nextslicecap (n+1) c*i0.bytes<=281474976710656:=growslice_fits hroom (lO (aB1 hbig hzb) ai);have hrun:=run_append_grow_src w 59 59 59 90 i0 _ underlying59 hi0 hz0 base n c cs hold _ 1 vs hsrc hroom aa hfit
 go_enter func94,ntmps94
 cases base with
 |none=>
  have h0:=hnil rfl;subst h0
  go_wp2_with (at_builtin;refine Lib.wpList_append_run _ rfl _ _ _ _ rfl _ _ rfl rfl _ _ hrun ?_)
  go_ret
  exact⟨rfl,rfl⟩
 |some a=>
  obtain⟨ab,ao,asp⟩:=a
  go_wp2_with (at_builtin;refine Lib.wpList_append_run _ rfl _ _ _ _ rfl _ _ rfl rfl _ _ hrun ?_)
  all_goals (go_ret;exact⟨rfl,rfl⟩)
theorem a27(b off n c i vb:Nat)(cs vs:List Value)(w:World)(hi:i<n)(hnc:n<=c)(hroom:c<n+1)(hbig:n+1<=1073741824)(hcl:cs.length=n*2)(hvl:vs.length=2)
  (hcs:bA w b off cs) (hvs:bA w vb 0 vs) (h1c:∀v∈cs,v.oneCell'=true) (h1v:∀v∈vs,v.oneCell'=true) :
  Calls prog 94 #[.slice (some ⟨b,off,none⟩) n c,.int .i64 i,.slice (some ⟨vb,0,none⟩) 1 1] w λe w'=>
   e=.returned (.slice (some ⟨w.heap.size,0,none⟩) (n+1) (grownCap w (n+1) c 90)) /\
   w'=(((w.alloc (.cells ((cs.take (i*2)).toArray++Builtin.zeroCells (.agg #[.int .i64 0,.int .i64 0]:Value).cells (n+1-i)++Builtin.zeroCells (.agg #[.int .i64 0,.int .i64 0]:Value).cells (grownCap w (n+1) c 90-(n+1))) 90)).drew.setCells w.heap.size (i*2) vs).drew).setCells w.heap.size ((i+1)*2) (cs.drop (i*2)):=by
 have u0:=run_underlying underlying59;have u3:=run_underlying underlying3;have mixed:=aK;obtain⟨i0,hi0,hz0,hzs,hzb⟩:=DD;have hz2:¬((i:Int)=(n:Int)):=aa
 have hz3:(c:Int)<(n:Int)+1:=aa
 have hsz:(prog.info? 90).map (·.size)=some 2:=by rw[hi0];simp[hzs]
 have hbw:b<w.heap.size:=block_lt_of_cell (hcs 0 _ (jC aa));have hvw:vb<w.heap.size:=block_lt_of_cell (hvs 0 _ (jC aa));have hkk:(n:Int)+1-(i:Int)=((n+1-i:Nat):Int):=aa
 have hik:i+(n+1-i)=n+1:=aa
 have htl:(cs.take (i*2)).length=i*2:=by rw[ZR];omega
 have hold:(Builtin.firstCells i0.size i (.slice (some ⟨b,off,none⟩) i c)).run prog w.drew=.ok (cs.take (i*2)).toArray w.drew:=by
  rw[hzs];exact run_firstCells_some w.drew 2 i ⟨b,off,none⟩ i c (cs.take (i*2)) htl (λj v hj=>by
   rw[Addr.add_lit];rw[aBZ] at hj;split at hj
   ·exact hcs j v hj
   ·cases hj)
 have hfit:Builtin.nextslicecap (n+1) c*i0.bytes<=281474976710656:=growslice_fits hroom (lO (aB1 hbig hzb) ai);have hrz:∀ty,(Builtin.append_ #[59,3] ty #[.slice (some ⟨b,off,none⟩) i c,.int .i64 ((n:Int)+1-(i:Int))]).run prog w =
   .ok (.slice (some ⟨w.heap.size,0,none⟩) (n+1) (grownCap w (n+1) c 90)) (w.drew.alloc (.cells ((cs.take (i*2)).toArray++Builtin.zeroCells (.agg #[.int .i64 0,.int .i64 0]:Value).cells (n+1-i)++Builtin.zeroCells (.agg #[.int .i64 0,.int .i64 0]:Value).cells (grownCap w (n+1) c 90-(n+1))) 90)):=λty=>by
  have h:=Lib.run_append_grow_zeros w 59 3 ty 90 i0 _ .i64 .i64 underlying59 underlying3 hi0 hz0 (some ⟨b,off,none⟩) i c (cs.take (i*2)) hold (n+1-i) aa aa aa aa (lO (aB1 (show n+1-i<=1073741824 by omega) hzb) ai) (by rw[hik];exact hfit);rw[hik] at h;rw[hkk];exact h
 obtain⟨G,hG⟩:∃G,G=grownCap w (n+1) c 90:=⟨_,rfl⟩;obtain⟨ROW,hROW⟩:∃ROW:Array Value,ROW=(cs.take (i*2)).toArray++Builtin.zeroCells (.agg #[.int .i64 0,.int .i64 0]:Value).cells (n+1-i)++Builtin.zeroCells (.agg #[.int .i64 0,.int .i64 0]:Value).cells (G-(n+1)):=⟨_,rfl⟩;rw[<-hG] at hrz ⊢;rw[<-hROW] at hrz ⊢;have hRl:(n+1)*2<=ROW.size:=by rw[hROW];simp only[Array.size_append,aJM,htl,size_zeroCells];have:(.agg #[.int .i64 0,.int .i64 0]:Value).cells.size=2:=rfl;rw[this];omega
 obtain⟨W1,hW1⟩:∃W1,W1=w.drew.alloc (.cells ROW 90):=⟨_,rfl⟩;rw[<-hW1] at hrz;have hN:∀j,j<(n+1)*2->(W1.cell? ⟨w.heap.size,j,none⟩).isSome=true:=λj hj=>by rw[hW1,World.cell?_alloc_at (w:=w.drew) ROW _ w.heap.size j rfl,Array.getElem?_eq_getElem aa];rfl
 have hNf:∀j,W1.frozen? ⟨w.heap.size,j,none⟩=false:=λj=>by rw[hW1];exact World.frozen?_alloc_at (w:=w.drew) ROW _ w.heap.size j rfl
 have hOb:∀j v,w.cell? ⟨b,j,none⟩=some v->W1.cell? ⟨b,j,none⟩=some v:=λj v h=>by rw[hW1,World.cell?_alloc_past (w:=w.drew) _ b j hbw];exact h
 have hOv:∀j v,w.cell? ⟨vb,j,none⟩=some v->W1.cell? ⟨vb,j,none⟩=some v:=λj v h=>by rw[hW1,World.cell?_alloc_past (w:=w.drew) _ vb j hvw];exact h
 have hcpA:∀(W:World),(∀x,W.cell? x=W1.cell? x)->(∀x,W.frozen? x=W1.frozen? x)->∀ty dc,(Builtin.copy_ #[59,59] ty #[.slice (some ⟨w.heap.size,i*2,none⟩) (n+1-i) dc,.slice (some ⟨vb,0,none⟩) 1 1]).run prog W=.ok (goInt 1) (W.setCells w.heap.size (i*2) vs):=λW hWc hWf ty dc=>
  wZ W _ _ ty 90 2 w.heap.size (i*2) (n+1-i) dc ⟨vb,0,none⟩ 1 1 1 vs underlying59 hsz (by simp only[Nat.min_def];split<;>omega) (by rw[hvl])
   (λj v hj=>by rw[Addr.add_lit,hWc];exact hOv _ v (hvs j v hj))
   (λj hj=>by rw[hWc];exact hN _ aa) (λj hj=>by rw[hWf];exact hNf _) h1v
 have hGn:n+1<=G:=by rw[hG];exact grownCap_ge w _ _ _
 have hG63:G<=9223372036854775807:=by have:=grownCap_le_maxLen w (n+1) c 90 (by unfold maxLen;omega);rw[<-hG] at this;unfold maxLen at this;omega
 have hGi:¬(G=i):=aa
 have hGim:¬(G=i+1):=aa
 have hci:¬(c=i):=aa
 have hbN:b≠w.heap.size:=aa
 have hdl:(cs.drop (i*2)).length=(n-i)*2:=by rw[UH,hcl];omega
 have hcpB:∀(W:World),(∀x,W.cell? x=(W1.setCells w.heap.size (i*2) vs).cell? x)->(∀x,W.frozen? x=(W1.setCells w.heap.size (i*2) vs).frozen? x)->∀ty dc sc,(Builtin.copy_ #[59,59] ty #[.slice (some ⟨w.heap.size,(i+1)*2,none⟩) (n-i) dc,.slice (some ⟨b,off+i*2,none⟩) (n-i) sc]).run prog W=.ok (goInt (n-i:Nat)) (W.setCells w.heap.size ((i+1)*2) (cs.drop (i*2))):=λW hWc hWf ty dc sc=>
  wZ W _ _ ty 90 2 w.heap.size ((i+1)*2) (n-i) dc ⟨b,off+i*2,none⟩ (n-i) sc (n-i) (cs.drop (i*2)) underlying59 hsz (by simp only[Nat.min_def];split<;>omega) hdl
   (λj v hj=>by
    rw[Addr.add_lit,hWc,World.cell?_setCells_out _ _ _ _ _ (λh _=>absurd h hbN),EB];exact hOb _ v (hcs (i*2+j) v (by rwa [aFX] at hj)))
   (λj hj=>by rw[hWc];exact isSome_setCells _ _ _ _ (λt ht=>hN _ aa) _ (hN _ aa))
   (λj hj=>by rw[hWf,World.frozen?_setCells];exact hNf _) (λv hv=>h1c v (OH hv))
 subst hW1;have hE1:∀x,((w.alloc (.cells ROW 90)).drew).cell? x=(w.drew.alloc (.cells ROW 90)).cell? x:=λx=>rfl;have hE2:∀x,((w.alloc (.cells ROW 90)).drew).frozen? x=(w.drew.alloc (.cells ROW 90)).frozen? x:=λx=>rfl;have hF1:∀x,(((w.alloc (.cells ROW 90)).drew.setCells w.heap.size (i*2) vs).drew).cell? x=((w.drew.alloc (.cells ROW 90)).setCells w.heap.size (i*2) vs).cell? x:=λx=>rfl;have hF2:∀x,(((w.alloc (.cells ROW 90)).drew.setCells w.heap.size (i*2) vs).drew).frozen? x=((w.drew.alloc (.cells ROW 90)).setCells w.heap.size (i*2) vs).frozen? x:=λx=>rfl;have hw1:IntKind.i64.wrap ((i:Int)+1)=(i:Int)+1:=by rw[IntKind.wrap_i64];omega
 have hw2:IntKind.i64.wrap ((n:Int)+1)=(n:Int)+1:=by rw[IntKind.wrap_i64];omega
 have hw3:IntKind.i64.wrap ((n:Int)+1-(i:Int))=(n:Int)+1-(i:Int):=by rw[IntKind.wrap_i64];omega
 have hb1:(0:Int)<=(i:Int)+1:=aa
 have hin:i<=n:=aa
 have htn:((i:Int)+1).toNat=i+1:=aa
 have hb3:(i:Int)<=(n:Int):=aa
 clear hkk hik hold hROW hG hRl htl
 go_enter func94,ntmps94
 go_wp2_with (first
  |(at_builtin;refine Lib.wpList_append_run _ rfl _ _ _ _ rfl _ _ rfl rfl _ _ (hrz _) ?_)
  |(at_builtin;refine wpList_copy_runI _ rfl _ _ 59 59 rfl _ _ rfl rfl (hcpA _ hE1 hE2 _ _) ?_)
  |(at_builtin;refine wpList_copy_runI _ rfl _ _ 59 59 rfl _ _ rfl rfl (hcpB _ (λ_=>rfl) (λ_=>rfl) _ _ _) ?_))
 go_region_law_o (refine step_copy_runI rfl _ _ 59 59 rfl (.slice (some ⟨w.heap.size,(i+1)*2,none⟩) (n-i) (G-(i+1))) (.slice (some ⟨b,off+i*2,none⟩) (n-i) (c-i)) (by simp[Act.eval,Act.put]) (by simp[Act.eval,Act.put]) (hcpB _ hF1 hF2 3 (G-(i+1)) (c-i)) ?_)
 go_wp2
 go_ret
 exact⟨rfl,rfl⟩
end
section
open Go Go.RowKit
attribute [local go_sem] Oper.semAt_some
def bC8(x:Nat×Int):Array Value:=#[.int .i64 (x.1:Int),.int .i64 x.2]
theorem bK3{n l Bs n₀ z cap len:Nat}{a:Option Addr}{ls:List Int}{F:Fence}(hlen:ls.length=len)(h7:F.fn 88)(hro:F.round=none)(hn:1<=n)(hreach:len<=9223372036854775807)(hb:Bs<n₀/\Bs≠z)(J:List (Nat×Int)->World->Prop)
  (hY:∀pre x W,J pre W->(pre.length<len/\ls[len-1-pre.length]?=some x.2)->YieldAt F (n-1) prog l (bC8 x) W λe W'=>e=.returned (.bool true)/\J (pre++[x]) W'/\KX n₀ z W W')
  (W:World) (hBs:W.cell? ⟨Bs,0,none⟩=some (.slice a len cap)) (hc:ls=[]\/∃b off,a=some ⟨b,off,none⟩/\(b<n₀/\b≠z)/\∀j v,ls[j]?=some v->W.cell? ⟨b,off+j,none⟩=some (.int .i64 v)) (h0:J [] W) :
  CallsIn F n prog 88 #[.func (.yield l) #[] #[],.pointer (some ⟨Bs,0,none⟩)] W λe W'=>(∃v,e=.returned v)/\∃xs,xs.length=len/\J xs W':=by
 have kx:∀{A B:World} {b o:Nat},KX n₀ z A B->b<n₀/\b≠z->B.cell? ⟨b,o,none⟩=A.cell? ⟨b,o,none⟩:=λh hb=>World.cell?_of_block (h.G4 _ hb.1 hb.2);refine callsIn_of_wp func88 rfl h7 ?_ hro;simp only[ntmps88,aJM,HA,List.length_nil,Nat.reduceAdd,Nat.reduceSub,Array.replicate_succ,Array.replicate_zero,List.push_toArray,List.append_toArray,V5,DM]
 gi_wp2
 gi_loopw [3] (λi wr=>∃pre,pre.length<=len/\i=.int .i64 ((len:Int)-1-pre.length)/\J pre wr/\KX n₀ z W wr)
  (λi _=>(intOf i+1).toNat)
 case atStart=>exact⟨[],jD _,ae,h0,KX.refl _ _ _⟩
 case round=>
  obtain⟨pre,hk,rfl,hJs,hnx⟩:=hrel;have hBs':=(kx (o:=0) hnx hb).trans hBs;by_cases hlt:pre.length<len
  ·obtain⟨b,off,rfl,hbn,hc⟩:=hc.resolve_left (by rintro rfl;simp at hlen;omega);have hi:len-1-pre.length<ls.length:=aa
   obtain⟨fn,tmps,assign,body,hy,hR⟩:=hY _ (len-1-pre.length,ls[len-1-pre.length]) wr hJs ⟨hlt,jC hi⟩;have c0:=(kx (o:=off+(len-1-pre.length)) hnx hbn).trans (hc (len-1-pre.length) _ (jC hi));have e1:((len-1-pre.length:Nat):Int)=(len:Int)-1-pre.length:=aa
   simp only[bC8] at hy;rw[e1] at hy;generalize hp:pre.length=k at *
   gi_wp2
   refine hR.mono ?_;rintro e W3 ⟨rfl,hJ3,hk3⟩
   gi_wp2
   go_roundw
   case rel=>exact⟨_,ah,ah,hJ3,hnx.trans hk3⟩
   case measure=>simp[intOf];omega
  ·generalize hp:pre.length=k at *;obtain rfl:k=len:=aa
   gi_wp2
   go_end0
   exact⟨⟨_,rfl⟩,_,hp,hJs⟩
theorem bK4{F:Fence}(n:Nat)(h5:F.fn 40)(hro:F.round=none)(a:Option Addr)(len cap:Nat)(w:World) :
  CallsIn F n prog 40 #[.slice a len cap] w λe w'=>e=.returned (.func (.func 88) #[] #[.pointer (some ⟨w.heap.size,0,none⟩)])/\w'=w.alloc (.cells #[.slice a len cap] 25):=by
 refine callsIn_of_wp func40 rfl h5 ?_ hro;simp only[ntmps40,aJM,HA,List.length_nil,Nat.reduceAdd,Nat.reduceSub,Array.replicate_succ,Array.replicate_zero,List.push_toArray,List.append_toArray,V5,DM]
 gi_wp2
 go_ret
 exact⟨rfl,rfl⟩
theorem aKT{t:Table}{l:List Int}:∀{ls:List (List Int)} {m:List KV},tmL t (ls++[l]) m=(tmL t ls m).bind (tmB t l)
 |[],m=>by simp[tmL]
 |a::ls,m=>by simp only[DM,tmL,Option.bind_assoc];congr 1;funext m';exact aKT
theorem a0V{t:Table}{b:List Int}{m r:List KV}:∀{a:List Int},tmB t (a++b) m=some r->∃q,tmB t b m=some q
 |[],h=>⟨r,h⟩
 |x::a,h=>by
  simp only[DM,tmB] at h;cases e:tmB t (a++b) m with
  |none=>rw[e] at h;cases h
  |some q=>exact a0V e
theorem a0W{t:Table}:∀{a b:List (List Int)} {m r:List KV},tmL t (a++b) m=some r->∃q,tmL t a m=some q
 |[],b,m,r,h=>⟨m,rfl⟩
 |x::a,b,m,r,h=>by
  simp only[DM,tmL] at h ⊢;cases e:tmB t x m with
  |none=>rw[e] at h;cases h
  |some q=>rw[e] at h;exact a0W h
structure WF (w:World) (z:Nat) (A:Array Value) (y:AC) (L:List (List Int)) (m:List KV) (W:World):Prop where
 below:Below w.heap.size w W
 b1:W.heap[w.heap.size]?=some (.cells A 47 (0,0))
 b3:∃v,W.heap[z]?=some (.cells #[v] 59 (0,0))/\(∃yv:AC,v=yv.v m.length)/\OwZ w.heap.size z W v m
 ls:RdZ z W [y.v L.length] L
theorem WF.kept{w W W':World}{z:Nat}{A:Array Value}{y:AC}{L:List (List Int)}{m:List KV}(h:WF w z A y L m W)(hb:Below w.heap.size w W')(hz:w.heap.size≠z)(hk:CK z W W')(h3:W'.heap[z]?=W.heap[z]?):WF w z A y L m W':=by obtain⟨v,e1,e2,e3⟩:=h.b3;exact⟨hb,(hk _ _ _ _ hz h.b1).trans h.b1,⟨v,h3.trans e1,e2,e3.kept hk⟩,h.ls.kept hk⟩
theorem bC9{w:World}{t:Table}{v0 v1 v2 v3 v4 v5 v6 v7 v8 v9 v10 v11 v12:Value}{L:List (List Int)}{ok:Bool}{r:List KV}(hr:tmL t L []=some r)
  (hch:∀W,Below w.heap.size w W->CallsIn Fence.wide 7 prog 39 #[.agg #[v0,v1,v2,v3,v4,v5,v6,v7,v8,v9,v10,v11,v12]] W λe W'=>∃y:AC,e=.returned (.tuple #[y.v L.length,.bool ok])/\Below W.heap.size W W'/\∀z,z<W.heap.size->RdZ z W' [y.v L.length] L)
  (hnd:∀n W h nd,Below w.heap.size w W->pO t.aA.Mem.Heap (Int.tmod h 32)=some nd->CallsIn Fence.wide n prog 41 #[.agg #[v0,v1],.int .i64 (Int.tmod h 32)] W λe W'=>e=.returned (.agg #[.int .i64 nd.Key,.int .i64 nd.dC,.int .i64 nd.Next])/\Below W.heap.size W W')
  (hmp:∀n W z v (m:List KV) k x q,w.heap.size<=W.heap.size->z<W.heap.size->(∃yv:AC,v=yv.v m.length)->RdZ z W [v] m->DX m k x=some q->CallsIn Fence.wide n prog 42 #[v,.int .i64 k,.int .i64 x] W λe W'=>∃y:AC,e=.returned (y.v q.length)/\Below W.heap.size W W'/\OwZ w.heap.size z W' (y.v q.length) q) :
  CallsIn Fence.wide 8 prog 18 #[.agg #[v0,v1,v2,v3,v4,v5,v6,v7,v8,v9,v10,v11,v12]] w λe W'=>∃y:AC,e=.returned (y.v r.length)/\Below w.heap.size w W'/\OwZ w.heap.size (w.heap.size+2) W' (y.v r.length) r:=by
 refine callsIn_of_wp_marks func18 rfl trivial ?_ rfl;simp only[ntmps18,aJM,HA,List.length_nil,Nat.reduceAdd,Nat.reduceSub,Array.replicate_succ,Array.replicate_zero,List.push_toArray,List.append_toArray,V5,DM]
 gi_wp2
 refine⟨trivial,(hch _ ?_).mono ?_⟩
 ·exact(((Below.refl _ w).alloc (iZ _) _).alloc ae _).alloc ah _
 ·rintro e W0 ⟨y,rfl,hb0,hL0⟩;simp only[]
  go_at_K
  gi_wp2
  have hb1:Below w.heap.size w W0:=((((Below.refl _ w).alloc (iZ _) _).alloc ae _).alloc ah _).trans (hb0.mono ah);refine wpIn_loop (λa' W'=>∃(k:Nat) (u7 u20 u21 u22 u23 u24 u40:Value) (ds:List Deferred) (m:List KV),k<=L.length/\tmL t (L.take k) []=some m/\WF w (w.heap.size+2) #[v0,v1,v2,v3,v4,v5,v6,v7,v8,v9,v10,v11,v12] y L m W'/\(Mks ds W'/\∀D,mkD D∈ds->w.heap.size+2<D)/\a'=⟨#[.agg #[v0,v1,v2,v3,v4,v5,v6,v7,v8,v9,v10,v11,v12],.pointer (some ⟨w.heap.size,0,none⟩),.slice none 0 0,.pointer (some ⟨w.heap.size+1+1,0,none⟩),y.v L.length,.bool ok,undef,u7,undef,undef,undef,.slice (some ⟨w.heap.size+1,0,none⟩) 0 0,.tuple #[y.v L.length,.bool ok],.agg #[v0,v1,v2,v3,v4,v5,v6,v7,v8,v9,v10,v11,v12],.tuple #[y.v L.length,.bool ok],y.v L.length,.bool ok,y.v L.length,.int .i64 L.length,.int .i64 k,u20,u21,u22,u23,u24,undef,undef,undef,undef,undef,undef,undef,undef,undef,undef,undef,undef,undef,undef,undef,u40,undef],ds⟩) (λa' _=>L.length-(intOf (a'.tmps.getD 19 undef)).toNat) ?_ ?_
  ·refine⟨0,_,_,_,_,_,_,_,[],[],jD _,rfl,⟨hb1,?_,⟨_,?_,⟨⟨some ⟨w.heap.size+1,0,none⟩,0⟩,rfl⟩,bC0 _ _⟩,hL0 _ ae⟩,⟨trivial,λD h=>by cases h⟩,rfl⟩
   ·exact(hb0.block _ ah).trans (((Below.heap_alloc _ _ _ ah).trans (Below.heap_alloc _ _ _ ae)).trans (World.alloc_heap_new w _))
   ·have b2:=λo o' o''=>World.alloc_heap_new ((w.alloc o).alloc o') o'';simp only[World.size_alloc] at b2;exact(hb0.block _ ae).trans (b2 _ _ _)
  ·rintro a' W ⟨k,u7,u20,u21,u22,u23,u24,u40,ds,m,hk,hm,hw,⟨hd1,hd2⟩,rfl⟩;by_cases hlt:k<L.length
   ·obtain⟨ya,yc,ye,q1,q2,q3⟩:=(show qV _ _ _ _ from hw.ls);obtain⟨yb,yo,rfl,q4⟩:=q3.resolve_left (by rintro rfl;simp at hlt);obtain⟨ec,g1,g2,g3⟩:=q4 k hlt;obtain⟨la,lc,rfl,p1,p2,p3⟩:=(show qV _ _ _ _ from g3);injection ye with ye
    rw[ye];have hc0:W.cell? ⟨yb,yo+k,none⟩=some (.slice la L[k].length lc):=by simpa[show aN.n (List Int)=1 from rfl] using g1 0 _ rfl
    have hin:L[k]=[]\/∃b off,la=some ⟨b,off,none⟩/\(b<W.heap.size/\b≠w.heap.size+2)/\∀j v,L[k][j]?=some v->W.cell? ⟨b,off+j,none⟩=some (.int .i64 v):=by
     refine Decidable.or_iff_not_imp_left.2 λhne=>?_;obtain⟨b,off,e,h⟩:=p3.resolve_left hne;have key:∀j v,L[k][j]?=some v->b≠w.heap.size+2/\W.cell? ⟨b,off+j,none⟩=some (.int .i64 v):=λj v hj=>by obtain⟨hlt,rfl⟩:=AR.1 hj;obtain⟨ec,c1,c2,c3⟩:=h j hlt;have c3:ec=[.int .i64 L[k][j]]:=c3;subst c3;simp only[show aN.n Int=1 from rfl,Nat.mul_one] at c1 c2;exact⟨(c2 (off+j) ⟨rfl,aa,ae⟩).1,by simpa using c1 0 _ rfl⟩
     have h0:=key 0 _ (jC (List.length_pos_iff.2 hne));exact⟨b,off,e,⟨World.block_lt_of_cell? W _ h0.2,h0.1⟩,λj v hj=>(key j v hj).2⟩
    have hsuc:∃m',tmB t L[k] m=some m'/\tmL t (L.take (k+1)) []=some m':=by obtain⟨q,hq⟩:=a0W (a:=L.take (k+1)) (b:=L.drop (k+1)) (by rw[ZV];exact hr);rw[EA hlt,aKT,hm] at hq;exact⟨q,hq,by rw[EA hlt,aKT,hm];exact hq⟩
    obtain⟨m',hm1,hm2⟩:=hsuc;have hLl:L.length<=9223372036854775807:=by have:=q1;simp only[maxLen] at q2;omega
    have hlen:L[k].length<=9223372036854775807:=by have:=p1;have:=p2;simp only[maxLen] at p2;omega
    clear g1 g2 g3 p1 p2 p3 q3 q4;generalize L[k]=ls at *
    gi_wp2
    refine⟨trivial,(bK4 (F:=Fence.wide) 7 trivial rfl _ _ _ _).mono ?_⟩;rintro e W1 ⟨rfl,rfl⟩;simp only[]
    go_at_K
    gi_wp2
    have hdB:∀D,mkD D∈ds->D<W.heap.size:=λD hD=>(aGL.1 (hd1.at D hD)).1;have hzW:w.heap.size+2<W.heap.size:=(let ⟨_,h,_⟩:=hw.b3;(aGL.1 h).1);refine a7R (F:=Fence.wide) rfl ai (gf:=88) (lb:=#[.pointer (some ⟨W.heap.size,0,none⟩)]) (n₀:=W.heap.size+1) (z:=w.heap.size+2) (encs:=bC8) (S:=λxs=>xs.length=ls.length) (R:=λpre x=>pre.length<ls.length/\ls[ls.length-1-pre.length]?=some x.2) (w0:=W.alloc (.cells #[.slice la ls.length lc] 25)) rfl trivial call88 ?hseq ae (Below.refl _ _) (λ_=>rfl)
     (λpre W'=>∃m',tmB t (ls.drop (ls.length-pre.length)) m=some m'/\WF w (w.heap.size+2) #[v0,v1,v2,v3,v4,v5,v6,v7,v8,v9,v10,v11,v12] y L m' W'/\Mks ds W') ?hI ?h0 (λx=>⟨#[.agg #[v0,v1,v2,v3,v4,v5,v6,v7,v8,v9,v10,v11,v12],.pointer (some ⟨w.heap.size,0,none⟩),.slice none 0 0,.pointer (some ⟨w.heap.size+1+1,0,none⟩),.slice (some ⟨yb,yo,none⟩) L.length yc,.bool ok,undef,.slice la ls.length lc,undef,.int .i64 x.2,undef,.slice (some ⟨w.heap.size+1,0,none⟩) 0 0,.tuple #[.slice (some ⟨yb,yo,none⟩) L.length yc,.bool ok],.agg #[v0,v1,v2,v3,v4,v5,v6,v7,v8,v9,v10,v11,v12],.tuple #[.slice (some ⟨yb,yo,none⟩) L.length yc,.bool ok],.slice (some ⟨yb,yo,none⟩) L.length yc,.bool ok,.slice (some ⟨yb,yo,none⟩) L.length yc,.int .i64 L.length,.int .i64 k,.bool true,.pointer (some ⟨yb,yo+k,none⟩),.slice la ls.length lc,.slice la ls.length lc,.func (.func 88) #[] #[.pointer (some ⟨W.heap.size,0,none⟩)],.int .i64 (x.1:Int),.int .i64 x.2,undef,undef,undef,undef,undef,undef,undef,undef,undef,undef,undef,undef,undef,u40,undef],[]⟩) ?hassign ?hbody ?hdone
    case hassign=>
     rintro l x W'
     gi_wp2
     exact⟨by simp[bC8],trivial⟩
    case hbody=>
     rintro l pre x W' hs ⟨hp1,hp2⟩ ⟨m1,e1,e2,e3⟩;obtain⟨_,f1,⟨yv,rfl⟩,f3⟩:=e2.b3;have hnx:∃nd q,pO t.aA.Mem.Heap (Int.tmod x.2 32)=some nd/\DX m1 nd.Key nd.dC=some q/\tmB t (ls.drop (ls.length-(pre++[x]).length)) m=some q:=by
      obtain⟨hi,hx⟩:=AR.1 hp2;have hdr:ls.drop (ls.length-(pre++[x]).length)=x.2::ls.drop (ls.length-pre.length):=by rw[show ls.length-(pre++[x]).length=ls.length-1-pre.length by simp;omega,uI hi,hx];congr 2;omega
      obtain⟨q,hq⟩:=a0V (a:=ls.take (ls.length-(pre++[x]).length)) (by rw[ZV];exact hm1);have hq':=hq;rw[hdr] at hq';simp only[tmB,e1,aM] at hq';cases en:pO t.aA.Mem.Heap (Int.tmod x.2 32) with
      |none=>rw[en] at hq';cases hq'
      |some nd=>rw[en] at hq';exact⟨nd,q,rfl,hq',hq⟩
     obtain⟨nd,q,d1,d2,d3⟩:=hnx;have hx0:W'.cell? ⟨w.heap.size,0,none⟩=some (v0):=by simp[World.cell?,e2.b1]
     have hx1:W'.cell? ⟨w.heap.size,1,none⟩=some (v1):=by simp[World.cell?,e2.b1]
     gi_wp2
     refine⟨trivial,(show CallsIn (Fence.wide.inRound l) 5 _ _ _ _ _ from hnd 5 W' x.2 nd e2.below d1).mono ?_⟩;rintro e W1 ⟨rfl,hb1⟩;simp only[]
     go_at_K
     have hzl:w.heap.size+2<W'.heap.size:=(aGL.1 f1).1;have hB12:Below W'.heap.size W' (W1.alloc (.cells #[.int .i64 nd.Key,.int .i64 nd.dC,.int .i64 nd.Next] 100)):=hb1.trans (((Below.refl _ W1).alloc (iZ _) _).mono hb1.size);have c2:(W1.alloc (.cells #[.int .i64 nd.Key,.int .i64 nd.dC,.int .i64 nd.Next] 100)).heap[W1.heap.size]?=some (.cells #[.int .i64 nd.Key,.int .i64 nd.dC,.int .i64 nd.Next] 100):=World.alloc_heap_new W1 _;have c20:(W1.alloc (.cells #[.int .i64 nd.Key,.int .i64 nd.dC,.int .i64 nd.Next] 100)).cell? ⟨W1.heap.size,0,none⟩=some (.int .i64 nd.Key):=by simp only[World.cell?,c2];rfl
     have c21:(W1.alloc (.cells #[.int .i64 nd.Key,.int .i64 nd.dC,.int .i64 nd.Next] 100)).cell? ⟨W1.heap.size,1,none⟩=some (.int .i64 nd.dC):=by simp only[World.cell?,c2];rfl
     have c2z:(W1.alloc (.cells #[.int .i64 nd.Key,.int .i64 nd.dC,.int .i64 nd.Next] 100)).heap[w.heap.size+1+1]?=some (.cells #[yv.v m1.length] 59 (0,0)):=(hB12.block _ hzl).trans f1;have c23:(W1.alloc (.cells #[.int .i64 nd.Key,.int .i64 nd.dC,.int .i64 nd.Next] 100)).cell? ⟨w.heap.size+1+1,0,none⟩=some (yv.v m1.length):=by simp only[World.cell?,c2z];rfl
     gi_wp2
     refine⟨trivial,(show CallsIn (Fence.wide.inRound l) 5 _ _ _ _ _ from hmp 5 (W1.alloc (.cells #[.int .i64 nd.Key,.int .i64 nd.dC,.int .i64 nd.Next] 100)) (w.heap.size+2) _ m1 nd.Key nd.dC q (lO e2.below.size hB12.size) (HB hzl hB12.size) ⟨yv,rfl⟩ (f3.kept (CK.below hB12)).rdZ d2).mono ?_⟩;rintro e W3 ⟨y3,rfl,hb3,hr3⟩;simp only[]
     go_at_K
     have hB23:Below W'.heap.size W' W3:=hB12.trans (hb3.mono hB12.size);have c3z:W3.heap[w.heap.size+1+1]?=some (.cells #[yv.v m1.length] 59 (0,0)):=(hB23.block _ hzl).trans f1;have c30:W3.cell? ⟨w.heap.size+1+1,0,none⟩=some (yv.v m1.length):=by simp[World.cell?,c3z]
     have c31:W3.frozen? ⟨w.heap.size+1+1,0,none⟩=false:=by simp[World.frozen?,c3z]
     gi_wp2
     rw[aTT c3z];have hW4:∃W4,W4=W3.putObj (w.heap.size+1+1) (.cells (#[yv.v m1.length].setIfInBounds 0 (.slice y3.a q.length y3.c)) 59 (0,0)):=⟨_,rfl⟩;obtain⟨W4,hW4⟩:=hW4;rw[<-hW4];have o4:∀b,b≠w.heap.size+2->W4.heap[b]?=W3.heap[b]?:=λb hb=>by rw[hW4];exact World.putObj_heap_other hb
     have z4:W4.heap[w.heap.size+2]?=some (.cells #[y3.v q.length] 59 (0,0)):=by rw[hW4];exact World.putObj_heap_same (HB hzl hB23.size)
     have s4':W4.heap.size=W3.heap.size:=by rw[hW4];simp[World.putObj]
     have k4:CK (w.heap.size+2) W3 W4:=λb _ _ _ hb _=>o4 b hb;simp only[World.size_alloc] at hs;refine⟨⟨by rw[s4'];exact hB23.size,λk o hk ho hoc=>?_⟩,⟨by rw[s4'];exact hB23.size,λk hk hz=>(o4 k hz).trans (hB23.block k aa)⟩,q,d3,⟨⟨?_,?_,?_,?_,λk hk=>?_⟩,(o4 _ aa).trans ((hB23.block _ (by have:=e2.below.size;omega)).trans e2.b1),⟨_,z4,⟨y3,rfl⟩,hr3.kept k4⟩,e2.ls.kept ((CK.below hB23).trans k4)⟩,e3.kept λD hD _=>(o4 D (by have:=hd2 D hD;omega)).trans (hB23.block D (by have:=hdB D hD;omega))⟩
     ·simp only[World.size_alloc] at hk;exact(o4 k aa).trans ((hB23.block k (aGL.1 ho).1).trans ho)
     ·rw[hW4];exact hB23.os.trans e2.below.os
     ·rw[hW4];exact hB23.tape.trans e2.below.tape
     ·rw[hW4];exact hB23.output.trans e2.below.output
     ·rw[s4'];exact lO e2.below.size hB23.size
     ·exact(o4 k aa).trans ((hB23.block k (by have:=e2.below.size;omega)).trans (e2.below.block k hk))
    case hI=>
     rintro pre X Y row ⟨m1,e1,e2,e3⟩ hg hr;simp only[World.size_alloc] at hr;have hrow:∀j,row=some j->W.heap.size<j:=λj e=>by have:=(hr j e).1;omega
     have nc:∀b t c f,X.heap[b]?=some (Obj.cells c t f)->Y.heap[b]?=X.heap[b]?:=λb t c f hb=>hg.block b (aGL.1 hb).1 λe=>by obtain⟨_,o,ho,hoc⟩:=hr b e.symm;rw[hb] at ho;cases ho;cases hoc
     refine⟨m1,e1,e2.kept (e2.below.grown hg e2.below.size λj e=>by have:=hrow j e;omega) aa (λb t c f _ hb=>nc b t c f hb) (let ⟨_,h,_⟩:=e2.b3;nc _ _ _ _ h),e3.kept λD hD h=>hg.block D (aGL.1 h).1 λe=>by have:=hrow D e.symm;have:=hdB D hD;omega⟩
    case h0=>
     have ba:Below W.heap.size W (W.alloc (.cells #[.slice la ls.length lc] 25)):=(Below.refl _ W).alloc (iZ _) _;exact⟨m,by simp[tmB],hw.kept (hw.below.trans (ba.mono hw.below.size)) aa (CK.below ba) (ba.block _ hzW),hd1.kept λD hD _=>ba.block D (hdB D hD)⟩
    case hseq=>
     intro l J W' hb _ hY hJ;have hb':Below W.heap.size W W':=((Below.refl _ W).alloc (iZ _) _).trans (hb.mono ae);refine bK3 (F:=Fence.wide) (n:=7) (l:=l) (Bs:=W.heap.size) (n₀:=W.heap.size+1) (z:=w.heap.size+2) (ls:=ls) (a:=la) (cap:=lc) rfl trivial rfl ai ?_ ⟨aa,aa⟩ J (λpre x W1 h1 h2=>hY pre x W1 h1 h2) W' ?_ ?_ hJ
     ·have:=hlen;omega
     ·exact(World.cell?_of_block (hb.block W.heap.size ae)).trans (by simp only[World.cell?,World.alloc_heap_new];rfl)
     ·exact hin.imp id λ⟨b,off,e,hbz,hc⟩=>⟨b,off,e,⟨aa,hbz.2⟩,λj v hj=>(World.cell?_of_block (hb'.block b hbz.1)).trans (hc j v hj)⟩
    case hdone=>
     rintro D xs W' hD hxs ⟨m1,e1,e2,e3⟩ hK;rw[hxs,Nat.sub_self,UG,hm1] at e1;cases e1
     gi_wp2
     simp only[World.size_alloc] at hD;refine⟨⟨k+1,_,_,_,_,_,_,_,mkD D::ds,m',hlt,hm2,e2,⟨⟨D,rfl,hK,λE hE=>by have:=hdB E hE;omega,e3⟩,λE hE=>?_⟩,rfl⟩,?_⟩
     ·rcases iX.1 hE with e|e
      ·simp only[mkD,Deferred.mk.injEq,Target.collected.injEq] at e;omega
      ·exact hd2 E e
     ·simp[intOf];omega
   ·obtain rfl:k=L.length:=aa
    rw[List.take_length,hr] at hm;cases hm;obtain⟨_,f1,⟨yv,rfl⟩,f3⟩:=hw.b3;have c0:W.cell? ⟨w.heap.size+1+1,0,none⟩=some (yv.v r.length):=by simp only[World.cell?,f1];rfl
    gi_wp2
    refine hd1.leave λW' h2 h3 ⟨o1,o2,o3⟩=>⟨yv.v r.length,?_,yv,rfl,⟨o1.trans hw.below.os,o2.trans hw.below.tape,o3.trans hw.below.output,by rw[h3];exact hw.below.size,λk hk=>(h2 k λD hD=>by have:=hd2 D hD;omega).trans (hw.below.block k hk)⟩,f3.kept λb t' c f hz hb=>h2 b λD hD e=>?_⟩
    ·simp[results,f18,go_sem]
    ·have:=hd1.at D hD;rw[<-e,hb] at this;cases this
end
end Go.Proofs.YtkinioiglogchaaGreat
end
