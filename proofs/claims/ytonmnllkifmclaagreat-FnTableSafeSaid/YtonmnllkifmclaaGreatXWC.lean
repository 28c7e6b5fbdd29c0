import Derived.Test.YtonmnllkifmclaaGreatXWB
import Derived.Test.YtonmnllkifmclaaGreatProg
set_option linter.unusedVariables false
noncomputable section
namespace Go.Gv
section
def aP0(code:List UInt8):Option Bool:=
 some (decide (1048576<(code.length:Int)))
def aTK(x5:Int):Option (Int×Int):=
 some (0,x5)
def LG(code:List UInt8)(x3 x4:Int)(x6:Bool):Option (Step (Int×Int) Int):=
 (if x6 then(idx code x4).bind λx7=>some (.next (iO .and .i64 (aY ((aY ((aY (x3*131))+(x7.toNat:Int)))+7)) 1073741823,aY (x4+1))) else some (.stop (x3)))
def aET(code:List UInt8):(Int×Int)->Option (Step (Int×Int) Int)
 |(x3,x4)=>(if decide (x4<(code.length:Int)) then LG code x3 x4 (decide (x4<4000)) else LG code x3 x4 false)
def aTL:Int->Option (Int×Int)
 |x5=>aTK x5
def XL(code:List UInt8):Option (Int×Int):=
 (loop (aET code) (aY (10101+(code.length:Int)),0)).bind (aTL)
def G7(c:dP)(x1 x2:Int):Option (Int×(Int×Int)):=
 some (x1,(x2,aY ((aY (c.h*6364136223846793005))+1442695040888963407)))
def uP(c:dP):Option (Int×(Int×Int)):=
 (if decide (c.i<(c.b.length:Int)) then(idx c.b c.i).bind λx3=>G7 c (iO .and .i64 (aY ((iO .and .i64 (iO .xor .i64 (qL .i64 (aY ((aY (c.h*6364136223846793005))+1442695040888963407)) 33) (qL .i64 (aY ((aY (c.h*6364136223846793005))+1442695040888963407)) 45)) 255)+(x3.toNat:Int))) 255) (aY (c.i+1)) else G7 c (iO .and .i64 (iO .xor .i64 (qL .i64 (aY ((aY (c.h*6364136223846793005))+1442695040888963407)) 33) (qL .i64 (aY ((aY (c.h*6364136223846793005))+1442695040888963407)) 45)) 255) c.i)
def gO(c:dP)(n:Int):Option (Int×(Int×Int)):=
 (if decide (n<=0) then some (0,(c.i,c.h)) else(if decide (n<=256) then(uP c).bind λx1=>need (n≠0) (some (Int.tmod x1.1 n,(x1.2.1,x1.2.2))) else(uP c).bind λx2=>(uP (⟨c.b,x2.2.1,x2.2.2⟩:dP)).bind λx3=>(uP (⟨c.b,x3.2.1,x3.2.2⟩:dP)).bind λx4=>(uP (⟨c.b,x4.2.1,x4.2.2⟩:dP)).bind λx5=>need (n≠0) (some (Int.tmod (aY ((aY ((aY ((aY (x2.1*16777216))+(aY (x3.1*65536))))+(aY (x4.1*256))))+x5.1)) n,(x5.2.1,x5.2.2)))))
def aA1(c:dP)(n:Int):Option (Bool×(Int×Int)):=
 (gO c n).bind λx1=>some (x1.1 == 0,(x1.2.1,x1.2.2))
def oW(c:dP)(list:List Int):Option (Int×(Int×Int)):=
 (gO c (list.length:Int)).bind λx1=>(idx list x1.1).bind λx2=>some (x2,(x1.2.1,x1.2.2))
def G8(x1 x2:Int×(Int×Int))(x3 x4 x5:Int):Option (kG×(Int×Int)):=
 some ((⟨x1.1,x2.1,x5⟩:kG),(x3,x4))
def G9(c:dP)(x1 x2:Int×(Int×Int))(x6:Bool):Option (kG×(Int×Int)):=
 (if x6 then(gO (⟨c.b,x2.2.1,x2.2.2⟩:dP) 60000).bind λx7=>(oW (⟨c.b,x7.2.1,x7.2.2⟩:dP) ([1,65535,x7.1]:List Int)).bind λx8=>G8 x1 x2 x8.2.1 x8.2.2 x8.1 else G8 x1 x2 x2.2.1 x2.2.2 0)
def MM(c:dP):Option (kG×(Int×Int)):=
 (oW c ([1,1,2,2,3,4,4]:List Int)).bind λx1=>(gO (⟨c.b,x1.2.1,x1.2.2⟩:dP) 6).bind λx2=>(if x1.1 == 2 then G9 c x1 x2 true else G9 c x1 x2 (x1.1 == 4))
def aL3(x11 x12:Int)(x13:List kG):Option (Batch×(Int×Int)):=
 some ((⟨false,x13⟩:Batch),(x11,x12))
def NO(x7 x14 x15:Int)(x16:List kG):Option (Step (Int×Int×Int×(List kG)) (Int×Int×(List kG))):=
 some (.next (aY (x7-1),x14,x15,x16))
def Y8(c:dP):(Int×Int×Int×(List kG))->Option (Step (Int×Int×Int×(List kG)) (Int×Int×(List kG)))
 |(x7,x8,x9,x10)=>(if decide (0<x7) then(MM (⟨c.b,x8,x9⟩:dP)).bind λx17=>need (x10.length+([x17.1]).length<=1073741824)<|NO x7 x17.2.1 x17.2.2 (x10++([x17.1])) else some (.stop ((x8,x9,x10))))
def aL4:(Int×Int×(List kG))->Option (Batch×(Int×Int))
 |(x11,x12,x13)=>aL3 x11 x12 x13
def O9(c:dP):Option (Batch×(Int×Int)):=
 (aA1 c 4).bind λx1=>(if x1.1 then some ((⟨true,[]⟩:Batch),(x1.2.1,x1.2.2)) else(gO (⟨c.b,x1.2.1,x1.2.2⟩:dP) 3).bind λx2=>(loop (Y8 c) (aY (1+x2.1),x2.2.1,x2.2.2,[])).bind (aL4))
def aHJ(x9:List aN)(x10 x11:Int):Option ((List aN)×(Int×Int)):=
 some (x9,(x10,x11))
def S5(x5:List aN)(x6 x21 x22:Int)(x23:List Batch):Option (Step ((List aN)×Int×Int×Int) ((List aN)×Int×Int)):=
 need (x5.length+([(⟨x23⟩:aN)]).length<=1073741824) (some (.next (x5++([(⟨x23⟩:aN)]),aY (x6+1),x21,x22)))
def HA(x17 x24 x25:Int)(x26:List Batch):Option (Step (Int×Int×Int×(List Batch)) (Int×Int×(List Batch))):=
 some (.next (aY (x17-1),x24,x25,x26))
def S6(c:dP):(Int×Int×Int×(List Batch))->Option (Step (Int×Int×Int×(List Batch)) (Int×Int×(List Batch)))
 |(x17,x18,x19,x20)=>(if decide (0<x17) then(O9 (⟨c.b,x18,x19⟩:dP)).bind λx27=>need (x20.length+([x27.1]).length<=1073741824)<|HA x17 x27.2.1 x27.2.2 (x20++([x27.1])) else some (.stop ((x18,x19,x20))))
def S7(x5:List aN)(x6:Int):(Int×Int×(List Batch))->Option (Step ((List aN)×Int×Int×Int) ((List aN)×Int×Int))
 |(x21,x22,x23)=>S5 x5 x6 x21 x22 x23
def S8(c:dP)(most:Int):((List aN)×Int×Int×Int)->Option (Step ((List aN)×Int×Int×Int) ((List aN)×Int×Int))
 |(x5,x6,x7,x8)=>(if decide (x6<3) then(gO (⟨c.b,x7,x8⟩:dP) (aY (most+1))).bind λx12=>(loop (S6 c) (x12.1,x12.2.1,x12.2.2,[])).bind (S7 x5 x6) else some (.stop ((x5,x7,x8))))
def aHK:((List aN)×Int×Int)->Option ((List aN)×(Int×Int))
 |(x9,x10,x11)=>aHJ x9 x10 x11
def zH(c:dP)(most:Int):Option ((List aN)×(Int×Int)):=
 (loop (S8 c most) (([]:List aN),0,c.i,c.h)).bind (aHK)
def aJL(x10:List Int)(x11 x12:Int):Option ((List Int)×(Int×Int)):=
 some (x10,(x11,x12))
def V3(x7:Int)(x14:Int×(Int×Int))(x19:List Int):Option (Step ((List Int)×Int×Int×Int) ((List Int)×Int×Int)):=
 some (.next (x19,aY (x7-1),x14.2.1,x14.2.2))
def V4(x13:Int×(Int×Int)):((List Int)×Int)->Option (Step ((List Int)×Int) (List Int))
 |(x17,x18)=>(if decide (0<x18) then need (x17.length+([x13.1]).length<=1073741824) (some (.next (x17++([x13.1]),aY (x18-1)))) else some (.stop (x17)))
def V5(x7:Int)(x14:Int×(Int×Int)):(List Int)->Option (Step ((List Int)×Int×Int×Int) ((List Int)×Int×Int))
 |x19=>V3 x7 x14 x19
def V6(c:dP):((List Int)×Int×Int×Int)->Option (Step ((List Int)×Int×Int×Int) ((List Int)×Int×Int))
 |(x6,x7,x8,x9)=>(if decide (0<x7) then(gO (⟨c.b,x8,x9⟩:dP) 3).bind λx13=>(gO (⟨c.b,x13.2.1,x13.2.2⟩:dP) 8).bind λx14=>(loop (V4 x13) (x6,aY (1+x14.1))).bind (V5 x7 x14) else some (.stop ((x6,x8,x9))))
def aJM:((List Int)×Int×Int)->Option ((List Int)×(Int×Int))
 |(x10,x11,x12)=>aJL x10 x11 x12
def LH(c:dP)(most:Int):Option ((List Int)×(Int×Int)):=
 (gO c most).bind λx1=>(loop (V6 c) (([]:List Int),x1.1,x1.2.1,x1.2.2)).bind (aJM)
def sP(x2 x3 x4 x5 x6:Int):Option (kG×(Int×Int)):=
 some ((⟨x4,x5,x6⟩:kG),(x2,x3))
def S9(c:dP):Option (kG×(Int×Int)):=
 (MM c).bind λx1=>(gO (⟨c.b,x1.2.1,x1.2.2⟩:dP) 14).bind λx7=>(if x7.1 == 0 then(oW (⟨c.b,x7.2.1,x7.2.2⟩:dP) ([0,5]:List Int)).bind λx8=>sP x8.2.1 x8.2.2 x8.1 x1.1.Key x1.1.fT else(if x7.1 == 1 then(oW (⟨c.b,x7.2.1,x7.2.2⟩:dP) ([(-1),99,100]:List Int)).bind λx9=>sP x9.2.1 x9.2.2 x1.1.Kind x9.1 x1.1.fT else(if x7.1 == 2 then(oW (⟨c.b,x7.2.1,x7.2.2⟩:dP) ([(-1),65536,1,0]:List Int)).bind λx10=>sP x10.2.1 x10.2.2 x1.1.Kind x1.1.Key x10.1 else sP x7.2.1 x7.2.2 x1.1.Kind x1.1.Key x1.1.fT)))
def lM(x2:List aN)(x3 x4:Int):Option ((List aN)×(Int×Int)):=
 some (x2,(x3,x4))
def QV(x13:List aN)(x14 x15:Int):Option ((List aN)×(Int×Int)):=
 lM x13 x14 x15
def FR(x10:List aN)(x16:Bool)(x17 x18:Int):Option (Step ((List aN)×Int×Int) ((List aN)×Int×Int)):=
 (if x16 then(idx x10 1).bind λx19=>need (x19.List.length+([(⟨true,[]⟩:Batch)]).length<=1073741824) (some (.next (x10.set ((1:Int).toNat) (⟨x19.List++([(⟨true,[]⟩:Batch)])⟩:aN),x17,x18))) else some (.stop ((x10,x17,x18))))
def QW(c:dP):((List aN)×Int×Int)->Option (Step ((List aN)×Int×Int) ((List aN)×Int×Int))
 |(x10,x11,x12)=>(idx x10 1).bind λx20=>(gO (⟨c.b,x11,x12⟩:dP) 2).bind λx21=>FR x10 (decide ((x20.List.length:Int)<(aY (12+x21.1)))) x21.2.1 x21.2.2
def aFW:((List aN)×Int×Int)->Option ((List aN)×(Int×Int))
 |(x13,x14,x15)=>QV x13 x14 x15
def FT(x22:List aN)(x23 x24:Int):Option ((List aN)×(Int×Int)):=
 lM x22 x23 x24
def EJ(c:dP):Option ((List aN)×(Int×Int)):=
 (zH c 5).bind λx1=>(gO (⟨c.b,x1.2.1,x1.2.2⟩:dP) 20).bind λx5=>(if x5.1 == 0 then need (0<=(2:Int)/\(2:Int)<=(x1.1.length:Int)) (some ((x1.1.take ((2:Int).toNat)).drop 0,(x5.2.1,x5.2.2))) else(if x5.1 == 1 then(idx x1.1 0).bind λx6=>need (x6.List.length+([(⟨false,[]⟩:Batch)]).length<=1073741824) (lM (x1.1.set ((0:Int).toNat) (⟨x6.List++([(⟨false,[]⟩:Batch)])⟩:aN)) x5.2.1 x5.2.2) else(if x5.1 == 2 then(loop (QW c) (x1.1,x5.2.1,x5.2.2)).bind (aFW) else(if x5.1 == 3 then(idx x1.1 2).bind λx25=>(S9 (⟨c.b,x5.2.1,x5.2.2⟩:dP)).bind λx26=>need (x25.List.length+([(⟨false,[x26.1]⟩:Batch)]).length<=1073741824)<|FT (x1.1.set ((2:Int).toNat) (⟨x25.List++([(⟨false,[x26.1]⟩:Batch)])⟩:aN)) x26.2.1 x26.2.2 else lM x1.1 x5.2.1 x5.2.2))))
def lK(x4:List aN)(x5:List Int):Option mR:=
 some (⟨x4,x5⟩:mR)
def vB(code:List UInt8):Option mR:=
 (XL code).bind λx1=>(zH (⟨code,x1.1,x1.2⟩:dP) 6).bind λx2=>(LH (⟨code,x2.2.1,x2.2.2⟩:dP) 60).bind λx3=>(gO (⟨code,x3.2.1,x3.2.2⟩:dP) 16).bind λx6=>(if x6.1 == 0 then(EJ (⟨code,x6.2.1,x6.2.2⟩:dP)).bind λx7=>lK x7.1 x3.1 else(if x6.1 == 1 then need (x3.1.length+([(-1),3,1]:List Int).length<=1073741824) (lK x2.1 (x3.1++([(-1),3,1]:List Int))) else lK x2.1 x3.1))
def PA(x1:Bool):Option Bool:=
 some x1
def bX(x low high:Int):Option Bool:=
 (if decide (low<=x) then PA (decide (x<=high)) else PA false)
def LI(c:kG)(x2:Bool):Option Bool:=
 (if x2 then(bX c.fT 0 65535).bind λx3=>some x3 else some (c.fT == 0))
def LJ(c:kG)(x1:Bool):Option Bool:=
 (if x1 then some false else(if c.Kind == 2 then LI c true else LI c (c.Kind == 4)))
def XM(c:kG):Option Bool:=
 (bX c.Kind 1 4).bind λx4=>(if !x4 then LJ c true else(bX c.Key 0 99).bind λx5=>LJ c (!x5))
def Y9(b:Batch):Option Bool:=
 (bX (b.bW.length:Int) 1 6).bind λx3=>some x3
def pT(b:Batch):Int->Option (Step Int (Out Unit Bool))
 |x2=>(if decide (x2<(b.bW.length:Int)) then(idx b.bW x2).bind λx4=>(XM x4).bind λx5=>(if !x5 then some (.stop (Out.ret false)) else some (.next (aY (x2+1)))) else some (.stop (Out.brk ())))
def ZA(b:Batch):(Out Unit Bool)->Option Bool
 |.brk ()=>Y9 b
 |.ret r=>some r
def HB(b:Batch):Option Bool:=
 (if b.Collect then some ((b.bW.length:Int) == 0) else(loop (pT b) 0).bind (ZA b))
def ZB(todo:List aN):Option Bool:=
 some ((todo.length:Int) == 3)
def ZC(x2:Int):Option (Step Int (Out Unit Bool)):=
 some (.next (aY (x2+1)))
def pU(todo:List aN)(x2:Int):Int->Option (Step Int (Out Unit Bool))
 |x5=>(idx todo x2).bind λx6=>(if decide (x5<(x6.List.length:Int)) then(idx todo x2).bind λx7=>(idx x7.List x5).bind λx8=>(HB x8).bind λx9=>(if !x9 then some (.stop (Out.ret false)) else some (.next (aY (x5+1)))) else some (.stop (Out.brk ())))
def ZD(x2:Int):(Out Unit Bool)->Option (Step Int (Out Unit Bool))
 |.brk ()=>ZC x2
 |.ret r=>some (.stop (Out.ret r))
def pW(todo:List aN):Int->Option (Step Int (Out Unit Bool))
 |x2=>(if decide (x2<(todo.length:Int)) then(idx todo x2).bind λx3=>(if decide (12<(x3.List.length:Int)) then some (.stop (Out.ret false)) else(loop (pU todo x2) 0).bind (ZD x2)) else some (.stop (Out.brk ())))
def ZE(todo:List aN):(Out Unit Bool)->Option Bool
 |.brk ()=>ZB todo
 |.ret r=>some r
def HC(todo:List aN):Option Bool:=
 (loop (pW todo) 0).bind (ZE todo)
def aL5(x5:List Int):Option Heap:=
 some (⟨List.replicate ((384:Int).toNat) 0,x5⟩:Heap)
def wG:(Int×(List Int))->Option (Step (Int×(List Int)) (List Int))
 |(x3,x4)=>(if decide (x3<6) then need (x4.length+([(-1)]).length<=1073741824) (some (.next (aY (x3+1),x4++([(-1)])))) else some (.stop (x4)))
def aL6:(List Int)->Option Heap
 |x5=>aL5 x5
def PB:Option Heap:=
 need (0<=(384:Int)/\(384:Int)<=4294967296) ((loop (wG) (0,[])).bind (aL6))
def V7:Option aC:=
 some (⟨List.replicate ((3:Int).toNat) (⟨[]⟩:bJ),List.replicate ((9:Int).toNat) (⟨[]⟩:bJ)⟩:aC)
def UH:Option aC:=
 need (0<=(3:Int)/\(3:Int)<=4294967296)<|need (0<=(9:Int)/\(9:Int)<=4294967296)<|V7
def aA2:Option Mem:=
 (PB).bind λx1=>(UH).bind λx2=>some (⟨x1,x2⟩:Mem)
def UI:Option aD:=
 need (0<=(3:Int)/\(3:Int)<=4294967296) (some (⟨0,List.replicate ((3:Int).toNat) (⟨false,0,false,0⟩:yN)⟩:aD))
def UJ:Option (List bT):=
 need (0<=(3:Int)/\(3:Int)<=4294967296) (some (List.replicate ((3:Int).toNat) (⟨[]⟩:bT)))
def aA3:Option (List Int):=
 need (0<=(3:Int)/\(3:Int)<=4294967296) (some (List.replicate ((3:Int).toNat) 0))
def PC:Option aA:=
 (aA2).bind λx1=>(UI).bind λx2=>(UJ).bind λx3=>(aA3).bind λx4=>some (⟨x1,x2,x3,x4⟩:aA)
def XN(l:List kG):Option (List kG):=
 need (([]:List kG).length+l.length<=1073741824) (some (([]:List kG)++l))
def LK(b:Batch):Option Batch:=
 (XN b.bW).bind λx1=>some (⟨b.Collect,x1⟩:Batch)
def aHL(x5:List aN):Option (List aN):=
 some x5
def TA(x3:List aN)(x4:Int)(x10:List Batch):Option (Step ((List aN)×Int) (List aN)):=
 need (x3.length+([(⟨x10⟩:aN)]).length<=1073741824) (some (.next (x3++([(⟨x10⟩:aN)]),aY (x4+1))))
def HD(x8:Int)(x12:List Batch):Option (Step (Int×(List Batch)) (List Batch)):=
 some (.next (aY (x8+1),x12))
def HE(l:List aN)(x4:Int):(Int×(List Batch))->Option (Step (Int×(List Batch)) (List Batch))
 |(x8,x9)=>(idx l x4).bind λx11=>(if decide (x8<(x11.List.length:Int)) then(idx l x4).bind λx13=>(idx x13.List x8).bind λx14=>(LK x14).bind λx15=>need (x9.length+([x15]).length<=1073741824)<|HD x8 (x9++([x15])) else some (.stop (x9)))
def TB(x3:List aN)(x4:Int):(List Batch)->Option (Step ((List aN)×Int) (List aN))
 |x10=>TA x3 x4 x10
def HF(l:List aN):((List aN)×Int)->Option (Step ((List aN)×Int) (List aN))
 |(x3,x4)=>(if decide (x4<(l.length:Int)) then(loop (HE l x4) (0,[])).bind (TB x3 x4) else some (.stop (x3)))
def aHM:(List aN)->Option (List aN)
 |x5=>aHL x5
def HH(l:List aN):Option (List aN):=
 (loop (HF l) (([]:List aN),0)).bind (aHM)
def V8(x2:Table):Option Table:=
 some ({x2 with Log:=[]}:Table)
def LL(todo:List aN):Option Table:=
 (HC todo).bind λx1=>(if !x1 then some (⟨(⟨(⟨(⟨[],[]⟩:Heap),(⟨[],[]⟩:aC)⟩:Mem),(⟨0,[]⟩:aD),[],[]⟩:aA),[],[],[],[],0⟩:Table) else(PC).bind λx3=>need (0<=(2:Int)/\(2:Int)<=4294967296)<|need (0<=(3:Int)/\(3:Int)<=4294967296)<|(HH todo).bind λx4=>V8 (⟨x3,List.replicate ((2:Int).toNat) (⟨0,0,0⟩:cQ),List.replicate ((3:Int).toNat) (⟨false,(⟨false,[]⟩:Batch),0,0,0,0,0,0,0,0,(⟨0,0,0⟩:gE),false,0,(⟨0,0,0,0,0,0,0,0,0,false⟩:Sub),[],[],[],[],[],[]⟩:aI),x4,[],0⟩:Table))
def TC(x:mR):Option Bool:=
 (LL x.dQ).bind λx1=>some ((x1.aQ.length:Int) == 3)
def QX:Option Int:=
 some (-1)
def oX(s:List aN)(f:(aN->Option Bool)):Int->Option (Step Int (Out Unit Int))
 |x2=>(if decide (x2<(s.length:Int)) then(idx s x2).bind λx3=>(f x3).bind λx4=>(if x4 then some (.stop (Out.ret x2)) else some (.next (aY (x2+1)))) else some (.stop (Out.brk ())))
def zI:(Out Unit Int)->Option Int
 |.brk ()=>QX
 |.ret r=>some r
def GJ(s:List aN)(f:(aN->Option Bool)):Option Int:=
 (loop (oX s f) 0).bind (zI)
def kH(s:List aN)(f:(aN->Option Bool)):Option Bool:=
 (GJ s f).bind λx1=>some (decide (0<=x1))
def SJ:Option Int:=
 some (-1)
def pO(s:List Batch)(f:(Batch->Option Bool)):Int->Option (Step Int (Out Unit Int))
 |x2=>(if decide (x2<(s.length:Int)) then(idx s x2).bind λx3=>(f x3).bind λx4=>(if x4 then some (.stop (Out.ret x2)) else some (.next (aY (x2+1)))) else some (.stop (Out.brk ())))
def CF:(Out Unit Int)->Option Int
 |.brk ()=>SJ
 |.ret r=>some r
def HI(s:List Batch)(f:(Batch->Option Bool)):Option Int:=
 (loop (pO s f) 0).bind (CF)
def pP(s:List Batch)(f:(Batch->Option Bool)):Option Bool:=
 (HI s f).bind λx1=>some (decide (0<=x1))
def HJ(x1:Bool):Option Bool:=
 some x1
def bS(n low high:Int):Option Bool:=
 (if decide (low<=n) then HJ (decide (n<=high)) else HJ false)
def V9:Option Int:=
 some (-1)
def sQ(s:List kG)(f:(kG->Option Bool)):Int->Option (Step Int (Out Unit Int))
 |x2=>(if decide (x2<(s.length:Int)) then(idx s x2).bind λx3=>(f x3).bind λx4=>(if x4 then some (.stop (Out.ret x2)) else some (.next (aY (x2+1)))) else some (.stop (Out.brk ())))
def GK:(Out Unit Int)->Option Int
 |.brk ()=>V9
 |.ret r=>some r
def MN(s:List kG)(f:(kG->Option Bool)):Option Int:=
 (loop (sQ s f) 0).bind (GK)
def sS(s:List kG)(f:(kG->Option Bool)):Option Bool:=
 (MN s f).bind λx1=>some (decide (0<=x1))
def rM(x2:Bool):Option Bool:=
 some x2
def xQ(c:kG)(x1:Bool):Option Bool:=
 (bS c.Kind 1 4).bind λx3=>(if x3 then(bS c.Key 0 99).bind λx4=>(if x4 then(if x1 then(bS c.fT 0 65535).bind λx5=>(if x5 then rM true else rM (c.fT == 0)) else rM (c.fT == 0)) else rM false) else rM false)
def XO(c:kG):Option Bool:=
 (if c.Kind == 2 then xQ c true else xQ c (c.Kind == 4))
def QY(c:kG):Option Bool:=
 (XO c).bind λx1=>some (!x1)
def wH(x1:Bool):Option Bool:=
 some x1
def HK(b:Batch):Option Bool:=
 (if b.Collect then some ((b.bW.length:Int) == 0) else(bS (b.bW.length:Int) 1 6).bind λx2=>(if x2 then(sS b.bW (λy0=>QY y0)).bind λx3=>wH (!x3) else wH false))
def KS(b:Batch):Option Bool:=
 (HK b).bind λx1=>some (!x1)
def yO(x1:Bool):Option Bool:=
 some x1
def HL(q:aN):Option Bool:=
 (if decide (12<(q.List.length:Int)) then yO true else(pP q.List (λy0=>KS y0)).bind λx2=>yO x2)
def EK(x1:Bool):Option Bool:=
 some x1
def HM(todo:List aN):Option Bool:=
 (if(todo.length:Int) == 3 then(kH todo (λy0=>HL y0)).bind λx2=>EK (!x2) else EK false)
def ZF(x y:Int):Option (Int×Int):=
 some (IntKind.u64.wrap ((IntKind.u64.wrap ((IntKind.u64.wrap ((qL .u64 x 32)*(qL .u64 y 32)))+(qL .u64 (IntKind.u64.wrap ((IntKind.u64.wrap ((qL .u64 x 32)*(iO .and .u64 y 4294967295)))+(qL .u64 (IntKind.u64.wrap ((iO .and .u64 x 4294967295)*(iO .and .u64 y 4294967295))) 32))) 32)))+(qL .u64 (IntKind.u64.wrap ((iO .and .u64 (IntKind.u64.wrap ((IntKind.u64.wrap ((qL .u64 x 32)*(iO .and .u64 y 4294967295)))+(qL .u64 (IntKind.u64.wrap ((iO .and .u64 x 4294967295)*(iO .and .u64 y 4294967295))) 32))) 4294967295)+(IntKind.u64.wrap ((iO .and .u64 x 4294967295)*(qL .u64 y 32))))) 32)),IntKind.u64.wrap (x*y))
def UK(x y:Int):Option (Int×Int):=
 (ZF x y).bind λx1=>some (x1.1,x1.2)
def aA4(x7:List Int):Option (List Int):=
 some x7
def lY:((List Int)×Int)->Option (Step ((List Int)×Int) (List Int))
 |(x5,x6)=>(if decide (x6<(x5.length:Int)) then need (0<=(x6:Int)/\(x6:Int)<=(x5.length:Int)) (need (0<=(x6:Int)/\(x6:Int)<=(x5.length:Int)) (some (.next (dA x5 x6.toNat ((x5.take x6.toNat).drop 0),aY (x6+((min ((x5.take x6.toNat).drop 0).length (x5.length-x6.toNat):Nat):Int)))))) else some (.stop (x5)))
def aA5:(List Int)->Option (List Int)
 |x7=>aA4 x7
def qN(x:List Int)(x1:Int×Int)(x2:Bool):Option (List Int):=
 (if x2 then none else need (0<=(IntKind.i64.wrap x1.2:Int)/\(IntKind.i64.wrap x1.2:Int)<=4294967296) ((loop (lY) (dA (List.replicate ((IntKind.i64.wrap x1.2).toNat) 0) 0 x,((min x.length ((List.replicate ((IntKind.i64.wrap x1.2).toNat) 0:List Int).length-0):Nat):Int))).bind (aA5)))
def yP(x:List Int)(count:Int):Option (List Int):=
 (if decide (count<0) then none else(UK (IntKind.u64.wrap (x.length:Int)) (IntKind.u64.wrap count)).bind λx1=>(if decide (0<x1.1) then qN x x1 true else qN x x1 (decide (9223372036854775807<x1.2))))
def ZG(x1:List Int):Option Heap:=
 some (⟨List.replicate ((384:Int).toNat) 0,x1⟩:Heap)
def PD:Option Heap:=
 need (0<=(384:Int)/\(384:Int)<=4294967296)<|(yP ([(-1)]) 6).bind λx2=>ZG x2
def WA:Option aC:=
 some (⟨List.replicate ((3:Int).toNat) (⟨[]⟩:bJ),List.replicate ((9:Int).toNat) (⟨[]⟩:bJ)⟩:aC)
def UL:Option aC:=
 need (0<=(3:Int)/\(3:Int)<=4294967296)<|need (0<=(9:Int)/\(9:Int)<=4294967296)<|WA
def aA6:Option Mem:=
 (PD).bind λx1=>(UL).bind λx2=>some (⟨x1,x2⟩:Mem)
def UM:Option aD:=
 need (0<=(3:Int)/\(3:Int)<=4294967296) (some (⟨0,List.replicate ((3:Int).toNat) (⟨false,0,false,0⟩:yN)⟩:aD))
def UN:Option (List bT):=
 need (0<=(3:Int)/\(3:Int)<=4294967296) (some (List.replicate ((3:Int).toNat) (⟨[]⟩:bT)))
def aA7:Option (List Int):=
 need (0<=(3:Int)/\(3:Int)<=4294967296) (some (List.replicate ((3:Int).toNat) 0))
def PE:Option aA:=
 (aA6).bind λx1=>(UM).bind λx2=>(UN).bind λx3=>(aA7).bind λx4=>some (⟨x1,x2,x3,x4⟩:aA)
def lN(s:List kG):Option (List kG):=
 need (([]:List kG).length+s.length<=1073741824) (some (([]:List kG)++s))
def zJ(b:Batch):Option Batch:=
 (lN b.bW).bind λx1=>some (⟨b.Collect,x1⟩:Batch)
def aHN(x5:List aN):Option (List aN):=
 some x5
def TD(x3:List aN)(x4:Int)(x11:List Batch):Option (Step ((List aN)×Int) (List aN)):=
 need (x3.length+([(⟨x11⟩:aN)]).length<=1073741824) (some (.next (x3++([(⟨x11⟩:aN)]),aY (x4+1))))
def HN(x9:Int)(x13:List Batch):Option (Step (Int×(List Batch)) (List Batch)):=
 some (.next (aY (x9+1),x13))
def HO(x6:aN):(Int×(List Batch))->Option (Step (Int×(List Batch)) (List Batch))
 |(x9,x10)=>(if decide (x9<(x6.List.length:Int)) then(idx x6.List x9).bind λx12=>(zJ x12).bind λx14=>need (x10.length+([x14]).length<=1073741824)<|HN x9 (x10++([x14])) else some (.stop (x10)))
def TE(x3:List aN)(x4:Int):(List Batch)->Option (Step ((List aN)×Int) (List aN))
 |x11=>TD x3 x4 x11
def HP(todo:List aN):((List aN)×Int)->Option (Step ((List aN)×Int) (List aN))
 |(x3,x4)=>(if decide (x4<(todo.length:Int)) then(idx todo x4).bind λx6=>(loop (HO x6) (0,[])).bind (TE x3 x4) else some (.stop (x3)))
def aHO:(List aN)->Option (List aN)
 |x5=>aHN x5
def zK(todo:List aN):Option (List aN):=
 (loop (HP todo) (([]:List aN),0)).bind (aHO)
def WB(x2:Table):Option Table:=
 some ({x2 with Log:=[]}:Table)
def LM(todo:List aN):Option Table:=
 (HM todo).bind λx1=>(if !x1 then some (⟨(⟨(⟨(⟨[],[]⟩:Heap),(⟨[],[]⟩:aC)⟩:Mem),(⟨0,[]⟩:aD),[],[]⟩:aA),[],[],[],[],0⟩:Table) else(PE).bind λx3=>need (0<=(2:Int)/\(2:Int)<=4294967296)<|need (0<=(3:Int)/\(3:Int)<=4294967296)<|(zK todo).bind λx4=>WB (⟨x3,List.replicate ((2:Int).toNat) (⟨0,0,0⟩:cQ),List.replicate ((3:Int).toNat) (⟨false,(⟨false,[]⟩:Batch),0,0,0,0,0,0,0,0,(⟨0,0,0⟩:gE),false,0,(⟨0,0,0,0,0,0,0,0,0,false⟩:Sub),[],[],[],[],[],[]⟩:aI),x4,[],0⟩:Table))
def iD(w_:Int):Option Bool:=
 (bS w_ 0 2).bind λx1=>some x1
def OM(s:List Batch)(i j:Int):Option (List Batch):=
 need (0<=i/\i<=j/\j<=(s.length:Int)) (some (s.take i.toNat++s.drop j.toNat))
def lZ(kind a_:Int):Option Sub:=
 some (⟨kind,a_,0,0,0,0,0,0,0,false⟩:Sub)
def CL(t:Table)(w_:Int)(x2:aN)(x3:Batch)(x6:aI)(x8:List J9):Option Table:=
 some (⟨t.aA,t.bZ,t.aQ.set w_.toNat ({x6 with Batch:=(⟨x6.Batch.Collect,x3.bW⟩:Batch),Reads:=[],aH:=[],iZ:=[],eO:=[],bD:=[],bU:=[]}:aI),t.dQ.set w_.toNat (⟨x2.List.drop 1⟩:aN),x8,aY (t.aO+1)⟩:Table)
def nE(t:Table)(w_:Int)(x2:aN)(x3:Batch)(x6:aI):Option Table:=
 (idx t.aQ w_).bind λx7=>(lN x3.bW).bind λx9=>need (t.Log.length+([(⟨1,w_,x6.aO,0,x9,[]⟩:J9)]).length<=1073741824)<|CL t w_ x2 x3 x6 (t.Log++([(⟨1,w_,x6.aO,0,x9,[]⟩:J9)]))
def CM(t:Table)(w_:Int)(x2:aN)(x3:Batch)(x5:aI):Option Table:=
 (if x3.Collect then(lZ 3 0).bind λx10=>nE t w_ x2 x3 ({x5 with Batch:=(⟨x5.Batch.Collect,x3.bW⟩:Batch),Pc:=20,Sub:=x10,Reads:=[],aH:=[],iZ:=[],eO:=[],bD:=[],bU:=[]}:aI) else nE t w_ x2 x3 ({x5 with Batch:=(⟨x5.Batch.Collect,x3.bW⟩:Batch),Reads:=[],aH:=[],iZ:=[],eO:=[],bD:=[],bU:=[]}:aI))
def nG(t:Table)(w_:Int)(x1:Bool):Option Table:=
 (if x1 then some t else(idx t.dQ w_).bind λx2=>(idx x2.List 0).bind λx3=>(OM x2.List 0 1).bind λx4=>(lZ 5 0).bind λx11=>CM t w_ x2 x3 (⟨true,x3,aY (t.aO+1),0,0,0,0,0,0,0,(⟨0,0,0⟩:gE),false,0,x11,[],[],[],[],[],[]⟩:aI))
def A7(t:Table)(w_:Int):Option Table:=
 (idx t.dQ w_).bind λx12=>(if(x12.List.length:Int) == 0 then nG t w_ true else nG t w_ (t.aO == 1000000))
def bO(s:Sub)(code:Int):Option Sub:=
 some ({s with Code:=code,iB:=true}:Sub)
def lT(c:Int):Option Bool:=
 (bS c 0 2).bind λx1=>some x1
def zL(c:Int):Option Int:=
 (lT c).bind λx1=>(if !x1 then some 0 else(idx ([8,16,40]:List Int) c).bind λx2=>some x2)
def aL7:Option Int:=
 some (-1)
def EL(x2:Int)(x3:Bool):Option (Step Int (Out Unit Int)):=
 (if x3 then some (.stop (Out.ret x2)) else some (.next (aY (x2+1))))
def kW(size:Int):Int->Option (Step Int (Out Unit Int))
 |x2=>(if decide (x2<3) then(if decide (1<=size) then(zL x2).bind λx4=>EL x2 (decide (size<=x4)) else EL x2 false) else some (.stop (Out.brk ())))
def aL8:(Out Unit Int)->Option Int
 |.brk ()=>aL7
 |.ret r=>some r
def PF(size:Int):Option Int:=
 (loop (kW size) 0).bind (aL8)
def eW(s:List Int):Option (List Int):=
 need (([]:List Int).length+s.length<=1073741824) (some (([]:List Int)++s))
def aHP(x5 x10:List bJ):Option aC:=
 some (⟨x5,x10⟩:aC)
def HQ(x8:Int)(x12:List bJ):Option (Step (Int×(List bJ)) (List bJ)):=
 some (.next (aY (x8+1),x12))
def HR(l:aC):(Int×(List bJ))->Option (Step (Int×(List bJ)) (List bJ))
 |(x8,x9)=>(if decide (x8<(l.Own.length:Int)) then(idx l.Own x8).bind λx11=>(eW x11.aV).bind λx13=>need (x9.length+([(⟨x13⟩:bJ)]).length<=1073741824)<|HQ x8 (x9++([(⟨x13⟩:bJ)])) else some (.stop (x9)))
def aHQ(x5:List bJ):(List bJ)->Option aC
 |x10=>aHP x5 x10
def TF(l:aC)(x5:List bJ):Option aC:=
 (loop (HR l) (0,[])).bind (aHQ x5)
def HT(x3:Int)(x15:List bJ):Option (Step (Int×(List bJ)) (List bJ)):=
 some (.next (aY (x3+1),x15))
def HU(l:aC):(Int×(List bJ))->Option (Step (Int×(List bJ)) (List bJ))
 |(x3,x4)=>(if decide (x3<(l.Global.length:Int)) then(idx l.Global x3).bind λx14=>(eW x14.aV).bind λx16=>need (x4.length+([(⟨x16⟩:bJ)]).length<=1073741824)<|HT x3 (x4++([(⟨x16⟩:bJ)])) else some (.stop (x4)))
def TG(l:aC):(List bJ)->Option aC
 |x5=>TF l x5
def jH(l:aC):Option aC:=
 (loop (HU l) (0,[])).bind (TG l)
def uQ(slot:Int):Option Bool:=
 (bS slot 0 23).bind λx1=>some x1
def XP(x11:List Raw):Option (List Raw):=
 some x11
def nR(slices:List (List Raw)):((List Raw)×Int)->Option (Step ((List Raw)×Int) (List Raw))
 |(x9,x10)=>(if decide (x10<(slices.length:Int)) then(idx slices x10).bind λx12=>need (x9.length+x12.length<=1073741824) (some (.next (x9++x12,aY (x10+1)))) else some (.stop (x9)))
def XQ:(List Raw)->Option (List Raw)
 |x11=>XP x11
def HV(slices:List (List Raw))(x5:Int):Option (List Raw):=
 (aG6 Raw x5).bind λx6=>(loop (nR slices) (x6,0)).bind (XQ)
def kI(slices:List (List Raw)):(Int×Int)->Option (Step (Int×Int) Int)
 |(x3,x4)=>(if decide (x4<(slices.length:Int)) then(idx slices x4).bind λx13=>(if decide ((aY (x3+(x13.length:Int)))<0) then none else some (.next (aY (x3+(x13.length:Int)),aY (x4+1)))) else some (.stop (x3)))
def HW(slices:List (List Raw)):Int->Option (List Raw)
 |x5=>HV slices x5
def CN(slices:List (List Raw)):Option (List Raw):=
 (loop (kI slices) (0,0)).bind (HW slices)
def aL9:Option Bool:=
 some true
def ZH(x4:Int)(x12:List Bool):Option (Step (Int×(List Bool)) (Out Unit Bool)):=
 some (.next (aY (x4+1),x12))
def wI(x10:Int)(x11:List Bool)(x13:Int)(x14:Bool):Option (Step (Int×(List Bool)) (Out (List Bool) Bool)):=
 (if x14 then some (.stop (Out.ret false)) else need (0<=(x13:Int)/\(x13:Int)<24) ((idx (x11:List Bool) x13).bind λx15=>some (.next (aY (x10+1),x11.set (x13.toNat) true))))
def wJ(x6:bJ):(Int×(List Bool))->Option (Step (Int×(List Bool)) (Out (List Bool) Bool))
 |(x10,x11)=>(if decide (x10<(x6.aV.length:Int)) then(idx x6.aV x10).bind λx13=>(uQ x13).bind λx16=>(if !x16 then wI x10 x11 x13 true else need (0<=(x13:Int)/\(x13:Int)<24) ((idx (x11:List Bool) x13).bind λx17=>wI x10 x11 x13 x17)) else some (.stop (Out.brk x11)))
def ZI(x4:Int):(Out (List Bool) Bool)->Option (Step (Int×(List Bool)) (Out Unit Bool))
 |.brk x12=>ZH x4 x12
 |.ret r=>some (.stop (Out.ret r))
def pX(x4:Int)(x5:List Bool)(x6:bJ)(x7:Bool):Option (Step (Int×(List Bool)) (Out Unit Bool)):=
 (if x7 then some (.stop (Out.ret false)) else(loop (wJ x6) (0,x5)).bind (ZI x4))
def wK(l:aC):(Int×(List Bool))->Option (Step (Int×(List Bool)) (Out Unit Bool))
 |(x4,x5)=>(if decide (x4<((l.Own++l.Global).length:Int)) then(idx (l.Own++l.Global) x4).bind λx6=>(if decide (x4<(l.Own.length:Int)) then pX x4 x5 x6 (decide (2<(x6.aV.length:Int))) else pX x4 x5 x6 false) else some (.stop (Out.brk ())))
def aMA:(Out Unit Bool)->Option Bool
 |.brk ()=>aL9
 |.ret r=>some r
def EM(l:aC)(x1:Bool):Option Bool:=
 (if x1 then some false else need (l.Own.length+l.Global.length<=1073741824) ((loop (wK l) (0,List.replicate 24 false)).bind (aMA)))
def qO(l:aC):Option Bool:=
 (if(l.Global.length:Int) != 3 then EM l true else EM l ((l.Own.length:Int) != 9))
def LN(w_ c:Int)(x1:Bool):Option Int:=
 (if x1 then some (-1) else some (aY ((aY (w_*3))+c)))
def QZ(w_ c:Int):Option Int:=
 (iD w_).bind λx2=>(if !x2 then LN w_ c true else(lT c).bind λx3=>LN w_ c (!x3))
def zN(s:bJ):Option (Int×bJ):=
 (if decide ((aY ((s.aV.length:Int)-1))<0) then some ((-1),s) else(idx s.aV (aY ((s.aV.length:Int)-1))).bind λx1=>need (0<=(aY ((s.aV.length:Int)-1):Int)/\(aY ((s.aV.length:Int)-1):Int)<=(aY ((s.aV.length:Int)-1):Int)/\(aY ((s.aV.length:Int)-1):Int)<=(s.aV.length:Int)) (some (x1,(⟨(s.aV.take ((aY ((s.aV.length:Int)-1)).toNat)).drop 0⟩:bJ))))
def EN(x1:aC)(x2:Int)(x3:Bool):Option (aC×Int):=
 (if x3 then some (x1,(-1)) else(idx x1.Own x2).bind λx4=>(zN x4).bind λx5=>some ((⟨x1.Global,x1.Own.set x2.toNat x5.2⟩:aC),x5.1))
def PG(l:aC)(w_ c:Int):Option (aC×Int):=
 (jH l).bind λx1=>(QZ w_ c).bind λx2=>(qO l).bind λx6=>(if !x6 then EN x1 x2 true else EN x1 x2 (decide (x2<0)))
def vC(c:Int)(x1:aC)(x2:Bool):Option (aC×Int):=
 (if x2 then some (x1,(-1)) else(idx x1.Global c).bind λx3=>(zN x3).bind λx4=>some ((⟨x1.Global.set c.toNat x4.2,x1.Own⟩:aC),x4.1))
def EO(l:aC)(c:Int):Option (aC×Int):=
 (jH l).bind λx1=>(qO l).bind λx5=>(if !x5 then vC c x1 true else(lT c).bind λx6=>vC c x1 (!x6))
def xR(c:Int):Option Int:=
 (lT c).bind λx1=>(if !x1 then some 0 else(zL c).bind λx2=>some (aY (4+x2)))
def qP(c:Int):Option Int:=
 (lT c).bind λx1=>(if !x1 then some 0 else(xR c).bind λx2=>need (x2≠0) (some (aY (Int.tdiv 56 x2))))
def DD(slot c:Int)(x1:Bool):Option Int:=
 (if x1 then some (-1) else(xR c).bind λx2=>some (aY ((aY ((aY ((aY (Int.tdiv slot 4))*64))+8))+(aY ((Int.tmod slot 4)*x2)))))
def zO(slot c:Int):Option Int:=
 (uQ slot).bind λx3=>(if !x3 then DD slot c true else(lT c).bind λx4=>(if !x4 then DD slot c true else(qP c).bind λx5=>DD slot c (decide (x5<=(Int.tmod slot 4)))))
def ON:Option Int:=
 some (-1)
def fL(s:List Int)(v:Int):Int->Option (Step Int (Out Unit Int))
 |x2=>(if decide (x2<(s.length:Int)) then(idx s x2).bind λx3=>(if v == x3 then some (.stop (Out.ret x2)) else some (.next (aY (x2+1)))) else some (.stop (Out.brk ())))
def CP:(Out Unit Int)->Option Int
 |.brk ()=>ON
 |.ret r=>some r
def oN(s:List Int)(v:Int):Option Int:=
 (loop (fL s v) 0).bind (CP)
def Q0(b x5:List Int):Option (List Int):=
 need (x5.length=b.length) (some x5)
def l5(b:List Int)(at_:Int)(text:List UInt8):((List Int)×Int)->Option (Step ((List Int)×Int) (List Int))
 |(x3,x4)=>need (x3.length=b.length) ((if decide (x4<(text.length:Int)) then(idx text x4).bind λx6=>(idx x3 (aY (at_+x4))).bind λx7=>some (.next (x3.set ((aY (at_+x4)).toNat) (x6.toNat:Int),aY (x4+1))) else some (.stop (x3))))
def Q1(b:List Int):(List Int)->Option (List Int)
 |x5=>Q0 b x5
def oB(b:List Int)(at_:Int)(text:List UInt8):Option (List Int):=
 (loop (l5 b at_ text) (b,0)).bind (Q1 b)
def A8(width:Int):Option Bool:=
 (bS width 1 7).bind λx1=>some x1
def aTM(x8:List UInt8):Option (List UInt8):=
 some x8
def rN:(Int×(List UInt8)×Int)->Option (Step (Int×(List UInt8)×Int) (List UInt8))
 |(x5,x6,x7)=>(if decide (0<=x7) then(idx x6 x7).bind λx9=>some (.next (qL .i64 x5 8,x6.set x7.toNat (u8 x5),aY (x7-1))) else some (.stop (x6)))
def aTN:(List UInt8)->Option (List UInt8)
 |x8=>aTM x8
def xS(n width:Int)(x1:Bool):Option (List UInt8):=
 (if x1 then some ([]) else need (0<=(width:Int)/\(width:Int)<=4294967296) ((loop (rN) (n,List.replicate (width.toNat) 0,aY (width-1))).bind (aTN)))
def m8(n width:Int):Option (List UInt8):=
 (A8 width).bind λx10=>(if !x10 then xS n width true else(if decide (n<0) then xS n width true else need (0<=(IntKind.u64.wrap (aY (8*width)):Int)) (xS n width (decide ((aPD .i64 1 (IntKind.u64.wrap (aY (8*width))))<=n)))))
def xT(h:Heap):Option Heap:=
 (eW h.Bytes).bind λx1=>(eW h.Class).bind λx2=>some (⟨x1,x2⟩:Heap)
def GL:Option Int:=
 some (-1)
def dL(s:List Int)(f:(Int->Option Bool)):Int->Option (Step Int (Out Unit Int))
 |x2=>(if decide (x2<(s.length:Int)) then(idx s x2).bind λx3=>(f x3).bind λx4=>(if x4 then some (.stop (Out.ret x2)) else some (.next (aY (x2+1)))) else some (.stop (Out.brk ())))
def sU:(Out Unit Int)->Option Int
 |.brk ()=>GL
 |.ret r=>some r
def fY(s:List Int)(f:(Int->Option Bool)):Option Int:=
 (loop (dL s f) 0).bind (sU)
def cT(s:List Int)(f:(Int->Option Bool)):Option Bool:=
 (fY s f).bind λx1=>some (decide (0<=x1))
def aA8(x:Int):Option Bool:=
 (bS x 0 255).bind λx1=>some x1
def HX(x:Int):Option Bool:=
 (aA8 x).bind λx1=>some (!x1)
def EP(x1:Bool):Option Bool:=
 some x1
def PH(b:List Int):Option Bool:=
 (if decide ((b.length:Int)<=1000) then(cT b (λy0=>HX y0)).bind λx2=>EP (!x2) else EP false)
def LO(c:Int):Option Bool:=
 (bS c (-1) 2).bind λx1=>some (!x1)
def sV(x1:Bool):Option Bool:=
 some x1
def MO(h:Heap):Option Bool:=
 (if(h.Bytes.length:Int) == 384 then(PH h.Bytes).bind λx2=>(if x2 then(if(h.Class.length:Int) == 6 then(cT h.Class (λy0=>LO y0)).bind λx3=>sV (!x3) else sV false) else sV false) else sV false)
def aMB(x5:Int):Option Int:=
 some x5
def wL(b:List Int)(at_ width:Int):(Int×Int)->Option (Step (Int×Int) Int)
 |(x3,x4)=>(if decide (x4<(((b.take ((aY (at_+width)).toNat)).drop at_.toNat).length:Int)) then(idx ((b.take ((aY (at_+width)).toNat)).drop at_.toNat) x4).bind λx6=>some (.next (aY ((aY (256*x3))+x6),aY (x4+1))) else some (.stop (x3)))
def aMC:Int->Option Int
 |x5=>aMB x5
def qQ(b:List Int)(at_ width:Int):Option Int:=
 need (0<=(at_:Int)/\(at_:Int)<=(aY (at_+width):Int)/\(aY (at_+width):Int)<=(b.length:Int)) ((loop (wL b at_ width) (0,0)).bind (aMC))
def LP(x:Int):Option Bool:=
 some (x != 0)
def MP(b:List Int):Option Bool:=
 (cT b (λy0=>LP y0)).bind λx1=>some (!x1)
def aP1:Option Bool:=
 some true
def sW(h:Heap)(page x1 x4:Int):Int->Option (Step Int (Out Unit Bool))
 |x6=>(if decide (x6<x4) then(xR x1).bind λx7=>(qQ ((h.Bytes.take ((aY ((aY (page+1))*64)).toNat)).drop ((aY (page*64)).toNat)) (aY (8+(aY (x6*x7)))) 4).bind λx8=>(bS x8 1 7).bind λx9=>(if !x9 then some (.stop (Out.ret false)) else some (.next (aY (x6+1)))) else some (.stop (Out.brk ())))
def aP2:(Out Unit Bool)->Option Bool
 |.brk ()=>aP1
 |.ret r=>some r
def kJ(h:Heap)(page x1:Int)(x3:Bool):Option Bool:=
 (if x3 then some false else(qP x1).bind λx4=>(loop (sW h page x1 x4) 0).bind (aP2))
def TH(h:Heap)(page:Int):Option Bool:=
 (idx h.Class page).bind λx1=>need (0<=(aY (page*64):Int)/\(aY (page*64):Int)<=(aY ((aY (page+1))*64):Int)/\(aY ((aY (page+1))*64):Int)<=(h.Bytes.length:Int)) ((if decide (x1<0) then(MP ((h.Bytes.take ((aY ((aY (page+1))*64)).toNat)).drop ((aY (page*64)).toNat))).bind λx2=>some x2 else(idx ((h.Bytes.take ((aY ((aY (page+1))*64)).toNat)).drop ((aY (page*64)).toNat)) 0).bind λx10=>(if x10 != 171 then kJ h page x1 true else(idx ((h.Bytes.take ((aY ((aY (page+1))*64)).toNat)).drop ((aY (page*64)).toNat)) 1).bind λx11=>(if x11 != x1 then kJ h page x1 true else(idx ((h.Bytes.take ((aY ((aY (page+1))*64)).toNat)).drop ((aY (page*64)).toNat)) 2).bind λx12=>(qP x1).bind λx13=>(if x12 != x13 then kJ h page x1 true else need (0<=(3:Int)/\(3:Int)<=(8:Int)/\(8:Int)<=(((h.Bytes.take ((aY ((aY (page+1))*64)).toNat)).drop ((aY (page*64)).toNat)).length:Int)) ((MP ((((h.Bytes.take ((aY ((aY (page+1))*64)).toNat)).drop ((aY (page*64)).toNat)).take ((8:Int).toNat)).drop ((3:Int).toNat))).bind λx14=>kJ h page x1 (!x14)))))))
def aP3:Option Bool:=
 some true
def zP(h:Heap):Int->Option (Step Int (Out Unit Bool))
 |x3=>(if decide (x3<6) then(TH h x3).bind λx4=>(if !x4 then some (.stop (Out.ret false)) else some (.next (aY (x3+1)))) else some (.stop (Out.brk ())))
def aP4:(Out Unit Bool)->Option Bool
 |.brk ()=>aP3
 |.ret r=>some r
def MQ(h:Heap):Option Bool:=
 (MO h).bind λx1=>(if !x1 then some false else(loop (zP h) 0).bind (aP4))
def HY(page index:Int)(x1:Bool):Option Int:=
 (if x1 then some (-1) else some (aY ((aY (page*4))+index)))
def TJ(page index:Int):Option Int:=
 (bS page 0 5).bind λx2=>(if !x2 then HY page index true else(bS index 0 3).bind λx3=>HY page index (!x3))
def aTO(c:Int)(x1:Heap)(x2:Int)(x13 x14:List Int):Option (Heap×(List Int)):=
 some ((⟨x14,x1.Class.set x2.toNat c⟩:Heap),x13)
def UO(x10:List Int)(x11 x15:Int)(x16:List Int):Option (Step ((List Int)×Int×(List Int)) ((List Int)×(List Int))):=
 need (x10.length+([x15]).length<=1073741824) (some (.next (x10++([x15]),aY (x11+1),x16)))
def LQ(c x2 x6:Int):((List Int)×Int×(List Int))->Option (Step ((List Int)×Int×(List Int)) ((List Int)×(List Int)))
 |(x10,x11,x12)=>(if decide (x11<x6) then(TJ x2 x11).bind λx15=>(zO x15 c).bind λx17=>(m8 1 4).bind λx18=>(oB x12 x17 x18).bind λx19=>UO x10 x11 x15 x19 else some (.stop ((x10,x12))))
def aTP(c:Int)(x1:Heap)(x2:Int):((List Int)×(List Int))->Option (Heap×(List Int))
 |(x13,x14)=>aTO c x1 x2 x13 x14
def UP(c:Int)(x1:Heap)(x2:Int)(x5:List Int):Option (Heap×(List Int)):=
 (qP c).bind λx6=>(loop (LQ c x2 x6) (([]:List Int),0,x5)).bind (aTP c x1 x2)
def DE(c:Int)(x1:Heap)(x2:Int)(x3:Bool):Option (Heap×(List Int)):=
 (if x3 then some (x1,([]:List Int)) else(idx x1.Class x2).bind λx4=>need (0<=(aY (x2*64):Int)/\(aY (x2*64):Int)<=(x1.Bytes.length:Int))<|(qP c).bind λx20=>UP c x1 x2 (dA x1.Bytes ((aY (x2*64)).toNat) ([171,c,x20]:List Int)))
def KT(h:Heap)(c:Int):Option (Heap×(List Int)):=
 (xT h).bind λx1=>(oN h.Class (-1)).bind λx2=>(MQ h).bind λx21=>(if !x21 then DE c x1 x2 true else(lT c).bind λx22=>(if !x22 then DE c x1 x2 true else DE c x1 x2 (decide (x2<0))))
def NP(x4:Int)(x5:Mem):Option (Mem×Int):=
 some (x5,x4)
def NQ(c:Int)(x1:Heap×(List Int))(x2:Mem):Option (Mem×Int):=
 (if(x1.2.length:Int) == 0 then some (x2,(-1)) else(idx x2.aC.Global c).bind λx3=>need (0<=(1:Int)/\(1:Int)<=(x1.2.length:Int)) (need (x3.aV.length+((x1.2.take x1.2.length).drop ((1:Int).toNat)).length<=1073741824) ((idx x1.2 0).bind λx6=>NP x6 (⟨x2.Heap,(⟨x2.aC.Global.set c.toNat (⟨x3.aV++((x1.2.take x1.2.length).drop ((1:Int).toNat))⟩:bJ),x2.aC.Own⟩:aC)⟩:Mem))))
def PI(m:Mem)(c:Int):Option (Mem×Int):=
 (KT m.Heap c).bind λx1=>(jH m.aC).bind λx7=>NQ c x1 (⟨x1.1,x7⟩:Mem)
def ER(h:Heap)(slot:Int)(x1:Bool):Option Int:=
 (if x1 then some (-1) else(idx h.Class (aY (Int.tdiv slot 4))).bind λx2=>some x2)
def kK(h:Heap)(slot:Int):Option Int:=
 (uQ slot).bind λx3=>(if !x3 then ER h slot true else(idx h.Class (aY (Int.tdiv slot 4))).bind λx4=>(zO slot x4).bind λx5=>ER h slot (decide (x5<0)))
def HZ(h:Heap)(slot:Int):Option Int:=
 (MO h).bind λx1=>(if !x1 then some (-1) else(kK h slot).bind λx2=>some x2)
def FU(h:Heap)(slot:Int):Option Int:=
 (HZ h slot).bind λx1=>(if decide (x1<0) then some 0 else(zO slot x1).bind λx2=>(qQ h.Bytes x2 4).bind λx3=>some x3)
def A9(slot gen:Int)(x1:Bool):Option Int:=
 (if x1 then some 0 else some (aY ((aY (gen*32))+slot)))
def UQ(slot gen:Int):Option Int:=
 (uQ slot).bind λx2=>(if !x2 then A9 slot gen true else(bS gen 1 6).bind λx3=>A9 slot gen (!x3))
def LR(m:Mem)(slot:Int):Option Int:=
 (FU m.Heap slot).bind λx1=>(UQ slot x1).bind λx2=>some x2
def jF(s:Sub)(x3:Int)(x4:aA):Option (Sub×aA):=
 (if decide (0<=x3) then(LR x4.Mem x3).bind λx5=>(bO ({s with Out:=x5}:Sub) 0).bind λx6=>some (x6,x4) else(if s.Pc == 3 then(bO s 3).bind λx7=>some (x7,x4) else some (({s with Pc:=aY (s.Pc+1)}:Sub),x4)))
def pD(s:Sub)(b:aA)(x1:Int)(x9:Bool):Option (Sub×aA):=
 (if x9 then(EO b.Mem.aC x1).bind λx10=>jF s x10.2 ({b with Mem:=(⟨b.Mem.Heap,x10.1⟩:Mem)}:aA) else(if s.Pc == 2 then(PI b.Mem x1).bind λx11=>jF s x11.2 ({b with Mem:=x11.1}:aA) else(bO s 1).bind λx12=>some (x12,b)))
def vD(s:Sub)(b:aA)(w_:Int):Option (Sub×aA):=
 (PF s.A).bind λx1=>(if decide (x1<0) then(bO s 2).bind λx2=>some (x2,b) else(if s.Pc == 0 then(PG b.Mem.aC w_ x1).bind λx8=>jF s x8.2 ({b with Mem:=(⟨b.Mem.Heap,x8.1⟩:Mem)}:aA) else(if s.Pc == 1 then pD s b x1 true else pD s b x1 (s.Pc == 3))))
def BA(x1:Bool):Option Bool:=
 some x1
def iW(h:Int):Option Bool:=
 (bS h 32 223).bind λx2=>(if x2 then BA (decide ((Int.tmod h 32)<24)) else BA false)
def jA(s:List Int)(v:Int):Option Bool:=
 (oN s v).bind λx1=>some (decide (0<=x1))
def rO(s:bJ)(k0:Int):Option Bool:=
 (jA s.aV k0).bind λx1=>some x1
def CG:Option Int:=
 some (-1)
def lE(s:List bJ)(f:(bJ->Option Bool)):Int->Option (Step Int (Out Unit Int))
 |x2=>(if decide (x2<(s.length:Int)) then(idx s x2).bind λx3=>(f x3).bind λx4=>(if x4 then some (.stop (Out.ret x2)) else some (.next (aY (x2+1)))) else some (.stop (Out.brk ())))
def CH:(Out Unit Int)->Option Int
 |.brk ()=>CG
 |.ret r=>some r
def vF(s:List bJ)(f:(bJ->Option Bool)):Option Int:=
 (loop (lE s f) 0).bind (CH)
def i5(s:List bJ)(f:(bJ->Option Bool)):Option Bool:=
 (vF s f).bind λx1=>some (decide (0<=x1))
def H0(x1:Bool):Option Bool:=
 some x1
def MR(l:aC)(slot:Int):Option Bool:=
 (i5 l.Global (λy0=>rO y0 slot)).bind λx2=>(if x2 then H0 true else(i5 l.Own (λy0=>rO y0 slot)).bind λx3=>H0 x3)
def H3(m:Mem)(slot:Int):Option Int:=
 (kK m.Heap slot).bind λx1=>(if decide (x1<0) then some 0 else(MR m.aC slot).bind λx2=>(if x2 then some 1 else(FU m.Heap slot).bind λx3=>(if decide (6<x3) then some 2 else some 3)))
def zQ(x1:Bool):Option Bool:=
 some x1
def qR(m:Mem)(h:Int):Option Bool:=
 (iW h).bind λx2=>(if x2 then(H3 m (Int.tmod h 32)).bind λx3=>(if x3 == 3 then(FU m.Heap (Int.tmod h 32)).bind λx4=>zQ (x4 == (aY (Int.tdiv h 32))) else zQ false) else zQ false)
def CI:Option Int:=
 some (-1)
def lF(s:List bT)(f:(bT->Option Bool)):Int->Option (Step Int (Out Unit Int))
 |x2=>(if decide (x2<(s.length:Int)) then(idx s x2).bind λx3=>(f x3).bind λx4=>(if x4 then some (.stop (Out.ret x2)) else some (.next (aY (x2+1)))) else some (.stop (Out.brk ())))
def CJ:(Out Unit Int)->Option Int
 |.brk ()=>CI
 |.ret r=>some r
def vG(s:List bT)(f:(bT->Option Bool)):Option Int:=
 (loop (lF s f) 0).bind (CJ)
def i6(s:List bT)(f:(bT->Option Bool)):Option Bool:=
 (vG s f).bind λx1=>some (decide (0<=x1))
def DF:Option Int:=
 some (-1)
def lU(s:List eB)(f:(eB->Option Bool)):Int->Option (Step Int (Out Unit Int))
 |x2=>(if decide (x2<(s.length:Int)) then(idx s x2).bind λx3=>(f x3).bind λx4=>(if x4 then some (.stop (Out.ret x2)) else some (.next (aY (x2+1)))) else some (.stop (Out.brk ())))
def DG:(Out Unit Int)->Option Int
 |.brk ()=>DF
 |.ret r=>some r
def yG(s:List eB)(f:(eB->Option Bool)):Option Int:=
 (loop (lU s f) 0).bind (DG)
def jI(s:List eB)(f:(eB->Option Bool)):Option Bool:=
 (yG s f).bind λx1=>some (decide (0<=x1))
def sD(x1:Bool):Option Bool:=
 some x1
def sY(r_:eB)(k0:Int):Option Bool:=
 (iW r_.Handle).bind λx2=>(if x2 then sD ((Int.tmod r_.Handle 32) == k0) else sD false)
def H4(own:bT)(k0:Int):Option Bool:=
 (jI own.Rows (λy0=>sY y0 k0)).bind λx1=>some x1
def vH(l:List bT)(slot:Int):Option Bool:=
 (i6 l (λy0=>H4 y0 slot)).bind λx1=>some x1
def yQ(s:List eB):Option (List eB):=
 need (([]:List eB).length+s.length<=1073741824) (some (([]:List eB)++s))
def aHR(x5:List bT):Option (List bT):=
 some x5
def H5(l:List bT):((List bT)×Int)->Option (Step ((List bT)×Int) (List bT))
 |(x3,x4)=>(if decide (x4<(l.length:Int)) then(idx l x4).bind λx6=>(yQ x6.Rows).bind λx7=>need (x3.length+([(⟨x7⟩:bT)]).length<=1073741824) (some (.next (x3++([(⟨x7⟩:bT)]),aY (x4+1)))) else some (.stop (x3)))
def aHS:(List bT)->Option (List bT)
 |x5=>aHR x5
def l6(l:List bT):Option (List bT):=
 (loop (H5 l) (([]:List bT),0)).bind (aHS)
def aHT(x5:Int):Option Int:=
 some x5
def qS(l:List bT):(Int×Int)->Option (Step (Int×Int) Int)
 |(x3,x4)=>(if decide (x4<(l.length:Int)) then(idx l x4).bind λx6=>some (.next (aY (x3+(x6.Rows.length:Int)),aY (x4+1))) else some (.stop (x3)))
def aHU:Int->Option Int
 |x5=>aHT x5
def H6(l:List bT):Option Int:=
 (loop (qS l) (0,0)).bind (aHU)
def ZJ(l:List bT):Option Bool:=
 (H6 l).bind λx5=>some (decide (x5<=24))
def ZK(x3:Int)(x11:List Bool):Option (Step (Int×(List Bool)) (Out Unit Bool)):=
 some (.next (aY (x3+1),x11))
def m9(x9:Int)(x10:List Bool)(x12:eB)(x13:Bool):Option (Step (Int×(List Bool)) (Out (List Bool) Bool)):=
 (if x13 then some (.stop (Out.ret false)) else need (0<=(Int.tmod x12.Handle 32:Int)/\(Int.tmod x12.Handle 32:Int)<24) ((idx (x10:List Bool) (Int.tmod x12.Handle 32)).bind λx14=>some (.next (aY (x9+1),x10.set ((Int.tmod x12.Handle 32).toNat) true))))
def wM(x6:bT):(Int×(List Bool))->Option (Step (Int×(List Bool)) (Out (List Bool) Bool))
 |(x9,x10)=>(if decide (x9<(x6.Rows.length:Int)) then(idx x6.Rows x9).bind λx12=>(iW x12.Handle).bind λx15=>(if !x15 then m9 x9 x10 x12 true else(bS x12.aJ 0 100000).bind λx16=>(if !x16 then m9 x9 x10 x12 true else need (0<=(Int.tmod x12.Handle 32:Int)/\(Int.tmod x12.Handle 32:Int)<24) ((idx (x10:List Bool) (Int.tmod x12.Handle 32)).bind λx17=>m9 x9 x10 x12 x17))) else some (.stop (Out.brk x10)))
def ZL(x3:Int):(Out (List Bool) Bool)->Option (Step (Int×(List Bool)) (Out Unit Bool))
 |.brk x11=>ZK x3 x11
 |.ret r=>some (.stop (Out.ret r))
def wN(l:List bT):(Int×(List Bool))->Option (Step (Int×(List Bool)) (Out Unit Bool))
 |(x3,x4)=>(if decide (x3<(l.length:Int)) then(idx l x3).bind λx6=>(loop (wM x6) (0,x4)).bind (ZL x3) else some (.stop (Out.brk ())))
def ZM(l:List bT):(Out Unit Bool)->Option Bool
 |.brk ()=>ZJ l
 |.ret r=>some r
def vI(l:List bT):Option Bool:=
 (if(l.length:Int) != 3 then some false else(loop (wN l) (0,List.replicate 24 false)).bind (ZM l))
def BC(l:List bT)(w_ h e_:Int)(x1:Bool):Option ((List bT)×Bool):=
 (if x1 then(l6 l).bind λx2=>some (x2,false) else(l6 l).bind λx3=>(idx x3 w_).bind λx4=>need (x4.Rows.length+([(⟨h,e_⟩:eB)]).length<=1073741824) ((vI (x3.set w_.toNat (⟨x4.Rows++([(⟨h,e_⟩:eB)])⟩:bT))).bind λx5=>(if !x5 then(l6 l).bind λx6=>some (x6,false) else some (x3.set w_.toNat (⟨x4.Rows++([(⟨h,e_⟩:eB)])⟩:bT),true))))
def LS(l:List bT)(w_ h e_:Int):Option ((List bT)×Bool):=
 (vI l).bind λx7=>(if !x7 then BC l w_ h e_ true else(iD w_).bind λx8=>BC l w_ h e_ (!x8))
def nS(s:Sub)(b:aA)(w_:Int)(x3:Bool):Option (Sub×aA):=
 (if x3 then(bO s 4).bind λx4=>some (x4,b) else(LS b.aM w_ s.A s.E).bind λx5=>(bO s 0).bind λx6=>some (x6,({b with aM:=x5.1}:aA)))
def nT(s:Sub)(b:aA)(w_:Int)(x1:Bool):Option (Sub×aA):=
 (if x1 then(bO s 1).bind λx2=>some (x2,b) else(qR b.Mem s.A).bind λx7=>(if !x7 then nS s b w_ true else(vH b.aM (Int.tmod s.A 32)).bind λx8=>nS s b w_ x8))
def sE(s:Sub)(b:aA)(w_:Int):Option (Sub×aA):=
 (if s.Pc == 0 then some (({s with Pc:=1,E:=b.aD.aJ}:Sub),b) else(if s.Pc != 1 then nT s b w_ true else(bS s.E 0 b.aD.aJ).bind λx9=>nT s b w_ (!x9)))
def BD(s:List yN):Option (List yN):=
 need (([]:List yN).length+s.length<=1073741824) (some (([]:List yN)++s))
def l9(c:aD):Option aD:=
 (BD c.cG).bind λx1=>some (⟨c.aJ,x1⟩:aD)
def GM:Option Int:=
 some (-1)
def jY(s:List yN)(f:(yN->Option Bool)):Int->Option (Step Int (Out Unit Int))
 |x2=>(if decide (x2<(s.length:Int)) then(idx s x2).bind λx3=>(f x3).bind λx4=>(if x4 then some (.stop (Out.ret x2)) else some (.next (aY (x2+1)))) else some (.stop (Out.brk ())))
def sZ:(Out Unit Int)->Option Int
 |.brk ()=>GM
 |.ret r=>some r
def zR(s:List yN)(f:(yN->Option Bool)):Option Int:=
 (loop (jY s f) 0).bind (sZ)
def mS(s:List yN)(f:(yN->Option Bool)):Option Bool:=
 (zR s f).bind λx1=>some (decide (0<=x1))
def mT(x1:Bool):Option Bool:=
 some x1
def zS(p:yN)(k0:aD):Option Bool:=
 (bS p.aJ 0 k0.aJ).bind λx2=>(if !x2 then mT true else(bS p.Seen 0 2).bind λx3=>(if !x3 then mT true else(if !p.On then mT (!(decide (p=(⟨false,0,false,0⟩:yN)))) else mT false)))
def wO(x1:Bool):Option Bool:=
 some x1
def qT(c:aD):Option Bool:=
 (bS c.aJ 0 100000).bind λx2=>(if x2 then(if(c.cG.length:Int) == 3 then(mS c.cG (λy0=>zS y0 c)).bind λx3=>wO (!x3) else wO false) else wO false)
def tC(w_:Int)(x1:aD)(x4:Bool):Option (aD×Bool):=
 (if x4 then some (x1,true) else(idx x1.cG w_).bind λx5=>(if decide (x5.Seen<2) then some ((⟨x1.aJ,x1.cG.set w_.toNat ({x5 with Seen:=aY (x5.Seen+1)}:yN)⟩:aD),false) else some ((⟨x1.aJ,x1.cG.set w_.toNat ({x5 with gG:=true,Seen:=0}:yN)⟩:aD),true)))
def H7(w_ e_:Int)(x1:aD)(x2:Bool):Option (aD×Bool):=
 (if x2 then some (x1,false) else(idx x1.cG w_).bind λx3=>(if !x3.On then tC w_ x1 true else(if x3.gG then tC w_ x1 true else tC w_ x1 (x3.aJ == e_))))
def TL(c:aD)(w_ e_:Int):Option (aD×Bool):=
 (l9 c).bind λx1=>(qT c).bind λx6=>(if !x6 then H7 w_ e_ x1 true else(iD w_).bind λx7=>H7 w_ e_ x1 (!x7))
def H8(x1:aD)(x2:Bool):Option (aD×Bool):=
 (if x2 then some (x1,false) else some ((⟨aY (x1.aJ+1),x1.cG⟩:aD),true))
def aDK(c:aD)(e_:Int):Option (aD×Bool):=
 (l9 c).bind λx1=>(qT c).bind λx3=>(if !x3 then H8 x1 true else(if c.aJ != e_ then H8 x1 true else H8 x1 (c.aJ == 100000)))
def mU(s:Sub)(b:aA)(x4:aD×Bool)(x5:Int):Option (Sub×aA):=
 (bO ({s with Out:=x5}:Sub) 0).bind λx6=>some (x6,({b with aD:=x4.1}:aA))
def mV(s:Sub)(b:aA)(x1:Bool):Option (Sub×aA):=
 (if x1 then(TL b.aD s.B s.E).bind λx2=>(if !x2.2 then(bO s 8).bind λx3=>some (x3,({b with aD:=x2.1}:aA)) else(if(aY (s.B+1)) == 3 then some (({s with Pc:=2,B:=aY (s.B+1)}:Sub),({b with aD:=x2.1}:aA)) else some (({s with B:=aY (s.B+1)}:Sub),({b with aD:=x2.1}:aA)))) else(if s.Pc == 2 then(aDK b.aD s.E).bind λx4=>(if x4.2 then mU s b x4 1 else mU s b x4 s.Out) else(bO s 1).bind λx7=>some (x7,b)))
def qU(s:Sub)(b:aA):Option (Sub×aA):=
 (if s.Pc == 0 then some (({s with Pc:=1,E:=b.aD.aJ,B:=0}:Sub),b) else(if s.Pc == 1 then(iD s.B).bind λx8=>mV s b x8 else mV s b false))
def RB(x3 x5:List Int):Option (Heap×Bool):=
 some ((⟨x5,x3⟩:Heap),true)
def H9(slot gen x1:Int)(x2 x3:List Int)(x4:Bool):Option (Heap×Bool):=
 (if x4 then some ((⟨x2,x3⟩:Heap),false) else(zO slot x1).bind λx6=>(m8 gen 4).bind λx7=>(oB x2 x6 x7).bind λx8=>RB x3 x8)
def RC(slot gen x1:Int)(x2 x3:List Int):Option (Heap×Bool):=
 (if decide (x1<0) then H9 slot gen x1 x2 x3 true else(bS gen 1 7).bind λx9=>H9 slot gen x1 x2 x3 (!x9))
def aA9(h:Heap)(slot gen:Int):Option (Heap×Bool):=
 (xT h).bind λx10=>(HZ h slot).bind λx11=>RC slot gen x11 x10.Bytes x10.Class
def BE(c slot:Int)(x1:aC)(x2:Int)(x3:Bool):Option (aC×Bool):=
 (if x3 then some (x1,false) else(idx x1.Own x2).bind λx4=>(if decide (2<=(x4.aV.length:Int)) then(idx x1.Global c).bind λx5=>need (x5.aV.length+([slot]).length<=1073741824) (some ((⟨x1.Global.set c.toNat (⟨x5.aV++([slot])⟩:bJ),x1.Own⟩:aC),true)) else need (x4.aV.length+([slot]).length<=1073741824) (some ((⟨x1.Global,x1.Own.set x2.toNat (⟨x4.aV++([slot])⟩:bJ)⟩:aC),true))))
def aJN(l:aC)(w_ c slot:Int):Option (aC×Bool):=
 (jH l).bind λx1=>(QZ w_ c).bind λx2=>(qO l).bind λx6=>(if !x6 then BE c slot x1 x2 true else(if decide (x2<0) then BE c slot x1 x2 true else(uQ slot).bind λx7=>(if !x7 then BE c slot x1 x2 true else(MR l slot).bind λx8=>BE c slot x1 x2 x8)))
def UR(x3:Mem):Option Mem:=
 some x3
def US(m:Mem)(w_ h:Int)(x2:Mem):Option Mem:=
 (if decide ((aY ((aY (Int.tdiv h 32))+1))<=6) then(kK m.Heap (Int.tmod h 32)).bind λx4=>(aJN m.aC w_ x4 (Int.tmod h 32)).bind λx5=>UR (⟨x2.Heap,x5.1⟩:Mem) else UR x2)
def RD(m:Mem)(w_ h:Int):Option Mem:=
 (aA9 m.Heap (Int.tmod h 32) (aY ((aY (Int.tdiv h 32))+1))).bind λx1=>(jH m.aC).bind λx6=>US m w_ h (⟨x1.1,x6⟩:Mem)
def IA(x1:Bool):Option Bool:=
 some x1
def MS(l:List bT)(w_ i:Int):Option Bool:=
 (iD w_).bind λx2=>(if x2 then(idx l w_).bind λx3=>(bS i 0 (aY ((x3.Rows.length:Int)-1))).bind λx4=>IA x4 else IA false)
def PJ(x1:Bool):Option Bool:=
 some x1
def WC(r_:eB)(e_:Int):Option Bool:=
 (if decide (2<=e_) then PJ (decide (r_.aJ<=(aY (e_-2)))) else PJ false)
def MT(s:Sub)(b:aA):Option (Sub×aA):=
 (bO s 0).bind λx3=>some (x3,b)
def fZ(s:Sub)(b:aA)(w_:Int):Int->Option (Step Int (Out Unit (Sub×aA)))
 |x2=>(idx b.aM w_).bind λx4=>(if decide (x2<(x4.Rows.length:Int)) then(idx x4.Rows x2).bind λx5=>(WC x5 s.E).bind λx6=>(if x6 then some (.stop (Out.ret (({s with Pc:=2,Row:=x2,B:=0,H:=x5.Handle}:Sub),b))) else some (.next (aY (x2+1)))) else some (.stop (Out.brk ())))
def aBA(s:Sub)(b:aA):(Out Unit (Sub×aA))->Option (Sub×aA)
 |.brk ()=>MT s b
 |.ret r=>some r
def qV(s:Sub)(b:aA)(w_:Int):Option (Sub×aA):=
 (loop (fZ s b w_) (if s.Row<0 then 0 else s.Row)).bind (aBA s b)
def FV(s:List eB)(i j:Int):Option (List eB):=
 need (0<=(i:Int)/\(i:Int)<=(j:Int)/\(j:Int)<=((s.length:Int):Int)/\((s.length:Int):Int)<=(s.length:Int)) ((if i == j then some s else need (0<=(i:Int)/\(i:Int)<=(s.length:Int)) (need (0<=(j:Int)/\(j:Int)<=(s.length:Int)) (need (i.toNat<=j.toNat) (need (0<=(((((dA s i.toNat (s.drop j.toNat)).take (i.toNat+(s.length-j.toNat))).drop 0).length:Int):Int)/\(((((dA s i.toNat (s.drop j.toNat)).take (i.toNat+(s.length-j.toNat))).drop 0).length:Int):Int)<=((s.length:Int):Int)/\((s.length:Int):Int)<=((dA s i.toNat (s.drop j.toNat)).length:Int)) (some (((dA s i.toNat (s.drop j.toNat)).take (i.toNat+(s.length-j.toNat))).drop 0)))))))
def ES(w_ i:Int)(x1:(List bT))(x2:Bool):Option ((List bT)×Bool):=
 (if x2 then some (x1,false) else(idx x1 w_).bind λx3=>(FV x3.Rows i (aY (i+1))).bind λx4=>some (x1.set w_.toNat (⟨x4⟩:bT),true))
def PK(l:List bT)(w_ i:Int):Option ((List bT)×Bool):=
 (l6 l).bind λx1=>(vI l).bind λx5=>(if !x5 then ES w_ i x1 true else(MS l w_ i).bind λx6=>ES w_ i x1 (!x6))
def dV(s:Sub)(b:aA)(w_:Int)(x5:Bool):Option (Sub×aA):=
 (if x5 then(PK b.aM w_ s.Row).bind λx6=>(RD b.Mem w_ s.H).bind λx7=>some (({s with Pc:=1,Out:=aY (s.Out+1)}:Sub),({b with Mem:=x7,aM:=x6.1}:aA)) else(bO s 1).bind λx8=>some (x8,b))
def fJ(s:Sub)(b:aA)(w_:Int)(x1 x3:Bool):Option (Sub×aA):=
 (if x3 then(idx b.lX s.B).bind λx4=>(if x4 == s.H then some (({s with Pc:=1,Row:=aY (s.Row+1)}:Sub),b) else(if(aY (s.B+1)) == 3 then some (({s with Pc:=3,B:=aY (s.B+1)}:Sub),b) else some (({s with B:=aY (s.B+1)}:Sub),b))) else(if s.Pc == 3 then(if x1 then(idx b.aM w_).bind λx9=>(idx x9.Rows s.Row).bind λx10=>(WC x10 s.E).bind λx11=>dV s b w_ x11 else dV s b w_ false) else dV s b w_ false))
def gT(s:Sub)(b:aA)(w_:Int)(x1:Bool):Option (Sub×aA):=
 (if s.Pc == 0 then some (({s with Pc:=1,E:=b.aD.aJ,Row:=0}:Sub),b) else(if s.Pc == 1 then(qV s b w_).bind λx2=>some (x2.1,x2.2) else(if s.Pc == 2 then(iD s.B).bind λx12=>(if x12 then fJ s b w_ x1 x1 else fJ s b w_ x1 false) else fJ s b w_ x1 false)))
def qW(s:Sub)(b:aA)(w_:Int):Option (Sub×aA):=
 (MS b.aM w_ s.Row).bind λx13=>(if x13 then(idx b.aM w_).bind λx14=>(idx x14.Rows s.Row).bind λx15=>gT s b w_ (x15.Handle == s.H) else gT s b w_ false)
def DH(w_ e_:Int)(x1:aD)(x2:Bool):Option (aD×Bool):=
 (if x2 then some (x1,false) else(idx x1.cG w_).bind λx3=>some ((⟨x1.aJ,x1.cG.set w_.toNat (⟨true,e_,false,0⟩:yN)⟩:aD),true))
def XR(c:aD)(w_ e_:Int):Option (aD×Bool):=
 (l9 c).bind λx1=>(qT c).bind λx4=>(if !x4 then DH w_ e_ x1 true else(iD w_).bind λx5=>(if !x5 then DH w_ e_ x1 true else(bS e_ 0 c.aJ).bind λx6=>DH w_ e_ x1 (!x6)))
def CQ(s:Sub)(b:aA)(x1:Bool)(x2:Int)(x3:List yN):Option (Sub×aA):=
 (if !x1 then(bO s 1).bind λx4=>some (x4,b) else some (({s with Pc:=2}:Sub),({b with aD:=(⟨x2,x3⟩:aD)}:aA)))
def BF(s:Sub)(b:aA)(w_:Int):Option (Sub×aA):=
 (if s.Pc == 0 then some (({s with Pc:=1,E:=b.aD.aJ}:Sub),b) else(if s.Pc == 1 then(XR b.aD w_ s.E).bind λx5=>CQ s b x5.2 x5.1.aJ x5.1.cG else(if s.Pc == 2 then(if b.aD.aJ == s.E then(bO s 0).bind λx6=>some (x6,b) else some (({s with Pc:=0}:Sub),b)) else(bO s 1).bind λx7=>some (x7,b))))
def rP(s:Sub)(b:aA)(w_:Int):Option (Sub×aA):=
 (if s.iB then some (s,b) else(if s.Kind == 1 then(vD s b w_).bind λx1=>some (x1.1,x1.2) else(if s.Kind == 2 then(sE s b w_).bind λx2=>some (x2.1,x2.2) else(if s.Kind == 3 then(qU s b).bind λx3=>some (x3.1,x3.2) else(if s.Kind == 4 then(qW s b w_).bind λx4=>some (x4.1,x4.2) else(if s.Kind == 5 then(BF s b w_).bind λx5=>some (x5.1,x5.2) else(bO s 1).bind λx6=>some (x6,b)))))))
def vJ(t:Table)(w_:Int):Option Table:=
 (idx t.aQ w_).bind λx1=>(rP x1.Sub t.aA w_).bind λx2=>(if !x2.1.iB then some ({t with aA:=x2.2,aQ:=t.aQ.set w_.toNat ({x1 with Sub:=x2.1}:aI)}:Table) else(if x1.Pc == 0 then some ({t with aA:=x2.2,aQ:=t.aQ.set w_.toNat ({x1 with Pc:=1,Sub:=x2.1}:aI)}:Table) else(if x1.Pc == 20 then(lZ 4 0).bind λx3=>some ({t with aA:=x2.2,aQ:=t.aQ.set w_.toNat ({x1 with Pc:=21,Sub:=x3}:aI)}:Table) else some ({t with aA:=x2.2,aQ:=t.aQ.set w_.toNat ({x1 with Pc:=19,Sub:=x2.1}:aI)}:Table))))
def qX(j:aI):Option (kG×Bool×aI):=
 (bS j.At 0 (aY ((j.Batch.bW.length:Int)-1))).bind λx1=>(if !x1 then some ((⟨0,0,0⟩:kG),false,j) else(idx j.Batch.bW j.At).bind λx2=>some (x2,true,j))
def cV(j:aI)(code:Int):Option aI:=
 some ({j with Pc:=16,Code:=code}:aI)
def oY(s:List aX):Option (List aX):=
 need (([]:List aX).length+s.length<=1073741824) (some (([]:List aX)++s))
def SK:Option Int:=
 some (-1)
def pQ(s:List aX)(f:(aX->Option Bool)):Int->Option (Step Int (Out Unit Int))
 |x2=>(if decide (x2<(s.length:Int)) then(idx s x2).bind λx3=>(f x3).bind λx4=>(if x4 then some (.stop (Out.ret x2)) else some (.next (aY (x2+1)))) else some (.stop (Out.brk ())))
def SL:(Out Unit Int)->Option Int
 |.brk ()=>SK
 |.ret r=>some r
def dC(s:List aX)(f:(aX->Option Bool)):Option Int:=
 (loop (pQ s f) 0).bind (SL)
def zT(x8:List aX)(x9:Int):Option (List aX):=
 need (0<=(x9:Int)/\(x9:Int)<=(x8.length:Int)) (need (0<=(x9:Int)/\(x9:Int)<=((dA x8 x9.toNat (List.replicate (x8.length-x9.toNat) (⟨0,false,0⟩:aX))).length:Int)) (some (((dA x8 x9.toNat (List.replicate (x8.length-x9.toNat) (⟨0,false,0⟩:aX))).take x9.toNat).drop 0)))
def iQ(x7:Int)(x10:List aX)(x11:Int):Option (Step ((List aX)×Int×Int) ((List aX)×Int)):=
 some (.next (x10,x11,aY (x7+1)))
def kL(del:(aX->Option Bool)):((List aX)×Int×Int)->Option (Step ((List aX)×Int×Int) ((List aX)×Int))
 |(x5,x6,x7)=>(if decide (x7<(x5.length:Int)) then(idx x5 x7).bind λx12=>(del x12).bind λx13=>(if !x13 then(idx x5 x6).bind λx14=>iQ x7 (x5.set x6.toNat x12) (aY (x6+1)) else iQ x7 x5 x6) else some (.stop ((x5,x6))))
def zU:((List aX)×Int)->Option (List aX)
 |(x8,x9)=>zT x8 x9
def jZ(s:List aX)(del:(aX->Option Bool)):Option (List aX):=
 (dC s del).bind λx1=>(if x1 == (-1) then some s else(loop (kL del) (s,x1,aY (x1+1))).bind (zU))
def NR(x k0:aX):Option Bool:=
 some (x.Key == k0.Key)
def ET(x k0:aX):Option Bool:=
 some (decide (k0.Key<x.Key))
def sG(s:List aX)(i:Int)(v:List aX):Option (List aX):=
 need (0<=i/\i<=(s.length:Int)/\s.length+v.length<=1073741824) (some (s.take i.toNat++v++s.drop i.toNat))
def tD(w_:aX)(x2:(List aX))(x4:Int):Option (List aX):=
 (sG x2 x4 ([w_])).bind λx5=>some x5
def LU(l:List aX)(w_:aX):Option (List aX):=
 (oY l).bind λx1=>(jZ x1 (λy0=>NR y0 w_)).bind λx2=>(dC x2 (λy0=>ET y0 w_)).bind λx3=>(if decide (x3<0) then tD w_ x2 (x2.length:Int) else tD w_ x2 x3)
def tE(j:aI)(x:aX):Option (Bool×aI):=
 (LU j.aH x).bind λx1=>(if decide (6<(x1.length:Int)) then(cV j 1).bind λx2=>some (false,x2) else some (true,({j with aH:=x1}:aI)))
def IB(x:aX)(k0:Int):Option Bool:=
 some (x.Key == k0)
def PL(l:List aX)(key:Int):Option (aX×Bool):=
 (dC l (λy0=>IB y0 key)).bind λx1=>(if decide (x1<0) then some ((⟨0,false,0⟩:aX),false) else(idx l x1).bind λx2=>some (x2,true))
def aFX(a_ b:Int):Option Int:=
 some (Int.tmod (aY (a_+b)) 65536)
def sH(x5:aI):Option aI:=
 some ({x5 with Pc:=1,At:=aY (x5.At+1)}:aI)
def nH(x2:aI)(x3:Bool)(x4:Int):Option aI:=
 need (x2.iZ.length+([(⟨x3,x4⟩:iZ)]).length<=1073741824)<|sH ({x2 with iZ:=x2.iZ++([(⟨x3,x4⟩:iZ)])}:aI)
def nI(j:aI)(c:kG)(is:Bool)(x1:Int):Option aI:=
 (if c.Kind == 4 then(aFX x1 c.fT).bind λx6=>(tE j (⟨c.Key,false,x6⟩:aX)).bind λx7=>(if !x7.1 then some x7.2 else nH x7.2 true x6) else nH j is x1)
def tF(j:aI)(c:kG)(val:Int)(is:Bool):Option aI:=
 (if !is then nI j c is 0 else nI j c is val)
def KU(key:Int):Option Int:=
 (bS key 0 99).bind λx1=>(if !x1 then some (-1) else some (Int.tmod key 2))
def IC(x1:kG×Bool×aI)(x6:Bool)(x7:aI)(x8:Int)(x9:Bool)(x10:Int):Option aI:=
 (if x6 then(tF x7 x1.1 x10 (!x9)).bind λx11=>some x11 else(KU x1.1.Key).bind λx12=>some ({x7 with Pc:=2,cQ:=x12}:aI))
def kM(x1:kG×Bool×aI)(x3:Bool)(x4:aI):Option aI:=
 (if x3 then(tE x4 (⟨x1.1.Key,x1.1.Kind == 3,x1.1.fT⟩:aX)).bind λx5=>(if x5.1 then need (x5.2.iZ.length+([(⟨false,0⟩:iZ)]).length<=1073741824) (some (⟨x5.2.cR,x5.2.Batch,x5.2.aO,x5.2.Pc,aY (x5.2.At+1),x5.2.K,x5.2.cQ,x5.2.jS,x5.2.H,x5.2.gN,x5.2.Node,x5.2.Found,x5.2.Code,x5.2.Sub,x5.2.Reads,x5.2.aH,x5.2.iZ++([(⟨false,0⟩:iZ)]),x5.2.eO,x5.2.bD,x5.2.bU⟩:aI)) else some x5.2) else(PL x4.aH x1.1.Key).bind λx13=>IC x1 x13.2 x4 x13.1.Key x13.1.KR x13.1.fT)
def ID(j:aI):Option aI:=
 (qX j).bind λx1=>(if !x1.2.1 then(lZ 1 16).bind λx2=>some (⟨x1.2.2.cR,x1.2.2.Batch,x1.2.2.aO,6,x1.2.2.At,0,x1.2.2.cQ,x1.2.2.jS,x1.2.2.H,x1.2.2.gN,x1.2.2.Node,x1.2.2.Found,x1.2.2.Code,x2,x1.2.2.Reads,x1.2.2.aH,x1.2.2.iZ,x1.2.2.eO,x1.2.2.bD,x1.2.2.bU⟩:aI) else(if x1.1.Kind == 2 then kM x1 true x1.2.2 else kM x1 (x1.1.Kind == 3) x1.2.2))
def lL(x1:Bool):Option Bool:=
 some x1
def oZ(p:yN):Option Bool:=
 (if p.On then lL (!p.gG) else lL false)
def IE(slot c:Int):Option Int:=
 (zO slot c).bind λx1=>(if decide (x1<0) then some (-1) else some (aY (x1+4)))
def BG(h:Heap)(slot:Int):Option Int:=
 (kK h slot).bind λx1=>(IE slot x1).bind λx2=>some x2
def MU(h:Heap)(slot:Int):Option gE:=
 (BG h slot).bind λx1=>(qQ h.Bytes x1 2).bind λx2=>(qQ h.Bytes (aY (x1+2)) 4).bind λx3=>(qQ h.Bytes (aY (x1+6)) 4).bind λx4=>some (⟨x2,x3,x4⟩:gE)
def IF(h:Heap)(slot:Int):Option Bool:=
 (kK h slot).bind λx1=>(zL x1).bind λx2=>some (decide (10<=x2))
def IG(m:Mem)(h:Int)(x1:Bool):Option (gE×Int):=
 (if x1 then some ((⟨0,0,0⟩:gE),4) else(IF m.Heap (Int.tmod h 32)).bind λx2=>(if !x2 then some ((⟨0,0,0⟩:gE),2) else(MU m.Heap (Int.tmod h 32)).bind λx3=>some (x3,0)))
def MV(m:Mem)(h:Int):Option (gE×Int):=
 (iW h).bind λx4=>(if !x4 then IG m h true else(kK m.Heap (Int.tmod h 32)).bind λx5=>IG m h (decide (x5<0)))
def iH(n:gE):Option Int:=
 (iW n.Next).bind λx1=>(if !x1 then some 0 else some n.Next)
def qY(s:List Seen):Option (List Seen):=
 need (([]:List Seen).length+s.length<=1073741824) (some (([]:List Seen)++s))
def UT:Option Int:=
 some (-1)
def jJ(s:List Seen)(f:(Seen->Option Bool)):Int->Option (Step Int (Out Unit Int))
 |x2=>(if decide (x2<(s.length:Int)) then(idx s x2).bind λx3=>(f x3).bind λx4=>(if x4 then some (.stop (Out.ret x2)) else some (.next (aY (x2+1)))) else some (.stop (Out.brk ())))
def DI:(Out Unit Int)->Option Int
 |.brk ()=>UT
 |.ret r=>some r
def fH(s:List Seen)(f:(Seen->Option Bool)):Option Int:=
 (loop (jJ s f) 0).bind (DI)
def IH(s:Seen)(k0:Int):Option Bool:=
 some (s.cQ == k0)
def PM(l:List Seen)(b v:Int):Option ((List Seen)×Bool):=
 (qY l).bind λx1=>(fH l (λy0=>IH y0 b)).bind λx2=>(if decide (x2<0) then need (x1.length+([(⟨b,v⟩:Seen)]).length<=1073741824) (some (x1++([(⟨b,v⟩:Seen)]),true)) else(idx l x2).bind λx3=>some (x1,x3.jS == v))
def vK(t:Table)(w_:Int)(x13:List aI)(x14:Bool):Option Table:=
 (if x14 then(idx x13 w_).bind λx15=>some ({t with aQ:=x13.set w_.toNat ({x15 with Pc:=5}:aI)}:Table) else some ({t with aQ:=x13}:Table))
def FW(t:Table)(w_:Int)(x13:List aI):Option Table:=
 (idx x13 w_).bind λx16=>(if x16.Found then vK t w_ x13 true else vK t w_ x13 (x16.H == 0))
def RE(t:Table)(x26:List aI):Option Table:=
 some ({t with aQ:=x26}:Table)
def FX(t:Table)(w_:Int)(x6:kG×Bool×aI)(x21:List Seen)(x22:Bool):Option Table:=
 (idx (t.aQ.set w_.toNat x6.2.2) w_).bind λx23=>(if !x22 then(cV ({x23 with Reads:=x21}:aI) 7).bind λx24=>some ({t with aQ:=(t.aQ.set w_.toNat x6.2.2).set w_.toNat x24}:Table) else(if !x6.2.1 then(cV ({x23 with Reads:=x21}:aI) 1).bind λx25=>some ({t with aQ:=(t.aQ.set w_.toNat x6.2.2).set w_.toNat x25}:Table) else(tF ({x23 with Reads:=x21}:aI) x6.1 x23.Node.fT x23.Found).bind λx27=>RE t ((t.aQ.set w_.toNat x6.2.2).set w_.toNat x27)))
def jT(t:Table)(w_:Int)(x6:kG×Bool×aI)(x18:Bool):Option Table:=
 (if x18 then(idx (t.aQ.set w_.toNat x6.2.2) w_).bind λx19=>(cV x19 7).bind λx20=>some ({t with aQ:=(t.aQ.set w_.toNat x6.2.2).set w_.toNat x20}:Table) else(idx (t.aQ.set w_.toNat x6.2.2) w_).bind λx28=>(PM x28.Reads x28.cQ x28.jS).bind λx29=>FX t w_ x6 x29.1 x29.2)
def FY(t:Table)(w_ x2 x3 x4:Int):Option Table:=
 (idx t.aQ w_).bind λx5=>(qX x5).bind λx6=>(if x6.2.2.Pc == 2 then(if x4 != 0 then(cV x6.2.2 7).bind λx7=>some ({t with aQ:=t.aQ.set w_.toNat x7}:Table) else(if x2 == 0 then some ({t with aQ:=t.aQ.set w_.toNat (⟨x6.2.2.cR,x6.2.2.Batch,x6.2.2.aO,5,x6.2.2.At,x6.2.2.K,x6.2.2.cQ,x3,x2,x6.2.2.gN,(⟨0,0,0⟩:gE),false,x6.2.2.Code,x6.2.2.Sub,x6.2.2.Reads,x6.2.2.aH,x6.2.2.iZ,x6.2.2.eO,x6.2.2.bD,x6.2.2.bU⟩:aI)}:Table) else some ({t with aQ:=t.aQ.set w_.toNat (⟨x6.2.2.cR,x6.2.2.Batch,x6.2.2.aO,3,x6.2.2.At,x6.2.2.K,x6.2.2.cQ,x3,x2,x6.2.2.gN,(⟨0,0,0⟩:gE),false,x6.2.2.Code,x6.2.2.Sub,x6.2.2.Reads,x6.2.2.aH,x6.2.2.iZ,x6.2.2.eO,x6.2.2.bD,x6.2.2.bU⟩:aI)}:Table))) else(if x6.2.2.Pc == 3 then(MV t.aA.Mem x6.2.2.H).bind λx8=>some ({t with aQ:=t.aQ.set w_.toNat (⟨x6.2.2.cR,x6.2.2.Batch,x6.2.2.aO,4,x6.2.2.At,x6.2.2.K,x6.2.2.cQ,x6.2.2.jS,x6.2.2.H,x6.2.2.gN,x8.1,x6.2.2.Found,x6.2.2.Code,x6.2.2.Sub,x6.2.2.Reads,x6.2.2.aH,x6.2.2.iZ,x6.2.2.eO,x6.2.2.bD,x6.2.2.bU⟩:aI)}:Table) else(if x6.2.2.Pc == 4 then(idx t.aA.aD.cG w_).bind λx9=>(oZ x9).bind λx10=>(if !x10 then(cV x6.2.2 6).bind λx11=>some ({t with aQ:=t.aQ.set w_.toNat x11}:Table) else(if !x6.2.1 then(cV x6.2.2 1).bind λx12=>some ({t with aQ:=t.aQ.set w_.toNat x12}:Table) else(iH x6.2.2.Node).bind λx17=>FW t w_ (t.aQ.set w_.toNat (⟨x6.2.2.cR,x6.2.2.Batch,x6.2.2.aO,3,x6.2.2.At,x6.2.2.K,x6.2.2.cQ,x6.2.2.jS,x17,x6.2.2.gN,x6.2.2.Node,x6.2.2.Node.Key == x6.1.Key,x6.2.2.Code,x6.2.2.Sub,x6.2.2.Reads,x6.2.2.aH,x6.2.2.iZ,x6.2.2.eO,x6.2.2.bD,x6.2.2.bU⟩:aI)))) else(if x4 != 0 then jT t w_ x6 true else jT t w_ x6 (x3 != x6.2.2.jS)))))
def EU(t:Table)(w_:Int):Option Table:=
 (idx t.aQ w_).bind λx1=>(idx t.bZ x1.cQ).bind λx30=>FY t w_ x30.Head x30.jS x30.g9
def aXB(x5:Int):Option Int:=
 some x5
def II(x4 x6:Int):Option (Step (Int×Int) Int):=
 some (.next (x6,aY (x4+1)))
def XS(l:List aX)(n:Int):(Int×Int)->Option (Step (Int×Int) Int)
 |(x3,x4)=>(if decide (x4<(((l.take ((if(if(l.length:Int)<n then(l.length:Int) else n)<0 then 0 else(if(l.length:Int)<n then(l.length:Int) else n)).toNat)).drop 0).length:Int)) then(idx ((l.take ((if(if(l.length:Int)<n then(l.length:Int) else n)<0 then 0 else(if(l.length:Int)<n then(l.length:Int) else n)).toNat)).drop 0) x4).bind λx7=>(if !x7.KR then II x4 (aY (x3+1)) else II x4 x3) else some (.stop (x3)))
def aXC:Int->Option Int
 |x5=>aXB x5
def QJ(l:List aX)(n:Int):Option Int:=
 need (0<=(if(if(l.length:Int)<n then(l.length:Int) else n)<0 then 0 else(if(l.length:Int)<n then(l.length:Int) else n):Int)/\(if(if(l.length:Int)<n then(l.length:Int) else n)<0 then 0 else(if(l.length:Int)<n then(l.length:Int) else n):Int)<=(l.length:Int)) ((loop (XS l n) (0,0)).bind (aXC))
def CR(x11:Table):Option Table:=
 some x11
def CS(w_:Int)(x10:Table):Option Table:=
 (idx x10.aQ w_).bind λx12=>(lZ 1 16).bind λx13=>CR ({x10 with aQ:=x10.aQ.set w_.toNat ({x12 with K:=aY (x12.K+1),Sub:=x13}:aI)}:Table)
def iI(w_:Int)(x6:Bool)(x7:Table):Option Table:=
 (if x6 then(idx x7.aQ w_).bind λx8=>(cV x8 x8.Sub.Code).bind λx9=>some ({x7 with aQ:=x7.aQ.set w_.toNat x9}:Table) else(idx x7.aQ w_).bind λx14=>need (x14.eO.length+([x14.Sub.Out]).length<=1073741824)<|CS w_ ({x7 with aQ:=x7.aQ.set w_.toNat ({x14 with eO:=x14.eO++([x14.Sub.Out])}:aI)}:Table))
def CT(t:Table)(w_:Int)(x2:Bool):Option Table:=
 (if x2 then(idx t.aQ w_).bind λx3=>some ({t with aQ:=t.aQ.set w_.toNat ({x3 with Pc:=7,K:=0}:aI)}:Table) else(idx t.aQ w_).bind λx4=>(rP x4.Sub t.aA w_).bind λx5=>(if !x5.1.iB then some ({t with aA:=x5.2,aQ:=t.aQ.set w_.toNat ({x4 with Sub:=x5.1}:aI)}:Table) else(if x5.1.Code != 0 then iI w_ true ({t with aA:=x5.2,aQ:=t.aQ.set w_.toNat ({x4 with Sub:=x5.1}:aI)}:Table) else(iW x5.1.Out).bind λx15=>(if !x15 then iI w_ true ({t with aA:=x5.2,aQ:=t.aQ.set w_.toNat ({x4 with Sub:=x5.1}:aI)}:Table) else iI w_ (decide (6<=(x4.eO.length:Int))) ({t with aA:=x5.2,aQ:=t.aQ.set w_.toNat ({x4 with Sub:=x5.1}:aI)}:Table)))))
def BH(t:Table)(w_:Int):Option Table:=
 (idx t.aQ w_).bind λx1=>(QJ x1.aH (x1.aH.length:Int)).bind λx16=>CT t w_ (decide (x16<=x1.K))
def cmp_isNaN_int(x:Int):Option Bool:=
 some (x != x)
def wP(x1:Bool):Option Bool:=
 some x1
def cmp_Less_int(x y:Int):Option Bool:=
 (cmp_isNaN_int x).bind λx2=>(if x2 then(cmp_isNaN_int y).bind λx3=>(if !x3 then wP true else wP (decide (x<y))) else wP (decide (x<y)))
def jU(data x5:List Int):Option (List Int):=
 need (x5.length=data.length) (some x5)
def o4(data:List Int)(x4:Int)(x10:List Int):Option (Step ((List Int)×Int) (List Int)):=
 need (x10.length=data.length) (some (.next (x10,aY (x4+1))))
def jV(data:List Int)(x9:Int)(x12:List Int):Option (Step ((List Int)×Int) (List Int)):=
 need (x12.length=data.length) (some (.next (x12,aY (x9-1))))
def dX(data x8:List Int)(x9:Int)(x11:Bool):Option (Step ((List Int)×Int) (List Int)):=
 need (x8.length=data.length) ((if x11 then(idx x8 (aY (x9-1))).bind λx13=>(idx x8 x9).bind λx14=>(idx (x8.set x9.toNat x13) (aY (x9-1))).bind λx15=>jV data x9 ((x8.set x9.toNat x13).set ((aY (x9-1)).toNat) x14) else some (.stop (x8))))
def dY(data:List Int)(a_:Int):((List Int)×Int)->Option (Step ((List Int)×Int) (List Int))
 |(x8,x9)=>need (x8.length=data.length) ((if decide (a_<x9) then(idx x8 x9).bind λx16=>(idx x8 (aY (x9-1))).bind λx17=>(cmp_Less_int x16 x17).bind λx18=>dX data x8 x9 x18 else dX data x8 x9 false))
def o5(data:List Int)(x4:Int):(List Int)->Option (Step ((List Int)×Int) (List Int))
 |x10=>o4 data x4 x10
def dI(data:List Int)(a_ b:Int):((List Int)×Int)->Option (Step ((List Int)×Int) (List Int))
 |(x3,x4)=>need (x3.length=data.length) ((if decide (x4<b) then(loop (dY data a_) (x3,x4)).bind (o5 data x4) else some (.stop (x3))))
def jW(data:List Int):(List Int)->Option (List Int)
 |x5=>jU data x5
def iM(data:List Int)(a_ b:Int):Option (List Int):=
 (loop (dI data a_ b) (data,aY (a_+1))).bind (jW data)
def wQ(data:List Int)(a_ b limit:Int):Unit->Option (Step Unit (List Int))
 |()=>(if decide ((aY (b-a_))<=12) then(iM data a_ b).bind λx1=>some (.stop (x1)) else(if limit == 0 then none else none))
def NS:(List Int)->Option (List Int)
 |r=>some r
def pR(data:List Int)(a_ b limit:Int):Option (List Int):=
 (loop (wQ data a_ b limit) ()).bind (NS)
def FZ(x5 x6:Int):Option Int:=
 (idx ([0,1,2,2,3,3,3,3,4,4,4,4,4,4,4,4,5,5,5,5,5,5,5,5,5,5,5,5,5,5,5,5,6,6,6,6,6,6,6,6,6,6,6,6,6,6,6,6,6,6,6,6,6,6,6,6,6,6,6,6,6,6,6,6,7,7,7,7,7,7,7,7,7,7,7,7,7,7,7,7,7,7,7,7,7,7,7,7,7,7,7,7,7,7,7,7,7,7,7,7,7,7,7,7,7,7,7,7,7,7,7,7,7,7,7,7,7,7,7,7,7,7,7,7,7,7,7,7,8,8,8,8,8,8,8,8,8,8,8,8,8,8,8,8,8,8,8,8,8,8,8,8,8,8,8,8,8,8,8,8,8,8,8,8,8,8,8,8,8,8,8,8,8,8,8,8,8,8,8,8,8,8,8,8,8,8,8,8,8,8,8,8,8,8,8,8,8,8,8,8,8,8,8,8,8,8,8,8,8,8,8,8,8,8,8,8,8,8,8,8,8,8,8,8,8,8,8,8,8,8,8,8,8,8,8,8,8,8,8,8,8,8,8,8,8,8,8,8,8,8,8,8,8,8,8,8]:List UInt8) ((u8 x5).toNat:Int)).bind λx7=>some (aY (x6+(x7.toNat:Int)))
def F5(x3 x4:Int):Option Int:=
 (if decide (256<=x3) then FZ (qL .u64 x3 8) (aY (x4+8)) else FZ x3 x4)
def F6(x1 x2:Int):Option Int:=
 (if decide (65536<=x1) then F5 (qL .u64 x1 16) (aY (x2+16)) else F5 x1 x2)
def ZN(x:Int):Option Int:=
 (if decide (4294967296<=x) then F6 (qL .u64 x 32) 32 else F6 x 0)
def DJ(x:Int):Option Int:=
 (ZN x).bind λx1=>some x1
def wR(x:List Int):Option (List Int):=
 (DJ (IntKind.u64.wrap (x.length:Int))).bind λx1=>(pR x 0 (x.length:Int) x1).bind λx2=>some x2
def NT(x5:List Int):Option (List Int):=
 (wR x5).bind λx6=>(slices_Compact_int x6).bind λx7=>some x7
def EV(x4:Int)(x8:List Int):Option (Step ((List Int)×Int) (List Int)):=
 some (.next (x8,aY (x4+1)))
def NU(l:List aX):((List Int)×Int)->Option (Step ((List Int)×Int) (List Int))
 |(x3,x4)=>(if decide (x4<(l.length:Int)) then(idx l x4).bind λx9=>(KU x9.Key).bind λx10=>(if decide (0<=x10) then need (x3.length+([x10]).length<=1073741824) (EV x4 (x3++([x10]))) else EV x4 x3) else some (.stop (x3)))
def ZO:(List Int)->Option (List Int)
 |x5=>NT x5
def PN(l:List aX):Option (List Int):=
 (loop (NU l) (([]:List Int),0)).bind (ZO)
def gH(s:List Seen)(f:(Seen->Option Bool)):Option Bool:=
 (fH s f).bind λx1=>some (decide (0<=x1))
def qZ(x1:Bool):Option Bool:=
 some x1
def yR(s:Seen)(k0:Int)(k1:cQ):Option Bool:=
 (if s.cQ == k0 then qZ (s.jS != k1.jS) else qZ false)
def vL(t:Table)(w_:Int)(x3:List cQ)(x4:List aI)(x5:aI):Option Table:=
 (idx x4 w_).bind λx6=>some ({t with bZ:=x3,aQ:=x4.set w_.toNat ({x6 with Pc:=8,K:=0}:aI),Log:=t.Log++([(⟨2,w_,x5.aO,0,[],[]⟩:J9)])}:Table)
def o6(t:Table)(w_:Int)(x2:(List Int))(x3:List cQ)(x4:List aI):Option Table:=
 (idx x4 w_).bind λx5=>(if decide ((x2.length:Int)<=x5.K) then need (t.Log.length+([(⟨2,w_,x5.aO,0,[],[]⟩:J9)]).length<=1073741824)<|vL t w_ x3 x4 x5 else some ({t with bZ:=x3,aQ:=x4}:Table))
def o7(t:Table)(w_:Int)(x2:(List Int))(x7:Int)(x12:cQ)(x15:List aI):Option Table:=
 (idx x15 w_).bind λx16=>o6 t w_ x2 (t.bZ.set x7.toNat ({x12 with g9:=aY (w_+1)}:cQ)) (x15.set w_.toNat ({x16 with K:=aY (x16.K+1)}:aI))
def F7(t:Table)(w_:Int)(x2:(List Int))(x7:Int)(x12:cQ)(x17:aI):Option Table:=
 o7 t w_ x2 x7 x12 (t.aQ.set w_.toNat ({x17 with bD:=x17.bD++([x7])}:aI))
def iS(t:Table)(w_:Int)(x2:(List Int))(x7:Int)(x9:Bool):Option Table:=
 (if x9 then(idx t.aQ w_).bind λx10=>(cV x10 7).bind λx11=>some ({t with aQ:=t.aQ.set w_.toNat x11}:Table) else(idx t.bZ x7).bind λx12=>(if x12.jS == 1000000 then(idx t.aQ w_).bind λx13=>(cV x13 3).bind λx14=>some ({t with aQ:=t.aQ.set w_.toNat x14}:Table) else(idx t.aQ w_).bind λx17=>(jA x17.bD x7).bind λx18=>(if !x18 then need (x17.bD.length+([x7]).length<=1073741824)<|F7 t w_ x2 x7 x12 x17 else o7 t w_ x2 x7 x12 t.aQ)))
def EW(t:Table)(w_:Int):Option Table:=
 (idx t.aQ w_).bind λx1=>(PN x1.aH).bind λx2=>(if decide (x1.K<(x2.length:Int)) then(idx x2 x1.K).bind λx7=>(idx t.bZ x7).bind λx8=>(if x8.g9 != 0 then iS t w_ x2 x7 true else(gH x1.Reads (λy0=>yR y0 x7 x8)).bind λx19=>iS t w_ x2 x7 x19) else o6 t w_ x2 t.bZ t.aQ)
def gA(t:Table)(w_:Int)(x8:Bool):Option Table:=
 (if x8 then(idx t.aQ w_).bind λx9=>(cV x9 7).bind λx10=>some ({t with aQ:=t.aQ.set w_.toNat x10}:Table) else(idx t.aQ w_).bind λx11=>some ({t with aQ:=t.aQ.set w_.toNat ({x11 with K:=aY (x11.K+1)}:aI)}:Table))
def vM(t:Table)(w_ x4 x5 x6 x7:Int):Option Table:=
 (if x7 != 0 then(if x7 != (aY (w_+1)) then gA t w_ true else gA t w_ (x6 != x4)) else gA t w_ (x6 != x4))
def vN(t:Table)(w_ x3 x4:Int):Option Table:=
 (idx t.bZ x3).bind λx12=>vM t w_ x4 x12.Head x12.jS x12.g9
def vO(t:Table)(w_:Int)(x1:aI):Option Table:=
 (if decide ((x1.Reads.length:Int)<=x1.K) then(idx t.aQ w_).bind λx2=>some ({t with aQ:=t.aQ.set w_.toNat ({x2 with Pc:=9,K:=0}:aI)}:Table) else(idx t.aQ w_).bind λx13=>(idx x13.Reads x13.K).bind λx14=>vN t w_ x14.cQ x14.jS)
def sI(t:Table)(w_:Int):Option Table:=
 (idx t.aQ w_).bind λx1=>vO t w_ x1
def pY(j:aI)(x:aX):Option aI:=
 (if x.KR then some ({j with Pc:=9,K:=aY (j.K+1)}:aI) else some ({j with Pc:=12}:aI))
def rA(m:Mem):Option Mem:=
 (xT m.Heap).bind λx1=>(jH m.aC).bind λx2=>some (⟨x1,x2⟩:Mem)
def aJO:Option Bool:=
 some true
def BI(x2:Int)(x4:Bool):Option (Step Int (Out Unit Bool)):=
 (if x4 then some (.stop (Out.ret false)) else some (.next (aY (x2+1))))
def oP(h:Heap)(s:bJ)(c:Int):Int->Option (Step Int (Out Unit Bool))
 |x2=>(if decide (x2<(s.aV.length:Int)) then(idx s.aV x2).bind λx3=>(kK h x3).bind λx5=>(if x5 != c then BI x2 true else(FU h x3).bind λx6=>BI x2 (decide (6<x6))) else some (.stop (Out.brk ())))
def aJP:(Out Unit Bool)->Option Bool
 |.brk ()=>aJO
 |.ret r=>some r
def DK(h:Heap)(s:bJ)(c:Int):Option Bool:=
 (loop (oP h s c) 0).bind (aJP)
def aTQ:Option Bool:=
 some true
def xU(m:Mem):Int->Option (Step Int (Out Unit Bool))
 |x5=>(if decide (x5<(m.aC.Own.length:Int)) then(idx m.aC.Own x5).bind λx6=>(DK m.Heap x6 (Int.tmod x5 3)).bind λx7=>(if !x7 then some (.stop (Out.ret false)) else some (.next (aY (x5+1)))) else some (.stop (Out.brk ())))
def aTR:(Out Unit Bool)->Option Bool
 |.brk ()=>aTQ
 |.ret r=>some r
def aEU(m:Mem):Option Bool:=
 (loop (xU m) 0).bind (aTR)
def xV(m:Mem):Int->Option (Step Int (Out Unit Bool))
 |x3=>(if decide (x3<(m.aC.Global.length:Int)) then(idx m.aC.Global x3).bind λx8=>(DK m.Heap x8 x3).bind λx9=>(if !x9 then some (.stop (Out.ret false)) else some (.next (aY (x3+1)))) else some (.stop (Out.brk ())))
def aEV(m:Mem):(Out Unit Bool)->Option Bool
 |.brk ()=>aEU m
 |.ret r=>some r
def LV(m:Mem)(x1:Bool):Option Bool:=
 (if x1 then some false else(loop (xV m) 0).bind (aEV m))
def zV(m:Mem):Option Bool:=
 (MQ m.Heap).bind λx10=>(if !x10 then LV m true else(qO m.aC).bind λx11=>LV m (!x11))
def zW(x1:Bool):Option Bool:=
 some x1
def oC(h:Int):Option Bool:=
 (if h == 0 then zW true else(iW h).bind λx2=>zW x2)
def xW(m:Mem)(h:Int):Option Int:=
 (qR m h).bind λx1=>(if !x1 then some 4 else(IF m.Heap (Int.tmod h 32)).bind λx2=>(if !x2 then some 2 else some 0))
def RF(x4:Int)(x5:Mem):Option (Mem×Int):=
 some (x5,x4)
def aBB(x4:Int)(x6:Mem):Option (Mem×Int):=
 RF x4 x6
def IJ(m:Mem)(h next_:Int)(x2:Bool)(x3:Mem):Option (Mem×Int):=
 (if x2 then some (x3,1) else(xW m h).bind λx4=>(if x4 == 0 then(BG m.Heap (Int.tmod h 32)).bind λx7=>(m8 next_ 4).bind λx8=>(oB x3.Heap.Bytes (aY (x7+6)) x8).bind λx9=>aBB x4 (⟨(⟨x9,x3.Heap.Class⟩:Heap),x3.aC⟩:Mem) else RF x4 x3))
def TM(m:Mem)(h next_:Int):Option (Mem×Int):=
 (rA m).bind λx1=>(zV m).bind λx10=>(if !x10 then IJ m h next_ true x1 else(oC next_).bind λx11=>IJ m h next_ (!x11) x1)
def zX(x1:Bool):Option Bool:=
 some x1
def MW(n:gE):Option Bool:=
 (bS n.Key 0 99).bind λx2=>(if x2 then(bS n.fT 0 65535).bind λx3=>(if x3 then(oC n.Next).bind λx4=>zX x4 else zX false) else zX false)
def NV(x4:Int)(x5:Mem):Option (Mem×Int):=
 some (x5,x4)
def ZP(x4:Int)(x6:Mem):Option (Mem×Int):=
 NV x4 x6
def EX(m:Mem)(h:Int)(n:gE)(x2:Bool)(x3:Mem):Option (Mem×Int):=
 (if x2 then some (x3,1) else(xW m h).bind λx4=>(if x4 == 0 then(BG m.Heap (Int.tmod h 32)).bind λx7=>(m8 n.Key 2).bind λx8=>(m8 n.fT 4).bind λx9=>need (x8.length+x9.length<=9223372036854775807)<|(m8 n.Next 4).bind λx10=>need ((x8++x9).length+x10.length<=9223372036854775807)<|(oB x3.Heap.Bytes x7 ((x8++x9)++x10)).bind λx11=>ZP x4 (⟨(⟨x11,x3.Heap.Class⟩:Heap),x3.aC⟩:Mem) else NV x4 x3))
def PO(m:Mem)(h:Int)(n:gE):Option (Mem×Int):=
 (rA m).bind λx1=>(zV m).bind λx12=>(if !x12 then EX m h n true x1 else(MW n).bind λx13=>EX m h n (!x13) x1)
def F8(t:Table)(j:aI)(b:cQ)(x3:Table):Option (Table×aI×cQ):=
 some (({x3 with bZ:=t.bZ,aQ:=t.aQ}:Table),({j with Pc:=13}:aI),b)
def NW(t:Table)(j:aI)(x:aX)(b:cQ):Option (Table×aI×cQ):=
 (QJ j.aH j.K).bind λx1=>(if decide ((j.eO.length:Int)<=x1) then(cV j 1).bind λx2=>some (t,x2,b) else(if j.Pc == 12 then(idx j.eO x1).bind λx4=>(PO t.aA.Mem x4 ({x with Next:=b.Head}:gE)).bind λx5=>F8 t j b ({t with aA:=(⟨x5.1,t.aA.aD,t.aA.aM,t.aA.lX⟩:aA)}:Table) else(idx j.eO x1).bind λx6=>some (t,({j with Pc:=9,K:=aY (j.K+1)}:aI),({b with Head:=x6}:cQ))))
def CU(t:Table)(x13:List aI):Option Table:=
 some ({t with aQ:=x13}:Table)
def nJ(w_ x3:Int)(x4:Bool)(x5:Int)(x16:Table):Option Table:=
 (idx x16.aQ w_).bind λx17=>(pY x17 (⟨x3,x4,x5⟩:aX)).bind λx18=>some ({x16 with aQ:=x16.aQ.set w_.toNat x18}:Table)
def CV(w_ x3:Int)(x4:Bool)(x5:Int)(x21:Table):Option Table:=
 nJ w_ x3 x4 x5 x21
def sJ(w_ x3:Int)(x4:Bool)(x5:Int)(x19:Bool)(x20:Table):Option Table:=
 (if x19 then(idx x20.aQ w_).bind λx22=>need (x22.bU.length+([x22.H]).length<=1073741824)<|CV w_ x3 x4 x5 ({x20 with aQ:=x20.aQ.set w_.toNat ({x22 with bU:=x22.bU++([x22.H])}:aI)}:Table) else nJ w_ x3 x4 x5 x20)
def nK(w_ x3:Int)(x4:Bool)(x5:Int)(x15:Table):Option Table:=
 (idx x15.aQ w_).bind λx23=>(iW x23.H).bind λx24=>(if x24 then sJ w_ x3 x4 x5 (decide ((x23.bU.length:Int)<6)) x15 else sJ w_ x3 x4 x5 false x15)
def CX(w_ x3:Int)(x4:Bool)(x5:Int)(x26:Table):Option Table:=
 nK w_ x3 x4 x5 x26
def CY(t:Table)(w_ x3:Int)(x4:Bool)(x5:Int):Option Table:=
 (KU x3).bind λx6=>(idx t.bZ x6).bind λx7=>(idx t.aQ w_).bind λx8=>(if x8.Pc == 9 then(if x7.Head == 0 then(pY ({x8 with Pc:=10,H:=x7.Head,gN:=0}:aI) (⟨x3,x4,x5⟩:aX)).bind λx9=>some ({t with aQ:=t.aQ.set w_.toNat x9}:Table) else some ({t with aQ:=t.aQ.set w_.toNat ({x8 with Pc:=10,H:=x7.Head,gN:=0}:aI)}:Table)) else(if x8.Pc == 10 then(MV t.aA.Mem x8.H).bind λx10=>(if x10.1.Key == x3 then some ({t with aQ:=t.aQ.set w_.toNat ({x8 with Pc:=11,Node:=x10.1}:aI)}:Table) else(iH x10.1).bind λx11=>(if x11 == 0 then(pY ({x8 with Node:=x10.1}:aI) (⟨x3,x4,x5⟩:aX)).bind λx12=>some ({t with aQ:=t.aQ.set w_.toNat x12}:Table) else(iH x10.1).bind λx14=>CU t (t.aQ.set w_.toNat ({x8 with H:=x14,gN:=x8.H,Node:=x10.1}:aI)))) else(if x8.Pc == 11 then(if x8.gN == 0 then(iH x8.Node).bind λx25=>nK w_ x3 x4 x5 ({t with bZ:=t.bZ.set x6.toNat ({x7 with Head:=x25}:cQ)}:Table) else(iH x8.Node).bind λx27=>(TM t.aA.Mem x8.gN x27).bind λx28=>CX w_ x3 x4 x5 ({t with aA:=(⟨x28.1,t.aA.aD,t.aA.aM,t.aA.lX⟩:aA)}:Table)) else(NW t x8 (⟨x3,x4,x5⟩:aX) x7).bind λx29=>some (⟨x29.1.aA,t.bZ.set x6.toNat x29.2.2,t.aQ.set w_.toNat x29.2.1,x29.1.dQ,x29.1.Log,x29.1.aO⟩:Table))))
def CZ(t:Table)(w_:Int)(x1:aI):Option Table:=
 (if decide ((x1.aH.length:Int)<=x1.K) then(idx t.aQ w_).bind λx2=>some ({t with aQ:=t.aQ.set w_.toNat ({x2 with Pc:=14}:aI)}:Table) else(idx t.aQ w_).bind λx30=>(idx x30.aH x30.K).bind λx31=>CY t w_ x31.Key x31.KR x31.fT)
def BJ(t:Table)(w_:Int):Option Table:=
 (idx t.aQ w_).bind λx1=>CZ t w_ x1
def rB(s:List Int)(i j:Int):Option (List Int):=
 need (0<=(i:Int)/\(i:Int)<=(j:Int)/\(j:Int)<=((s.length:Int):Int)/\((s.length:Int):Int)<=(s.length:Int)) ((if i == j then some s else need (0<=(i:Int)/\(i:Int)<=(s.length:Int)) (need (0<=(j:Int)/\(j:Int)<=(s.length:Int)) (need (i.toNat<=j.toNat) (need (0<=(((((dA s i.toNat (s.drop j.toNat)).take (i.toNat+(s.length-j.toNat))).drop 0).length:Int):Int)/\(((((dA s i.toNat (s.drop j.toNat)).take (i.toNat+(s.length-j.toNat))).drop 0).length:Int):Int)<=((s.length:Int):Int)/\((s.length:Int):Int)<=((dA s i.toNat (s.drop j.toNat)).length:Int)) (some (((dA s i.toNat (s.drop j.toNat)).take (i.toNat+(s.length-j.toNat))).drop 0)))))))
def tG(x1:aI):Option aI:=
 some x1
def mA(j:aI):Option aI:=
 (if decide (j.K<(j.bU.length:Int)) then(idx j.bU j.K).bind λx2=>(lZ 2 x2).bind λx3=>tG ({j with Sub:=x3}:aI) else some j)
def mB(t:Table)(w_:Int)(x4:List cQ):Option Table:=
 (idx t.aQ w_).bind λx5=>(rB x5.bD 0 1).bind λx6=>some ({t with bZ:=x4,aQ:=t.aQ.set w_.toNat ({x5 with bD:=x6}:aI)}:Table)
def yS(t:Table)(w_:Int):Option Table:=
 (idx t.aQ w_).bind λx1=>(if decide (0<(x1.bD.length:Int)) then(idx x1.bD 0).bind λx2=>(idx t.bZ x2).bind λx3=>(if x1.Pc == 14 then mB t w_ (t.bZ.set x2.toNat (⟨x3.Head,if 1000000<(aY (x3.jS+1)) then 1000000 else(aY (x3.jS+1)),0⟩:cQ)) else mB t w_ (t.bZ.set x2.toNat ({x3 with g9:=0}:cQ))) else(if x1.Pc == 16 then some ({t with aQ:=t.aQ.set w_.toNat ({x1 with Pc:=17}:aI)}:Table) else(mA ({x1 with Pc:=15,K:=0}:aI)).bind λx7=>some ({t with aQ:=t.aQ.set w_.toNat x7}:Table)))
def zY(t:Table)(w_:Int)(x1:aI):Option Table:=
 (if decide ((x1.bU.length:Int)<=x1.K) then(idx t.aQ w_).bind λx2=>some ({t with aQ:=t.aQ.set w_.toNat ({x2 with Pc:=18}:aI)}:Table) else(idx t.aQ w_).bind λx3=>(rP x3.Sub t.aA w_).bind λx4=>(if x4.1.iB then(mA ({x3 with K:=aY (x3.K+1),Sub:=x4.1}:aI)).bind λx5=>some ({t with aA:=x4.2,aQ:=t.aQ.set w_.toNat x5}:Table) else some ({t with aA:=x4.2,aQ:=t.aQ.set w_.toNat ({x3 with Sub:=x4.1}:aI)}:Table)))
def yT(t:Table)(w_:Int):Option Table:=
 (idx t.aQ w_).bind λx1=>zY t w_ x1
def EY(m:Mem)(w_ h:Int)(x1:Bool):Option (Mem×Int):=
 (if x1 then(rA m).bind λx2=>some (x2,1) else(qR m h).bind λx3=>(if !x3 then(rA m).bind λx4=>some (x4,4) else(RD m w_ h).bind λx5=>some (x5,0)))
def PQ(m:Mem)(w_ h:Int):Option (Mem×Int):=
 (zV m).bind λx6=>(if !x6 then EY m w_ h true else(iD w_).bind λx7=>EY m w_ h (!x7))
def EZ(t:Table)(w_:Int):Option Table:=
 (idx t.aQ w_).bind λx1=>(if(x1.eO.length:Int) == 0 then some ({t with aQ:=t.aQ.set w_.toNat ({x1 with Pc:=18}:aI)}:Table) else(idx x1.eO 0).bind λx2=>(rB x1.eO 0 1).bind λx3=>(vH t.aA.aM (Int.tmod x2 32)).bind λx4=>(if !x4 then(PQ t.aA.Mem w_ x2).bind λx5=>some ({t with aA:=(⟨x5.1,t.aA.aD,t.aA.aM,t.aA.lX⟩:aA),aQ:=t.aQ.set w_.toNat ({x1 with eO:=x3}:aI)}:Table) else some ({t with aQ:=t.aQ.set w_.toNat ({x1 with eO:=x3}:aI)}:Table)))
def DL(w_:Int)(x1:aD)(x2:Bool):Option (aD×Bool):=
 (if x2 then some (x1,false) else(idx x1.cG w_).bind λx3=>some ((⟨x1.aJ,x1.cG.set w_.toNat (⟨false,0,false,0⟩:yN)⟩:aD),true))
def XT(c:aD)(w_:Int):Option (aD×Bool):=
 (l9 c).bind λx1=>(qT c).bind λx4=>(if !x4 then DL w_ x1 true else(iD w_).bind λx5=>(if !x5 then DL w_ x1 true else(idx c.cG w_).bind λx6=>DL w_ x1 (!x6.On)))
def E0(b:aA)(w_:Int):Option (Bool×aA):=
 (XT b.aD w_).bind λx1=>some (x1.2,({b with aD:=x1.1}:aA))
def KG(t:Table)(w_:Int)(x1:aI):Option Table:=
 some ({t with aQ:=t.aQ.set w_.toNat (⟨false,(⟨false,[]⟩:Batch),0,0,0,0,0,0,0,0,(⟨0,0,0⟩:gE),false,0,(⟨0,0,0,0,0,0,0,0,0,false⟩:Sub),[],[],[],[],[],[]⟩:aI),Log:=t.Log++([({x1 with Kind:=3,Who:=w_,bW:=[]}:J9)])}:Table)
def KH(t:Table)(w_:Int)(x1:aI):Option Table:=
 some ({t with aQ:=t.aQ.set w_.toNat (⟨false,(⟨false,[]⟩:Batch),0,0,0,0,0,0,0,0,(⟨0,0,0⟩:gE),false,0,(⟨0,0,0,0,0,0,0,0,0,false⟩:Sub),[],[],[],[],[],[]⟩:aI),Log:=t.Log++([(⟨3,w_,x1.aO,x1.Code,[],[]⟩:J9)])}:Table)
def vP(t:Table)(w_:Int):Option Table:=
 (idx t.aQ w_).bind λx1=>(if x1.Code == 0 then need (t.Log.length+([({x1 with Kind:=3,Who:=w_,bW:=[]}:J9)]).length<=1073741824)<|KG t w_ x1 else need (t.Log.length+([(⟨3,w_,x1.aO,x1.Code,[],[]⟩:J9)]).length<=1073741824)<|KH t w_ x1)
def lO(t:Table)(w_:Int)(x1:aI)(x14:Bool):Option Table:=
 (if x14 then(yS t w_).bind λx15=>some x15 else(if x1.Pc == 15 then(yT t w_).bind λx16=>some x16 else(if x1.Pc == 17 then(EZ t w_).bind λx17=>some x17 else(if x1.Pc == 18 then(E0 t.aA w_).bind λx18=>(idx t.aQ w_).bind λx19=>some ({t with aA:=x18.2,aQ:=t.aQ.set w_.toNat ({x19 with Pc:=19}:aI)}:Table) else(if x1.Pc == 19 then(vP t w_).bind λx20=>some x20 else(idx t.aQ w_).bind λx21=>(cV x21 1).bind λx22=>some ({t with aQ:=t.aQ.set w_.toNat x22}:Table))))))
def jX(t:Table)(w_:Int)(x1:aI)(x3:Bool):Option Table:=
 (if x3 then(vJ t w_).bind λx4=>some x4 else(if x1.Pc == 1 then(idx t.aQ w_).bind λx5=>(ID x5).bind λx6=>some ({t with aQ:=t.aQ.set w_.toNat x6}:Table) else(bS x1.Pc 2 5).bind λx7=>(if x7 then(EU t w_).bind λx8=>some x8 else(if x1.Pc == 6 then(BH t w_).bind λx9=>some x9 else(if x1.Pc == 7 then(EW t w_).bind λx10=>some x10 else(if x1.Pc == 8 then(sI t w_).bind λx11=>some x11 else(bS x1.Pc 9 13).bind λx12=>(if x12 then(BJ t w_).bind λx13=>some x13 else(if x1.Pc == 14 then lO t w_ x1 true else lO t w_ x1 (x1.Pc == 16)))))))))
def wS(t:Table)(w_:Int):Option Table:=
 (idx t.aQ w_).bind λx1=>(if !x1.cR then(A7 t w_).bind λx2=>some x2 else(if x1.Pc == 0 then jX t w_ x1 true else(if x1.Pc == 20 then jX t w_ x1 true else jX t w_ x1 (x1.Pc == 21))))
def aHV(x6:Table):Option Table:=
 some x6
def yU(x4:Int)(x7:Table):Option (Step (Int×Table) Table):=
 some (.next (aY (x4+1),x7))
def rC(x:mR):(Int×Table)->Option (Step (Int×Table) Table)
 |(x4,x5)=>(if decide (x4<(((x.eT.take ((if 400<(x.eT.length:Int) then 400 else(x.eT.length:Int)).toNat)).drop 0).length:Int)) then(idx ((x.eT.take ((if 400<(x.eT.length:Int) then 400 else(x.eT.length:Int)).toNat)).drop 0) x4).bind λx8=>(iD x8).bind λx9=>(if x9 then(wS x5 x8).bind λx10=>yU x4 x10 else yU x4 x5) else some (.stop (x5)))
def aHW:Table->Option Table
 |x6=>aHV x6
def o8(x:mR):Option Table:=
 (LM x.dQ).bind λx1=>(if(x1.aQ.length:Int) == 0 then some x1 else need (0<=(if 400<(x.eT.length:Int) then 400 else(x.eT.length:Int):Int)/\(if 400<(x.eT.length:Int) then 400 else(x.eT.length:Int):Int)<=(x.eT.length:Int)) ((loop (rC x) (0,x1)).bind (aHW)))
def a3E(x:mR)(n:Int):Option mR:=
 need (0<=(if n<(x.eT.length:Int) then n else(x.eT.length:Int):Int)/\(if n<(x.eT.length:Int) then n else(x.eT.length:Int):Int)<=(x.eT.length:Int)) (some ((⟨x.dQ,(x.eT.take ((if n<(x.eT.length:Int) then n else(x.eT.length:Int)).toNat)).drop 0⟩:mR)))
def aOQ(code:List UInt8)(i:Int):Option Int:=
 (if decide (i<(code.length:Int)) then(idx code i).bind λx1=>some (x1.toNat:Int) else some (Int.tmod (aY ((aY (i*37))+(aY ((code.length:Int)*11)))) 256))
def XU(code:List UInt8)(i n:Int):Option Int:=
 (aOQ code i).bind λx1=>some (aY (Int.tdiv (aY (x1*(aY (n+1)))) 256))
def LW(b:aA):Option aA:=
 (rA b.Mem).bind λx1=>(l9 b.aD).bind λx2=>(l6 b.aM).bind λx3=>(eW b.lX).bind λx4=>some (⟨x1,x2,x3,x4⟩:aA)
def KV(s:List cQ):Option (List cQ):=
 need (([]:List cQ).length+s.length<=1073741824) (some (([]:List cQ)++s))
def tH(s:List iZ):Option (List iZ):=
 need (([]:List iZ).length+s.length<=1073741824) (some (([]:List iZ)++s))
def WD(x3:aI):Option aI:=
 some x3
def KW(j x2:aI):Option aI:=
 (eW j.eO).bind λx4=>(eW j.bD).bind λx5=>(eW j.bU).bind λx6=>WD ({x2 with eO:=x4,bD:=x5,bU:=x6}:aI)
def LX(j:aI):Option aI:=
 (zJ j.Batch).bind λx1=>(qY j.Reads).bind λx7=>(oY j.aH).bind λx8=>(tH j.iZ).bind λx9=>KW j ({j with Batch:=x1,Reads:=x7,aH:=x8,iZ:=x9}:aI)
def NX(e_:J9)(x1:List kG)(x2:List iZ):Option J9:=
 some ({e_ with bW:=x1,iZ:=x2}:J9)
def PR(e_:J9):Option J9:=
 (lN e_.bW).bind λx3=>(tH e_.iZ).bind λx4=>NX e_ x3 x4
def aHX(x11:Table):Option Table:=
 some x11
def IK(x9:Int)(x13:Table):Option (Step (Int×Table) Table):=
 some (.next (aY (x9+1),x13))
def mW(t:Table):(Int×Table)->Option (Step (Int×Table) Table)
 |(x9,x10)=>(if decide (x9<(t.Log.length:Int)) then(idx t.Log x9).bind λx12=>(PR x12).bind λx14=>need (x10.Log.length+([x14]).length<=1073741824)<|IK x9 ({x10 with Log:=x10.Log++([x14])}:Table) else some (.stop (x10)))
def aHY:Table->Option Table
 |x11=>aHX x11
def aHZ(t x6:Table):Option Table:=
 (loop (mW t) (0,({x6 with Log:=[]}:Table))).bind (aHY)
def IL(x4:Int)(x16:Table):Option (Step (Int×Table) Table):=
 some (.next (aY (x4+1),({x16 with Log:=[]}:Table)))
def mX(t:Table):(Int×Table)->Option (Step (Int×Table) Table)
 |(x4,x5)=>(if decide (x4<(t.aQ.length:Int)) then(idx t.aQ x4).bind λx15=>(LX x15).bind λx17=>need (x5.aQ.length+([x17]).length<=1073741824)<|IL x4 ({x5 with aQ:=x5.aQ++([x17]),Log:=[]}:Table) else some (.stop (({x5 with Log:=[]}:Table))))
def aH0(t:Table):Table->Option Table
 |x6=>aHZ t x6
def IM(t x1:Table):Option Table:=
 (loop (mX t) (0,({x1 with aQ:=[],Log:=[]}:Table))).bind (aH0 t)
def IN(t:Table):Option Table:=
 (LW t.aA).bind λx18=>(KV t.bZ).bind λx19=>(zK t.dQ).bind λx20=>IM t (⟨x18,x19,[],x20,[],t.aO⟩:Table)
def PT(h:Int):Option Bool:=
 (oC h).bind λx1=>some (!x1)
def LY(x1:Bool):Option Bool:=
 some x1
def XV(z:List Int):Option Bool:=
 (if(z.length:Int) == 3 then(cT z (λy0=>PT y0)).bind λx2=>LY (!x2) else LY false)
def vQ(x1:Bool):Option Bool:=
 some x1
def E1(r_:eB)(k0:aA):Option Bool:=
 (qR k0.Mem r_.Handle).bind λx2=>(if !x2 then vQ true else vQ (decide (k0.aD.aJ<r_.aJ)))
def LZ(l:bT)(k0:aA):Option Bool:=
 (jI l.Rows (λy0=>E1 y0 k0)).bind λx1=>some x1
def tI(b:aA)(x1:Bool):Option Bool:=
 (if x1 then some false else(i6 b.aM (λy0=>LZ y0 b)).bind λx2=>some (!x2))
def GN(b:aA):Option Bool:=
 (zV b.Mem).bind λx3=>(if !x3 then tI b true else(qT b.aD).bind λx4=>(if !x4 then tI b true else(vI b.aM).bind λx5=>(if !x5 then tI b true else(XV b.lX).bind λx6=>tI b (!x6))))
def WE:Option Int:=
 some (-1)
def tJ(s:List cQ)(f:(cQ->Option Bool)):Int->Option (Step Int (Out Unit Int))
 |x2=>(if decide (x2<(s.length:Int)) then(idx s x2).bind λx3=>(f x3).bind λx4=>(if x4 then some (.stop (Out.ret x2)) else some (.next (aY (x2+1)))) else some (.stop (Out.brk ())))
def GO:(Out Unit Int)->Option Int
 |.brk ()=>WE
 |.ret r=>some r
def MX(s:List cQ)(f:(cQ->Option Bool)):Option Int:=
 (loop (tJ s f) 0).bind (GO)
def tK(s:List cQ)(f:(cQ->Option Bool)):Option Bool:=
 (MX s f).bind λx1=>some (decide (0<=x1))
def L4(x1:Bool):Option Bool:=
 some x1
def aFY(b:cQ):Option Bool:=
 (oC b.Head).bind λx2=>(if x2 then(bS b.jS 0 1000000).bind λx3=>(if x3 then(bS b.g9 0 3).bind λx4=>L4 x4 else L4 false) else L4 false)
def RG(b:cQ):Option Bool:=
 (aFY b).bind λx1=>some (!x1)
def UU:Option Int:=
 some (-1)
def rQ(s:List aI)(f:(aI->Option Bool)):Int->Option (Step Int (Out Unit Int))
 |x2=>(if decide (x2<(s.length:Int)) then(idx s x2).bind λx3=>(f x3).bind λx4=>(if x4 then some (.stop (Out.ret x2)) else some (.next (aY (x2+1)))) else some (.stop (Out.brk ())))
def DM:(Out Unit Int)->Option Int
 |.brk ()=>UU
 |.ret r=>some r
def KI(s:List aI)(f:(aI->Option Bool)):Option Int:=
 (loop (rQ s f) 0).bind (DM)
def iE(s:List aI)(f:(aI->Option Bool)):Option Bool:=
 (KI s f).bind λx1=>some (decide (0<=x1))
def aDY:Option Bool:=
 some true
def OO(s1 s2:List kG):Int->Option (Step Int (Out Unit Bool))
 |x2=>(if decide (x2<(s1.length:Int)) then(idx s1 x2).bind λx3=>(idx s2 x2).bind λx4=>(if !(decide (x3=x4)) then some (.stop (Out.ret false)) else some (.next (aY (x2+1)))) else some (.stop (Out.brk ())))
def aDZ:(Out Unit Bool)->Option Bool
 |.brk ()=>aDY
 |.ret r=>some r
def KX(s1 s2:List kG):Option Bool:=
 (if(s1.length:Int) != (s2.length:Int) then some false else(loop (OO s1 s2) 0).bind (aDZ))
def IP(x1:Bool):Option Bool:=
 some x1
def IQ(a_ b:Batch):Option Bool:=
 (if a_.Collect == b.Collect then(KX a_.bW b.bW).bind λx2=>IP x2 else IP false)
def aBC:Option Bool:=
 some true
def MY(s1 s2:List Seen):Int->Option (Step Int (Out Unit Bool))
 |x2=>(if decide (x2<(s1.length:Int)) then(idx s1 x2).bind λx3=>(idx s2 x2).bind λx4=>(if !(decide (x3=x4)) then some (.stop (Out.ret false)) else some (.next (aY (x2+1)))) else some (.stop (Out.brk ())))
def aBD:(Out Unit Bool)->Option Bool
 |.brk ()=>aBC
 |.ret r=>some r
def yV(s1 s2:List Seen):Option Bool:=
 (if(s1.length:Int) != (s2.length:Int) then some false else(loop (MY s1 s2) 0).bind (aBD))
def aAG:Option Bool:=
 some true
def KJ(s1 s2:List aX):Int->Option (Step Int (Out Unit Bool))
 |x2=>(if decide (x2<(s1.length:Int)) then(idx s1 x2).bind λx3=>(idx s2 x2).bind λx4=>(if !(decide (x3=x4)) then some (.stop (Out.ret false)) else some (.next (aY (x2+1)))) else some (.stop (Out.brk ())))
def aAH:(Out Unit Bool)->Option Bool
 |.brk ()=>aAG
 |.ret r=>some r
def vR(s1 s2:List aX):Option Bool:=
 (if(s1.length:Int) != (s2.length:Int) then some false else(loop (KJ s1 s2) 0).bind (aAH))
def aD0:Option Bool:=
 some true
def OQ(s1 s2:List iZ):Int->Option (Step Int (Out Unit Bool))
 |x2=>(if decide (x2<(s1.length:Int)) then(idx s1 x2).bind λx3=>(idx s2 x2).bind λx4=>(if !(decide (x3=x4)) then some (.stop (Out.ret false)) else some (.next (aY (x2+1)))) else some (.stop (Out.brk ())))
def aD1:(Out Unit Bool)->Option Bool
 |.brk ()=>aD0
 |.ret r=>some r
def BK(s1 s2:List iZ):Option Bool:=
 (if(s1.length:Int) != (s2.length:Int) then some false else(loop (OQ s1 s2) 0).bind (aD1))
def aD2:Option Bool:=
 some true
def OR(s1 s2:List Int):Int->Option (Step Int (Out Unit Bool))
 |x2=>(if decide (x2<(s1.length:Int)) then(idx s1 x2).bind λx3=>(idx s2 x2).bind λx4=>(if x3 != x4 then some (.stop (Out.ret false)) else some (.next (aY (x2+1)))) else some (.stop (Out.brk ())))
def aD3:(Out Unit Bool)->Option Bool
 |.brk ()=>aD2
 |.ret r=>some r
def oQ(s1 s2:List Int):Option Bool:=
 (if(s1.length:Int) != (s2.length:Int) then some false else(loop (OR s1 s2) 0).bind (aD3))
def cH(x1:Bool):Option Bool:=
 some x1
def L5(a_ b:aI):Option Bool:=
 (if a_.cR == b.cR then(IQ a_.Batch b.Batch).bind λx2=>(if x2 then(if a_.aO == b.aO then(if a_.Pc == b.Pc then(if a_.At == b.At then(if a_.K == b.K then(if a_.cQ == b.cQ then(if a_.jS == b.jS then(if a_.H == b.H then(if a_.gN == b.gN then(if decide (a_.Node=b.Node) then(if a_.Found == b.Found then(if a_.Code == b.Code then(if decide (a_.Sub=b.Sub) then(yV a_.Reads b.Reads).bind λx3=>(if x3 then(vR a_.aH b.aH).bind λx4=>(if x4 then(BK a_.iZ b.iZ).bind λx5=>(if x5 then(oQ a_.eO b.eO).bind λx6=>(if x6 then(oQ a_.bD b.bD).bind λx7=>(if x7 then(oQ a_.bU b.bU).bind λx8=>cH x8 else cH false) else cH false) else cH false) else cH false) else cH false) else cH false) else cH false) else cH false) else cH false) else cH false) else cH false) else cH false) else cH false) else cH false) else cH false) else cH false) else cH false) else cH false) else cH false)
def KY(b:Int):Option Bool:=
 (bS b 0 1).bind λx1=>some x1
def yW(h:Int):Option Bool:=
 (iW h).bind λx1=>some (!x1)
def F9(x1:Bool):Option Bool:=
 some x1
def wT(list:List Int):Option Bool:=
 (if decide ((list.length:Int)<=6) then(cT list (λy0=>yW y0)).bind λx2=>F9 (!x2) else F9 false)
def UW(s:Seen):Option Bool:=
 (KY s.cQ).bind λx1=>some (!x1)
def WG(list:List aX):Option Bool:=
 some (decide ((list.length:Int)<=6))
def lP(x2:Int)(x4:Bool):Option (Step Int (Out Unit Bool)):=
 (if x4 then some (.stop (Out.ret false)) else some (.next (aY (x2+1))))
def tL(list:List aX):Int->Option (Step Int (Out Unit Bool))
 |x2=>(if decide (x2<(list.length:Int)) then(idx list x2).bind λx3=>(bS x3.Key 0 99).bind λx5=>(if !x5 then lP x2 true else(bS x3.fT 0 65535).bind λx6=>(if !x6 then lP x2 true else(if decide (0<x2) then(idx list (aY (x2-1))).bind λx7=>lP x2 (decide (x3.Key<=x7.Key)) else lP x2 false))) else some (.stop (Out.brk ())))
def WH(list:List aX):(Out Unit Bool)->Option Bool
 |.brk ()=>WG list
 |.ret r=>some r
def L6(list:List aX):Option Bool:=
 (loop (tL list) 0).bind (WH list)
def iT(x4:Bool):Option Bool:=
 some x4
def aBE(j:aI):Option Bool:=
 (HK j.Batch).bind λx5=>(if x5 then(oC j.H).bind λx6=>(if x6 then(oC j.gN).bind λx7=>(if x7 then(KY j.cQ).bind λx8=>(if x8 then(bS j.At 0 (j.Batch.bW.length:Int)).bind λx9=>(if x9 then(bS j.K 0 100).bind λx10=>(if x10 then(wT j.eO).bind λx11=>(if x11 then(wT j.bU).bind λx12=>(if x12 then(gH j.Reads (λy0=>UW y0)).bind λx13=>(if !x13 then(L6 j.aH).bind λx14=>iT x14 else iT false) else iT false) else iT false) else iT false) else iT false) else iT false) else iT false) else iT false) else iT false)
def IS(x3:Int)(x16:Bool):Option (Step Int (Out Unit Bool)):=
 (if x16 then some (.stop (Out.ret false)) else some (.next (aY (x3+1))))
def zZ(j:aI):Int->Option (Step Int (Out Unit Bool))
 |x3=>(if decide (x3<(j.bD.length:Int)) then(idx j.bD x3).bind λx15=>(KY x15).bind λx17=>(if !x17 then IS x3 true else need (0<=(x3:Int)/\(x3:Int)<=(j.bD.length:Int)) ((jA ((j.bD.take x3.toNat).drop 0) x15).bind λx18=>IS x3 x18)) else some (.stop (Out.brk ())))
def aBF(j:aI):(Out Unit Bool)->Option Bool
 |.brk ()=>aBE j
 |.ret r=>some r
def uR(j:aI):Option Bool:=
 (if !j.cR then(L5 j (⟨false,(⟨false,[]⟩:Batch),0,0,0,0,0,0,0,0,(⟨0,0,0⟩:gE),false,0,(⟨0,0,0,0,0,0,0,0,0,false⟩:Sub),[],[],[],[],[],[]⟩:aI)).bind λx1=>some x1 else(loop (zZ j) 0).bind (aBF j))
def RH(j:aI):Option Bool:=
 (uR j).bind λx1=>some (!x1)
def kX(x1:Bool):Option Bool:=
 some x1
def nU(t:Table):Option Bool:=
 (GN t.aA).bind λx2=>(if x2 then(if(t.bZ.length:Int) == 2 then(tK t.bZ (λy0=>RG y0)).bind λx3=>(if !x3 then(if(t.aQ.length:Int) == 3 then(iE t.aQ (λy0=>RH y0)).bind λx4=>(if !x4 then(HM t.dQ).bind λx5=>(if x5 then(bS t.aO 0 1000000).bind λx6=>kX x6 else kX false) else kX false) else kX false) else kX false) else kX false) else kX false)
def KZ(j:aI):Option Bool:=
 some j.cR
def K0(q:aN):Option Bool:=
 some (decide (0<(q.List.length:Int)))
def IT(x1:Bool):Option Bool:=
 some x1
def IU(t:Table):Option Bool:=
 (iE t.aQ (λy0=>KZ y0)).bind λx2=>(if !x2 then(kH t.dQ (λy0=>K0 y0)).bind λx3=>IT (!x3) else IT false)
def vS(j:aI):Option Bool:=
 (uR j).bind λx1=>some (!x1)
def aD4(x5:Table):Option Table:=
 some x5
def nL(x3:Int)(x6:Bool)(x7:Table):Option (Step (Int×Table) (Out Table Table)):=
 (if x6 then some (.stop (Out.ret x7)) else(wS x7 (Int.tmod x3 3)).bind λx8=>some (.next (aY (x3+1),x8)))
def nM(n:Int)(finish:Bool):(Int×Table)->Option (Step (Int×Table) (Out Table Table))
 |(x3,x4)=>(if decide (x3<n) then(if finish then(IU x4).bind λx9=>(if x9 then nL x3 true x4 else(iE x4.aQ (λy0=>vS y0)).bind λx10=>nL x3 x10 x4) else(iE x4.aQ (λy0=>vS y0)).bind λx11=>nL x3 x11 x4) else some (.stop (Out.brk x4)))
def OS:(Out Table Table)->Option Table
 |.brk x5=>aD4 x5
 |.ret r=>some r
def K1(t:Table)(n:Int)(finish:Bool):Option Table:=
 (loop (nM n finish) (0,t)).bind (OS)
def C0(x2:Table):Option Table:=
 some x2
def tM(t:Table):Option Table:=
 (IN t).bind λx1=>(nU t).bind λx3=>(if x3 then(K1 x1 3000 true).bind λx4=>C0 x4 else C0 x1)
def BL(x1:Bool):Option Bool:=
 some x1
def jK(h:Int):Option Bool:=
 (bX h 32 223).bind λx2=>(if x2 then BL (decide ((Int.tmod h 32)<24)) else BL false)
def fU(h:Int):Option Int:=
 (jK h).bind λx1=>(if !x1 then some (-1) else some (Int.tmod h 32))
def GP(slot:Int):Option Int:=
 (bX slot 0 23).bind λx1=>(if !x1 then some (-1) else some (aY (Int.tdiv slot 4)))
def BM(slot:Int):Option Int:=
 (bX slot 0 23).bind λx1=>(if !x1 then some (-1) else some (Int.tmod slot 4))
def GQ(c:Int):Option Int:=
 (if c == 0 then some 8 else(if c == 1 then some 16 else(if c == 2 then some 40 else some 0)))
def DN(c:Int):Option Int:=
 (bX c 0 2).bind λx1=>(if !x1 then some 0 else(GQ c).bind λx2=>some (aY (4+x2)))
def nV(c:Int):Option Int:=
 (bX c 0 2).bind λx1=>(if !x1 then some 0 else(DN c).bind λx2=>need (x2≠0) (some (aY (Int.tdiv 56 x2))))
def wU(h:Heap)(x1:Int)(x2:Bool):Option Int:=
 (if x2 then some (-1) else(idx h.Class x1).bind λx3=>some x3)
def nW(h:Heap)(slot:Int):Option Int:=
 (GP slot).bind λx1=>(if decide (x1<0) then wU h x1 true else(idx h.Class x1).bind λx4=>(if decide (x4<0) then wU h x1 true else(idx h.Class x1).bind λx5=>(BM slot).bind λx6=>(nV x5).bind λx7=>wU h x1 (decide (x7<=x6))))
def aP5(x5:Int):Option Int:=
 some x5
def z6(b:List Int)(at_ width:Int):(Int×Int)->Option (Step (Int×Int) Int)
 |(x3,x4)=>(if decide (x4<width) then(idx b (aY (at_+x4))).bind λx6=>some (.next (aY ((aY (x3*256))+x6),aY (x4+1))) else some (.stop (x3)))
def aP6:Int->Option Int
 |x5=>aP5 x5
def uS(b:List Int)(at_ width:Int):Option Int:=
 (loop (z6 b at_ width) (0,0)).bind (aP6)
def L7(slot c:Int)(x1:Bool):Option Int:=
 (if x1 then some (-1) else(GP slot).bind λx2=>(BM slot).bind λx3=>(DN c).bind λx4=>some (aY ((aY ((aY (x2*64))+8))+(aY (x3*x4)))))
def z7(slot c:Int):Option Int:=
 (GP slot).bind λx5=>(if decide (x5<0) then L7 slot c true else(BM slot).bind λx6=>(nV c).bind λx7=>(bX x6 0 (aY (x7-1))).bind λx8=>L7 slot c (!x8))
def z8(h:Heap)(slot:Int):Option Int:=
 (nW h slot).bind λx1=>(z7 slot x1).bind λx2=>(uS h.Bytes x2 4).bind λx3=>some x3
def aTS:Option Bool:=
 some false
def xX(l:List Int)(x:Int):Int->Option (Step Int (Out Unit Bool))
 |x2=>(if decide (x2<(l.length:Int)) then(idx l x2).bind λx3=>(if x3 == x then some (.stop (Out.ret true)) else some (.next (aY (x2+1)))) else some (.stop (Out.brk ())))
def aTT:(Out Unit Bool)->Option Bool
 |.brk ()=>aTS
 |.ret r=>some r
def vT(l:List Int)(x:Int):Option Bool:=
 (loop (xX l x) 0).bind (aTT)
def aTU(x10:List Int):Option (List Int):=
 some x10
def DO(l:aC):((List Int)×Int)->Option (Step ((List Int)×Int) (List Int))
 |(x8,x9)=>(if decide (x9<(l.Own.length:Int)) then(idx l.Own x9).bind λx11=>need (x8.length+x11.aV.length<=1073741824) (some (.next (x8++x11.aV,aY (x9+1)))) else some (.stop (x8)))
def aTV:(List Int)->Option (List Int)
 |x10=>aTU x10
def aEW(l:aC)(x5:List Int):Option (List Int):=
 (loop (DO l) (x5,0)).bind (aTV)
def DP(l:aC):((List Int)×Int)->Option (Step ((List Int)×Int) (List Int))
 |(x3,x4)=>(if decide (x4<(l.Global.length:Int)) then(idx l.Global x4).bind λx12=>need (x3.length+x12.aV.length<=1073741824) (some (.next (x3++x12.aV,aY (x4+1)))) else some (.stop (x3)))
def aEX(l:aC):(List Int)->Option (List Int)
 |x5=>aEW l x5
def RI(l:aC):Option (List Int):=
 (loop (DP l) (([]:List Int),0)).bind (aEX l)
def TN(l:aC)(slot:Int):Option Bool:=
 (RI l).bind λx1=>(vT x1 slot).bind λx2=>some x2
def IV(m:Mem)(slot:Int):Option Int:=
 (nW m.Heap slot).bind λx1=>(if decide (x1<0) then some 0 else(TN m.aC slot).bind λx2=>(if x2 then some 1 else(z8 m.Heap slot).bind λx3=>(if decide (6<x3) then some 2 else some 3)))
def IW(h:Int):Option Int:=
 (jK h).bind λx1=>(if !x1 then some 0 else some (aY (Int.tdiv h 32)))
def wV(x1:Bool):Option Bool:=
 some x1
def rD(m:Mem)(h:Int):Option Bool:=
 (jK h).bind λx2=>(if x2 then(fU h).bind λx3=>(IV m x3).bind λx4=>(if x4 == 3 then(fU h).bind λx5=>(z8 m.Heap x5).bind λx6=>(IW h).bind λx7=>wV (x6 == x7) else wV false) else wV false)
def aP7(x5:List eB):Option (List eB):=
 some x5
def AA(l:List bT):((List eB)×Int)->Option (Step ((List eB)×Int) (List eB))
 |(x3,x4)=>(if decide (x4<(l.length:Int)) then(idx l x4).bind λx6=>need (x3.length+x6.Rows.length<=1073741824) (some (.next (x3++x6.Rows,aY (x4+1)))) else some (.stop (x3)))
def aP8:(List eB)->Option (List eB)
 |x5=>aP7 x5
def GR(l:List bT):Option (List eB):=
 (loop (AA l) (([]:List eB),0)).bind (aP8)
def ZQ(b:List Int):Option Bool:=
 some (decide ((b.length:Int)<=1000))
def pZ(b:List Int):Int->Option (Step Int (Out Unit Bool))
 |x2=>(if decide (x2<(b.length:Int)) then(idx b x2).bind λx3=>(bX x3 0 255).bind λx4=>(if !x4 then some (.stop (Out.ret false)) else some (.next (aY (x2+1)))) else some (.stop (Out.brk ())))
def NY(b:List Int):(Out Unit Bool)->Option Bool
 |.brk ()=>ZQ b
 |.ret r=>some r
def PU(b:List Int):Option Bool:=
 (loop (pZ b) 0).bind (NY b)
def aMD:Option Bool:=
 some true
def p5(h:Heap):Int->Option (Step Int (Out Unit Bool))
 |x3=>(if decide (x3<6) then(idx h.Class x3).bind λx4=>(bX x4 (-1) 2).bind λx5=>(if !x5 then some (.stop (Out.ret false)) else some (.next (aY (x3+1)))) else some (.stop (Out.brk ())))
def aME:(Out Unit Bool)->Option Bool
 |.brk ()=>aMD
 |.ret r=>some r
def wW(h:Heap)(x1:Bool):Option Bool:=
 (if x1 then some false else(loop (p5 h) 0).bind (aME))
def PW(h:Heap):Option Bool:=
 (if(h.Bytes.length:Int) != 384 then wW h true else(if(h.Class.length:Int) != 6 then wW h true else(PU h.Bytes).bind λx6=>wW h (!x6)))
def AB(page index:Int)(x1:Bool):Option Int:=
 (if x1 then some (-1) else some (aY ((aY (page*4))+index)))
def uT(page index:Int):Option Int:=
 (bX page 0 5).bind λx2=>(if !x2 then AB page index true else(bX index 0 3).bind λx3=>AB page index (!x3))
def aP9:Option Bool:=
 some true
def tN(h:Heap)(p:Int):Int->Option (Step Int (Out Unit Bool))
 |x3=>(if decide (x3<(aY ((aY (p*64))+64))) then(idx h.Bytes x3).bind λx4=>(if x4 != 0 then some (.stop (Out.ret false)) else some (.next (aY (x3+1)))) else some (.stop (Out.brk ())))
def aQA:(Out Unit Bool)->Option Bool
 |.brk ()=>aP9
 |.ret r=>some r
def aQB:Option Bool:=
 some true
def tO(h:Heap)(p x1:Int):Int->Option (Step Int (Out Unit Bool))
 |x9=>(nV x1).bind λx10=>(if decide (x9<x10) then(uT p x9).bind λx11=>(z7 x11 x1).bind λx12=>(uS h.Bytes x12 4).bind λx13=>(bX x13 1 7).bind λx14=>(if !x14 then some (.stop (Out.ret false)) else some (.next (aY (x9+1)))) else some (.stop (Out.brk ())))
def aQC:(Out Unit Bool)->Option Bool
 |.brk ()=>aQB
 |.ret r=>some r
def aBG(h:Heap)(p x1:Int):Option Bool:=
 (loop (tO h p x1) 0).bind (aQC)
def tP(h:Heap)(p:Int):Int->Option (Step Int (Out Unit Bool))
 |x7=>(if decide (x7<(aY ((aY (p*64))+8))) then(idx h.Bytes x7).bind λx15=>(if x15 != 0 then some (.stop (Out.ret false)) else some (.next (aY (x7+1)))) else some (.stop (Out.brk ())))
def aBH(h:Heap)(p x1:Int):(Out Unit Bool)->Option Bool
 |.brk ()=>aBG h p x1
 |.ret r=>some r
def mC(h:Heap)(p x1:Int)(x5:Bool):Option Bool:=
 (if x5 then some false else(loop (tP h p) (aY ((aY (p*64))+3))).bind (aBH h p x1))
def TO(h:Heap)(p:Int):Option Bool:=
 (idx h.Class p).bind λx1=>(if decide (x1<0) then(loop (tN h p) (aY (p*64))).bind (aQA) else(idx h.Bytes (aY (p*64))).bind λx16=>(if x16 != 171 then mC h p x1 true else(idx h.Bytes (aY ((aY (p*64))+1))).bind λx17=>(if x17 != x1 then mC h p x1 true else(idx h.Bytes (aY ((aY (p*64))+2))).bind λx18=>(nV x1).bind λx19=>mC h p x1 (x18 != x19))))
def aQD:Option Bool:=
 some true
def AD(h:Heap):Int->Option (Step Int (Out Unit Bool))
 |x3=>(if decide (x3<6) then(TO h x3).bind λx4=>(if !x4 then some (.stop (Out.ret false)) else some (.next (aY (x3+1)))) else some (.stop (Out.brk ())))
def aQE:(Out Unit Bool)->Option Bool
 |.brk ()=>aQD
 |.ret r=>some r
def TP(h:Heap):Option Bool:=
 (PW h).bind λx1=>(if !x1 then some false else(loop (AD h) 0).bind (aQE))
def aMF:Option Bool:=
 some true
def E2(x6:Int)(x7:Bool):Option (Step Int (Out Unit Bool)):=
 (if x7 then some (.stop (Out.ret false)) else some (.next (aY (x6+1))))
def qA(x4:(List Int)):Int->Option (Step Int (Out Unit Bool))
 |x6=>(if decide (x6<(x4.length:Int)) then(idx x4 x6).bind λx8=>(bX x8 0 23).bind λx9=>(if !x9 then E2 x6 true else need (0<=(x6:Int)/\(x6:Int)<=(x4.length:Int)) ((vT ((x4.take x6.toNat).drop 0) x8).bind λx10=>E2 x6 x10)) else some (.stop (Out.brk ())))
def aMG:(Out Unit Bool)->Option Bool
 |.brk ()=>aMF
 |.ret r=>some r
def ZR(l:aC):Option Bool:=
 (RI l).bind λx4=>(loop (qA x4) 0).bind (aMG)
def qB(l:aC):Int->Option (Step Int (Out Unit Bool))
 |x3=>(if decide (x3<(l.Own.length:Int)) then(idx l.Own x3).bind λx11=>(if decide (2<(x11.aV.length:Int)) then some (.stop (Out.ret false)) else some (.next (aY (x3+1)))) else some (.stop (Out.brk ())))
def ZS(l:aC):(Out Unit Bool)->Option Bool
 |.brk ()=>ZR l
 |.ret r=>some r
def E3(l:aC)(x1:Bool):Option Bool:=
 (if x1 then some false else(loop (qB l) 0).bind (ZS l))
def PX(l:aC):Option Bool:=
 (if(l.Global.length:Int) != 3 then E3 l true else E3 l ((l.Own.length:Int) != 9))
def aJQ:Option Bool:=
 some true
def BN(x2:Int)(x3:Bool):Option (Step Int (Out Unit Bool)):=
 (if x3 then some (.stop (Out.ret false)) else some (.next (aY (x2+1))))
def oR(h:Heap)(l:List Int)(c:Int):Int->Option (Step Int (Out Unit Bool))
 |x2=>(if decide (x2<(l.length:Int)) then(idx l x2).bind λx4=>(nW h x4).bind λx5=>(if x5 != c then BN x2 true else(idx l x2).bind λx6=>(z8 h x6).bind λx7=>BN x2 (decide (6<x7))) else some (.stop (Out.brk ())))
def aJR:(Out Unit Bool)->Option Bool
 |.brk ()=>aJQ
 |.ret r=>some r
def DQ(h:Heap)(l:List Int)(c:Int):Option Bool:=
 (loop (oR h l c) 0).bind (aJR)
def DR(w_ c:Int)(x1:Bool):Option Int:=
 (if x1 then some (-1) else some (aY ((aY (w_*3))+c)))
def AE(w_ c:Int):Option Int:=
 (bX w_ 0 2).bind λx2=>(if !x2 then DR w_ c true else(bX c 0 2).bind λx3=>DR w_ c (!x3))
def aTW:Option Bool:=
 some true
def aEY(x3:Int):Option (Step Int (Out Unit Bool)):=
 some (.next (aY (x3+1)))
def DS(m:Mem)(x3:Int):Int->Option (Step Int (Out Unit Bool))
 |x7=>(if decide (x7<3) then(AE x7 x3).bind λx8=>(idx m.aC.Own x8).bind λx9=>(DQ m.Heap x9.aV x3).bind λx10=>(if !x10 then some (.stop (Out.ret false)) else some (.next (aY (x7+1)))) else some (.stop (Out.brk ())))
def aEZ(x3:Int):(Out Unit Bool)->Option (Step Int (Out Unit Bool))
 |.brk ()=>aEY x3
 |.ret r=>some (.stop (Out.ret r))
def DT(m:Mem):Int->Option (Step Int (Out Unit Bool))
 |x3=>(if decide (x3<3) then(idx m.aC.Global x3).bind λx4=>(DQ m.Heap x4.aV x3).bind λx5=>(if !x5 then some (.stop (Out.ret false)) else(loop (DS m x3) 0).bind (aEZ x3)) else some (.stop (Out.brk ())))
def aTX:(Out Unit Bool)->Option Bool
 |.brk ()=>aTW
 |.ret r=>some r
def L8(m:Mem)(x1:Bool):Option Bool:=
 (if x1 then some false else(loop (DT m) 0).bind (aTX))
def XW(m:Mem):Option Bool:=
 (TP m.Heap).bind λx11=>(if !x11 then L8 m true else(PX m.aC).bind λx12=>L8 m (!x12))
def ZT:Option Bool:=
 some true
def nA(x3:Int)(x5:Bool):Option (Step Int (Out Unit Bool)):=
 (if x5 then some (.stop (Out.ret false)) else some (.next (aY (x3+1))))
def wX(c:aD):Int->Option (Step Int (Out Unit Bool))
 |x3=>(if decide (x3<3) then(idx c.cG x3).bind λx4=>(if !x4.On then(if !(decide (x4=(⟨false,0,false,0⟩:yN))) then nA x3 true else(bX x4.aJ 0 c.aJ).bind λx6=>(if !x6 then nA x3 true else(bX x4.Seen 0 2).bind λx7=>nA x3 (!x7))) else(bX x4.aJ 0 c.aJ).bind λx8=>(if !x8 then nA x3 true else(bX x4.Seen 0 2).bind λx9=>nA x3 (!x9))) else some (.stop (Out.brk ())))
def NZ:(Out Unit Bool)->Option Bool
 |.brk ()=>ZT
 |.ret r=>some r
def qC(c:aD)(x1:Bool):Option Bool:=
 (if x1 then some false else(loop (wX c) 0).bind (NZ))
def rE(c:aD):Option Bool:=
 (bX c.aJ 0 100000).bind λx10=>(if !x10 then qC c true else qC c ((c.cG.length:Int) != 3))
def aMH:Option Bool:=
 some true
def wY(x5:List Int)(x6 x8:Int)(x9:Bool):Option (Step ((List Int)×Int) (Out Unit Bool)):=
 (if x9 then some (.stop (Out.ret false)) else need (x5.length+([x8]).length<=1073741824) (some (.next (x5++([x8]),aY (x6+1)))))
def wZ(x1:(List eB)):((List Int)×Int)->Option (Step ((List Int)×Int) (Out Unit Bool))
 |(x5,x6)=>(if decide (x6<(x1.length:Int)) then(idx x1 x6).bind λx7=>(fU x7.Handle).bind λx8=>(if decide (x8<0) then wY x5 x6 x8 true else(bX x7.aJ 0 100000).bind λx10=>(if !x10 then wY x5 x6 x8 true else(vT x5 x8).bind λx11=>wY x5 x6 x8 x11)) else some (.stop (Out.brk ())))
def aMI:(Out Unit Bool)->Option Bool
 |.brk ()=>aMH
 |.ret r=>some r
def E4(x1:(List eB))(x2:Bool):Option Bool:=
 (if x2 then some false else(loop (wZ x1) (([]:List Int),0)).bind (aMI))
def PY(l:List bT):Option Bool:=
 (GR l).bind λx1=>(if(l.length:Int) != 3 then E4 x1 true else E4 x1 (decide (24<(x1.length:Int))))
def aE0(z:List Int):Option Bool:=
 some ((z.length:Int) == 3)
def L9(x2:Int)(x3:Bool):Option (Step Int (Out Unit Bool)):=
 (if x3 then some (.stop (Out.ret false)) else some (.next (aY (x2+1))))
def DU(z:List Int):Int->Option (Step Int (Out Unit Bool))
 |x2=>(if decide (x2<(z.length:Int)) then(idx z x2).bind λx4=>(if x4 != 0 then(idx z x2).bind λx5=>(jK x5).bind λx6=>L9 x2 (!x6) else L9 x2 false) else some (.stop (Out.brk ())))
def aE1(z:List Int):(Out Unit Bool)->Option Bool
 |.brk ()=>aE0 z
 |.ret r=>some r
def XX(z:List Int):Option Bool:=
 (loop (DU z) 0).bind (aE1 z)
def aQF:Option Bool:=
 some true
def IX(x4:Int)(x5:Bool):Option (Step Int (Out Unit Bool)):=
 (if x5 then some (.stop (Out.ret false)) else some (.next (aY (x4+1))))
def AF(b:aA)(x2:(List eB)):Int->Option (Step Int (Out Unit Bool))
 |x4=>(if decide (x4<(x2.length:Int)) then(idx x2 x4).bind λx6=>(rD b.Mem x6.Handle).bind λx7=>(if !x7 then IX x4 true else IX x4 (decide (b.aD.aJ<x6.aJ))) else some (.stop (Out.brk ())))
def aQG:(Out Unit Bool)->Option Bool
 |.brk ()=>aQF
 |.ret r=>some r
def tQ(b:aA)(x1:Bool):Option Bool:=
 (if x1 then some false else(GR b.aM).bind λx2=>(loop (AF b x2) 0).bind (aQG))
def MZ(b:aA):Option Bool:=
 (XW b.Mem).bind λx8=>(if !x8 then tQ b true else(rE b.aD).bind λx9=>(if !x9 then tQ b true else(PY b.aM).bind λx10=>(if !x10 then tQ b true else(XX b.lX).bind λx11=>tQ b (!x11))))
def E5(x1:Bool):Option Bool:=
 some x1
def vU(h:Int):Option Bool:=
 (if h == 0 then E5 true else(jK h).bind λx2=>E5 x2)
def DV(x1:Bool):Option Bool:=
 some x1
def XY(b:cQ):Option Bool:=
 (vU b.Head).bind λx2=>(if x2 then(bX b.jS 0 1000000).bind λx3=>(if x3 then(bX b.g9 0 3).bind λx4=>DV x4 else DV false) else DV false)
def RJ(l:List Int):Option Bool:=
 some (decide ((l.length:Int)<=6))
def o9(l:List Int):Int->Option (Step Int (Out Unit Bool))
 |x2=>(if decide (x2<(l.length:Int)) then(idx l x2).bind λx3=>(jK x3).bind λx4=>(if !x4 then some (.stop (Out.ret false)) else some (.next (aY (x2+1)))) else some (.stop (Out.brk ())))
def RK(l:List Int):(Out Unit Bool)->Option Bool
 |.brk ()=>RJ l
 |.ret r=>some r
def xA(l:List Int):Option Bool:=
 (loop (o9 l) 0).bind (RK l)
def aJS:Option Bool:=
 some true
def oS(x7:Int)(x8:Bool):Option (Step Int (Out Unit Bool)):=
 (if x8 then some (.stop (Out.ret false)) else some (.next (aY (x7+1))))
def tR(j:aI):Int->Option (Step Int (Out Unit Bool))
 |x7=>(if decide (x7<(j.aH.length:Int)) then(idx j.aH x7).bind λx9=>(bX x9.Key 0 99).bind λx10=>(if !x10 then oS x7 true else(idx j.aH x7).bind λx11=>(bX x11.fT 0 65535).bind λx12=>(if !x12 then oS x7 true else(if decide (0<x7) then(idx j.aH x7).bind λx13=>(idx j.aH (aY (x7-1))).bind λx14=>oS x7 (decide (x13.Key<=x14.Key)) else oS x7 false))) else some (.stop (Out.brk ())))
def aJT:(Out Unit Bool)->Option Bool
 |.brk ()=>aJS
 |.ret r=>some r
def K2(j:aI):Option Bool:=
 (loop (tR j) 0).bind (aJT)
def tS(j:aI):Int->Option (Step Int (Out Unit Bool))
 |x5=>(if decide (x5<(j.Reads.length:Int)) then(idx j.Reads x5).bind λx15=>(bX x15.cQ 0 1).bind λx16=>(if !x16 then some (.stop (Out.ret false)) else some (.next (aY (x5+1)))) else some (.stop (Out.brk ())))
def aJU(j:aI):(Out Unit Bool)->Option Bool
 |.brk ()=>K2 j
 |.ret r=>some r
def K3(j:aI):Option Bool:=
 (loop (tS j) 0).bind (aJU j)
def BO(x3:Int)(x17:Bool):Option (Step Int (Out Unit Bool)):=
 (if x17 then some (.stop (Out.ret false)) else some (.next (aY (x3+1))))
def tT(j:aI):Int->Option (Step Int (Out Unit Bool))
 |x3=>(if decide (x3<(j.bD.length:Int)) then(idx j.bD x3).bind λx18=>(bX x18 0 1).bind λx19=>(if !x19 then BO x3 true else need (0<=(x3:Int)/\(x3:Int)<=(j.bD.length:Int)) ((idx j.bD x3).bind λx20=>(vT ((j.bD.take x3.toNat).drop 0) x20).bind λx21=>BO x3 x21)) else some (.stop (Out.brk ())))
def aJV(j:aI):(Out Unit Bool)->Option Bool
 |.brk ()=>K3 j
 |.ret r=>some r
def fV(j:aI)(x1:Bool):Option Bool:=
 (if x1 then some false else(loop (tT j) 0).bind (aJV j))
def MA(j:aI):Option Bool:=
 (HB j.Batch).bind λx22=>(if !x22 then fV j true else(vU j.H).bind λx23=>(if !x23 then fV j true else(vU j.gN).bind λx24=>(if !x24 then fV j true else(bX j.cQ 0 1).bind λx25=>(if !x25 then fV j true else(bX j.At 0 (j.Batch.bW.length:Int)).bind λx26=>(if !x26 then fV j true else(bX j.K 0 100).bind λx27=>(if !x27 then fV j true else(xA j.eO).bind λx28=>(if !x28 then fV j true else(xA j.bU).bind λx29=>(if !x29 then fV j true else fV j (decide (6<(j.aH.length:Int)))))))))))
def aD5:Option Bool:=
 some true
def OT(a_ b:List kG):Int->Option (Step Int (Out Unit Bool))
 |x2=>(if decide (x2<(a_.length:Int)) then(idx a_ x2).bind λx3=>(idx b x2).bind λx4=>(if !(decide (x3=x4)) then some (.stop (Out.ret false)) else some (.next (aY (x2+1)))) else some (.stop (Out.brk ())))
def aD6:(Out Unit Bool)->Option Bool
 |.brk ()=>aD5
 |.ret r=>some r
def tU(a_ b:List kG):Option Bool:=
 (if(a_.length:Int) != (b.length:Int) then some false else(loop (OT a_ b) 0).bind (aD6))
def AG(x1:Bool):Option Bool:=
 some x1
def yX(a_ b:Batch):Option Bool:=
 (if a_.Collect == b.Collect then(tU a_.bW b.bW).bind λx2=>AG x2 else AG false)
def aD7:Option Bool:=
 some true
def OU(a_ b:aI):Int->Option (Step Int (Out Unit Bool))
 |x5=>(if decide (x5<(a_.aH.length:Int)) then(idx a_.aH x5).bind λx6=>(idx b.aH x5).bind λx7=>(if !(decide (x6=x7)) then some (.stop (Out.ret false)) else some (.next (aY (x5+1)))) else some (.stop (Out.brk ())))
def aD8:(Out Unit Bool)->Option Bool
 |.brk ()=>aD7
 |.ret r=>some r
def OV(a_ b:aI):Option Bool:=
 (loop (OU a_ b) 0).bind (aD8)
def OW(a_ b:aI):Int->Option (Step Int (Out Unit Bool))
 |x3=>(if decide (x3<(a_.Reads.length:Int)) then(idx a_.Reads x3).bind λx8=>(idx b.Reads x3).bind λx9=>(if !(decide (x8=x9)) then some (.stop (Out.ret false)) else some (.next (aY (x3+1)))) else some (.stop (Out.brk ())))
def OX(a_ b:aI):(Out Unit Bool)->Option Bool
 |.brk ()=>OV a_ b
 |.ret r=>some r
def sK(a_ b:aI)(x1:Bool):Option Bool:=
 (if x1 then some false else(loop (OW a_ b) 0).bind (OX a_ b))
def BP(a_ b:aI):Option Bool:=
 (if(a_.Reads.length:Int) != (b.Reads.length:Int) then sK a_ b true else sK a_ b ((a_.aH.length:Int) != (b.aH.length:Int)))
def aFZ:Option Bool:=
 some true
def RL(a_ b:List iZ):Int->Option (Step Int (Out Unit Bool))
 |x2=>(if decide (x2<(a_.length:Int)) then(idx a_ x2).bind λx3=>(idx b x2).bind λx4=>(if !(decide (x3=x4)) then some (.stop (Out.ret false)) else some (.next (aY (x2+1)))) else some (.stop (Out.brk ())))
def aF0:(Out Unit Bool)->Option Bool
 |.brk ()=>aFZ
 |.ret r=>some r
def E6(a_ b:List iZ):Option Bool:=
 (if(a_.length:Int) != (b.length:Int) then some false else(loop (RL a_ b) 0).bind (aF0))
def aH1:Option Bool:=
 some true
def TQ(a_ b:List Int):Int->Option (Step Int (Out Unit Bool))
 |x2=>(if decide (x2<(a_.length:Int)) then(idx a_ x2).bind λx3=>(idx b x2).bind λx4=>(if x3 != x4 then some (.stop (Out.ret false)) else some (.next (aY (x2+1)))) else some (.stop (Out.brk ())))
def aH2:(Out Unit Bool)->Option Bool
 |.brk ()=>aH1
 |.ret r=>some r
def tV(a_ b:List Int):Option Bool:=
 (if(a_.length:Int) != (b.length:Int) then some false else(loop (TQ a_ b) 0).bind (aH2))
def b7(x1:Bool):Option Bool:=
 some x1
def qD(a_ b:aI):Option Bool:=
 (if a_.cR == b.cR then(yX a_.Batch b.Batch).bind λx2=>(if x2 then(if a_.aO == b.aO then(if a_.Pc == b.Pc then(if a_.At == b.At then(if a_.K == b.K then(if a_.cQ == b.cQ then(if a_.jS == b.jS then(if a_.H == b.H then(if a_.gN == b.gN then(if decide (a_.Node=b.Node) then(if a_.Found == b.Found then(if a_.Code == b.Code then(if decide (a_.Sub=b.Sub) then(BP a_ b).bind λx3=>(if x3 then(E6 a_.iZ b.iZ).bind λx4=>(if x4 then(tV a_.eO b.eO).bind λx5=>(if x5 then(tV a_.bD b.bD).bind λx6=>(if x6 then(tV a_.bU b.bU).bind λx7=>b7 x7 else b7 false) else b7 false) else b7 false) else b7 false) else b7 false) else b7 false) else b7 false) else b7 false) else b7 false) else b7 false) else b7 false) else b7 false) else b7 false) else b7 false) else b7 false) else b7 false) else b7 false) else b7 false)
def aMJ:Option Bool:=
 some true
def nB(x5:Int)(x6:Bool):Option (Step Int (Out Unit Bool)):=
 (if x6 then some (.stop (Out.ret false)) else some (.next (aY (x5+1))))
def xB(t:Table):Int->Option (Step Int (Out Unit Bool))
 |x5=>(if decide (x5<3) then(idx t.aQ x5).bind λx7=>(if x7.cR then(idx t.aQ x5).bind λx8=>(MA x8).bind λx9=>(if !x9 then nB x5 true else(idx t.aQ x5).bind λx10=>(if !x10.cR then(idx t.aQ x5).bind λx11=>(qD x11 (⟨false,(⟨false,[]⟩:Batch),0,0,0,0,0,0,0,0,(⟨0,0,0⟩:gE),false,0,(⟨0,0,0,0,0,0,0,0,0,false⟩:Sub),[],[],[],[],[],[]⟩:aI)).bind λx12=>nB x5 (!x12) else nB x5 false)) else(idx t.aQ x5).bind λx13=>(if !x13.cR then(idx t.aQ x5).bind λx14=>(qD x14 (⟨false,(⟨false,[]⟩:Batch),0,0,0,0,0,0,0,0,(⟨0,0,0⟩:gE),false,0,(⟨0,0,0,0,0,0,0,0,0,false⟩:Sub),[],[],[],[],[],[]⟩:aI)).bind λx15=>nB x5 (!x15) else nB x5 false)) else some (.stop (Out.brk ())))
def aMK:(Out Unit Bool)->Option Bool
 |.brk ()=>aMJ
 |.ret r=>some r
def N0(t:Table):Option Bool:=
 (loop (xB t) 0).bind (aMK)
def xC(t:Table):Int->Option (Step Int (Out Unit Bool))
 |x3=>(if decide (x3<2) then(idx t.bZ x3).bind λx16=>(XY x16).bind λx17=>(if !x17 then some (.stop (Out.ret false)) else some (.next (aY (x3+1)))) else some (.stop (Out.brk ())))
def aML(t:Table):(Out Unit Bool)->Option Bool
 |.brk ()=>N0 t
 |.ret r=>some r
def kY(t:Table)(x1:Bool):Option Bool:=
 (if x1 then some false else(loop (xC t) 0).bind (aML t))
def nX(t:Table):Option Bool:=
 (MZ t.aA).bind λx18=>(if !x18 then kY t true else(if(t.bZ.length:Int) != 2 then kY t true else(if(t.aQ.length:Int) != 3 then kY t true else(HC t.dQ).bind λx19=>(if !x19 then kY t true else(bX t.aO 0 1000000).bind λx20=>kY t (!x20)))))
def AI(x9:List Int):Option (List Int):=
 some x9
def RM(x:Int)(x7:List Int)(x8:Bool):Option (List Int):=
 (if !x8 then need (x7.length+([x]).length<=1073741824) (AI (x7++([x]))) else AI x7)
def tW(l:List Int)(x6:Int)(x11:List Int)(x12:Bool):Option (Step ((List Int)×Bool×Int) (Out ((List Int)×Bool) (List Int))):=
 (idx l x6).bind λx13=>need (x11.length+([x13]).length<=1073741824) (some (.next (x11++([x13]),x12,aY (x6+1))))
def tX(l:List Int)(x:Int)(x4:List Int)(x5:Bool)(x6:Int)(x14:Bool):Option (Step ((List Int)×Bool×Int) (Out ((List Int)×Bool) (List Int))):=
 (if x14 then need (x4.length+([x]).length<=1073741824) (tW l x6 (x4++([x])) true) else tW l x6 x4 x5)
def kN(l:List Int)(x:Int):((List Int)×Bool×Int)->Option (Step ((List Int)×Bool×Int) (Out ((List Int)×Bool) (List Int)))
 |(x4,x5,x6)=>(if decide (x6<(l.length:Int)) then(idx l x6).bind λx10=>(if x10 == x then some (.stop (Out.ret l)) else(if !x5 then tX l x x4 x5 x6 (decide (x<x10)) else tX l x x4 x5 x6 false)) else some (.stop (Out.brk (x4,x5))))
def AJ(x:Int):(Out ((List Int)×Bool) (List Int))->Option (List Int)
 |.brk (x7,x8)=>RM x x7 x8
 |.ret r=>some r
def uU(l:List Int)(x:Int):Option (List Int):=
 (loop (kN l x) (([]:List Int),false,0)).bind (AJ x)
def aBI(x6:List Int):Option (List Int):=
 some x6
def rF(x5:Int)(x8:List Int):Option (Step ((List Int)×Int) (List Int)):=
 some (.next (x8,aY (x5+1)))
def eU(x4:List Int)(x5:Int)(x11:Bool)(x12:aI):Option (Step ((List Int)×Int) (List Int)):=
 (if x11 then(uU x4 x12.H).bind λx13=>rF x5 x13 else rF x5 x4)
def mD(t:Table)(x4:List Int)(x5:Int)(x7:Bool):Option (Step ((List Int)×Int) (List Int)):=
 (if x7 then(idx t.aQ x5).bind λx9=>(idx t.aA.aD.cG x5).bind λx10=>(if x9.cR then(if x9.Pc == 3 then(if x9.H != 0 then(if x10.On then eU x4 x5 (!x10.gG) x9 else eU x4 x5 false x9) else eU x4 x5 false x9) else(if x9.Pc == 4 then(if x9.H != 0 then(if x10.On then eU x4 x5 (!x10.gG) x9 else eU x4 x5 false x9) else eU x4 x5 false x9) else eU x4 x5 false x9)) else eU x4 x5 false x9) else some (.stop (x4)))
def mE(t:Table)(x1:Bool):((List Int)×Int)->Option (Step ((List Int)×Int) (List Int))
 |(x4,x5)=>(if decide (x5<3) then mD t x4 x5 x1 else mD t x4 x5 false)
def aBJ:(List Int)->Option (List Int)
 |x6=>aBI x6
def yY(t:Table):Option (List Int):=
 (nX t).bind λx1=>(loop (mE t x1) (([]:List Int),0)).bind (aBJ)
def TS(t:Table):Option Bool:=
 (nX t).bind λx4=>some x4
def rG(t:Table)(x1:(List Int)):Int->Option (Step Int (Out Unit Bool))
 |x3=>(if decide (x3<(x1.length:Int)) then(idx x1 x3).bind λx5=>(rD t.aA.Mem x5).bind λx6=>(if !x6 then some (.stop (Out.ret false)) else some (.next (aY (x3+1)))) else some (.stop (Out.brk ())))
def TU(t:Table):(Out Unit Bool)->Option Bool
 |.brk ()=>TS t
 |.ret r=>some r
def IY(t:Table):Option Bool:=
 (yY t).bind λx1=>(loop (rG t x1) 0).bind (TU t)
def aMM:Option Bool:=
 some false
def xD(x3:Int)(x4:Bool):Option (Step Int (Out Unit Bool)):=
 (if x4 then some (.stop (Out.ret true)) else some (.next (aY (x3+1))))
def qE(slot:Int)(x1:(List eB)):Int->Option (Step Int (Out Unit Bool))
 |x3=>(if decide (x3<(x1.length:Int)) then(idx x1 x3).bind λx5=>(jK x5.Handle).bind λx6=>(if x6 then(fU x5.Handle).bind λx7=>xD x3 (x7 == slot) else xD x3 false) else some (.stop (Out.brk ())))
def aMN:(Out Unit Bool)->Option Bool
 |.brk ()=>aMM
 |.ret r=>some r
def BQ(l:List bT)(slot:Int):Option Bool:=
 (GR l).bind λx1=>(loop (qE slot x1) 0).bind (aMN)
def BR(x1:Int)(x2:Bool):Option Int:=
 (if x2 then some 4 else some x1)
def MB(b:aA)(slot:Int):Option Int:=
 (IV b.Mem slot).bind λx1=>(if x1 == 3 then(BQ b.aM slot).bind λx3=>BR x1 (!x3) else BR x1 false)
def aTY(x6:List Int):Option (List Int):=
 some x6
def DW(b:aA)(x4:List Int)(x5:Int)(x7:Bool):Option (Step ((List Int)×Int) (List Int)):=
 (if x7 then(MB b x5).bind λx8=>(idx x4 x8).bind λx9=>some (.next (x4.set x8.toNat (aY (x9+1)),aY (x5+1))) else some (.stop (x4)))
def DX(b:aA)(x1:Bool):((List Int)×Int)->Option (Step ((List Int)×Int) (List Int))
 |(x4,x5)=>(if decide (x5<24) then DW b x4 x5 x1 else DW b x4 x5 false)
def aTZ:(List Int)->Option (List Int)
 |x6=>aTY x6
def XZ(b:aA):Option (List Int):=
 need (0<=(5:Int)/\(5:Int)<=4294967296) ((MZ b).bind λx1=>(loop (DX b x1) (List.replicate ((5:Int).toNat) 0,0)).bind (aTZ))
def PZ(slot c:Int):Option Int:=
 (z7 slot c).bind λx1=>(if decide (x1<0) then some (-1) else some (aY (x1+4)))
def E7(m:Mem)(h:Int)(x1:Bool):Option (Int×Int):=
 (if x1 then some (0,4) else(fU h).bind λx2=>(nW m.Heap x2).bind λx3=>(GQ x3).bind λx4=>(if decide (x4<10) then some (0,2) else(fU h).bind λx5=>(PZ x5 x3).bind λx6=>some (x6,0)))
def P0(m:Mem)(h:Int):Option (Int×Int):=
 (jK h).bind λx7=>(if !x7 then E7 m h true else(fU h).bind λx8=>(nW m.Heap x8).bind λx9=>E7 m h (decide (x9<0)))
def AK(x1:Bool):Option Bool:=
 some x1
def TX(n:gE):Option Bool:=
 (bX n.Key 0 99).bind λx2=>(if x2 then(bX n.fT 0 65535).bind λx3=>(if x3 then(vU n.Next).bind λx4=>AK x4 else AK false) else AK false)
def IZ(m:Mem)(at_:Int):Option gE:=
 (uS m.Heap.Bytes at_ 2).bind λx1=>(uS m.Heap.Bytes (aY (at_+2)) 4).bind λx2=>(uS m.Heap.Bytes (aY (at_+6)) 4).bind λx3=>some (⟨x1,x2,x3⟩:gE)
def aJW(x5:List Int):Option ((List Int)×Bool):=
 some (x5,true)
def BS(m:Mem)(x3:List Int)(x4:Int)(x7:Int×Int)(x8:Bool):Option (Step ((List Int)×Int) (Out (List Int) ((List Int)×Bool))):=
 (if x8 then some (.stop (Out.ret (([]:List Int),false))) else need (x3.length+([x4]).length<=1073741824) ((IZ m x7.1).bind λx9=>some (.next (x3++([x4]),x9.Next))))
def BT(m:Mem)(x3:List Int)(x4:Int)(x6:Bool):Option (Step ((List Int)×Int) (Out (List Int) ((List Int)×Bool))):=
 (if x6 then some (.stop (Out.ret (([]:List Int),false))) else(P0 m x4).bind λx7=>(if x7.2 != 0 then BS m x3 x4 x7 true else(IZ m x7.1).bind λx10=>(TX x10).bind λx11=>BS m x3 x4 x7 (!x11)))
def BU(m:Mem):((List Int)×Int)->Option (Step ((List Int)×Int) (Out (List Int) ((List Int)×Bool)))
 |(x3,x4)=>(if x4 != 0 then(rD m x4).bind λx12=>(if !x12 then BT m x3 x4 true else(vT x3 x4).bind λx13=>BT m x3 x4 x13) else some (.stop (Out.brk x3)))
def aJX:(Out (List Int) ((List Int)×Bool))->Option ((List Int)×Bool)
 |.brk x5=>aJW x5
 |.ret r=>some r
def MC(m:Mem)(head:Int):Option ((List Int)×Bool):=
 (loop (BU m) (([]:List Int),head)).bind (aJX)
def aQH(x6:List Int):Option (List Int):=
 some x6
def aBK(x5:Int)(x13:List Int):Option (Step ((List Int)×Int) (Out (List Int) (List Int))):=
 some (.next (x13,aY (x5+1)))
def aBL(x8:(List Int)×Bool):((List Int)×Int)->Option (Step ((List Int)×Int) (List Int))
 |(x11,x12)=>(if decide (x12<(x8.1.length:Int)) then(idx x8.1 x12).bind λx14=>(uU x11 x14).bind λx15=>some (.next (x15,aY (x12+1))) else some (.stop (x11)))
def aBM(x5:Int):(List Int)->Option (Step ((List Int)×Int) (Out (List Int) (List Int)))
 |x13=>aBK x5 x13
def AL(t:Table):((List Int)×Int)->Option (Step ((List Int)×Int) (Out (List Int) (List Int)))
 |(x4,x5)=>(if decide (x5<2) then(idx t.bZ x5).bind λx7=>(MC t.aA.Mem x7.Head).bind λx8=>(if !x8.2 then some (.stop (Out.ret ([]:List Int))) else(loop (aBL x8) (x4,0)).bind (aBM x5)) else some (.stop (Out.brk x4)))
def aQI:(Out (List Int) (List Int))->Option (List Int)
 |.brk x6=>aQH x6
 |.ret r=>some r
def TY(t:Table):Option (List Int):=
 (nX t).bind λx1=>(if !x1 then some ([]:List Int) else(loop (AL t) (([]:List Int),0)).bind (aQI))
def aXD(x5:Int):Option Int:=
 some x5
def P1(x4 x7:Int):Option (Step (Int×Int) Int):=
 some (.next (x7,aY (x4+1)))
def I0(l:List aX)(x3 x4:Int)(x6:Bool):Option (Step (Int×Int) Int):=
 (if x6 then(idx l x4).bind λx8=>(if !x8.KR then P1 x4 (aY (x3+1)) else P1 x4 x3) else some (.stop (x3)))
def I1(l:List aX)(n:Int):(Int×Int)->Option (Step (Int×Int) Int)
 |(x3,x4)=>(if decide (x4<(l.length:Int)) then I0 l x3 x4 (decide (x4<n)) else I0 l x3 x4 false)
def aXE:Int->Option Int
 |x5=>aXD x5
def aDL(l:List aX)(n:Int):Option Int:=
 (loop (I1 l n) (0,0)).bind (aXE)
def oD(b:List Int):Option (List Int):=
 need (([]:List Int).length+b.length<=1073741824) (some (([]:List Int)++b))
def E8(j:aI):Option (List Int):=
 (bX j.Pc 6 8).bind λx1=>(if x1 then(oD j.eO).bind λx2=>need (x2.length+([]:List Int).length<=1073741824) (some (x2++([]:List Int))) else(if j.Pc == 16 then(oD j.eO).bind λx3=>need (x3.length+([]:List Int).length<=1073741824) (some (x3++([]:List Int))) else(if j.Pc == 17 then(oD j.eO).bind λx4=>need (x4.length+([]:List Int).length<=1073741824) (some (x4++([]:List Int))) else(bX j.Pc 9 13).bind λx5=>(if x5 then(aDL j.aH j.K).bind λx6=>need (0<=(if x6<(j.eO.length:Int) then x6 else(j.eO.length:Int):Int)/\(if x6<(j.eO.length:Int) then x6 else(j.eO.length:Int):Int)<=(j.eO.length:Int)) ((oD ((j.eO.take j.eO.length).drop ((if x6<(j.eO.length:Int) then x6 else(j.eO.length:Int)).toNat))).bind λx7=>need (x7.length+j.bU.length<=1073741824) (some (x7++j.bU))) else(if j.Pc == 14 then(oD ([]:List Int)).bind λx8=>need (x8.length+j.bU.length<=1073741824) (some (x8++j.bU)) else(if j.Pc == 15 then need (0<=(if j.K<(j.bU.length:Int) then j.K else(j.bU.length:Int):Int)/\(if j.K<(j.bU.length:Int) then j.K else(j.bU.length:Int):Int)<=(j.bU.length:Int)) ((oD ([]:List Int)).bind λx9=>need (x9.length+((j.bU.take j.bU.length).drop ((if j.K<(j.bU.length:Int) then j.K else(j.bU.length:Int)).toNat)).length<=1073741824) (some (x9++((j.bU.take j.bU.length).drop ((if j.K<(j.bU.length:Int) then j.K else(j.bU.length:Int)).toNat))))) else(oD ([]:List Int)).bind λx10=>need (x10.length+([]:List Int).length<=1073741824) (some (x10++([]:List Int)))))))))
def aMO(x6:List Int):Option (List Int):=
 some x6
def ZU(x5:Int)(x14:List Int):Option (Step ((List Int)×Int) (List Int)):=
 some (.next (x14,aY (x5+1)))
def E9(x9:(List Int))(x12:List Int)(x13:Int)(x15:Bool):Option (Step ((List Int)×Int) (List Int)):=
 (if x15 then(idx x9 x13).bind λx16=>(uU x12 x16).bind λx17=>some (.next (x17,aY (x13+1))) else some (.stop (x12)))
def ZV(t:Table)(x5:Int)(x9:(List Int)):((List Int)×Int)->Option (Step ((List Int)×Int) (List Int))
 |(x12,x13)=>(if decide (x13<(x9.length:Int)) then(idx t.aQ x5).bind λx18=>E9 x9 x12 x13 x18.cR else E9 x9 x12 x13 false)
def ZW(x5:Int):(List Int)->Option (Step ((List Int)×Int) (List Int))
 |x14=>ZU x5 x14
def xE(t:Table)(x4:List Int)(x5:Int)(x7:Bool):Option (Step ((List Int)×Int) (List Int)):=
 (if x7 then(idx t.aQ x5).bind λx8=>(E8 x8).bind λx9=>(loop (ZV t x5 x9) (x4,0)).bind (ZW x5) else some (.stop (x4)))
def xF(t:Table)(x1:Bool):((List Int)×Int)->Option (Step ((List Int)×Int) (List Int))
 |(x4,x5)=>(if decide (x5<3) then xE t x4 x5 x1 else xE t x4 x5 false)
def aMP:(List Int)->Option (List Int)
 |x6=>aMO x6
def P2(t:Table):Option (List Int):=
 (nX t).bind λx1=>(loop (xF t x1) (([]:List Int),0)).bind (aMP)
def nY(x5:Bool):Option Bool:=
 some x5
def I2(t:Table)(x1 x2:(List Int)):Option Bool:=
 (nX t).bind λx6=>(if x6 then(XZ t.aA).bind λx7=>(idx x7 4).bind λx8=>nY (x8 == ((x1++x2).length:Int)) else nY false)
def kO(x4:Int)(x9:Bool):Option (Step Int (Out Unit Bool)):=
 (if x9 then some (.stop (Out.ret false)) else some (.next (aY (x4+1))))
def kP(t:Table)(x1 x2:(List Int)):Int->Option (Step Int (Out Unit Bool))
 |x4=>(if decide (x4<((x1++x2).length:Int)) then need (0<=(x4:Int)/\(x4:Int)<=((x1++x2).length:Int)) ((idx (x1++x2) x4).bind λx10=>(vT (((x1++x2).take x4.toNat).drop 0) x10).bind λx11=>(if x11 then kO x4 true else(rD t.aA.Mem x10).bind λx12=>(if !x12 then kO x4 true else(fU x10).bind λx13=>(BQ t.aA.aM x13).bind λx14=>kO x4 x14))) else some (.stop (Out.brk ())))
def I3(t:Table)(x1 x2:(List Int)):(Out Unit Bool)->Option Bool
 |.brk ()=>I2 t x1 x2
 |.ret r=>some r
def nN(t:Table):Option Bool:=
 (TY t).bind λx1=>(P2 t).bind λx2=>need (x1.length+x2.length<=1073741824) ((loop (kP t x1 x2) 0).bind (I3 t x1 x2))
def DY(x8:List Int)(x9:Int):Option (List Int):=
 need (0<=(x9:Int)/\(x9:Int)<=(x8.length:Int)) (need (0<=(x9:Int)/\(x9:Int)<=((dA x8 x9.toNat (List.replicate (x8.length-x9.toNat) 0)).length:Int)) (some (((dA x8 x9.toNat (List.replicate (x8.length-x9.toNat) 0)).take x9.toNat).drop 0)))
def jL(x7:Int)(x10:List Int)(x11:Int):Option (Step ((List Int)×Int×Int) ((List Int)×Int)):=
 some (.next (x10,x11,aY (x7+1)))
def lV(del:(Int->Option Bool)):((List Int)×Int×Int)->Option (Step ((List Int)×Int×Int) ((List Int)×Int))
 |(x5,x6,x7)=>(if decide (x7<(x5.length:Int)) then(idx x5 x7).bind λx12=>(del x12).bind λx13=>(if !x13 then(idx x5 x6).bind λx14=>jL x7 (x5.set x6.toNat x12) (aY (x6+1)) else jL x7 x5 x6) else some (.stop ((x5,x6))))
def DZ:((List Int)×Int)->Option (List Int)
 |(x8,x9)=>DY x8 x9
def pE(s:List Int)(del:(Int->Option Bool)):Option (List Int):=
 (fY s del).bind λx1=>(if x1 == (-1) then some s else(loop (lV del) (s,x1,aY (x1+1))).bind (DZ))
def K4(n:Int):Option Bool:=
 some (n == 0)
def mF(list:List Int):Option (List Int):=
 (eW list).bind λx1=>(pE x1 (λy0=>K4 y0)).bind λx2=>(wR x2).bind λx3=>(slices_Compact_int x3).bind λx4=>some x4
def M0(x6:List Int):Option (List Int):=
 (mF x6).bind λx7=>some x7
def rH(x5:Int)(x8:List Int):Option (Step ((List Int)×Int) (List Int)):=
 some (.next (x8,aY (x5+1)))
def mG(x4:List Int)(x5:Int)(x10:Bool)(x11:aI):Option (Step ((List Int)×Int) (List Int)):=
 (if x10 then need (x4.length+([x11.H]).length<=1073741824) (rH x5 (x4++([x11.H]))) else rH x5 x4)
def mH(t:Table):((List Int)×Int)->Option (Step ((List Int)×Int) (List Int))
 |(x4,x5)=>(if decide (x5<(t.aQ.length:Int)) then(idx t.aQ x5).bind λx9=>(if x9.cR then(bS x9.Pc 3 4).bind λx12=>(if x12 then(idx t.aA.aD.cG x5).bind λx13=>(oZ x13).bind λx14=>mG x4 x5 x14 x9 else mG x4 x5 false x9) else mG x4 x5 false x9) else some (.stop (x4)))
def M1:(List Int)->Option (List Int)
 |x6=>M0 x6
def yZ(t:Table):Option (List Int):=
 (nU t).bind λx1=>(if !x1 then some ([]:List Int) else(loop (mH t) (([]:List Int),0)).bind (M1))
def BV(h:Int)(k0:Table):Option Bool:=
 (qR k0.aA.Mem h).bind λx1=>some (!x1)
def y5(x1:Bool):Option Bool:=
 some x1
def I4(t:Table):Option Bool:=
 (nU t).bind λx2=>(if x2 then(yZ t).bind λx3=>(cT x3 (λy0=>BV y0 t)).bind λx4=>y5 (!x4) else y5 false)
def aBN(x11:List Int):Option (List Int):=
 some x11
def mI(slices:List (List Int)):((List Int)×Int)->Option (Step ((List Int)×Int) (List Int))
 |(x9,x10)=>(if decide (x10<(slices.length:Int)) then(idx slices x10).bind λx12=>need (x9.length+x12.length<=1073741824) (some (.next (x9++x12,aY (x10+1)))) else some (.stop (x9)))
def aBO:(List Int)->Option (List Int)
 |x11=>aBN x11
def aBP(slices:List (List Int))(x5:Int):Option (List Int):=
 (aG6 Int x5).bind λx6=>(loop (mI slices) (x6,0)).bind (aBO)
def mJ(slices:List (List Int)):(Int×Int)->Option (Step (Int×Int) Int)
 |(x3,x4)=>(if decide (x4<(slices.length:Int)) then(idx slices x4).bind λx13=>(if decide ((aY (x3+(x13.length:Int)))<0) then none else some (.next (aY (x3+(x13.length:Int)),aY (x4+1)))) else some (.stop (x3)))
def aBQ(slices:List (List Int)):Int->Option (List Int)
 |x5=>aBP slices x5
def mY(slices:List (List Int)):Option (List Int):=
 (loop (mJ slices) (0,0)).bind (aBQ slices)
def P3(j:aI):Option (List Int):=
 (bS j.Pc 6 8).bind λx1=>(if x1 then some j.eO else(if j.Pc == 16 then some j.eO else(if j.Pc == 17 then some j.eO else(bS j.Pc 9 13).bind λx2=>(if x2 then(QJ j.aH j.K).bind λx3=>need (0<=(if(j.eO.length:Int)<x3 then(j.eO.length:Int) else x3:Int)/\(if(j.eO.length:Int)<x3 then(j.eO.length:Int) else x3:Int)<=(j.eO.length:Int)) ((mY ([(j.eO.take j.eO.length).drop ((if(j.eO.length:Int)<x3 then(j.eO.length:Int) else x3).toNat),j.bU])).bind λx4=>some x4) else(if j.Pc == 14 then some j.bU else(if j.Pc == 15 then need (0<=(if(j.bU.length:Int)<j.K then(j.bU.length:Int) else j.K:Int)/\(if(j.bU.length:Int)<j.K then(j.bU.length:Int) else j.K:Int)<=(j.bU.length:Int)) (some ((j.bU.take j.bU.length).drop ((if(j.bU.length:Int)<j.K then(j.bU.length:Int) else j.K).toNat))) else some ([])))))))
def ZX(x6:List Int):Option (List Int):=
 (mF x6).bind λx7=>some x7
def FA(x5:Int)(x8:List Int):Option (Step ((List Int)×Int) (List Int)):=
 some (.next (x8,aY (x5+1)))
def xG(t:Table):((List Int)×Int)->Option (Step ((List Int)×Int) (List Int))
 |(x4,x5)=>(if decide (x5<(t.aQ.length:Int)) then(idx t.aQ x5).bind λx9=>(if x9.cR then(P3 x9).bind λx10=>need (x4.length+x10.length<=1073741824) (FA x5 (x4++x10)) else FA x5 x4) else some (.stop (x4)))
def ZY:(List Int)->Option (List Int)
 |x6=>ZX x6
def I5(t:Table):Option (List Int):=
 (nU t).bind λx1=>(if !x1 then some ([]:List Int) else(loop (xG t) (([]:List Int),0)).bind (ZY))
def aMQ(x6:List Int):Option ((List Int)×Bool):=
 some (x6,true)
def FB(m:Mem)(x4:List Int)(x5:Int)(x7:Bool):Option (Step ((List Int)×Int) (Out (List Int) ((List Int)×Bool))):=
 (if x7 then some (.stop (Out.ret ([],false))) else(MU m.Heap (Int.tmod x5 32)).bind λx8=>(MW x8).bind λx9=>(if !x9 then some (.stop (Out.ret ([],false))) else need (x4.length+([x5]).length<=1073741824) (some (.next (x4++([x5]),x8.Next)))))
def FC(m:Mem):((List Int)×Int)->Option (Step ((List Int)×Int) (Out (List Int) ((List Int)×Bool)))
 |(x4,x5)=>(if x5 != 0 then(xW m x5).bind λx10=>(if x10 != 0 then FB m x4 x5 true else(jA x4 x5).bind λx11=>FB m x4 x5 x11) else some (.stop (Out.brk x4)))
def aMR:(Out (List Int) ((List Int)×Bool))->Option ((List Int)×Bool)
 |.brk x6=>aMQ x6
 |.ret r=>some r
def I6(m:Mem)(head:Int):Option ((List Int)×Bool):=
 (zV m).bind λx1=>(if !x1 then some (([]:List Int),false) else(loop (FC m) (([]:List Int),head)).bind (aMR))
def aQJ(x6:List (List Int)):Option ((List (List Int))×Bool):=
 some (x6,true)
def AM(t:Table):((List (List Int))×Int)->Option (Step ((List (List Int))×Int) (Out (List (List Int)) ((List (List Int))×Bool)))
 |(x4,x5)=>(if decide (x5<(t.bZ.length:Int)) then(idx t.bZ x5).bind λx7=>(I6 t.aA.Mem x7.Head).bind λx8=>(if !x8.2 then some (.stop (Out.ret ([],false))) else need (x4.length+([x8.1]).length<=1073741824) (some (.next (x4++([x8.1]),aY (x5+1))))) else some (.stop (Out.brk x4)))
def aQK:(Out (List (List Int)) ((List (List Int))×Bool))->Option ((List (List Int))×Bool)
 |.brk x6=>aQJ x6
 |.ret r=>some r
def TZ(t:Table):Option ((List (List Int))×Bool):=
 (nU t).bind λx1=>(if !x1 then some (([]:List (List Int)),false) else(loop (AM t) (([]:List (List Int)),0)).bind (aQK))
def T0(t:Table):Option (List Int):=
 (TZ t).bind λx1=>(mY x1.1).bind λx2=>(mF x2).bind λx3=>some x3
def RN(b:aA)(slot:Int):Option Int:=
 (H3 b.Mem slot).bind λx1=>(if x1 != 3 then some x1 else(vH b.aM slot).bind λx2=>(if x2 then some 3 else some 4))
def aT0(x6:List Int):Option (List Int):=
 some x6
def D0(b:aA):((List Int)×Int)->Option (Step ((List Int)×Int) (List Int))
 |(x4,x5)=>(if decide (x5<24) then(RN b x5).bind λx7=>(idx x4 x7).bind λx8=>some (.next (x4.set x7.toNat (aY (x8+1)),aY (x5+1))) else some (.stop (x4)))
def aT1:(List Int)->Option (List Int)
 |x6=>aT0 x6
def X0(b:aA):Option (List Int):=
 need (0<=(5:Int)/\(5:Int)<=4294967296) ((GN b).bind λx1=>(if !x1 then some (List.replicate ((5:Int).toNat) 0) else(loop (D0 b) (List.replicate ((5:Int).toNat) 0,0)).bind (aT1)))
def N2(x1:Bool):Option Bool:=
 some x1
def I7(h:Int)(k0:aA):Option Bool:=
 (qR k0.Mem h).bind λx2=>(if !x2 then N2 true else(vH k0.aM (Int.tmod h 32)).bind λx3=>N2 x3)
def UX(x1:Bool):Option Bool:=
 some x1
def X2(b:aA)(list:List Int):Option Bool:=
 (X0 b).bind λx2=>(idx x2 4).bind λx3=>(if(list.length:Int) == x3 then(cT list (λy0=>I7 y0 b)).bind λx4=>UX (!x4) else UX false)
def nZ(x4:Bool):Option Bool:=
 some x4
def sL(t:Table):Option Bool:=
 (T0 t).bind λx1=>(I5 t).bind λx2=>(mY ([x1,x2]:List (List Int))).bind λx3=>(nU t).bind λx5=>(if x5 then(mF x3).bind λx6=>(if(x6.length:Int) == (x3.length:Int) then(X2 t.aA x3).bind λx7=>nZ x7 else nZ false) else nZ false)
def xY(x1:Bool):Option Bool:=
 some x1
def X3(a_ b:Span):Option Bool:=
 (if decide (a_.To<=a_.V2) then xY true else(if decide (b.To<=b.V2) then xY true else(if decide (a_.To<=b.V2) then xY true else xY (decide (b.To<=a_.V2)))))
def aJY:Option Bool:=
 some true
def WI(x2:Int):Option (Step Int (Out Unit Bool)):=
 some (.next (aY (x2+1)))
def tY(l:List Span)(x2:Int):Int->Option (Step Int (Out Unit Bool))
 |x5=>(if decide (x5<x2) then(idx l x2).bind λx6=>(idx l x5).bind λx7=>(X3 x6 x7).bind λx8=>(if !x8 then some (.stop (Out.ret false)) else some (.next (aY (x5+1)))) else some (.stop (Out.brk ())))
def WJ(x2:Int):(Out Unit Bool)->Option (Step Int (Out Unit Bool))
 |.brk ()=>WI x2
 |.ret r=>some (.stop (Out.ret r))
def BW(l:List Span)(x2:Int)(x3:Bool):Option (Step Int (Out Unit Bool)):=
 (if x3 then some (.stop (Out.ret false)) else(loop (tY l x2) 0).bind (WJ x2))
def tZ(l:List Span):Int->Option (Step Int (Out Unit Bool))
 |x2=>(if decide (x2<(l.length:Int)) then(idx l x2).bind λx9=>(if decide (x9.V2<0) then BW l x2 true else(idx l x2).bind λx10=>BW l x2 (decide (384<x10.To))) else some (.stop (Out.brk ())))
def aJZ:(Out Unit Bool)->Option Bool
 |.brk ()=>aJY
 |.ret r=>some r
def D1(l:List Span):Option Bool:=
 (loop (tZ l) 0).bind (aJZ)
def X4(b:aA)(slot:Int):Option Int:=
 (GN b).bind λx1=>(if !x1 then some 0 else(RN b slot).bind λx2=>some x2)
def P4(slot c:Int):Option Span:=
 (IE slot c).bind λx1=>(if decide (x1<0) then some (⟨0,0⟩:Span) else(zL c).bind λx2=>some (⟨x1,aY (x1+x2)⟩:Span))
def aQL(x5:List Span):Option (List Span):=
 some x5
def I8(x4:Int)(x6:List Span):Option (Step ((List Span)×Int) (List Span)):=
 some (.next (x6,aY (x4+1)))
def AN(b:aA):((List Span)×Int)->Option (Step ((List Span)×Int) (List Span))
 |(x3,x4)=>(if decide (x4<24) then(X4 b x4).bind λx7=>(if decide (3<=x7) then(kK b.Mem.Heap x4).bind λx8=>(P4 x4 x8).bind λx9=>need (x3.length+([x9]).length<=1073741824) (I8 x4 (x3++([x9]))) else I8 x4 x3) else some (.stop (x3)))
def aQM:(List Span)->Option (List Span)
 |x5=>aQL x5
def T1(b:aA):Option (List Span):=
 (loop (AN b) (([]:List Span),0)).bind (aQM)
def gP(x7:Bool):Option Bool:=
 some x7
def C1(x5:Table):Option Bool:=
 (tM x5).bind λx6=>(nX x5).bind λx8=>(if x8 then(IY x5).bind λx9=>(if x9 then(nN x5).bind λx10=>(if x10 then(I4 x5).bind λx11=>(if x11 then(sL x5).bind λx12=>(if x12 then(nN x6).bind λx13=>(if x13 then(I5 x6).bind λx14=>(if(x14.length:Int) == 0 then(T1 x5.aA).bind λx15=>(D1 x15).bind λx16=>gP x16 else gP false) else gP false) else gP false) else gP false) else gP false) else gP false) else gP false)
def K5(code:List UInt8):Option Bool:=
 (aP0 code).bind λx1=>(if x1 then some true else(vB code).bind λx2=>(TC x2).bind λx3=>(if !x3 then(o8 x2).bind λx4=>some ((x4.aQ.length:Int) == 0) else(XU code 0 (x2.eT.length:Int)).bind λx17=>need (0<=(if x17<(x2.eT.length:Int) then x17 else(x2.eT.length:Int):Int)/\(if x17<(x2.eT.length:Int) then x17 else(x2.eT.length:Int):Int)<=(x2.eT.length:Int))<|(o8 (⟨x2.dQ,(x2.eT.take ((if x17<(x2.eT.length:Int) then x17 else(x2.eT.length:Int)).toNat)).drop 0⟩:mR)).bind λx18=>C1 x18))
def aMS:Option Int:=
 some (-1)
def gQ(size:Int):Int->Option (Step Int (Out Unit Int))
 |x2=>(if decide (x2<3) then(GQ x2).bind λx3=>(bX size 1 x3).bind λx4=>(if x4 then some (.stop (Out.ret x2)) else some (.next (aY (x2+1)))) else some (.stop (Out.brk ())))
def aMT:(Out Unit Int)->Option Int
 |.brk ()=>aMS
 |.ret r=>some r
def I9(size:Int):Option Int:=
 (loop (gQ size) 0).bind (aMT)
def UY(s:bJ)(x1:Int):Option (bJ×Int):=
 some ((⟨(s.aV.take ((aY ((s.aV.length:Int)-1)).toNat)).drop 0⟩:bJ),x1)
def vV(s:bJ):Option (bJ×Int):=
 (if(s.aV.length:Int) == 0 then some (s,(-1)) else need (0<=(aY ((s.aV.length:Int)-1):Int)/\(aY ((s.aV.length:Int)-1):Int)<=(s.aV.length:Int)) ((idx s.aV (aY ((s.aV.length:Int)-1))).bind λx2=>UY s x2))
def aMU(x7:List Int):Option (List Int):=
 some x7
def FD(at_:Int):((List Int)×Int×Int)->Option (Step ((List Int)×Int×Int) (List Int))
 |(x4,x5,x6)=>(if decide (0<=x6) then(idx x4 (aY (at_+x6))).bind λx8=>some (.next (x4.set ((aY (at_+x6)).toNat) (Int.tmod x5 256),aY (Int.tdiv x5 256),aY (x6-1))) else some (.stop (x4)))
def aMV:(List Int)->Option (List Int)
 |x7=>aMU x7
def JA(b:List Int)(at_ width n:Int):Option (List Int):=
 (loop (FD at_) (b,n,aY (width-1))).bind (aMV)
def aMW(h:Heap):Option (Heap×(List Int)):=
 some (h,([]:List Int))
def N3(x2:Int):Option (Step Int (Out Unit (Heap×(List Int)))):=
 some (.next (aY (x2+1)))
def aMX(h:Heap)(c x2:Int)(x14 x15:List Int):Option (Step Int (Out Unit (Heap×(List Int)))):=
 some (.stop (Out.ret ((⟨x15,h.Class.set x2.toNat c⟩:Heap),x14)))
def ZZ(x2:Int)(x11:List Int)(x12:Int)(x17:List Int):Option (Step ((List Int)×Int×(List Int)) ((List Int)×(List Int))):=
 (uT x2 x12).bind λx18=>need (x11.length+([x18]).length<=1073741824) (some (.next (x11++([x18]),aY (x12+1),x17)))
def FE(c x2:Int):((List Int)×Int×(List Int))->Option (Step ((List Int)×Int×(List Int)) ((List Int)×(List Int)))
 |(x11,x12,x13)=>(nV c).bind λx16=>(if decide (x12<x16) then(uT x2 x12).bind λx19=>(z7 x19 c).bind λx20=>(JA x13 x20 4 1).bind λx21=>ZZ x2 x11 x12 x21 else some (.stop ((x11,x13))))
def aMY(h:Heap)(c x2:Int):((List Int)×(List Int))->Option (Step Int (Out Unit (Heap×(List Int))))
 |(x14,x15)=>aMX h c x2 x14 x15
def fW(h:Heap)(c:Int):Int->Option (Step Int (Out Unit (Heap×(List Int))))
 |x2=>(if decide (x2<6) then(idx h.Class x2).bind λx3=>(if x3 != (-1) then N3 x2 else(idx h.Bytes (aY (x2*64))).bind λx4=>(idx (h.Bytes.set ((aY (x2*64)).toNat) 171) (aY ((aY (x2*64))+1))).bind λx5=>(nV c).bind λx6=>(idx ((h.Bytes.set ((aY (x2*64)).toNat) 171).set ((aY ((aY (x2*64))+1)).toNat) c) (aY ((aY (x2*64))+2))).bind λx7=>(loop (FE c x2) (([]:List Int),0,((h.Bytes.set ((aY (x2*64)).toNat) 171).set ((aY ((aY (x2*64))+1)).toNat) c).set ((aY ((aY (x2*64))+2)).toNat) x6)).bind (aMY h c x2)) else some (.stop (Out.brk ())))
def aMZ(h:Heap):(Out Unit (Heap×(List Int)))->Option (Heap×(List Int))
 |.brk ()=>aMW h
 |.ret r=>some r
def vW(h:Heap)(c:Int):Option (Heap×(List Int)):=
 (loop (fW h c) 0).bind (aMZ h)
def N4(m:Mem)(c:Int)(x1:Heap×(List Int))(x2:bJ)(x3:Int):Option (Mem×Int):=
 some ((⟨x1.1,(⟨m.aC.Global.set c.toNat (⟨x2.aV++((x1.2.take x1.2.length).drop ((1:Int).toNat))⟩:bJ),m.aC.Own⟩:aC)⟩:Mem),x3)
def JC(m:Mem)(c:Int):Option (Mem×Int):=
 (vW m.Heap c).bind λx1=>(if(x1.2.length:Int) == 0 then some ((⟨x1.1,m.aC⟩:Mem),(-1)) else(idx m.aC.Global c).bind λx2=>need (0<=(1:Int)/\(1:Int)<=(x1.2.length:Int)) (need (x2.aV.length+((x1.2.take x1.2.length).drop ((1:Int).toNat)).length<=1073741824) ((idx x1.2 0).bind λx4=>N4 m c x1 x2 x4)))
def BX(slot gen:Int)(x1:Bool):Option Int:=
 (if x1 then some 0 else some (aY ((aY (gen*32))+slot)))
def UZ(slot gen:Int):Option Int:=
 (bX slot 0 23).bind λx2=>(if !x2 then BX slot gen true else(bX gen 1 6).bind λx3=>BX slot gen (!x3))
def D2(m:Mem)(slot:Int):Option Int:=
 (z8 m.Heap slot).bind λx1=>(UZ slot x1).bind λx2=>some x2
def RO(x2 x3:List bJ):Option aC:=
 some (⟨x2,x3⟩:aC)
def aBR(x:aC)(slot x1:Int)(x4:bJ):Option aC:=
 RO x.Global (x.Own.set x1.toNat (⟨x4.aV++([slot])⟩:bJ))
def aBS(x:aC)(x5:List bJ):Option aC:=
 RO x5 x.Own
def aBT(x:aC)(w_ c slot:Int):Option aC:=
 (AE w_ c).bind λx1=>(idx x.Own x1).bind λx4=>(if decide ((x4.aV.length:Int)<2) then need (x4.aV.length+([slot]).length<=1073741824)<|aBR x slot x1 x4 else(idx x.Global c).bind λx6=>need (x6.aV.length+([slot]).length<=1073741824)<|aBS x (x.Global.set c.toNat (⟨x6.aV++([slot])⟩:bJ)))
def RP(x:Mem)(x3:List Int)(x4 x5:List bJ):Option Mem:=
 some (⟨(⟨x3,x.Heap.Class⟩:Heap),(⟨x4,x5⟩:aC)⟩:Mem)
def RQ(x:Mem)(w_ slot x1 x2:Int)(x3:List Int):Option Mem:=
 (if decide ((aY (x2+1))<=6) then(aBT x.aC w_ x1 slot).bind λx6=>RP x x3 x6.Global x6.Own else RP x x3 x.aC.Global x.aC.Own)
def M3(x:Mem)(w_ slot:Int):Option Mem:=
 (nW x.Heap slot).bind λx1=>(z8 x.Heap slot).bind λx2=>(z7 slot x1).bind λx7=>(JA x.Heap.Bytes x7 4 (aY (x2+1))).bind λx8=>RQ x w_ slot x1 x2 x8
def BY(c:aD):Option aD:=
 need (([]:List yN).length+c.cG.length<=1073741824) (some (⟨c.aJ,([]:List yN)++c.cG⟩:aD))
def bV(s:Sub)(code:Int):Option Sub:=
 some ({s with Code:=code,iB:=true}:Sub)
def X5(b:aA)(s:Sub)(slot pc:Int):Option Sub:=
 (if decide (0<=slot) then(D2 b.Mem slot).bind λx1=>(bV ({s with Out:=x1}:Sub) 0).bind λx2=>some x2 else some ({s with Pc:=pc}:Sub))
def BZ(s:Sub)(x3:Int)(x5:Bool)(x6:aA):Option (aA×Sub):=
 (if x5 then(bV s 3).bind λx7=>some (x6,x7) else(X5 x6 s x3 (aY (s.Pc+1))).bind λx8=>some (x6,x8))
def j3(s:Sub)(x3:Int)(x4:aA):Option (aA×Sub):=
 (if decide (x3<0) then BZ s x3 (s.Pc == 3) x4 else BZ s x3 false x4)
def B4(b:aA)(s:Sub)(x1:Int)(x12:Bool):Option (aA×Sub):=
 (if x12 then(idx b.Mem.aC.Global x1).bind λx13=>(vV x13).bind λx14=>j3 s x14.2 ({b with Mem:=(⟨b.Mem.Heap,(⟨b.Mem.aC.Global.set x1.toNat x14.1,b.Mem.aC.Own⟩:aC)⟩:Mem)}:aA) else(if s.Pc == 2 then(JC b.Mem x1).bind λx15=>j3 s x15.2 ({b with Mem:=x15.1}:aA) else(bV s 1).bind λx16=>some (b,x16)))
def D3(b:aA)(w_:Int)(s:Sub):Option (aA×Sub):=
 (I9 s.A).bind λx1=>(if decide (x1<0) then(bV s 2).bind λx2=>some (b,x2) else(if s.Pc == 0 then(AE w_ x1).bind λx9=>(idx b.Mem.aC.Own x9).bind λx10=>(vV x10).bind λx11=>j3 s x11.2 ({b with Mem:=(⟨b.Mem.Heap,(⟨b.Mem.aC.Global,b.Mem.aC.Own.set x9.toNat x11.1⟩:aC)⟩:Mem)}:aA) else(if s.Pc == 1 then B4 b s x1 true else B4 b s x1 (s.Pc == 3))))
def JD(b:aA)(s:Sub)(x5:List bT):Option (aA×Sub):=
 (bV s 0).bind λx6=>some (({b with aM:=x5}:aA),x6)
def y6(b:aA)(w_:Int)(s:Sub)(x3:Bool):Option (aA×Sub):=
 (if x3 then(bV s 4).bind λx4=>some (b,x4) else(idx b.aM w_).bind λx7=>need (x7.Rows.length+([(⟨s.A,s.E⟩:eB)]).length<=1073741824)<|JD b s (b.aM.set w_.toNat (⟨x7.Rows++([(⟨s.A,s.E⟩:eB)])⟩:bT)))
def AO(b:aA)(w_:Int)(s:Sub):Option (aA×Sub):=
 (if s.Pc == 0 then some (b,({s with Pc:=1,E:=b.aD.aJ}:Sub)) else(if s.Pc == 1 then(bX s.E 0 b.aD.aJ).bind λx1=>(if !x1 then(bV s 1).bind λx2=>some (b,x2) else(rD b.Mem s.A).bind λx8=>(if !x8 then y6 b w_ s true else(fU s.A).bind λx9=>(BQ b.aM x9).bind λx10=>y6 b w_ s x10)) else(bV s 1).bind λx11=>some (b,x11)))
def uA(w_:Int)(x1:aD)(x3:yN)(x4:Bool):Option (aD×Bool):=
 (if x4 then some (x1,true) else(if x3.Seen == 2 then(idx x1.cG w_).bind λx5=>some ((⟨x1.aJ,x1.cG.set w_.toNat ({x5 with gG:=true,Seen:=0}:yN)⟩:aD),true) else(idx x1.cG w_).bind λx6=>some ((⟨x1.aJ,x1.cG.set w_.toNat ({x6 with Seen:=aY (x3.Seen+1)}:yN)⟩:aD),false)))
def JE(c:aD)(w_ e_:Int)(x1:aD)(x2:Bool):Option (aD×Bool):=
 (if x2 then some (x1,false) else(idx c.cG w_).bind λx3=>(if !x3.On then uA w_ x1 x3 true else(if x3.gG then uA w_ x1 x3 true else uA w_ x1 x3 (x3.aJ == e_))))
def M4(c:aD)(w_ e_:Int):Option (aD×Bool):=
 (BY c).bind λx1=>(rE c).bind λx7=>(if !x7 then JE c w_ e_ x1 true else(bX w_ 0 2).bind λx8=>JE c w_ e_ x1 (!x8))
def JF(e_:Int)(x1:aD)(x2:Bool):Option (aD×Bool):=
 (if x2 then some (x1,false) else some ((⟨aY (e_+1),x1.cG⟩:aD),true))
def WK(c:aD)(e_:Int):Option (aD×Bool):=
 (BY c).bind λx1=>(rE c).bind λx3=>(if !x3 then JF e_ x1 true else(if c.aJ != e_ then JF e_ x1 true else JF e_ x1 (e_ == 100000)))
def vX(b:aA)(s:Sub)(x3:aD×Bool)(x5:Int):Option (aA×Sub):=
 some (({b with aD:=x3.1}:aA),({s with Pc:=x5,B:=aY (s.B+1)}:Sub))
def vY(b:aA)(s:Sub)(x6:aD×Bool)(x7:Int):Option (aA×Sub):=
 (bV ({s with Out:=x7}:Sub) 0).bind λx8=>some (({b with aD:=x6.1}:aA),x8)
def xH(b:aA)(s:Sub):Option (aA×Sub):=
 (if s.Pc == 0 then some (b,({s with Pc:=1,E:=b.aD.aJ,B:=0}:Sub)) else(if s.Pc == 1 then(bX s.B 0 2).bind λx1=>(if !x1 then(bV s 1).bind λx2=>some (b,x2) else(M4 b.aD s.B s.E).bind λx3=>(if !x3.2 then(bV s 8).bind λx4=>some (({b with aD:=x3.1}:aA),x4) else(if(aY (s.B+1)) == 3 then vX b s x3 2 else vX b s x3 s.Pc))) else(if s.Pc == 2 then(WK b.aD s.E).bind λx6=>(if x6.2 then vY b s x6 1 else vY b s x6 s.Out) else(bV s 1).bind λx9=>some (b,x9))))
def P5(x1:Bool):Option Bool:=
 some x1
def QK(r_:eB)(e_:Int):Option Bool:=
 (if decide (2<=e_) then P5 (decide (r_.aJ<=(aY (e_-2)))) else P5 false)
def aM0:Option Int:=
 some (-1)
def fX(l:List eB)(e_:Int):Int->Option (Step Int (Out Unit Int))
 |x2=>(if decide (x2<(l.length:Int)) then(idx l x2).bind λx3=>(QK x3 e_).bind λx4=>(if x4 then some (.stop (Out.ret x2)) else some (.next (aY (x2+1)))) else some (.stop (Out.brk ())))
def aM1:(Out Unit Int)->Option Int
 |.brk ()=>aM0
 |.ret r=>some r
def B5(l:List eB)(from_ e_:Int):Option Int:=
 (loop (fX l e_) (if 0<from_ then from_ else 0)).bind (aM1)
def vZ(b:aA)(s:Sub)(x8:Int):Option (aA×Sub):=
 some (b,({s with Pc:=x8,B:=aY (s.B+1)}:Sub))
def gI(b:aA)(s:Sub)(x5:Bool):Option (aA×Sub):=
 (if x5 then(bV s 1).bind λx6=>some (b,x6) else(idx b.lX s.B).bind λx7=>(if x7 == s.H then some (b,({s with Pc:=1,Row:=aY (s.Row+1)}:Sub)) else(if(aY (s.B+1)) == 3 then vZ b s 3 else vZ b s s.Pc)))
def GA(s:Sub)(x14:aA):Option (aA×Sub):=
 some (x14,({s with Pc:=1,Out:=aY (s.Out+1)}:Sub))
def gJ(b:aA)(w_:Int)(s:Sub)(x1:bT)(x12:Bool):Option (aA×Sub):=
 (if x12 then(bV s 1).bind λx13=>some (b,x13) else need (0<=(s.Row:Int)/\(s.Row:Int)<=(x1.Rows.length:Int)) (need (0<=(aY (s.Row+1):Int)/\(aY (s.Row+1):Int)<=(x1.Rows.length:Int)) (need (s.Row.toNat<=(aY (s.Row+1)).toNat) ((fU s.H).bind λx15=>(M3 b.Mem w_ x15).bind λx16=>GA s ({b with Mem:=x16,aM:=b.aM.set w_.toNat (⟨((dA x1.Rows s.Row.toNat (x1.Rows.drop ((aY (s.Row+1)).toNat))).take (s.Row.toNat+(x1.Rows.length-((aY (s.Row+1)).toNat)))).drop 0⟩:bT)}:aA)))))
def xI(b:aA)(w_:Int)(s:Sub):Option (aA×Sub):=
 (idx b.aM w_).bind λx1=>(if s.Pc == 0 then some (b,({s with Pc:=1,E:=b.aD.aJ,Row:=0}:Sub)) else(if s.Pc == 1 then(B5 x1.Rows s.Row s.E).bind λx2=>(if decide (x2<0) then(bV s 0).bind λx3=>some (b,x3) else(idx x1.Rows x2).bind λx4=>some (b,({s with Pc:=2,Row:=x2,B:=0,H:=x4.Handle}:Sub))) else(if s.Pc == 2 then(bX s.B 0 2).bind λx9=>(if !x9 then gI b s true else(bX s.Row 0 (aY ((x1.Rows.length:Int)-1))).bind λx10=>(if !x10 then gI b s true else(idx x1.Rows s.Row).bind λx11=>gI b s (x11.Handle != s.H))) else(if s.Pc == 3 then(bX s.Row 0 (aY ((x1.Rows.length:Int)-1))).bind λx17=>(if !x17 then gJ b w_ s x1 true else(idx x1.Rows s.Row).bind λx18=>(if x18.Handle != s.H then gJ b w_ s x1 true else(QK x18 s.E).bind λx19=>gJ b w_ s x1 (!x19))) else(bV s 1).bind λx20=>some (b,x20)))))
def D4(w_ e_:Int)(x1:aD)(x2:Bool):Option (aD×Bool):=
 (if x2 then some (x1,false) else(idx x1.cG w_).bind λx3=>some ((⟨x1.aJ,x1.cG.set w_.toNat (⟨true,e_,false,0⟩:yN)⟩:aD),true))
def RR(c:aD)(w_ e_:Int):Option (aD×Bool):=
 (BY c).bind λx1=>(rE c).bind λx4=>(if !x4 then D4 w_ e_ x1 true else(bX w_ 0 2).bind λx5=>(if !x5 then D4 w_ e_ x1 true else(bX e_ 0 c.aJ).bind λx6=>D4 w_ e_ x1 (!x6)))
def M5(b:aA)(w_:Int)(s:Sub):Option (aA×Sub):=
 (if s.Pc == 0 then some (b,({s with Pc:=1,E:=b.aD.aJ}:Sub)) else(if s.Pc == 1 then(RR b.aD w_ s.E).bind λx1=>(if !x1.2 then(bV s 1).bind λx2=>some (({b with aD:=x1.1}:aA),x2) else some (({b with aD:=x1.1}:aA),({s with Pc:=2}:Sub))) else(if s.Pc == 2 then(if b.aD.aJ == s.E then(bV s 0).bind λx3=>some (b,x3) else some (b,({s with Pc:=0}:Sub))) else(bV s 1).bind λx4=>some (b,x4))))
def X6(b:aA)(w_:Int)(s:Sub):Option (aA×Sub):=
 (if s.iB then some (b,s) else(if s.Kind == 1 then(D3 b w_ s).bind λx1=>some (x1.1,x1.2) else(if s.Kind == 2 then(AO b w_ s).bind λx2=>some (x2.1,x2.2) else(if s.Kind == 3 then(xH b s).bind λx3=>some (x3.1,x3.2) else(if s.Kind == 4 then(xI b w_ s).bind λx4=>some (x4.1,x4.2) else(if s.Kind == 5 then(M5 b w_ s).bind λx5=>some (x5.1,x5.2) else(bV s 1).bind λx6=>some (b,x6)))))))
def D5(w_:Int)(x1:aD)(x2:Bool):Option (aD×Bool):=
 (if x2 then some (x1,false) else(idx x1.cG w_).bind λx3=>some ((⟨x1.aJ,x1.cG.set w_.toNat (⟨false,0,false,0⟩:yN)⟩:aD),true))
def X7(c:aD)(w_:Int):Option (aD×Bool):=
 (BY c).bind λx1=>(rE c).bind λx4=>(if !x4 then D5 w_ x1 true else(bX w_ 0 2).bind λx5=>(if !x5 then D5 w_ x1 true else(idx c.cG w_).bind λx6=>D5 w_ x1 (!x6.On)))
end
end Go.Gv
end
noncomputable section
set_option maxHeartbeats 4000000
set_option maxRecDepth 100000
namespace Go.Proofs.YtonmnllkifmclaaGreat
open Go.Gv Tryz
theorem aS:W9 prog 3 1 (.int .i64 0):=yE (b:=8) (by kernel_rfl) rfl
theorem mK:W9 prog 128 3 (.agg #[.int .i64 0,.int .i64 0,.int .i64 0]):=yE (b:=24) (by kernel_rfl) rfl
theorem v7:W9 prog 61 1 (.agg #[.slice none 0 0]):=yE (b:=24) (by kernel_rfl) rfl
theorem fE:W9 prog 64 2 (.agg #[.bool false,.slice none 0 0]):=yE (b:=32) (by kernel_rfl) rfl
theorem jB:W9 prog 233 1 (.agg #[.slice none 0 0]):=yE (b:=24) (by kernel_rfl) rfl
theorem T2:W9 prog 157 4 (.agg #[.bool false,.int .i64 0,.bool false,.int .i64 0]):=yE (b:=32) (by kernel_rfl) rfl
theorem M6:W9 prog 175 1 (.agg #[.slice none 0 0]):=yE (b:=24) (by kernel_rfl) rfl
theorem X8:W9 prog 84 3 (.agg #[.int .i64 0,.int .i64 0,.int .i64 0]):=yE (b:=24) (by kernel_rfl) rfl
theorem X9:W9 prog 93 32 (.agg #[.bool false,.bool false,.slice none 0 0,.int .i64 0,.int .i64 0,.int .i64 0,.int .i64 0,.int .i64 0,.int .i64 0,.int .i64 0,.int .i64 0,.int .i64 0,.int .i64 0,.int .i64 0,.bool false,.int .i64 0,.int .i64 0,.int .i64 0,.int .i64 0,.int .i64 0,.int .i64 0,.int .i64 0,.int .i64 0,.int .i64 0,.int .i64 0,.bool false,.slice none 0 0,.slice none 0 0,.slice none 0 0,.slice none 0 0,.slice none 0 0,.slice none 0 0]):=yE (b:=368) (by kernel_rfl) rfl
theorem oE:W9 prog 138 6 (.agg #[.int .i64 0,.int .i64 0,.int .i64 0,.int .i64 0,.slice none 0 0,.slice none 0 0]):=yE (b:=80) (by kernel_rfl) rfl
theorem a3F:W9 prog 32 1 (.slice none 0 0):=yE (b:=24) (by kernel_rfl) rfl
theorem a8N:W9 prog 5 1 (.int .u8 0):=yE (b:=1) (by kernel_rfl) rfl
theorem AP:W9 prog 147 2 (.agg #[.int .i64 0,.int .i64 0]):=yE (b:=16) (by kernel_rfl) rfl
theorem AQ:W9 prog 152 3 (.agg #[.int .i64 0,.bool false,.int .i64 0]):=yE (b:=24) (by kernel_rfl) rfl
theorem GS:W9 prog 196 2 (.agg #[.bool false,.int .i64 0]):=yE (b:=16) (by kernel_rfl) rfl
theorem T3:W9 prog 150 2 (.agg #[.int .i64 0,.int .i64 0]):=yE (b:=16) (by kernel_rfl) rfl
theorem RS:W9 prog 25 1 (.slice none 0 0):=yE (b:=24) (by kernel_rfl) rfl
theorem aBU:W9 prog 106 2 (.agg #[.int .i64 0,.int .i64 0]):=yE (b:=16) (by kernel_rfl) rfl
theorem aG:prog.follows .mixedOrders=true:=by kernel_rfl
theorem aLB(D:Nat)(d d':yN)(w:World):(Op.eqFields (D+2) #[.bool (d.On),.int .i64 (d.aJ),.bool (d.gG),.int .i64 (d.Seen)] #[.bool (d'.On),.int .i64 (d'.aJ),.bool (d'.gG),.int .i64 (d'.Seen)] (match prog.underlying 157 with|some (.struct fs)=>fs|_=>#[]).toList).run prog w=.ok (decide (d=d')) w:=by
 rw[underlying157];have h:(d.On == d'.On && (d.aJ == d'.aJ && (d.gG == d'.gG && (d.Seen == d'.Seen && true))))=decide (d=d'):=by cases d;cases d';rw[NL];simp
 rw[<-h];exact gR _ _ _ _ _ rfl (gX isAgg4 rfl) (gX isAgg4 rfl) (aG3 underlying4)<|
  gR _ _ _ _ _ rfl (gX isAgg3 rfl) (gX isAgg3 rfl) (pN underlying3)<|
  gR _ _ _ _ _ rfl (gX isAgg4 rfl) (gX isAgg4 rfl) (aG3 underlying4)<|
  gR _ _ _ _ _ rfl (gX isAgg3 rfl) (gX isAgg3 rfl) (pN underlying3)<|
  W8 _ _ _
theorem aLC(D:Nat)(d d':kG)(w:World):(Op.eqFields (D+2) #[.int .i64 (d.Kind),.int .i64 (d.Key),.int .i64 (d.fT)] #[.int .i64 (d'.Kind),.int .i64 (d'.Key),.int .i64 (d'.fT)] (match prog.underlying 128 with|some (.struct fs)=>fs|_=>#[]).toList).run prog w=.ok (decide (d=d')) w:=by
 rw[underlying128];have h:(d.Kind == d'.Kind && (d.Key == d'.Key && (d.fT == d'.fT && true)))=decide (d=d'):=by cases d;cases d';rw[NL];simp
 rw[<-h];exact gR _ _ _ _ _ rfl (gX isAgg3 rfl) (gX isAgg3 rfl) (pN underlying3)<|
  gR _ _ _ _ _ rfl (gX isAgg3 rfl) (gX isAgg3 rfl) (pN underlying3)<|
  gR _ _ _ _ _ rfl (gX isAgg3 rfl) (gX isAgg3 rfl) (pN underlying3)<|
  W8 _ _ _
theorem aLD(D:Nat)(d d':Seen)(w:World):(Op.eqFields (D+2) #[.int .i64 (d.cQ),.int .i64 (d.jS)] #[.int .i64 (d'.cQ),.int .i64 (d'.jS)] (match prog.underlying 150 with|some (.struct fs)=>fs|_=>#[]).toList).run prog w=.ok (decide (d=d')) w:=by
 rw[underlying150];have h:(d.cQ == d'.cQ && (d.jS == d'.jS && true))=decide (d=d'):=by cases d;cases d';rw[NL];simp
 rw[<-h];exact gR _ _ _ _ _ rfl (gX isAgg3 rfl) (gX isAgg3 rfl) (pN underlying3)<|
  gR _ _ _ _ _ rfl (gX isAgg3 rfl) (gX isAgg3 rfl) (pN underlying3)<|
  W8 _ _ _
theorem aLE(D:Nat)(d d':aX)(w:World):(Op.eqFields (D+2) #[.int .i64 (d.Key),.bool (d.KR),.int .i64 (d.fT)] #[.int .i64 (d'.Key),.bool (d'.KR),.int .i64 (d'.fT)] (match prog.underlying 152 with|some (.struct fs)=>fs|_=>#[]).toList).run prog w=.ok (decide (d=d')) w:=by
 rw[underlying152];have h:(d.Key == d'.Key && (d.KR == d'.KR && (d.fT == d'.fT && true)))=decide (d=d'):=by cases d;cases d';rw[NL];simp
 rw[<-h];exact gR _ _ _ _ _ rfl (gX isAgg3 rfl) (gX isAgg3 rfl) (pN underlying3)<|
  gR _ _ _ _ _ rfl (gX isAgg4 rfl) (gX isAgg4 rfl) (aG3 underlying4)<|
  gR _ _ _ _ _ rfl (gX isAgg3 rfl) (gX isAgg3 rfl) (pN underlying3)<|
  W8 _ _ _
theorem aLF(D:Nat)(d d':iZ)(w:World):(Op.eqFields (D+2) #[.bool (d.Is),.int .i64 (d.fT)] #[.bool (d'.Is),.int .i64 (d'.fT)] (match prog.underlying 196 with|some (.struct fs)=>fs|_=>#[]).toList).run prog w=.ok (decide (d=d')) w:=by
 rw[underlying196];have h:(d.Is == d'.Is && (d.fT == d'.fT && true))=decide (d=d'):=by cases d;cases d';rw[NL];simp
 rw[<-h];exact gR _ _ _ _ _ rfl (gX isAgg4 rfl) (gX isAgg4 rfl) (aG3 underlying4)<|
  gR _ _ _ _ _ rfl (gX isAgg3 rfl) (gX isAgg3 rfl) (pN underlying3)<|
  W8 _ _ _
theorem aQN(D:Nat)(d d':gE)(w:World):(Op.eqFields (D+2) #[.int .i64 (d.Key),.int .i64 (d.fT),.int .i64 (d.Next)] #[.int .i64 (d'.Key),.int .i64 (d'.fT),.int .i64 (d'.Next)] (match prog.underlying 86 with|some (.struct fs)=>fs|_=>#[]).toList).run prog w=.ok (decide (d=d')) w:=by
 rw[underlying86];have h:(d.Key == d'.Key && (d.fT == d'.fT && (d.Next == d'.Next && true)))=decide (d=d'):=by cases d;cases d';rw[NL];simp
 rw[<-h];exact gR _ _ _ _ _ rfl (gX isAgg3 rfl) (gX isAgg3 rfl) (pN underlying3)<|
  gR _ _ _ _ _ rfl (gX isAgg3 rfl) (gX isAgg3 rfl) (pN underlying3)<|
  gR _ _ _ _ _ rfl (gX isAgg3 rfl) (gX isAgg3 rfl) (pN underlying3)<|
  W8 _ _ _
theorem aQO(D:Nat)(d d':Sub)(w:World):(Op.eqFields (D+2) #[.int .i64 (d.Kind),.int .i64 (d.A),.int .i64 (d.Pc),.int .i64 (d.E),.int .i64 (d.Row),.int .i64 (d.B),.int .i64 (d.H),.int .i64 (d.Out),.int .i64 (d.Code),.bool (d.iB)] #[.int .i64 (d'.Kind),.int .i64 (d'.A),.int .i64 (d'.Pc),.int .i64 (d'.E),.int .i64 (d'.Row),.int .i64 (d'.B),.int .i64 (d'.H),.int .i64 (d'.Out),.int .i64 (d'.Code),.bool (d'.iB)] (match prog.underlying 88 with|some (.struct fs)=>fs|_=>#[]).toList).run prog w=.ok (decide (d=d')) w:=by
 rw[underlying88];have h:(d.Kind == d'.Kind && (d.A == d'.A && (d.Pc == d'.Pc && (d.E == d'.E && (d.Row == d'.Row && (d.B == d'.B && (d.H == d'.H && (d.Out == d'.Out && (d.Code == d'.Code && (d.iB == d'.iB && true))))))))))=decide (d=d'):=by cases d;cases d';rw[NL];simp
 rw[<-h];exact gR _ _ _ _ _ rfl (gX isAgg3 rfl) (gX isAgg3 rfl) (pN underlying3)<|
  gR _ _ _ _ _ rfl (gX isAgg3 rfl) (gX isAgg3 rfl) (pN underlying3)<|
  gR _ _ _ _ _ rfl (gX isAgg3 rfl) (gX isAgg3 rfl) (pN underlying3)<|
  gR _ _ _ _ _ rfl (gX isAgg3 rfl) (gX isAgg3 rfl) (pN underlying3)<|
  gR _ _ _ _ _ rfl (gX isAgg3 rfl) (gX isAgg3 rfl) (pN underlying3)<|
  gR _ _ _ _ _ rfl (gX isAgg3 rfl) (gX isAgg3 rfl) (pN underlying3)<|
  gR _ _ _ _ _ rfl (gX isAgg3 rfl) (gX isAgg3 rfl) (pN underlying3)<|
  gR _ _ _ _ _ rfl (gX isAgg3 rfl) (gX isAgg3 rfl) (pN underlying3)<|
  gR _ _ _ _ _ rfl (gX isAgg3 rfl) (gX isAgg3 rfl) (pN underlying3)<|
  gR _ _ _ _ _ rfl (gX isAgg4 rfl) (gX isAgg4 rfl) (aG3 underlying4)<|
  W8 _ _ _
section
open Go.RowKit Go.Shelf Go.Lib Go.Gv
set_option maxRecDepth 100000
set_option maxHeartbeats 4000000
theorem a0C(b off n c i vb:Nat)(cs vs:List Value)(w:World)(hi:i<n)(hroom:n+1<=c)(hc63:c<=9223372036854775807)(hvb:vb≠b)(hcl:cs.length=n*3)(hvl:vs.length=3)
  (hcs:bK w b off cs) (hsp:∀j,j<c*3->(w.cell? ⟨b,off+j,none⟩).isSome=true) (hfz:∀j,j<c*3->w.frozen? ⟨b,off+j,none⟩=false)
  (hvs:bK w vb 0 vs) (h1c:∀v∈cs,v.oneCell'=true) (h1v:∀v∈vs,v.oneCell'=true)
  (tA tB:TypeId) (kA kB:Nat) (hsa:w.shape? vb=some (tA,kA)) (hsb:w.shape? b=some (tB,kB)) (hkB:kB≠0) (hfa:w.frozen? ⟨vb,0,none⟩=false) (hfe:w.frozen? ⟨vb,kA,none⟩=false) :
  Calls prog 336 #[.slice (some ⟨b,off,none⟩) n c,.int .i64 i,.slice (some ⟨vb,0,none⟩) 1 1] w λe w'=>
   e=.returned (.slice (some ⟨b,off,none⟩) (n+1) c)/\w'=(w.drew.setCells b (off+(i+1)*3) (cs.drop (i*3))).setCells b (off+i*3) vs:=by
 have u0:=run_underlying underlying90;have hz2:¬((i:Int)=(n:Int)):=by omega
 have hsz:(prog.info? 152).map (·.size)=some 3:=by kernel_rfl
 have hov:∀lb cb,(callFunc 362 #[.slice (some ⟨vb,0,none⟩) 1 1,.slice (some ⟨b,off+(i+1)*3,none⟩) lb cb]).run prog w=.ok (.value (.bool false)) w:=λlb cb=>by
  rw[run_callFunc_extern func362 (by kernel_rfl) (by kernel_rfl) (by kernel_rfl) (e:=Extern.SlicesOverlaps.overlaps #[90,90] #[4]) (by kernel_rfl),
   Lib.run_overlaps_apart w 90 4 152 underlying90 3 sizeOf152 ⟨vb,0,none⟩ ⟨b,off+(i+1)*3,none⟩ 1 1 lb cb hvb tA tB kA kB hsa hsb hkB hfa hfe]
  rfl
 have hdl:(cs.drop (i*3)).length=(n-i)*3:=by rw[aEQ,hcl];omega
 have mixed:=aG;have hw1:IntKind.i64.wrap ((i:Int)+1)=(i:Int)+1:=by rw[IntKind.wrap_i64];omega
 have hw2:IntKind.i64.wrap ((n:Int)+1)=(n:Int)+1:=by rw[IntKind.wrap_i64];omega
 have hb1:(0:Int)<=(i:Int)+1:=by omega
 have hin:i<=n:=by omega
 have htn:((i:Int)+1).toNat=i+1:=by omega
 have htm:((n:Int)+1).toNat=n+1:=by omega
 have hb2:¬(c=i+1):=by omega
 have hb3:(i:Int)<=(n:Int)+1:=by omega
 have hb4:¬(c=i):=by omega
 have hcp1:∀ty dc sc,(Builtin.copy_ #[90,90] ty #[.slice (some ⟨b,off+(i+1)*3,none⟩) (n-i) dc,.slice (some ⟨b,off+i*3,none⟩) (n+1-i) sc]).run prog w.drew=.ok (goInt (n-i:Nat)) (w.drew.setCells b (off+(i+1)*3) (cs.drop (i*3))):=λty dc sc=>
  XJ w.drew _ _ ty 152 3 b (off+(i+1)*3) (n-i) dc ⟨b,off+i*3,none⟩ (n+1-i) sc (n-i) (cs.drop (i*3)) underlying90 hsz (by simp only[Nat.min_def];split<;>omega) hdl
   (λj v hj=>by rw[Addr.add_lit,aAT];exact hcs (i*3+j) v (by rwa [List.getElem?_drop] at hj))
   (λj hj=>by rw[aAT];exact hsp _ (by omega)) (λj hj=>by rw[aAT];exact hfz _ (by omega)) (λv hv=>h1c v (aGZ hv))
 obtain⟨W1,hW1⟩:∃W1,W1=w.drew.setCells b (off+(i+1)*3) (cs.drop (i*3)):=⟨_,rfl⟩;have hsp1:∀k,k<c*3->(W1.cell? ⟨b,off+k,none⟩).isSome=true:=λk hk=>by rw[hW1];exact isSome_setCells b _ _ _ (λj hj=>by rw[aAT];exact hsp _ (by omega)) _ (hsp k hk)
 have hcp2:∀(W:World),(∀x,W.cell? x=W1.cell? x)->(∀x,W.frozen? x=W1.frozen? x)->∀ty dc,(Builtin.copy_ #[90,90] ty #[.slice (some ⟨b,off+i*3,none⟩) (n+1-i) dc,.slice (some ⟨vb,0,none⟩) 1 1]).run prog W=.ok (goInt 1) (W.setCells b (off+i*3) vs):=λW hWc hWf ty dc=>
  XJ W _ _ ty 152 3 b (off+i*3) (n+1-i) dc ⟨vb,0,none⟩ 1 1 1 vs underlying90 hsz (by simp only[Nat.min_def];split<;>omega) (by rw[hvl])
   (λj v hj=>by
    rw[Addr.add_lit,hWc,hW1,World.cell?_setCells_out b _ _ _ _ (λh _=>absurd h hvb)];exact hvs j v hj)
   (λj hj=>by rw[hWc,aAT];exact hsp1 _ (by omega)) (λj hj=>by rw[hWf,hW1,World.frozen?_setCells,aAT];exact hfz _ (by omega)) h1v
 rw[<-hW1] at hcp1
 go_enter func336,ntmps336
 go_wp2_with (simp only[hov])
 go_region_law_o (refine step_copy_runI rfl _ _ 90 90 rfl _ _ (by simp[Act.eval,Act.put]) (by simp[Act.eval,Act.put]) (hcp1 _ _ _) ?_)
 go_wp2_with (at_builtin;refine wpList_copy_runI _ rfl _ _ 90 90 rfl _ _ rfl rfl (hcp2 _ (λ_=>rfl) (λ_=>rfl) _ _) ?_)
 go_ret
 first|exact⟨rfl,rfl⟩|exact⟨rfl,by rw[hW1]⟩
end
section
open Go.RowKit Go.Shelf Go.Lib Go.Gv
set_option maxRecDepth 100000
set_option maxHeartbeats 4000000
theorem a3G(b off n c vb:Nat)(vs:List Value)(w:World)(hroom:n+1<=c)(hc63:c<=9223372036854775807)(hvl:vs.length=3)
  (hsp:∀j,j<c*3->(w.cell? ⟨b,off+j,none⟩).isSome=true) (hfz:∀j,j<c*3->w.frozen? ⟨b,off+j,none⟩=false) (hvs:bK w vb 0 vs) (h1v:∀v∈vs,v.oneCell'=true) :
  Calls prog 336 #[.slice (some ⟨b,off,none⟩) n c,.int .i64 n,.slice (some ⟨vb,0,none⟩) 1 1] w λe w'=>
   e=.returned (.slice (some ⟨b,off,none⟩) (n+1) c)/\w'=w.setCells b (off+n*3) vs:=by
 have u0:=run_underlying underlying90;have mixed:=aG;obtain⟨i0,hi0,hz0,hzs,hzb⟩:=AQ;have hsrc:Src prog i0.size 90 (.slice (some ⟨vb,0,none⟩) 1 1) 1 vs w:=by rw[hzs];exact Src.ofSlice w underlying90 ⟨vb,0,none⟩ 1 1 vs (by omega) (λj u hj=>by rw[Addr.add_lit];exact hvs j u hj) h1v
 have hrun:=run_append_room_src w 90 90 90 152 i0 underlying90 hi0 b off n c (.slice (some ⟨vb,0,none⟩) 1 1) 1 vs hsrc hroom (by rw[hzs,hvl];exact λj hj=>by rw[aAT];exact hsp _ (by omega)) (by rw[hzs,hvl];exact λj hj=>by rw[aAT];exact hfz _ (by omega));rw[hzs] at hrun
 go_enter func336,ntmps336
 go_wp2_with (at_builtin;refine Lib.wpList_append_run _ rfl _ _ _ _ rfl _ _ rfl rfl _ _ hrun ?_)
 go_ret
 exact⟨rfl,rfl⟩
theorem a8O(base:Option Addr)(n c vb:Nat)(cs vs:List Value)(w:World)(hnc:n<=c)(hroom:c<n+1)(hbig:n+1<=1073741824)(hcl:cs.length=n*3)(hvl:vs.length=3)(hnil:base=none->n=0)
  (hcs:∀a,base=some a->∀j v,cs[j]?=some v->w.cell? (a.add j)=some v) (hvs:bK w vb 0 vs) (h1v:∀v∈vs,v.oneCell'=true) :
  Calls prog 336 #[.slice base n c,.int .i64 n,.slice (some ⟨vb,0,none⟩) 1 1] w λe w'=>
   e=.returned (.slice (some ⟨w.heap.size,0,none⟩) (n+1) (grownCap w (n+1) c 152)) /\
   w'=w.drew.alloc (.cells ((cs++vs).toArray++Builtin.zeroCells (.agg #[.int .i64 0,.bool false,.int .i64 0]:Value).cells (grownCap w (n+1) c 152-(n+1))) 152):=by
 have u0:=run_underlying underlying90;have mixed:=aG;obtain⟨i0,hi0,hz0,hzs,hzb⟩:=AQ;have hsrc:Src prog i0.size 90 (.slice (some ⟨vb,0,none⟩) 1 1) 1 vs w:=by rw[hzs];exact Src.ofSlice w underlying90 ⟨vb,0,none⟩ 1 1 vs (by omega) (λj u hj=>by rw[Addr.add_lit];exact hvs j u hj) h1v
 have hold:(Builtin.firstCells i0.size n (.slice base n c)).run prog w.drew=.ok cs.toArray w.drew:=by
  rw[hzs];cases base with
  |none=>
   have h0:=hnil rfl;subst h0;rw[List.length_eq_zero_iff.1 (by omega:cs.length=0)];exact run_firstCells_none w.drew 3 0 0 c
  |some a=>exact run_firstCells_some w.drew 3 n a n c cs hcl (λj v hj=>hcs a rfl j v hj)
 have hfit:Builtin.nextslicecap (n+1) c*i0.bytes<=281474976710656:=growslice_fits hroom (qK (Nat.mul_le_mul hbig hzb) (by decide));have hrun:=run_append_grow_src w 90 90 90 152 i0 _ underlying90 hi0 hz0 base n c cs hold _ 1 vs hsrc hroom (by omega) hfit
 go_enter func336,ntmps336
 cases base with
 |none=>
  have h0:=hnil rfl;subst h0
  go_wp2_with (at_builtin;refine Lib.wpList_append_run _ rfl _ _ _ _ rfl _ _ rfl rfl _ _ hrun ?_)
  go_ret
  exact⟨rfl,rfl⟩
 |some a=>
  obtain⟨ab,ao,asp⟩:=a
  go_wp2_with (at_builtin;refine Lib.wpList_append_run _ rfl _ _ _ _ rfl _ _ rfl rfl _ _ hrun ?_)
  all_goals (go_ret;exact⟨rfl,rfl⟩)
theorem a3H(b off n c i vb:Nat)(cs vs:List Value)(w:World)(hi:i<n)(hnc:n<=c)(hroom:c<n+1)(hbig:n+1<=1073741824)(hcl:cs.length=n*3)(hvl:vs.length=3)
  (hcs:bK w b off cs) (hvs:bK w vb 0 vs) (h1c:∀v∈cs,v.oneCell'=true) (h1v:∀v∈vs,v.oneCell'=true) :
  Calls prog 336 #[.slice (some ⟨b,off,none⟩) n c,.int .i64 i,.slice (some ⟨vb,0,none⟩) 1 1] w λe w'=>
   e=.returned (.slice (some ⟨w.heap.size,0,none⟩) (n+1) (grownCap w (n+1) c 152)) /\
   w'=(((w.alloc (.cells ((cs.take (i*3)).toArray++Builtin.zeroCells (.agg #[.int .i64 0,.bool false,.int .i64 0]:Value).cells (n+1-i)++Builtin.zeroCells (.agg #[.int .i64 0,.bool false,.int .i64 0]:Value).cells (grownCap w (n+1) c 152-(n+1))) 152)).drew.setCells w.heap.size (i*3) vs).drew).setCells w.heap.size ((i+1)*3) (cs.drop (i*3)):=by
 have u0:=run_underlying underlying90;have u3:=run_underlying underlying3;have mixed:=aG;obtain⟨i0,hi0,hz0,hzs,hzb⟩:=AQ;have hz2:¬((i:Int)=(n:Int)):=by omega
 have hz3:(c:Int)<(n:Int)+1:=by omega
 have hsz:(prog.info? 152).map (·.size)=some 3:=by rw[hi0];simp[hzs]
 have hbw:b<w.heap.size:=block_lt_of_cell (hcs 0 _ (mP (by omega)));have hvw:vb<w.heap.size:=block_lt_of_cell (hvs 0 _ (mP (by omega)));have hkk:(n:Int)+1-(i:Int)=((n+1-i:Nat):Int):=by omega
 have hik:i+(n+1-i)=n+1:=by omega
 have htl:(cs.take (i*3)).length=i*3:=by rw[aGY];omega
 have hold:(Builtin.firstCells i0.size i (.slice (some ⟨b,off,none⟩) i c)).run prog w.drew=.ok (cs.take (i*3)).toArray w.drew:=by
  rw[hzs];exact run_firstCells_some w.drew 3 i ⟨b,off,none⟩ i c (cs.take (i*3)) htl (λj v hj=>by
   rw[Addr.add_lit];rw[aKX] at hj;split at hj
   ·exact hcs j v hj
   ·cases hj)
 have hfit:Builtin.nextslicecap (n+1) c*i0.bytes<=281474976710656:=growslice_fits hroom (qK (Nat.mul_le_mul hbig hzb) (by decide));have hrz:∀ty,(Builtin.append_ #[90,3] ty #[.slice (some ⟨b,off,none⟩) i c,.int .i64 ((n:Int)+1-(i:Int))]).run prog w =
   .ok (.slice (some ⟨w.heap.size,0,none⟩) (n+1) (grownCap w (n+1) c 152)) (w.drew.alloc (.cells ((cs.take (i*3)).toArray++Builtin.zeroCells (.agg #[.int .i64 0,.bool false,.int .i64 0]:Value).cells (n+1-i)++Builtin.zeroCells (.agg #[.int .i64 0,.bool false,.int .i64 0]:Value).cells (grownCap w (n+1) c 152-(n+1))) 152)):=λty=>by
  have h:=Lib.run_append_grow_zeros w 90 3 ty 152 i0 _ .i64 .i64 underlying90 underlying3 hi0 hz0 (some ⟨b,off,none⟩) i c (cs.take (i*3)) hold (n+1-i) (by omega) (by omega) (by omega) (by omega) (qK (Nat.mul_le_mul (show n+1-i<=1073741824 by omega) hzb) (by decide)) (by rw[hik];exact hfit);rw[hik] at h;rw[hkk];exact h
 obtain⟨G,hG⟩:∃G,G=grownCap w (n+1) c 152:=⟨_,rfl⟩;obtain⟨ROW,hROW⟩:∃ROW:Array Value,ROW=(cs.take (i*3)).toArray++Builtin.zeroCells (.agg #[.int .i64 0,.bool false,.int .i64 0]:Value).cells (n+1-i)++Builtin.zeroCells (.agg #[.int .i64 0,.bool false,.int .i64 0]:Value).cells (G-(n+1)):=⟨_,rfl⟩;rw[<-hG] at hrz ⊢;rw[<-hROW] at hrz ⊢;have hRl:(n+1)*3<=ROW.size:=by rw[hROW];simp only[Array.size_append,List.size_toArray,htl,size_zeroCells];have:(.agg #[.int .i64 0,.bool false,.int .i64 0]:Value).cells.size=3:=rfl;rw[this];omega
 obtain⟨W1,hW1⟩:∃W1,W1=w.drew.alloc (.cells ROW 152):=⟨_,rfl⟩;rw[<-hW1] at hrz;have hN:∀j,j<(n+1)*3->(W1.cell? ⟨w.heap.size,j,none⟩).isSome=true:=λj hj=>by rw[hW1,World.cell?_alloc_at (w:=w.drew) ROW _ w.heap.size j rfl,Array.getElem?_eq_getElem (by omega)];rfl
 have hNf:∀j,W1.frozen? ⟨w.heap.size,j,none⟩=false:=λj=>by rw[hW1];exact World.frozen?_alloc_at (w:=w.drew) ROW _ w.heap.size j rfl
 have hOb:∀j v,w.cell? ⟨b,j,none⟩=some v->W1.cell? ⟨b,j,none⟩=some v:=λj v h=>by rw[hW1,World.cell?_alloc_past (w:=w.drew) _ b j hbw];exact h
 have hOv:∀j v,w.cell? ⟨vb,j,none⟩=some v->W1.cell? ⟨vb,j,none⟩=some v:=λj v h=>by rw[hW1,World.cell?_alloc_past (w:=w.drew) _ vb j hvw];exact h
 have hcpA:∀(W:World),(∀x,W.cell? x=W1.cell? x)->(∀x,W.frozen? x=W1.frozen? x)->∀ty dc,(Builtin.copy_ #[90,90] ty #[.slice (some ⟨w.heap.size,i*3,none⟩) (n+1-i) dc,.slice (some ⟨vb,0,none⟩) 1 1]).run prog W=.ok (goInt 1) (W.setCells w.heap.size (i*3) vs):=λW hWc hWf ty dc=>
  XJ W _ _ ty 152 3 w.heap.size (i*3) (n+1-i) dc ⟨vb,0,none⟩ 1 1 1 vs underlying90 hsz (by simp only[Nat.min_def];split<;>omega) (by rw[hvl])
   (λj v hj=>by rw[Addr.add_lit,hWc];exact hOv _ v (hvs j v hj))
   (λj hj=>by rw[hWc];exact hN _ (by omega)) (λj hj=>by rw[hWf];exact hNf _) h1v
 have hGn:n+1<=G:=by rw[hG];exact grownCap_ge w _ _ _
 have hG63:G<=9223372036854775807:=by have:=grownCap_le_maxLen w (n+1) c 152 (by unfold maxLen;omega);rw[<-hG] at this;unfold maxLen at this;omega
 have hGi:¬(G=i):=by omega
 have hGim:¬(G=i+1):=by omega
 have hci:¬(c=i):=by omega
 have hbN:b≠w.heap.size:=by omega
 have hdl:(cs.drop (i*3)).length=(n-i)*3:=by rw[aEQ,hcl];omega
 have hcpB:∀(W:World),(∀x,W.cell? x=(W1.setCells w.heap.size (i*3) vs).cell? x)->(∀x,W.frozen? x=(W1.setCells w.heap.size (i*3) vs).frozen? x)->∀ty dc sc,(Builtin.copy_ #[90,90] ty #[.slice (some ⟨w.heap.size,(i+1)*3,none⟩) (n-i) dc,.slice (some ⟨b,off+i*3,none⟩) (n-i) sc]).run prog W=.ok (goInt (n-i:Nat)) (W.setCells w.heap.size ((i+1)*3) (cs.drop (i*3))):=λW hWc hWf ty dc sc=>
  XJ W _ _ ty 152 3 w.heap.size ((i+1)*3) (n-i) dc ⟨b,off+i*3,none⟩ (n-i) sc (n-i) (cs.drop (i*3)) underlying90 hsz (by simp only[Nat.min_def];split<;>omega) hdl
   (λj v hj=>by
    rw[Addr.add_lit,hWc,World.cell?_setCells_out _ _ _ _ _ (λh _=>absurd h hbN),aAT];exact hOb _ v (hcs (i*3+j) v (by rwa [List.getElem?_drop] at hj)))
   (λj hj=>by rw[hWc];exact isSome_setCells _ _ _ _ (λt ht=>hN _ (by omega)) _ (hN _ (by omega)))
   (λj hj=>by rw[hWf,World.frozen?_setCells];exact hNf _) (λv hv=>h1c v (aGZ hv))
 subst hW1;have hE1:∀x,((w.alloc (.cells ROW 152)).drew).cell? x=(w.drew.alloc (.cells ROW 152)).cell? x:=λx=>rfl;have hE2:∀x,((w.alloc (.cells ROW 152)).drew).frozen? x=(w.drew.alloc (.cells ROW 152)).frozen? x:=λx=>rfl;have hF1:∀x,(((w.alloc (.cells ROW 152)).drew.setCells w.heap.size (i*3) vs).drew).cell? x=((w.drew.alloc (.cells ROW 152)).setCells w.heap.size (i*3) vs).cell? x:=λx=>rfl;have hF2:∀x,(((w.alloc (.cells ROW 152)).drew.setCells w.heap.size (i*3) vs).drew).frozen? x=((w.drew.alloc (.cells ROW 152)).setCells w.heap.size (i*3) vs).frozen? x:=λx=>rfl;have hw1:IntKind.i64.wrap ((i:Int)+1)=(i:Int)+1:=by rw[IntKind.wrap_i64];omega
 have hw2:IntKind.i64.wrap ((n:Int)+1)=(n:Int)+1:=by rw[IntKind.wrap_i64];omega
 have hw3:IntKind.i64.wrap ((n:Int)+1-(i:Int))=(n:Int)+1-(i:Int):=by rw[IntKind.wrap_i64];omega
 have hb1:(0:Int)<=(i:Int)+1:=by omega
 have hin:i<=n:=by omega
 have htn:((i:Int)+1).toNat=i+1:=by omega
 have hb3:(i:Int)<=(n:Int):=by omega
 clear hkk hik hold hROW hG hRl htl
 go_enter func336,ntmps336
 go_wp2_with (first
  |(at_builtin;refine Lib.wpList_append_run _ rfl _ _ _ _ rfl _ _ rfl rfl _ _ (hrz _) ?_)
  |(at_builtin;refine wpList_copy_runI _ rfl _ _ 90 90 rfl _ _ rfl rfl (hcpA _ hE1 hE2 _ _) ?_)
  |(at_builtin;refine wpList_copy_runI _ rfl _ _ 90 90 rfl _ _ rfl rfl (hcpB _ (λ_=>rfl) (λ_=>rfl) _ _ _) ?_))
 go_region_law_o (refine step_copy_runI rfl _ _ 90 90 rfl (.slice (some ⟨w.heap.size,(i+1)*3,none⟩) (n-i) (G-(i+1))) (.slice (some ⟨b,off+i*3,none⟩) (n-i) (c-i)) (by simp[Act.eval,Act.put]) (by simp[Act.eval,Act.put]) (hcpB _ hF1 hF2 3 (G-(i+1)) (c-i)) ?_)
 go_wp2
 go_ret
 exact⟨rfl,rfl⟩
end
end Go.Proofs.YtonmnllkifmclaaGreat
end
