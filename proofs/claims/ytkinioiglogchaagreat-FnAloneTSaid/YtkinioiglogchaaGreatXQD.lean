import Derived.Test.YtkinioiglogchaaGreatXQC
import Derived.Test.YtkinioiglogchaaGreatProg
set_option linter.unusedVariables false
set_option linter.unusedSimpArgs false
set_option linter.unusedSectionVars false
noncomputable section
namespace Go.Gv
section
def aJ1(code:List UInt8):=
 some (decide (1048576<(code.length:Int)))
def aNB(x5:Int):Option (Int×Int):=
 some (0,x5)
def H8(code:List UInt8)(x3 x4:Int)(x6:Bool):Option (Step (Int×Int) Int):=
 (if x6 then(idx code x4).bind λx7=>some (.next (iG .and .i64 (bB ((bB ((bB (x3*131))+(x7.toNat:Int)))+7)) 1073741823,bB (x4+1))) else some (.stop (x3)))
def ZW(code:List UInt8):(Int×Int)->Option (Step (Int×Int) Int)
 |(x3,x4)=>(if decide (x4<(code.length:Int)) then H8 code x3 x4 (decide (x4<4000)) else H8 code x3 x4 false)
def aNC:Int->Option (Int×Int)
 |x5=>aNB x5
def S8(code:List UInt8):=
 (loop (ZW code) (bB (10101+(code.length:Int)),0)).bind (aNC)
def ED(c:dK)(x1 x2:Int):=
 some (x1,(x2,bB ((bB (c.h*6364136223846793005))+1442695040888963407)))
def sP(c:dK):=
 (if decide (c.i<(c.b.length:Int)) then(idx c.b c.i).bind λx3=>ED c (iG .and .i64 (bB ((iG .and .i64 (iG .xor .i64 (pA .i64 (bB ((bB (c.h*6364136223846793005))+1442695040888963407)) 33) (pA .i64 (bB ((bB (c.h*6364136223846793005))+1442695040888963407)) 45)) 255)+(x3.toNat:Int))) 255) (bB (c.i+1)) else ED c (iG .and .i64 (iG .xor .i64 (pA .i64 (bB ((bB (c.h*6364136223846793005))+1442695040888963407)) 33) (pA .i64 (bB ((bB (c.h*6364136223846793005))+1442695040888963407)) 45)) 255) c.i)
def fZ(c:dK)(n:Int):=
 (if decide (n<=0) then some (0,(c.i,c.h)) else(if decide (n<=256) then(sP c).bind λx1=>need (n≠0) (some (Int.tmod x1.1 n,(x1.2.1,x1.2.2))) else(sP c).bind λx2=>(sP (⟨c.b,x2.2.1,x2.2.2⟩:dK)).bind λx3=>(sP (⟨c.b,x3.2.1,x3.2.2⟩:dK)).bind λx4=>(sP (⟨c.b,x4.2.1,x4.2.2⟩:dK)).bind λx5=>need (n≠0) (some (Int.tmod (bB ((bB ((bB ((bB (x2.1*16777216))+(bB (x3.1*65536))))+(bB (x4.1*256))))+x5.1)) n,(x5.2.1,x5.2.2)))))
def WI(c:dK)(n:Int):=
 (fZ c n).bind λx1=>some (x1.1 == 0,(x1.2.1,x1.2.2))
def nE(c:dK)(list:List Int):=
 (fZ c (list.length:Int)).bind λx1=>(idx list x1.1).bind λx2=>some (x2,(x1.2.1,x1.2.2))
def EE(x1 x2:Int×(Int×Int))(x3 x4 x5:Int):=
 some ((⟨x1.1,x2.1,x5⟩:iP),(x3,x4))
def EF(c:dK)(x1 x2:Int×(Int×Int))(x6:Bool):=
 (if x6 then(fZ (⟨c.b,x2.2.1,x2.2.2⟩:dK) 60000).bind λx7=>(nE (⟨c.b,x7.2.1,x7.2.2⟩:dK) ([1,65535,x7.1]:List Int)).bind λx8=>EE x1 x2 x8.2.1 x8.2.2 x8.1 else EE x1 x2 x2.2.1 x2.2.2 0)
def I9(c:dK):=
 (nE c ([1,1,2,2,3,4,4]:List Int)).bind λx1=>(fZ (⟨c.b,x1.2.1,x1.2.2⟩:dK) 6).bind λx2=>(if x1.1 == 2 then EF c x1 x2 true else EF c x1 x2 (x1.1 == 4))
def aGB(x11 x12:Int)(x13:List iP):=
 some ((⟨false,x13⟩:Batch),(x11,x12))
def J7(x7 x14 x15:Int)(x16:List iP):Option (Step (Int×Int×Int×(List iP)) (Int×Int×(List iP))):=
 some (.next (bB (x7-1),x14,x15,x16))
def US(c:dK):(Int×Int×Int×(List iP))->Option (Step (Int×Int×Int×(List iP)) (Int×Int×(List iP)))
 |(x7,x8,x9,x10)=>(if decide (0<x7) then(I9 (⟨c.b,x8,x9⟩:dK)).bind λx17=>need (x10.length+([x17.1]).length<=1073741824)<|J7 x7 x17.2.1 x17.2.2 (x10++([x17.1])) else some (.stop ((x8,x9,x10))))
def aGC:(Int×Int×(List iP))->Option (Batch×(Int×Int))
 |(x11,x12,x13)=>aGB x11 x12 x13
def LD(c:dK):=
 (WI c 4).bind λx1=>(if x1.1 then some ((⟨true,[]⟩:Batch),(x1.2.1,x1.2.2)) else(fZ (⟨c.b,x1.2.1,x1.2.2⟩:dK) 3).bind λx2=>(loop (US c) (bB (1+x2.1),x2.2.1,x2.2.2,[])).bind (aGC))
def aB9(x9:List aN)(x10 x11:Int):=
 some (x9,(x10,x11))
def OI(x5:List aN)(x6 x21 x22:Int)(x23:List Batch):Option (Step ((List aN)×Int×Int×Int) ((List aN)×Int×Int)):=
 need (x5.length+([(⟨x23⟩:aN)]).length<=1073741824) (some (.next (x5++([(⟨x23⟩:aN)]),bB (x6+1),x21,x22)))
def EG(x17 x24 x25:Int)(x26:List Batch):Option (Step (Int×Int×Int×(List Batch)) (Int×Int×(List Batch))):=
 some (.next (bB (x17-1),x24,x25,x26))
def OJ(c:dK):(Int×Int×Int×(List Batch))->Option (Step (Int×Int×Int×(List Batch)) (Int×Int×(List Batch)))
 |(x17,x18,x19,x20)=>(if decide (0<x17) then(LD (⟨c.b,x18,x19⟩:dK)).bind λx27=>need (x20.length+([x27.1]).length<=1073741824)<|EG x17 x27.2.1 x27.2.2 (x20++([x27.1])) else some (.stop ((x18,x19,x20))))
def OK(x5:List aN)(x6:Int):(Int×Int×(List Batch))->Option (Step ((List aN)×Int×Int×Int) ((List aN)×Int×Int))
 |(x21,x22,x23)=>OI x5 x6 x21 x22 x23
def OL(c:dK)(most:Int):((List aN)×Int×Int×Int)->Option (Step ((List aN)×Int×Int×Int) ((List aN)×Int×Int))
 |(x5,x6,x7,x8)=>(if decide (x6<3) then(fZ (⟨c.b,x7,x8⟩:dK) (bB (most+1))).bind λx12=>(loop (OJ c) (x12.1,x12.2.1,x12.2.2,[])).bind (OK x5 x6) else some (.stop ((x5,x7,x8))))
def aCA:((List aN)×Int×Int)->Option ((List aN)×(Int×Int))
 |(x9,x10,x11)=>aB9 x9 x10 x11
def wZ(c:dK)(most:Int):=
 (loop (OL c most) (([]:List aN),0,c.i,c.h)).bind (aCA)
def aEH(x10:List Int)(x11 x12:Int):=
 some (x10,(x11,x12))
def RH(x7:Int)(x14:Int×(Int×Int))(x19:List Int):Option (Step ((List Int)×Int×Int×Int) ((List Int)×Int×Int)):=
 some (.next (x19,bB (x7-1),x14.2.1,x14.2.2))
def RI(x13:Int×(Int×Int)):((List Int)×Int)->Option (Step ((List Int)×Int) (List Int))
 |(x17,x18)=>(if decide (0<x18) then need (x17.length+([x13.1]).length<=1073741824) (some (.next (x17++([x13.1]),bB (x18-1)))) else some (.stop (x17)))
def RJ(x7:Int)(x14:Int×(Int×Int)):(List Int)->Option (Step ((List Int)×Int×Int×Int) ((List Int)×Int×Int))
 |x19=>RH x7 x14 x19
def RK(c:dK):((List Int)×Int×Int×Int)->Option (Step ((List Int)×Int×Int×Int) ((List Int)×Int×Int))
 |(x6,x7,x8,x9)=>(if decide (0<x7) then(fZ (⟨c.b,x8,x9⟩:dK) 3).bind λx13=>(fZ (⟨c.b,x13.2.1,x13.2.2⟩:dK) 8).bind λx14=>(loop (RI x13) (x6,bB (1+x14.1))).bind (RJ x7 x14) else some (.stop ((x6,x8,x9))))
def aEI:((List Int)×Int×Int)->Option ((List Int)×(Int×Int))
 |(x10,x11,x12)=>aEH x10 x11 x12
def H9(c:dK)(most:Int):=
 (fZ c most).bind λx1=>(loop (RK c) (([]:List Int),x1.1,x1.2.1,x1.2.2)).bind (aEI)
def rF(x2 x3 x4 x5 x6:Int):=
 some ((⟨x4,x5,x6⟩:iP),(x2,x3))
def OM(c:dK):=
 (I9 c).bind λx1=>(fZ (⟨c.b,x1.2.1,x1.2.2⟩:dK) 14).bind λx7=>(if x7.1 == 0 then(nE (⟨c.b,x7.2.1,x7.2.2⟩:dK) ([0,5]:List Int)).bind λx8=>rF x8.2.1 x8.2.2 x8.1 x1.1.Key x1.1.dI else(if x7.1 == 1 then(nE (⟨c.b,x7.2.1,x7.2.2⟩:dK) ([(-1),99,100]:List Int)).bind λx9=>rF x9.2.1 x9.2.2 x1.1.Kind x9.1 x1.1.dI else(if x7.1 == 2 then(nE (⟨c.b,x7.2.1,x7.2.2⟩:dK) ([(-1),65536,1,0]:List Int)).bind λx10=>rF x10.2.1 x10.2.2 x1.1.Kind x1.1.Key x10.1 else rF x7.2.1 x7.2.2 x1.1.Kind x1.1.Key x1.1.dI)))
def kX(x2:List aN)(x3 x4:Int):=
 some (x2,(x3,x4))
def MS(x13:List aN)(x14 x15:Int):=
 kX x13 x14 x15
def CZ(x10:List aN)(x16:Bool)(x17 x18:Int):Option (Step ((List aN)×Int×Int) ((List aN)×Int×Int)):=
 (if x16 then(idx x10 1).bind λx19=>need (x19.List.length+([(⟨true,[]⟩:Batch)]).length<=1073741824) (some (.next (x10.set ((1:Int).toNat) (⟨x19.List++([(⟨true,[]⟩:Batch)])⟩:aN),x17,x18))) else some (.stop ((x10,x17,x18))))
def MU(c:dK):((List aN)×Int×Int)->Option (Step ((List aN)×Int×Int) ((List aN)×Int×Int))
 |(x10,x11,x12)=>(idx x10 1).bind λx20=>(fZ (⟨c.b,x11,x12⟩:dK) 2).bind λx21=>CZ x10 (decide ((x20.List.length:Int)<(bB (12+x21.1)))) x21.2.1 x21.2.2
def aAP:((List aN)×Int×Int)->Option ((List aN)×(Int×Int))
 |(x13,x14,x15)=>MS x13 x14 x15
def C0(x22:List aN)(x23 x24:Int):=
 kX x22 x23 x24
def BU(c:dK):=
 (wZ c 5).bind λx1=>(fZ (⟨c.b,x1.2.1,x1.2.2⟩:dK) 20).bind λx5=>(if x5.1 == 0 then need (0<=(2:Int)/\(2:Int)<=(x1.1.length:Int)) (some ((x1.1.take ((2:Int).toNat)).drop 0,(x5.2.1,x5.2.2))) else(if x5.1 == 1 then(idx x1.1 0).bind λx6=>need (x6.List.length+([(⟨false,[]⟩:Batch)]).length<=1073741824) (kX (x1.1.set ((0:Int).toNat) (⟨x6.List++([(⟨false,[]⟩:Batch)])⟩:aN)) x5.2.1 x5.2.2) else(if x5.1 == 2 then(loop (MU c) (x1.1,x5.2.1,x5.2.2)).bind (aAP) else(if x5.1 == 3 then(idx x1.1 2).bind λx25=>(OM (⟨c.b,x5.2.1,x5.2.2⟩:dK)).bind λx26=>need (x25.List.length+([(⟨false,[x26.1]⟩:Batch)]).length<=1073741824)<|C0 (x1.1.set ((2:Int).toNat) (⟨x25.List++([(⟨false,[x26.1]⟩:Batch)])⟩:aN)) x26.2.1 x26.2.2 else kX x1.1 x5.2.1 x5.2.2))))
def kV(x4:List aN)(x5:List Int):=
 some (⟨x4,x5⟩:LC)
def tF(code:List UInt8):=
 (S8 code).bind λx1=>(wZ (⟨code,x1.1,x1.2⟩:dK) 6).bind λx2=>(H9 (⟨code,x2.2.1,x2.2.2⟩:dK) 60).bind λx3=>(fZ (⟨code,x3.2.1,x3.2.2⟩:dK) 16).bind λx6=>(if x6.1 == 0 then(BU (⟨code,x6.2.1,x6.2.2⟩:dK)).bind λx7=>kV x7.1 x3.1 else(if x6.1 == 1 then need (x3.1.length+([(-1),3,1]:List Int).length<=1073741824) (kV x2.1 (x3.1++([(-1),3,1]:List Int))) else kV x2.1 x3.1))
def LF(x1:Bool):=
 some x1
def cX(x low high:Int):=
 (if decide (low<=x) then LF (decide (x<=high)) else LF false)
def IA(c:iP)(x2:Bool):=
 (if x2 then(cX c.dI 0 65535).bind λx3=>some x3 else some (c.dI == 0))
def IB(c:iP)(x1:Bool):=
 (if x1 then some false else(if c.Kind == 2 then IA c true else IA c (c.Kind == 4)))
def MV(c:iP):=
 (cX c.Kind 1 4).bind λx4=>(if !x4 then IB c true else(cX c.Key 0 99).bind λx5=>IB c (!x5))
def UT(b:Batch):=
 (cX (b.bK.length:Int) 1 6).bind λx3=>some x3
def oQ(b:Batch):Int->Option (Step Int (Out Unit Bool))
 |x2=>(if decide (x2<(b.bK.length:Int)) then(idx b.bK x2).bind λx4=>(MV x4).bind λx5=>(if !x5 then some (.stop (Out.ret false)) else some (.next (bB (x2+1)))) else some (.stop (Out.brk ())))
def UU(b:Batch):(Out Unit Bool)->Option Bool
 |.brk ()=>UT b
 |.ret r=>some r
def LG(b:Batch):=
 (if b.Collect then some ((b.bK.length:Int) == 0) else(loop (oQ b) 0).bind (UU b))
def UW(todo:List aN):=
 some ((todo.length:Int) == 3)
def UX(x2:Int):Option (Step Int (Out Unit Bool)):=
 some (.next (bB (x2+1)))
def oR(todo:List aN)(x2:Int):Int->Option (Step Int (Out Unit Bool))
 |x5=>(idx todo x2).bind λx6=>(if decide (x5<(x6.List.length:Int)) then(idx todo x2).bind λx7=>(idx x7.List x5).bind λx8=>(LG x8).bind λx9=>(if !x9 then some (.stop (Out.ret false)) else some (.next (bB (x5+1)))) else some (.stop (Out.brk ())))
def UY(x2:Int):(Out Unit Bool)->Option (Step Int (Out Unit Bool))
 |.brk ()=>UX x2
 |.ret r=>some (.stop (Out.ret r))
def oS(todo:List aN):Int->Option (Step Int (Out Unit Bool))
 |x2=>(if decide (x2<(todo.length:Int)) then(idx todo x2).bind λx3=>(if decide (12<(x3.List.length:Int)) then some (.stop (Out.ret false)) else(loop (oR todo x2) 0).bind (UY x2)) else some (.stop (Out.brk ())))
def UZ(todo:List aN):(Out Unit Bool)->Option Bool
 |.brk ()=>UW todo
 |.ret r=>some r
def LH(todo:List aN):=
 (loop (oS todo) 0).bind (UZ todo)
def aGD(x5:List Int):=
 some (⟨List.replicate ((384:Int).toNat) 0,x5⟩:Heap)
def uK:(Int×(List Int))->Option (Step (Int×(List Int)) (List Int))
 |(x3,x4)=>(if decide (x3<6) then need (x4.length+([(-1)]).length<=1073741824) (some (.next (bB (x3+1),x4++([(-1)])))) else some (.stop (x4)))
def aGE:(List Int)->Option Heap
 |x5=>aGD x5
def LI:=
 need (0<=(384:Int)/\(384:Int)<=4294967296) ((loop (uK) (0,[])).bind (aGE))
def RL:=
 some (⟨List.replicate ((3:Int).toNat) (⟨[]⟩:bG),List.replicate ((9:Int).toNat) (⟨[]⟩:bG)⟩:aE)
def PK:=
 need (0<=(3:Int)/\(3:Int)<=4294967296)<|need (0<=(9:Int)/\(9:Int)<=4294967296)<|RL
def WJ:=
 (LI).bind λx1=>(PK).bind λx2=>some (⟨x1,x2⟩:Mem)
def PL:=
 need (0<=(3:Int)/\(3:Int)<=4294967296) (some (⟨0,List.replicate ((3:Int).toNat) (⟨false,0,false,0⟩:wQ)⟩:aC))
def PM:=
 need (0<=(3:Int)/\(3:Int)<=4294967296) (some (List.replicate ((3:Int).toNat) (⟨[]⟩:bW)))
def WK:Option (List Int):=
 need (0<=(3:Int)/\(3:Int)<=4294967296) (some (List.replicate ((3:Int).toNat) 0))
def LJ:Option aA:=
 (WJ).bind λx1=>(PL).bind λx2=>(PM).bind λx3=>(WK).bind λx4=>some (⟨x1,x2,x3,x4⟩:aA)
def S9(l:List iP):=
 need (([]:List iP).length+l.length<=1073741824) (some (([]:List iP)++l))
def IC(b:Batch):=
 (S9 b.bK).bind λx1=>some (⟨b.Collect,x1⟩:Batch)
def aCB(x5:List aN):=
 some x5
def ON(x3:List aN)(x4:Int)(x10:List Batch):Option (Step ((List aN)×Int) (List aN)):=
 need (x3.length+([(⟨x10⟩:aN)]).length<=1073741824) (some (.next (x3++([(⟨x10⟩:aN)]),bB (x4+1))))
def EH(x8:Int)(x12:List Batch):Option (Step (Int×(List Batch)) (List Batch)):=
 some (.next (bB (x8+1),x12))
def EI(l:List aN)(x4:Int):(Int×(List Batch))->Option (Step (Int×(List Batch)) (List Batch))
 |(x8,x9)=>(idx l x4).bind λx11=>(if decide (x8<(x11.List.length:Int)) then(idx l x4).bind λx13=>(idx x13.List x8).bind λx14=>(IC x14).bind λx15=>need (x9.length+([x15]).length<=1073741824)<|EH x8 (x9++([x15])) else some (.stop (x9)))
def OO(x3:List aN)(x4:Int):(List Batch)->Option (Step ((List aN)×Int) (List aN))
 |x10=>ON x3 x4 x10
def EJ(l:List aN):((List aN)×Int)->Option (Step ((List aN)×Int) (List aN))
 |(x3,x4)=>(if decide (x4<(l.length:Int)) then(loop (EI l x4) (0,[])).bind (OO x3 x4) else some (.stop (x3)))
def aCC:(List aN)->Option (List aN)
 |x5=>aCB x5
def EK(l:List aN):=
 (loop (EJ l) (([]:List aN),0)).bind (aCC)
def RM(x2:Table):=
 some ({x2 with Log:=[]}:Table)
def ID(todo:List aN):=
 (LH todo).bind λx1=>(if !x1 then some (⟨(⟨(⟨(⟨[],[]⟩:Heap),(⟨[],[]⟩:aE)⟩:Mem),(⟨0,[]⟩:aC),[],[]⟩:aA),[],[],[],[],0⟩:Table) else(LJ).bind λx3=>need (0<=(2:Int)/\(2:Int)<=4294967296)<|need (0<=(3:Int)/\(3:Int)<=4294967296)<|(EK todo).bind λx4=>RM (⟨x3,List.replicate ((2:Int).toNat) (⟨0,0,0⟩:bR),List.replicate ((3:Int).toNat) (⟨false,(⟨false,[]⟩:Batch),0,0,0,0,0,0,0,0,(⟨0,0,0⟩:gX),false,0,(⟨0,0,0,0,0,0,0,0,0,false⟩:Sub),[],[],[],[],[],[]⟩:aI),x4,[],0⟩:Table))
def OQ(x:LC):=
 (ID x.eE).bind λx1=>some ((x1.aS.length:Int) == 3)
def kY(s:List iP):=
 need (([]:List iP).length+s.length<=1073741824) (some (([]:List iP)++s))
def rG(s:List fY):=
 need (([]:List fY).length+s.length<=1073741824) (some (([]:List fY)++s))
def J8(e_:mT)(x1:List iP)(x2:List fY):=
 some ({e_ with bK:=x1,fY:=x2}:mT)
def EL(e_:mT):=
 (kY e_.bK).bind λx3=>(rG e_.fY).bind λx4=>J8 e_ x3 x4
def xA(b:Batch):=
 (kY b.bK).bind λx1=>some (⟨b.Collect,x1⟩:Batch)
def aCD(x5:List aN):=
 some x5
def OR(x3:List aN)(x4:Int)(x11:List Batch):Option (Step ((List aN)×Int) (List aN)):=
 need (x3.length+([(⟨x11⟩:aN)]).length<=1073741824) (some (.next (x3++([(⟨x11⟩:aN)]),bB (x4+1))))
def EM(x9:Int)(x13:List Batch):Option (Step (Int×(List Batch)) (List Batch)):=
 some (.next (bB (x9+1),x13))
def EN(x6:aN):(Int×(List Batch))->Option (Step (Int×(List Batch)) (List Batch))
 |(x9,x10)=>(if decide (x9<(x6.List.length:Int)) then(idx x6.List x9).bind λx12=>(xA x12).bind λx14=>need (x10.length+([x14]).length<=1073741824)<|EM x9 (x10++([x14])) else some (.stop (x10)))
def OS(x3:List aN)(x4:Int):(List Batch)->Option (Step ((List aN)×Int) (List aN))
 |x11=>OR x3 x4 x11
def EO(todo:List aN):((List aN)×Int)->Option (Step ((List aN)×Int) (List aN))
 |(x3,x4)=>(if decide (x4<(todo.length:Int)) then(idx todo x4).bind λx6=>(loop (EN x6) (0,[])).bind (OS x3 x4) else some (.stop (x3)))
def aCE:(List aN)->Option (List aN)
 |x5=>aCD x5
def xB(todo:List aN):=
 (loop (EO todo) (([]:List aN),0)).bind (aCE)
def gE(s:List Int):=
 need (([]:List Int).length+s.length<=1073741824) (some (([]:List Int)++s))
def vK(h:Heap):=
 (gE h.Bytes).bind λx1=>(gE h.Class).bind λx2=>some (⟨x1,x2⟩:Heap)
def aCF(x5 x10:List bG):=
 some (⟨x5,x10⟩:aE)
def EP(x8:Int)(x12:List bG):Option (Step (Int×(List bG)) (List bG)):=
 some (.next (bB (x8+1),x12))
def ER(l:aE):(Int×(List bG))->Option (Step (Int×(List bG)) (List bG))
 |(x8,x9)=>(if decide (x8<(l.Own.length:Int)) then(idx l.Own x8).bind λx11=>(gE x11.aV).bind λx13=>need (x9.length+([(⟨x13⟩:bG)]).length<=1073741824)<|EP x8 (x9++([(⟨x13⟩:bG)])) else some (.stop (x9)))
def aCG(x5:List bG):(List bG)->Option aE
 |x10=>aCF x5 x10
def OT(l:aE)(x5:List bG):=
 (loop (ER l) (0,[])).bind (aCG x5)
def ES(x3:Int)(x15:List bG):Option (Step (Int×(List bG)) (List bG)):=
 some (.next (bB (x3+1),x15))
def ET(l:aE):(Int×(List bG))->Option (Step (Int×(List bG)) (List bG))
 |(x3,x4)=>(if decide (x3<(l.Global.length:Int)) then(idx l.Global x3).bind λx14=>(gE x14.aV).bind λx16=>need (x4.length+([(⟨x16⟩:bG)]).length<=1073741824)<|ES x3 (x4++([(⟨x16⟩:bG)])) else some (.stop (x4)))
def OU(l:aE):(List bG)->Option aE
 |x5=>OT l x5
def i7(l:aE):=
 (loop (ET l) (0,[])).bind (OU l)
def pE(m:Mem):=
 (vK m.Heap).bind λx1=>(i7 m.aE).bind λx2=>some (⟨x1,x2⟩:Mem)
def yU(s:List wQ):=
 need (([]:List wQ).length+s.length<=1073741824) (some (([]:List wQ)++s))
def lP(c:aC):=
 (yU c.cE).bind λx1=>some (⟨c.aK,x1⟩:aC)
def wC(s:List fB):=
 need (([]:List fB).length+s.length<=1073741824) (some (([]:List fB)++s))
def aCH(x5:List bW):=
 some x5
def EU(l:List bW):((List bW)×Int)->Option (Step ((List bW)×Int) (List bW))
 |(x3,x4)=>(if decide (x4<(l.length:Int)) then(idx l x4).bind λx6=>(wC x6.Rows).bind λx7=>need (x3.length+([(⟨x7⟩:bW)]).length<=1073741824) (some (.next (x3++([(⟨x7⟩:bW)]),bB (x4+1)))) else some (.stop (x3)))
def aCI:(List bW)->Option (List bW)
 |x5=>aCH x5
def lQ(l:List bW):=
 (loop (EU l) (([]:List bW),0)).bind (aCI)
def IE(b:aA):=
 (pE b.Mem).bind λx1=>(lP b.aC).bind λx2=>(lQ b.aQ).bind λx3=>(gE b.qU).bind λx4=>some (⟨x1,x2,x3,x4⟩:aA)
def HK(s:List bR):=
 need (([]:List bR).length+s.length<=1073741824) (some (([]:List bR)++s))
def pG(s:List Seen):=
 need (([]:List Seen).length+s.length<=1073741824) (some (([]:List Seen)++s))
def nG(s:List aU):=
 need (([]:List aU).length+s.length<=1073741824) (some (([]:List aU)++s))
def RN(x3:aI):=
 some x3
def HL(j x2:aI):=
 (gE j.gL).bind λx4=>(gE j.bD).bind λx5=>(gE j.cA).bind λx6=>RN ({x2 with gL:=x4,bD:=x5,cA:=x6}:aI)
def IF(j:aI):=
 (xA j.Batch).bind λx1=>(pG j.Reads).bind λx7=>(nG j.aH).bind λx8=>(rG j.fY).bind λx9=>HL j ({j with Batch:=x1,Reads:=x7,aH:=x8,fY:=x9}:aI)
def aCJ(x11:Table):=
 some x11
def EV(x9:Int)(x13:Table):Option (Step (Int×Table) Table):=
 some (.next (bB (x9+1),x13))
def lZ(t:Table):(Int×Table)->Option (Step (Int×Table) Table)
 |(x9,x10)=>(if decide (x9<(t.Log.length:Int)) then(idx t.Log x9).bind λx12=>(EL x12).bind λx14=>need (x10.Log.length+([x14]).length<=1073741824)<|EV x9 ({x10 with Log:=x10.Log++([x14])}:Table) else some (.stop (x10)))
def aCK:Table->Option Table
 |x11=>aCJ x11
def aCL(t x6:Table):=
 (loop (lZ t) (0,({x6 with Log:=[]}:Table))).bind (aCK)
def EW(x4:Int)(x16:Table):Option (Step (Int×Table) Table):=
 some (.next (bB (x4+1),({x16 with Log:=[]}:Table)))
def l4(t:Table):(Int×Table)->Option (Step (Int×Table) Table)
 |(x4,x5)=>(if decide (x4<(t.aS.length:Int)) then(idx t.aS x4).bind λx15=>(IF x15).bind λx17=>need (x5.aS.length+([x17]).length<=1073741824)<|EW x4 ({x5 with aS:=x5.aS++([x17]),Log:=[]}:Table) else some (.stop (({x5 with Log:=[]}:Table))))
def aCM(t:Table):Table->Option Table
 |x6=>aCL t x6
def EX(t x1:Table):=
 (loop (l4 t) (0,({x1 with aS:=[],Log:=[]}:Table))).bind (aCM t)
def EY(t:Table):=
 (IE t.aA).bind λx18=>(HK t.aR).bind λx19=>(xB t.eE).bind λx20=>EX t (⟨x18,x19,[],x20,[],t.aG⟩:Table)
def MW:=
 some (-1)
def nH(s:List aN)(f:(aN->Option Bool)):Int->Option (Step Int (Out Unit Int))
 |x2=>(if decide (x2<(s.length:Int)) then(idx s x2).bind λx3=>(f x3).bind λx4=>(if x4 then some (.stop (Out.ret x2)) else some (.next (bB (x2+1)))) else some (.stop (Out.brk ())))
def xC:(Out Unit Int)->Option Int
 |.brk ()=>MW
 |.ret r=>some r
def DM(s:List aN)(f:(aN->Option Bool)):=
 (loop (nH s f) 0).bind (xC)
def j7(s:List aN)(f:(aN->Option Bool)):=
 (DM s f).bind λx1=>some (decide (0<=x1))
def N2:=
 some (-1)
def oF(s:List Batch)(f:(Batch->Option Bool)):Int->Option (Step Int (Out Unit Int))
 |x2=>(if decide (x2<(s.length:Int)) then(idx s x2).bind λx3=>(f x3).bind λx4=>(if x4 then some (.stop (Out.ret x2)) else some (.next (bB (x2+1)))) else some (.stop (Out.brk ())))
def zV:(Out Unit Int)->Option Int
 |.brk ()=>N2
 |.ret r=>some r
def EZ(s:List Batch)(f:(Batch->Option Bool)):=
 (loop (oF s f) 0).bind (zV)
def oG(s:List Batch)(f:(Batch->Option Bool)):=
 (EZ s f).bind λx1=>some (decide (0<=x1))
def E0(x1:Bool):=
 some x1
def bT(n low high:Int):=
 (if decide (low<=n) then E0 (decide (n<=high)) else E0 false)
def RO:=
 some (-1)
def rH(s:List iP)(f:(iP->Option Bool)):Int->Option (Step Int (Out Unit Int))
 |x2=>(if decide (x2<(s.length:Int)) then(idx s x2).bind λx3=>(f x3).bind λx4=>(if x4 then some (.stop (Out.ret x2)) else some (.next (bB (x2+1)))) else some (.stop (Out.brk ())))
def DN:(Out Unit Int)->Option Int
 |.brk ()=>RO
 |.ret r=>some r
def JA(s:List iP)(f:(iP->Option Bool)):=
 (loop (rH s f) 0).bind (DN)
def rI(s:List iP)(f:(iP->Option Bool)):=
 (JA s f).bind λx1=>some (decide (0<=x1))
def qE(x2:Bool):=
 some x2
def vL(c:iP)(x1:Bool):=
 (bT c.Kind 1 4).bind λx3=>(if x3 then(bT c.Key 0 99).bind λx4=>(if x4 then(if x1 then(bT c.dI 0 65535).bind λx5=>(if x5 then qE true else qE (c.dI == 0)) else qE (c.dI == 0)) else qE false) else qE false)
def TA(c:iP):=
 (if c.Kind == 2 then vL c true else vL c (c.Kind == 4))
def MX(c:iP):=
 (TA c).bind λx1=>some (!x1)
def uL(x1:Bool):=
 some x1
def E1(b:Batch):=
 (if b.Collect then some ((b.bK.length:Int) == 0) else(bT (b.bK.length:Int) 1 6).bind λx2=>(if x2 then(rI b.bK (λy0=>MX y0)).bind λx3=>uL (!x3) else uL false))
def HM(b:Batch):=
 (E1 b).bind λx1=>some (!x1)
def wD(x1:Bool):=
 some x1
def E2(q:aN):=
 (if decide (12<(q.List.length:Int)) then wD true else(oG q.List (λy0=>HM y0)).bind λx2=>wD x2)
def BV(x1:Bool):=
 some x1
def E3(todo:List aN):=
 (if(todo.length:Int) == 3 then(j7 todo (λy0=>E2 y0)).bind λx2=>BV (!x2) else BV false)
def DO:=
 some (-1)
def jT(s:List Int)(f:(Int->Option Bool)):Int->Option (Step Int (Out Unit Int))
 |x2=>(if decide (x2<(s.length:Int)) then(idx s x2).bind λx3=>(f x3).bind λx4=>(if x4 then some (.stop (Out.ret x2)) else some (.next (bB (x2+1)))) else some (.stop (Out.brk ())))
def rJ:(Out Unit Int)->Option Int
 |.brk ()=>DO
 |.ret r=>some r
def xD(s:List Int)(f:(Int->Option Bool)):=
 (loop (jT s f) 0).bind (rJ)
def eZ(s:List Int)(f:(Int->Option Bool)):=
 (xD s f).bind λx1=>some (decide (0<=x1))
def WL(x:Int):=
 (bT x 0 255).bind λx1=>some x1
def E4(x:Int):=
 (WL x).bind λx1=>some (!x1)
def BW(x1:Bool):=
 some x1
def LK(b:List Int):=
 (if decide ((b.length:Int)<=1000) then(eZ b (λy0=>E4 y0)).bind λx2=>BW (!x2) else BW false)
def IG(c:Int):=
 (bT c (-1) 2).bind λx1=>some (!x1)
def rK(x1:Bool):=
 some x1
def JC(h:Heap):=
 (if(h.Bytes.length:Int) == 384 then(LK h.Bytes).bind λx2=>(if x2 then(if(h.Class.length:Int) == 6 then(eZ h.Class (λy0=>IG y0)).bind λx3=>rK (!x3) else rK false) else rK false) else rK false)
def aGF(x5:Int):=
 some x5
def uM(b:List Int)(at_ width:Int):(Int×Int)->Option (Step (Int×Int) Int)
 |(x3,x4)=>(if decide (x4<(((b.take ((bB (at_+width)).toNat)).drop at_.toNat).length:Int)) then(idx ((b.take ((bB (at_+width)).toNat)).drop at_.toNat) x4).bind λx6=>some (.next (bB ((bB (256*x3))+x6),bB (x4+1))) else some (.stop (x3)))
def aGG:Int->Option Int
 |x5=>aGF x5
def pH(b:List Int)(at_ width:Int):=
 need (0<=(at_:Int)/\(at_:Int)<=(bB (at_+width):Int)/\(bB (at_+width):Int)<=(b.length:Int)) ((loop (uM b at_ width) (0,0)).bind (aGG))
def lH(c:Int):=
 (bT c 0 2).bind λx1=>some x1
def DP(c:Int):=
 (lH c).bind λx1=>(if !x1 then some 0 else(idx ([8,16,40]:List Int) c).bind λx2=>some x2)
def vM(c:Int):=
 (lH c).bind λx1=>(if !x1 then some 0 else(DP c).bind λx2=>some (bB (4+x2)))
def pI(c:Int):=
 (lH c).bind λx1=>(if !x1 then some 0 else(vM c).bind λx2=>need (x2≠0) (some (bB (Int.tdiv 56 x2))))
def IH(x:Int):=
 some (x != 0)
def JD(b:List Int):=
 (eZ b (λy0=>IH y0)).bind λx1=>some (!x1)
def aJ2:=
 some true
def rL(h:Heap)(page x1 x4:Int):Int->Option (Step Int (Out Unit Bool))
 |x6=>(if decide (x6<x4) then(vM x1).bind λx7=>(pH ((h.Bytes.take ((bB ((bB (page+1))*64)).toNat)).drop ((bB (page*64)).toNat)) (bB (8+(bB (x6*x7)))) 4).bind λx8=>(bT x8 1 7).bind λx9=>(if !x9 then some (.stop (Out.ret false)) else some (.next (bB (x6+1)))) else some (.stop (Out.brk ())))
def aJ3:(Out Unit Bool)->Option Bool
 |.brk ()=>aJ2
 |.ret r=>some r
def j8(h:Heap)(page x1:Int)(x3:Bool):=
 (if x3 then some false else(pI x1).bind λx4=>(loop (rL h page x1 x4) 0).bind (aJ3))
def OV(h:Heap)(page:Int):=
 (idx h.Class page).bind λx1=>need (0<=(bB (page*64):Int)/\(bB (page*64):Int)<=(bB ((bB (page+1))*64):Int)/\(bB ((bB (page+1))*64):Int)<=(h.Bytes.length:Int)) ((if decide (x1<0) then(JD ((h.Bytes.take ((bB ((bB (page+1))*64)).toNat)).drop ((bB (page*64)).toNat))).bind λx2=>some x2 else(idx ((h.Bytes.take ((bB ((bB (page+1))*64)).toNat)).drop ((bB (page*64)).toNat)) 0).bind λx10=>(if x10 != 171 then j8 h page x1 true else(idx ((h.Bytes.take ((bB ((bB (page+1))*64)).toNat)).drop ((bB (page*64)).toNat)) 1).bind λx11=>(if x11 != x1 then j8 h page x1 true else(idx ((h.Bytes.take ((bB ((bB (page+1))*64)).toNat)).drop ((bB (page*64)).toNat)) 2).bind λx12=>(pI x1).bind λx13=>(if x12 != x13 then j8 h page x1 true else need (0<=(3:Int)/\(3:Int)<=(8:Int)/\(8:Int)<=(((h.Bytes.take ((bB ((bB (page+1))*64)).toNat)).drop ((bB (page*64)).toNat)).length:Int)) ((JD ((((h.Bytes.take ((bB ((bB (page+1))*64)).toNat)).drop ((bB (page*64)).toNat)).take ((8:Int).toNat)).drop ((3:Int).toNat))).bind λx14=>j8 h page x1 (!x14)))))))
def aJ4:=
 some true
def xE(h:Heap):Int->Option (Step Int (Out Unit Bool))
 |x3=>(if decide (x3<6) then(OV h x3).bind λx4=>(if !x4 then some (.stop (Out.ret false)) else some (.next (bB (x3+1)))) else some (.stop (Out.brk ())))
def aJ5:(Out Unit Bool)->Option Bool
 |.brk ()=>aJ4
 |.ret r=>some r
def JE(h:Heap):=
 (JC h).bind λx1=>(if !x1 then some false else(loop (xE h) 0).bind (aJ5))
def sQ(slot:Int):=
 (bT slot 0 23).bind λx1=>some x1
def TB(x11:List Raw):=
 some x11
def mX(slices:List (List Raw)):((List Raw)×Int)->Option (Step ((List Raw)×Int) (List Raw))
 |(x9,x10)=>(if decide (x10<(slices.length:Int)) then(idx slices x10).bind λx12=>need (x9.length+x12.length<=1073741824) (some (.next (x9++x12,bB (x10+1)))) else some (.stop (x9)))
def TC:(List Raw)->Option (List Raw)
 |x11=>TB x11
def E5(slices:List (List Raw))(x5:Int):=
 (aY8 Raw x5).bind λx6=>(loop (mX slices) (x6,0)).bind (TC)
def j9(slices:List (List Raw)):(Int×Int)->Option (Step (Int×Int) Int)
 |(x3,x4)=>(if decide (x4<(slices.length:Int)) then(idx slices x4).bind λx13=>(if decide ((bB (x3+(x13.length:Int)))<0) then none else some (.next (bB (x3+(x13.length:Int)),bB (x4+1)))) else some (.stop (x3)))
def E6(slices:List (List Raw)):Int->Option (List Raw)
 |x5=>E5 slices x5
def z8(slices:List (List Raw)):=
 (loop (j9 slices) (0,0)).bind (E6 slices)
def aGH:=
 some true
def U0(x4:Int)(x12:List Bool):Option (Step (Int×(List Bool)) (Out Unit Bool)):=
 some (.next (bB (x4+1),x12))
def uN(x10:Int)(x11:List Bool)(x13:Int)(x14:Bool):Option (Step (Int×(List Bool)) (Out (List Bool) Bool)):=
 (if x14 then some (.stop (Out.ret false)) else need (0<=(x13:Int)/\(x13:Int)<24) ((idx (x11:List Bool) x13).bind λx15=>some (.next (bB (x10+1),x11.set (x13.toNat) true))))
def uO(x6:bG):(Int×(List Bool))->Option (Step (Int×(List Bool)) (Out (List Bool) Bool))
 |(x10,x11)=>(if decide (x10<(x6.aV.length:Int)) then(idx x6.aV x10).bind λx13=>(sQ x13).bind λx16=>(if !x16 then uN x10 x11 x13 true else need (0<=(x13:Int)/\(x13:Int)<24) ((idx (x11:List Bool) x13).bind λx17=>uN x10 x11 x13 x17)) else some (.stop (Out.brk x11)))
def U1(x4:Int):(Out (List Bool) Bool)->Option (Step (Int×(List Bool)) (Out Unit Bool))
 |.brk x12=>U0 x4 x12
 |.ret r=>some (.stop (Out.ret r))
def oT(x4:Int)(x5:List Bool)(x6:bG)(x7:Bool):=
 (if x7 then some (.stop (Out.ret false)) else(loop (uO x6) (0,x5)).bind (U1 x4))
def uP(l:aE):(Int×(List Bool))->Option (Step (Int×(List Bool)) (Out Unit Bool))
 |(x4,x5)=>(if decide (x4<((l.Own++l.Global).length:Int)) then(idx (l.Own++l.Global) x4).bind λx6=>(if decide (x4<(l.Own.length:Int)) then oT x4 x5 x6 (decide (2<(x6.aV.length:Int))) else oT x4 x5 x6 false) else some (.stop (Out.brk ())))
def aGI:(Out Unit Bool)->Option Bool
 |.brk ()=>aGH
 |.ret r=>some r
def BX(l:aE)(x1:Bool):=
 (if x1 then some false else need (l.Own.length+l.Global.length<=1073741824) ((loop (uP l) (0,List.replicate 24 false)).bind (aGI)))
def pJ(l:aE):=
 (if(l.Global.length:Int) != 3 then BX l true else BX l ((l.Own.length:Int) != 9))
def AY(slot c:Int)(x1:Bool):=
 (if x1 then some (-1) else(vM c).bind λx2=>some (bB ((bB ((bB ((bB (Int.tdiv slot 4))*64))+8))+(bB ((Int.tmod slot 4)*x2)))))
def xF(slot c:Int):=
 (sQ slot).bind λx3=>(if !x3 then AY slot c true else(lH c).bind λx4=>(if !x4 then AY slot c true else(pI c).bind λx5=>AY slot c (decide (x5<=(Int.tmod slot 4)))))
def BY(h:Heap)(slot:Int)(x1:Bool):=
 (if x1 then some (-1) else(idx h.Class (bB (Int.tdiv slot 4))).bind λx2=>some x2)
def lI(h:Heap)(slot:Int):=
 (sQ slot).bind λx3=>(if !x3 then BY h slot true else(idx h.Class (bB (Int.tdiv slot 4))).bind λx4=>(xF slot x4).bind λx5=>BY h slot (decide (x5<0)))
def E7(h:Heap)(slot:Int):=
 (JC h).bind λx1=>(if !x1 then some (-1) else(lI h slot).bind λx2=>some x2)
def C1(h:Heap)(slot:Int):=
 (E7 h slot).bind λx1=>(if decide (x1<0) then some 0 else(xF slot x1).bind λx2=>(pH h.Bytes x2 4).bind λx3=>some x3)
def aEJ:=
 some true
def yV(x2:Int)(x4:Bool):Option (Step Int (Out Unit Bool)):=
 (if x4 then some (.stop (Out.ret false)) else some (.next (bB (x2+1))))
def m8(h:Heap)(s:bG)(c:Int):Int->Option (Step Int (Out Unit Bool))
 |x2=>(if decide (x2<(s.aV.length:Int)) then(idx s.aV x2).bind λx3=>(lI h x3).bind λx5=>(if x5 != c then yV x2 true else(C1 h x3).bind λx6=>yV x2 (decide (6<x6))) else some (.stop (Out.brk ())))
def aEK:(Out Unit Bool)->Option Bool
 |.brk ()=>aEJ
 |.ret r=>some r
def AZ(h:Heap)(s:bG)(c:Int):=
 (loop (m8 h s c) 0).bind (aEK)
def aND:=
 some true
def vN(m:Mem):Int->Option (Step Int (Out Unit Bool))
 |x5=>(if decide (x5<(m.aE.Own.length:Int)) then(idx m.aE.Own x5).bind λx6=>(AZ m.Heap x6 (Int.tmod x5 3)).bind λx7=>(if !x7 then some (.stop (Out.ret false)) else some (.next (bB (x5+1)))) else some (.stop (Out.brk ())))
def aNE:(Out Unit Bool)->Option Bool
 |.brk ()=>aND
 |.ret r=>some r
def ZX(m:Mem):=
 (loop (vN m) 0).bind (aNE)
def vO(m:Mem):Int->Option (Step Int (Out Unit Bool))
 |x3=>(if decide (x3<(m.aE.Global.length:Int)) then(idx m.aE.Global x3).bind λx8=>(AZ m.Heap x8 x3).bind λx9=>(if !x9 then some (.stop (Out.ret false)) else some (.next (bB (x3+1)))) else some (.stop (Out.brk ())))
def ZY(m:Mem):(Out Unit Bool)->Option Bool
 |.brk ()=>ZX m
 |.ret r=>some r
def II(m:Mem)(x1:Bool):=
 (if x1 then some false else(loop (vO m) 0).bind (ZY m))
def xG(m:Mem):=
 (JE m.Heap).bind λx10=>(if !x10 then II m true else(pJ m.aE).bind λx11=>II m (!x11))
def DQ:=
 some (-1)
def jU(s:List wQ)(f:(wQ->Option Bool)):Int->Option (Step Int (Out Unit Int))
 |x2=>(if decide (x2<(s.length:Int)) then(idx s x2).bind λx3=>(f x3).bind λx4=>(if x4 then some (.stop (Out.ret x2)) else some (.next (bB (x2+1)))) else some (.stop (Out.brk ())))
def rM:(Out Unit Int)->Option Int
 |.brk ()=>DQ
 |.ret r=>some r
def xH(s:List wQ)(f:(wQ->Option Bool)):=
 (loop (jU s f) 0).bind (rM)
def l5(s:List wQ)(f:(wQ->Option Bool)):=
 (xH s f).bind λx1=>some (decide (0<=x1))
def l6(x1:Bool):=
 some x1
def xI(p:wQ)(k0:aC):=
 (bT p.aK 0 k0.aK).bind λx2=>(if !x2 then l6 true else(bT p.Seen 0 2).bind λx3=>(if !x3 then l6 true else(if !p.On then l6 (!(decide (p=(⟨false,0,false,0⟩:wQ)))) else l6 false)))
def uQ(x1:Bool):=
 some x1
def pK(c:aC):=
 (bT c.aK 0 100000).bind λx2=>(if x2 then(if(c.cE.length:Int) == 3 then(l5 c.cE (λy0=>xI y0 c)).bind λx3=>uQ (!x3) else uQ false) else uQ false)
def yW(x1:Bool):=
 some x1
def iN(h:Int):=
 (bT h 32 223).bind λx2=>(if x2 then yW (decide ((Int.tmod h 32)<24)) else yW false)
def aCN(x5:Int):=
 some x5
def pL(l:List bW):(Int×Int)->Option (Step (Int×Int) Int)
 |(x3,x4)=>(if decide (x4<(l.length:Int)) then(idx l x4).bind λx6=>some (.next (bB (x3+(x6.Rows.length:Int)),bB (x4+1))) else some (.stop (x3)))
def aCO:Int->Option Int
 |x5=>aCN x5
def E8(l:List bW):=
 (loop (pL l) (0,0)).bind (aCO)
def U2(l:List bW):=
 (E8 l).bind λx5=>some (decide (x5<=24))
def U3(x3:Int)(x11:List Bool):Option (Step (Int×(List Bool)) (Out Unit Bool)):=
 some (.next (bB (x3+1),x11))
def mC(x9:Int)(x10:List Bool)(x12:fB)(x13:Bool):Option (Step (Int×(List Bool)) (Out (List Bool) Bool)):=
 (if x13 then some (.stop (Out.ret false)) else need (0<=(Int.tmod x12.Handle 32:Int)/\(Int.tmod x12.Handle 32:Int)<24) ((idx (x10:List Bool) (Int.tmod x12.Handle 32)).bind λx14=>some (.next (bB (x9+1),x10.set ((Int.tmod x12.Handle 32).toNat) true))))
def uR(x6:bW):(Int×(List Bool))->Option (Step (Int×(List Bool)) (Out (List Bool) Bool))
 |(x9,x10)=>(if decide (x9<(x6.Rows.length:Int)) then(idx x6.Rows x9).bind λx12=>(iN x12.Handle).bind λx15=>(if !x15 then mC x9 x10 x12 true else(bT x12.aK 0 100000).bind λx16=>(if !x16 then mC x9 x10 x12 true else need (0<=(Int.tmod x12.Handle 32:Int)/\(Int.tmod x12.Handle 32:Int)<24) ((idx (x10:List Bool) (Int.tmod x12.Handle 32)).bind λx17=>mC x9 x10 x12 x17))) else some (.stop (Out.brk x10)))
def U4(x3:Int):(Out (List Bool) Bool)->Option (Step (Int×(List Bool)) (Out Unit Bool))
 |.brk x11=>U3 x3 x11
 |.ret r=>some (.stop (Out.ret r))
def uS(l:List bW):(Int×(List Bool))->Option (Step (Int×(List Bool)) (Out Unit Bool))
 |(x3,x4)=>(if decide (x3<(l.length:Int)) then(idx l x3).bind λx6=>(loop (uR x6) (0,x4)).bind (U4 x3) else some (.stop (Out.brk ())))
def U5(l:List bW):(Out Unit Bool)->Option Bool
 |.brk ()=>U2 l
 |.ret r=>some r
def tG(l:List bW):=
 (if(l.length:Int) != 3 then some false else(loop (uS l) (0,List.replicate 24 false)).bind (U5 l))
def xJ(x1:Bool):=
 some x1
def m5(h:Int):=
 (if h == 0 then xJ true else(iN h).bind λx2=>xJ x2)
def LL(h:Int):=
 (m5 h).bind λx1=>some (!x1)
def IJ(x1:Bool):=
 some x1
def TD(z:List Int):=
 (if(z.length:Int) == 3 then(eZ z (λy0=>LL y0)).bind λx2=>IJ (!x2) else IJ false)
def zW:=
 some (-1)
def kS(s:List bW)(f:(bW->Option Bool)):Int->Option (Step Int (Out Unit Int))
 |x2=>(if decide (x2<(s.length:Int)) then(idx s x2).bind λx3=>(f x3).bind λx4=>(if x4 then some (.stop (Out.ret x2)) else some (.next (bB (x2+1)))) else some (.stop (Out.brk ())))
def zX:(Out Unit Int)->Option Int
 |.brk ()=>zW
 |.ret r=>some r
def tH(s:List bW)(f:(bW->Option Bool)):=
 (loop (kS s f) 0).bind (zX)
def iV(s:List bW)(f:(bW->Option Bool)):=
 (tH s f).bind λx1=>some (decide (0<=x1))
def A0:=
 some (-1)
def lJ(s:List fB)(f:(fB->Option Bool)):Int->Option (Step Int (Out Unit Int))
 |x2=>(if decide (x2<(s.length:Int)) then(idx s x2).bind λx3=>(f x3).bind λx4=>(if x4 then some (.stop (Out.ret x2)) else some (.next (bB (x2+1)))) else some (.stop (Out.brk ())))
def A1:(Out Unit Int)->Option Int
 |.brk ()=>A0
 |.ret r=>some r
def vX(s:List fB)(f:(fB->Option Bool)):=
 (loop (lJ s f) 0).bind (A1)
def jA(s:List fB)(f:(fB->Option Bool)):=
 (vX s f).bind λx1=>some (decide (0<=x1))
def KY:=
 some (-1)
def fC(s:List Int)(v:Int):Int->Option (Step Int (Out Unit Int))
 |x2=>(if decide (x2<(s.length:Int)) then(idx s x2).bind λx3=>(if v == x3 then some (.stop (Out.ret x2)) else some (.next (bB (x2+1)))) else some (.stop (Out.brk ())))
def AA:(Out Unit Int)->Option Int
 |.brk ()=>KY
 |.ret r=>some r
def m9(s:List Int)(v:Int):=
 (loop (fC s v) 0).bind (AA)
def iY(s:List Int)(v:Int):=
 (m9 s v).bind λx1=>some (decide (0<=x1))
def qG(s:bG)(k0:Int):=
 (iY s.aV k0).bind λx1=>some x1
def zY:=
 some (-1)
def kU(s:List bG)(f:(bG->Option Bool)):Int->Option (Step Int (Out Unit Int))
 |x2=>(if decide (x2<(s.length:Int)) then(idx s x2).bind λx3=>(f x3).bind λx4=>(if x4 then some (.stop (Out.ret x2)) else some (.next (bB (x2+1)))) else some (.stop (Out.brk ())))
def zZ:(Out Unit Int)->Option Int
 |.brk ()=>zY
 |.ret r=>some r
def tI(s:List bG)(f:(bG->Option Bool)):=
 (loop (kU s f) 0).bind (zZ)
def iW(s:List bG)(f:(bG->Option Bool)):=
 (tI s f).bind λx1=>some (decide (0<=x1))
def E9(x1:Bool):=
 some x1
def JF(l:aE)(slot:Int):=
 (iW l.Global (λy0=>qG y0 slot)).bind λx2=>(if x2 then E9 true else(iW l.Own (λy0=>qG y0 slot)).bind λx3=>E9 x3)
def LM(m:Mem)(slot:Int):Option Int:=
 (lI m.Heap slot).bind λx1=>(if decide (x1<0) then some 0 else(JF m.aE slot).bind λx2=>(if x2 then some 1 else(C1 m.Heap slot).bind λx3=>(if decide (6<x3) then some 2 else some 3)))
def xK(x1:Bool):=
 some x1
def xL(m:Mem)(h:Int):=
 (iN h).bind λx2=>(if x2 then(LM m (Int.tmod h 32)).bind λx3=>(if x3 == 3 then(C1 m.Heap (Int.tmod h 32)).bind λx4=>xK (x4 == (bB (Int.tdiv h 32))) else xK false) else xK false)
def tJ(x1:Bool):=
 some x1
def BZ(r_:fB)(k0:aA):=
 (xL k0.Mem r_.Handle).bind λx2=>(if !x2 then tJ true else tJ (decide (k0.aC.aK<r_.aK)))
def IK(l:bW)(k0:aA):=
 (jA l.Rows (λy0=>BZ y0 k0)).bind λx1=>some x1
def rN(b:aA)(x1:Bool):=
 (if x1 then some false else(iV b.aQ (λy0=>IK y0 b)).bind λx2=>some (!x2))
def OW(b:aA):=
 (xG b.Mem).bind λx3=>(if !x3 then rN b true else(pK b.aC).bind λx4=>(if !x4 then rN b true else(tG b.aQ).bind λx5=>(if !x5 then rN b true else(TD b.qU).bind λx6=>rN b (!x6))))
def RP:=
 some (-1)
def rO(s:List bR)(f:(bR->Option Bool)):Int->Option (Step Int (Out Unit Int))
 |x2=>(if decide (x2<(s.length:Int)) then(idx s x2).bind λx3=>(f x3).bind λx4=>(if x4 then some (.stop (Out.ret x2)) else some (.next (bB (x2+1)))) else some (.stop (Out.brk ())))
def DR:(Out Unit Int)->Option Int
 |.brk ()=>RP
 |.ret r=>some r
def JG(s:List bR)(f:(bR->Option Bool)):=
 (loop (rO s f) 0).bind (DR)
def rP(s:List bR)(f:(bR->Option Bool)):=
 (JG s f).bind λx1=>some (decide (0<=x1))
def IL(x1:Bool):=
 some x1
def aAQ(b:bR):=
 (m5 b.Head).bind λx2=>(if x2 then(bT b.eB 0 1000000).bind λx3=>(if x3 then(bT b.dU 0 3).bind λx4=>IL x4 else IL false) else IL false)
def MY(b:bR):=
 (aAQ b).bind λx1=>some (!x1)
def PN:=
 some (-1)
def qH(s:List aI)(f:(aI->Option Bool)):Int->Option (Step Int (Out Unit Int))
 |x2=>(if decide (x2<(s.length:Int)) then(idx s x2).bind λx3=>(f x3).bind λx4=>(if x4 then some (.stop (Out.ret x2)) else some (.next (bB (x2+1)))) else some (.stop (Out.brk ())))
def A2:(Out Unit Int)->Option Int
 |.brk ()=>PN
 |.ret r=>some r
def G8(s:List aI)(f:(aI->Option Bool)):=
 (loop (qH s f) 0).bind (A2)
def g7(s:List aI)(f:(aI->Option Bool)):=
 (G8 s f).bind λx1=>some (decide (0<=x1))
def Y4:=
 some true
def KZ(s1 s2:List fY):Int->Option (Step Int (Out Unit Bool))
 |x2=>(if decide (x2<(s1.length:Int)) then(idx s1 x2).bind λx3=>(idx s2 x2).bind λx4=>(if !(decide (x3=x4)) then some (.stop (Out.ret false)) else some (.next (bB (x2+1)))) else some (.stop (Out.brk ())))
def Y5:(Out Unit Bool)->Option Bool
 |.brk ()=>Y4
 |.ret r=>some r
def yX(s1 s2:List fY):=
 (if(s1.length:Int) != (s2.length:Int) then some false else(loop (KZ s1 s2) 0).bind (Y5))
def Y6:=
 some true
def K0(s1 s2:List iP):Int->Option (Step Int (Out Unit Bool))
 |x2=>(if decide (x2<(s1.length:Int)) then(idx s1 x2).bind λx3=>(idx s2 x2).bind λx4=>(if !(decide (x3=x4)) then some (.stop (Out.ret false)) else some (.next (bB (x2+1)))) else some (.stop (Out.brk ())))
def Y7:(Out Unit Bool)->Option Bool
 |.brk ()=>Y6
 |.ret r=>some r
def HN(s1 s2:List iP):=
 (if(s1.length:Int) != (s2.length:Int) then some false else(loop (K0 s1 s2) 0).bind (Y7))
def FA(x1:Bool):=
 some x1
def FB(a_ b:Batch):=
 (if a_.Collect == b.Collect then(HN a_.bK b.bK).bind λx2=>FA x2 else FA false)
def WM:=
 some true
def JH(s1 s2:List Seen):Int->Option (Step Int (Out Unit Bool))
 |x2=>(if decide (x2<(s1.length:Int)) then(idx s1 x2).bind λx3=>(idx s2 x2).bind λx4=>(if !(decide (x3=x4)) then some (.stop (Out.ret false)) else some (.next (bB (x2+1)))) else some (.stop (Out.brk ())))
def WN:(Out Unit Bool)->Option Bool
 |.brk ()=>WM
 |.ret r=>some r
def wE(s1 s2:List Seen):=
 (if(s1.length:Int) != (s2.length:Int) then some false else(loop (JH s1 s2) 0).bind (WN))
def VV:=
 some true
def G9(s1 s2:List aU):Int->Option (Step Int (Out Unit Bool))
 |x2=>(if decide (x2<(s1.length:Int)) then(idx s1 x2).bind λx3=>(idx s2 x2).bind λx4=>(if !(decide (x3=x4)) then some (.stop (Out.ret false)) else some (.next (bB (x2+1)))) else some (.stop (Out.brk ())))
def VW:(Out Unit Bool)->Option Bool
 |.brk ()=>VV
 |.ret r=>some r
def tK(s1 s2:List aU):=
 (if(s1.length:Int) != (s2.length:Int) then some false else(loop (G9 s1 s2) 0).bind (VW))
def Y8:=
 some true
def K2(s1 s2:List Int):Int->Option (Step Int (Out Unit Bool))
 |x2=>(if decide (x2<(s1.length:Int)) then(idx s1 x2).bind λx3=>(idx s2 x2).bind λx4=>(if x3 != x4 then some (.stop (Out.ret false)) else some (.next (bB (x2+1)))) else some (.stop (Out.brk ())))
def Y9:(Out Unit Bool)->Option Bool
 |.brk ()=>Y8
 |.ret r=>some r
def nA(s1 s2:List Int):=
 (if(s1.length:Int) != (s2.length:Int) then some false else(loop (K2 s1 s2) 0).bind (Y9))
def b7(x1:Bool):=
 some x1
def IM(a_ b:aI):=
 (if a_.bO == b.bO then(FB a_.Batch b.Batch).bind λx2=>(if x2 then(if a_.aG == b.aG then(if a_.Pc == b.Pc then(if a_.At == b.At then(if a_.K == b.K then(if a_.bR == b.bR then(if a_.eB == b.eB then(if a_.H == b.H then(if a_.gR == b.gR then(if decide (a_.Node=b.Node) then(if a_.Found == b.Found then(if a_.Code == b.Code then(if decide (a_.Sub=b.Sub) then(wE a_.Reads b.Reads).bind λx3=>(if x3 then(tK a_.aH b.aH).bind λx4=>(if x4 then(yX a_.fY b.fY).bind λx5=>(if x5 then(nA a_.gL b.gL).bind λx6=>(if x6 then(nA a_.bD b.bD).bind λx7=>(if x7 then(nA a_.cA b.cA).bind λx8=>b7 x8 else b7 false) else b7 false) else b7 false) else b7 false) else b7 false) else b7 false) else b7 false) else b7 false) else b7 false) else b7 false) else b7 false) else b7 false) else b7 false) else b7 false) else b7 false) else b7 false) else b7 false) else b7 false) else b7 false)
def HO(b:Int):=
 (bT b 0 1).bind λx1=>some x1
def wF(h:Int):=
 (iN h).bind λx1=>some (!x1)
def C2(x1:Bool):=
 some x1
def uT(list:List Int):=
 (if decide ((list.length:Int)<=6) then(eZ list (λy0=>wF y0)).bind λx2=>C2 (!x2) else C2 false)
def PO:=
 some (-1)
def jB(s:List Seen)(f:(Seen->Option Bool)):Int->Option (Step Int (Out Unit Int))
 |x2=>(if decide (x2<(s.length:Int)) then(idx s x2).bind λx3=>(f x3).bind λx4=>(if x4 then some (.stop (Out.ret x2)) else some (.next (bB (x2+1)))) else some (.stop (Out.brk ())))
def A3:(Out Unit Int)->Option Int
 |.brk ()=>PO
 |.ret r=>some r
def eW(s:List Seen)(f:(Seen->Option Bool)):=
 (loop (jB s f) 0).bind (A3)
def fV(s:List Seen)(f:(Seen->Option Bool)):=
 (eW s f).bind λx1=>some (decide (0<=x1))
def PQ(s:Seen):=
 (HO s.bR).bind λx1=>some (!x1)
def RQ(list:List aU):=
 some (decide ((list.length:Int)<=6))
def kZ(x2:Int)(x4:Bool):Option (Step Int (Out Unit Bool)):=
 (if x4 then some (.stop (Out.ret false)) else some (.next (bB (x2+1))))
def rQ(list:List aU):Int->Option (Step Int (Out Unit Bool))
 |x2=>(if decide (x2<(list.length:Int)) then(idx list x2).bind λx3=>(bT x3.Key 0 99).bind λx5=>(if !x5 then kZ x2 true else(bT x3.dI 0 65535).bind λx6=>(if !x6 then kZ x2 true else(if decide (0<x2) then(idx list (bB (x2-1))).bind λx7=>kZ x2 (decide (x3.Key<=x7.Key)) else kZ x2 false))) else some (.stop (Out.brk ())))
def RR(list:List aU):(Out Unit Bool)->Option Bool
 |.brk ()=>RQ list
 |.ret r=>some r
def IN(list:List aU):=
 (loop (rQ list) 0).bind (RR list)
def iH(x4:Bool):=
 some x4
def WO(j:aI):=
 (E1 j.Batch).bind λx5=>(if x5 then(m5 j.H).bind λx6=>(if x6 then(m5 j.gR).bind λx7=>(if x7 then(HO j.bR).bind λx8=>(if x8 then(bT j.At 0 (j.Batch.bK.length:Int)).bind λx9=>(if x9 then(bT j.K 0 100).bind λx10=>(if x10 then(uT j.gL).bind λx11=>(if x11 then(uT j.cA).bind λx12=>(if x12 then(fV j.Reads (λy0=>PQ y0)).bind λx13=>(if !x13 then(IN j.aH).bind λx14=>iH x14 else iH false) else iH false) else iH false) else iH false) else iH false) else iH false) else iH false) else iH false) else iH false)
def FD(x3:Int)(x16:Bool):Option (Step Int (Out Unit Bool)):=
 (if x16 then some (.stop (Out.ret false)) else some (.next (bB (x3+1))))
def xM(j:aI):Int->Option (Step Int (Out Unit Bool))
 |x3=>(if decide (x3<(j.bD.length:Int)) then(idx j.bD x3).bind λx15=>(HO x15).bind λx17=>(if !x17 then FD x3 true else need (0<=(x3:Int)/\(x3:Int)<=(j.bD.length:Int)) ((iY ((j.bD.take x3.toNat).drop 0) x15).bind λx18=>FD x3 x18)) else some (.stop (Out.brk ())))
def WQ(j:aI):(Out Unit Bool)->Option Bool
 |.brk ()=>WO j
 |.ret r=>some r
def sS(j:aI):=
 (if !j.bO then(IM j (⟨false,(⟨false,[]⟩:Batch),0,0,0,0,0,0,0,0,(⟨0,0,0⟩:gX),false,0,(⟨0,0,0,0,0,0,0,0,0,false⟩:Sub),[],[],[],[],[],[]⟩:aI)).bind λx1=>some x1 else(loop (xM j) 0).bind (WQ j))
def MZ(j:aI):=
 (sS j).bind λx1=>some (!x1)
def kL(x1:Bool):=
 some x1
def FE(t:Table):=
 (OW t.aA).bind λx2=>(if x2 then(if(t.aR.length:Int) == 2 then(rP t.aR (λy0=>MY y0)).bind λx3=>(if !x3 then(if(t.aS.length:Int) == 3 then(g7 t.aS (λy0=>MZ y0)).bind λx4=>(if !x4 then(E3 t.eE).bind λx5=>(if x5 then(bT t.aG 0 1000000).bind λx6=>kL x6 else kL false) else kL false) else kL false) else kL false) else kL false) else kL false)
def K3(s:List Batch)(i j:Int):=
 need (0<=i/\i<=j/\j<=(s.length:Int)) (some (s.take i.toNat++s.drop j.toNat))
def lR(kind a_:Int):=
 some (⟨kind,a_,0,0,0,0,0,0,0,false⟩:Sub)
def AB(t:Table)(w_:Int)(x2:aN)(x3:Batch)(x6:aI)(x8:List mT):=
 some (⟨t.aA,t.aR,t.aS.set w_.toNat ({x6 with Batch:=(⟨x6.Batch.Collect,x3.bK⟩:Batch),Reads:=[],aH:=[],fY:=[],gL:=[],bD:=[],cA:=[]}:aI),t.eE.set w_.toNat (⟨x2.List.drop 1⟩:aN),x8,bB (t.aG+1)⟩:Table)
def mG(t:Table)(w_:Int)(x2:aN)(x3:Batch)(x6:aI):=
 (idx t.aS w_).bind λx7=>(kY x3.bK).bind λx9=>need (t.Log.length+([(⟨1,w_,x6.aG,0,x9,[]⟩:mT)]).length<=1073741824)<|AB t w_ x2 x3 x6 (t.Log++([(⟨1,w_,x6.aG,0,x9,[]⟩:mT)]))
def AD(t:Table)(w_:Int)(x2:aN)(x3:Batch)(x5:aI):=
 (if x3.Collect then(lR 3 0).bind λx10=>mG t w_ x2 x3 ({x5 with Batch:=(⟨x5.Batch.Collect,x3.bK⟩:Batch),Pc:=20,Sub:=x10,Reads:=[],aH:=[],fY:=[],gL:=[],bD:=[],cA:=[]}:aI) else mG t w_ x2 x3 ({x5 with Batch:=(⟨x5.Batch.Collect,x3.bK⟩:Batch),Reads:=[],aH:=[],fY:=[],gL:=[],bD:=[],cA:=[]}:aI))
def mH(t:Table)(w_:Int)(x1:Bool):=
 (if x1 then some t else(idx t.eE w_).bind λx2=>(idx x2.List 0).bind λx3=>(K3 x2.List 0 1).bind λx4=>(lR 5 0).bind λx11=>AD t w_ x2 x3 (⟨true,x3,bB (t.aG+1),0,0,0,0,0,0,0,(⟨0,0,0⟩:gX),false,0,x11,[],[],[],[],[],[]⟩:aI))
def yY(t:Table)(w_:Int):=
 (idx t.eE w_).bind λx12=>(if(x12.List.length:Int) == 0 then mH t w_ true else mH t w_ (t.aG == 1000000))
def bJ(s:Sub)(code:Int):=
 some ({s with Code:=code,gK:=true}:Sub)
def aGJ:=
 some (-1)
def B4(x2:Int)(x3:Bool):Option (Step Int (Out Unit Int)):=
 (if x3 then some (.stop (Out.ret x2)) else some (.next (bB (x2+1))))
def kM(size:Int):Int->Option (Step Int (Out Unit Int))
 |x2=>(if decide (x2<3) then(if decide (1<=size) then(DP x2).bind λx4=>B4 x2 (decide (size<=x4)) else B4 x2 false) else some (.stop (Out.brk ())))
def aGK:(Out Unit Int)->Option Int
 |.brk ()=>aGJ
 |.ret r=>some r
def LN(size:Int):=
 (loop (kM size) 0).bind (aGK)
def iO(w_:Int):=
 (bT w_ 0 2).bind λx1=>some x1
def IP(w_ c:Int)(x1:Bool):=
 (if x1 then some (-1) else some (bB ((bB (w_*3))+c)))
def M0(w_ c:Int):=
 (iO w_).bind λx2=>(if !x2 then IP w_ c true else(lH c).bind λx3=>IP w_ c (!x3))
def xN(s:bG):=
 (if decide ((bB ((s.aV.length:Int)-1))<0) then some ((-1),s) else(idx s.aV (bB ((s.aV.length:Int)-1))).bind λx1=>need (0<=(bB ((s.aV.length:Int)-1):Int)/\(bB ((s.aV.length:Int)-1):Int)<=(bB ((s.aV.length:Int)-1):Int)/\(bB ((s.aV.length:Int)-1):Int)<=(s.aV.length:Int)) (some (x1,(⟨(s.aV.take ((bB ((s.aV.length:Int)-1)).toNat)).drop 0⟩:bG))))
def B5(x1:aE)(x2:Int)(x3:Bool):=
 (if x3 then some (x1,(-1)) else(idx x1.Own x2).bind λx4=>(xN x4).bind λx5=>some ((⟨x1.Global,x1.Own.set x2.toNat x5.2⟩:aE),x5.1))
def LO(l:aE)(w_ c:Int):=
 (i7 l).bind λx1=>(M0 w_ c).bind λx2=>(pJ l).bind λx6=>(if !x6 then B5 x1 x2 true else B5 x1 x2 (decide (x2<0)))
def tL(c:Int)(x1:aE)(x2:Bool):=
 (if x2 then some (x1,(-1)) else(idx x1.Global c).bind λx3=>(xN x3).bind λx4=>some ((⟨x1.Global.set c.toNat x4.2,x1.Own⟩:aE),x4.1))
def B6(l:aE)(c:Int):=
 (i7 l).bind λx1=>(pJ l).bind λx5=>(if !x5 then tL c x1 true else(lH c).bind λx6=>tL c x1 (!x6))
def M1(b x5:List Int):=
 need (x5.length=b.length) (some x5)
def lS(b:List Int)(at_:Int)(text:List UInt8):((List Int)×Int)->Option (Step ((List Int)×Int) (List Int))
 |(x3,x4)=>need (x3.length=b.length) ((if decide (x4<(text.length:Int)) then(idx text x4).bind λx6=>(idx x3 (bB (at_+x4))).bind λx7=>some (.next (x3.set ((bB (at_+x4)).toNat) (x6.toNat:Int),bB (x4+1))) else some (.stop (x3))))
def M3(b:List Int):(List Int)->Option (List Int)
 |x5=>M1 b x5
def m6(b:List Int)(at_:Int)(text:List UInt8):=
 (loop (lS b at_ text) (b,0)).bind (M3 b)
def yZ(width:Int):=
 (bT width 1 7).bind λx1=>some x1
def aNF(x8:List UInt8):=
 some x8
def qI:(Int×(List UInt8)×Int)->Option (Step (Int×(List UInt8)×Int) (List UInt8))
 |(x5,x6,x7)=>(if decide (0<=x7) then(idx x6 x7).bind λx9=>some (.next (pA .i64 x5 8,x6.set x7.toNat (u8 x5),bB (x7-1))) else some (.stop (x6)))
def aNG:(List UInt8)->Option (List UInt8)
 |x8=>aNF x8
def vP(n width:Int)(x1:Bool):=
 (if x1 then some ([]) else need (0<=(width:Int)/\(width:Int)<=4294967296) ((loop (qI) (n,List.replicate (width.toNat) 0,bB (width-1))).bind (aNG)))
def mD(n width:Int):=
 (yZ width).bind λx10=>(if !x10 then vP n width true else(if decide (n<0) then vP n width true else need (0<=(IntKind.u64.wrap (bB (8*width)):Int)) (vP n width (decide ((aJB .i64 1 (IntKind.u64.wrap (bB (8*width))))<=n)))))
def FF(page index:Int)(x1:Bool):=
 (if x1 then some (-1) else some (bB ((bB (page*4))+index)))
def OX(page index:Int):=
 (bT page 0 5).bind λx2=>(if !x2 then FF page index true else(bT index 0 3).bind λx3=>FF page index (!x3))
def aNH(c:Int)(x1:Heap)(x2:Int)(x13 x14:List Int):=
 some ((⟨x14,x1.Class.set x2.toNat c⟩:Heap),x13)
def PR(x10:List Int)(x11 x15:Int)(x16:List Int):Option (Step ((List Int)×Int×(List Int)) ((List Int)×(List Int))):=
 need (x10.length+([x15]).length<=1073741824) (some (.next (x10++([x15]),bB (x11+1),x16)))
def IQ(c x2 x6:Int):((List Int)×Int×(List Int))->Option (Step ((List Int)×Int×(List Int)) ((List Int)×(List Int)))
 |(x10,x11,x12)=>(if decide (x11<x6) then(OX x2 x11).bind λx15=>(xF x15 c).bind λx17=>(mD 1 4).bind λx18=>(m6 x12 x17 x18).bind λx19=>PR x10 x11 x15 x19 else some (.stop ((x10,x12))))
def aNI(c:Int)(x1:Heap)(x2:Int):((List Int)×(List Int))->Option (Heap×(List Int))
 |(x13,x14)=>aNH c x1 x2 x13 x14
def PT(c:Int)(x1:Heap)(x2:Int)(x5:List Int):=
 (pI c).bind λx6=>(loop (IQ c x2 x6) (([]:List Int),0,x5)).bind (aNI c x1 x2)
def A4(c:Int)(x1:Heap)(x2:Int)(x3:Bool):=
 (if x3 then some (x1,([]:List Int)) else(idx x1.Class x2).bind λx4=>need (0<=(bB (x2*64):Int)/\(bB (x2*64):Int)<=(x1.Bytes.length:Int))<|(pI c).bind λx20=>PT c x1 x2 (cT x1.Bytes ((bB (x2*64)).toNat) ([171,c,x20]:List Int)))
def HP(h:Heap)(c:Int):=
 (vK h).bind λx1=>(m9 h.Class (-1)).bind λx2=>(JE h).bind λx21=>(if !x21 then A4 c x1 x2 true else(lH c).bind λx22=>(if !x22 then A4 c x1 x2 true else A4 c x1 x2 (decide (x2<0))))
def J9(x4:Int)(x5:Mem):=
 some (x5,x4)
def KA(c:Int)(x1:Heap×(List Int))(x2:Mem):=
 (if(x1.2.length:Int) == 0 then some (x2,(-1)) else(idx x2.aE.Global c).bind λx3=>need (0<=(1:Int)/\(1:Int)<=(x1.2.length:Int)) (need (x3.aV.length+((x1.2.take x1.2.length).drop ((1:Int).toNat)).length<=1073741824) ((idx x1.2 0).bind λx6=>J9 x6 (⟨x2.Heap,(⟨x2.aE.Global.set c.toNat (⟨x3.aV++((x1.2.take x1.2.length).drop ((1:Int).toNat))⟩:bG),x2.aE.Own⟩:aE)⟩:Mem))))
def LP(m:Mem)(c:Int):=
 (HP m.Heap c).bind λx1=>(i7 m.aE).bind λx7=>KA c x1 (⟨x1.1,x7⟩:Mem)
def y5(slot gen:Int)(x1:Bool):=
 (if x1 then some 0 else some (bB ((bB (gen*32))+slot)))
def PU(slot gen:Int):=
 (sQ slot).bind λx2=>(if !x2 then y5 slot gen true else(bT gen 1 6).bind λx3=>y5 slot gen (!x3))
def IS(m:Mem)(slot:Int):=
 (C1 m.Heap slot).bind λx1=>(PU slot x1).bind λx2=>some x2
def i6(s:Sub)(x3:Int)(x4:aA):=
 (if decide (0<=x3) then(IS x4.Mem x3).bind λx5=>(bJ ({s with Out:=x5}:Sub) 0).bind λx6=>some (x6,x4) else(if s.Pc == 3 then(bJ s 3).bind λx7=>some (x7,x4) else some (({s with Pc:=bB (s.Pc+1)}:Sub),x4)))
def nU(s:Sub)(b:aA)(x1:Int)(x9:Bool):=
 (if x9 then(B6 b.Mem.aE x1).bind λx10=>i6 s x10.2 ({b with Mem:=(⟨b.Mem.Heap,x10.1⟩:Mem)}:aA) else(if s.Pc == 2 then(LP b.Mem x1).bind λx11=>i6 s x11.2 ({b with Mem:=x11.1}:aA) else(bJ s 1).bind λx12=>some (x12,b)))
def tM(s:Sub)(b:aA)(w_:Int):=
 (LN s.A).bind λx1=>(if decide (x1<0) then(bJ s 2).bind λx2=>some (x2,b) else(if s.Pc == 0 then(LO b.Mem.aE w_ x1).bind λx8=>i6 s x8.2 ({b with Mem:=(⟨b.Mem.Heap,x8.1⟩:Mem)}:aA) else(if s.Pc == 1 then nU s b x1 true else nU s b x1 (s.Pc == 3))))
def qV(x1:Bool):=
 some x1
def rR(r_:fB)(k0:Int):=
 (iN r_.Handle).bind λx2=>(if x2 then qV ((Int.tmod r_.Handle 32) == k0) else qV false)
def FG(own:bW)(k0:Int):=
 (jA own.Rows (λy0=>rR y0 k0)).bind λx1=>some x1
def FH(l:List bW)(slot:Int):=
 (iV l (λy0=>FG y0 slot)).bind λx1=>some x1
def y6(l:List bW)(w_ h e_:Int)(x1:Bool):=
 (if x1 then(lQ l).bind λx2=>some (x2,false) else(lQ l).bind λx3=>(idx x3 w_).bind λx4=>need (x4.Rows.length+([(⟨h,e_⟩:fB)]).length<=1073741824) ((tG (x3.set w_.toNat (⟨x4.Rows++([(⟨h,e_⟩:fB)])⟩:bW))).bind λx5=>(if !x5 then(lQ l).bind λx6=>some (x6,false) else some (x3.set w_.toNat (⟨x4.Rows++([(⟨h,e_⟩:fB)])⟩:bW),true))))
def IT(l:List bW)(w_ h e_:Int):=
 (tG l).bind λx7=>(if !x7 then y6 l w_ h e_ true else(iO w_).bind λx8=>y6 l w_ h e_ (!x8))
def mY(s:Sub)(b:aA)(w_:Int)(x3:Bool):=
 (if x3 then(bJ s 4).bind λx4=>some (x4,b) else(IT b.aQ w_ s.A s.E).bind λx5=>(bJ s 0).bind λx6=>some (x6,({b with aQ:=x5.1}:aA)))
def mZ(s:Sub)(b:aA)(w_:Int)(x1:Bool):=
 (if x1 then(bJ s 1).bind λx2=>some (x2,b) else(xL b.Mem s.A).bind λx7=>(if !x7 then mY s b w_ true else(FH b.aQ (Int.tmod s.A 32)).bind λx8=>mY s b w_ x8))
def qW(s:Sub)(b:aA)(w_:Int):=
 (if s.Pc == 0 then some (({s with Pc:=1,E:=b.aC.aK}:Sub),b) else(if s.Pc != 1 then mZ s b w_ true else(bT s.E 0 b.aC.aK).bind λx9=>mZ s b w_ (!x9)))
def rS(w_:Int)(x1:aC)(x4:Bool):=
 (if x4 then some (x1,true) else(idx x1.cE w_).bind λx5=>(if decide (x5.Seen<2) then some ((⟨x1.aK,x1.cE.set w_.toNat ({x5 with Seen:=bB (x5.Seen+1)}:wQ)⟩:aC),false) else some ((⟨x1.aK,x1.cE.set w_.toNat ({x5 with gO:=true,Seen:=0}:wQ)⟩:aC),true)))
def FI(w_ e_:Int)(x1:aC)(x2:Bool):=
 (if x2 then some (x1,false) else(idx x1.cE w_).bind λx3=>(if !x3.On then rS w_ x1 true else(if x3.gO then rS w_ x1 true else rS w_ x1 (x3.aK == e_))))
def OY(c:aC)(w_ e_:Int):=
 (lP c).bind λx1=>(pK c).bind λx6=>(if !x6 then FI w_ e_ x1 true else(iO w_).bind λx7=>FI w_ e_ x1 (!x7))
def FJ(x1:aC)(x2:Bool):=
 (if x2 then some (x1,false) else some ((⟨bB (x1.aK+1),x1.cE⟩:aC),true))
def YU(c:aC)(e_:Int):=
 (lP c).bind λx1=>(pK c).bind λx3=>(if !x3 then FJ x1 true else(if c.aK != e_ then FJ x1 true else FJ x1 (c.aK == 100000)))
def l9(s:Sub)(b:aA)(x4:aC×Bool)(x5:Int):=
 (bJ ({s with Out:=x5}:Sub) 0).bind λx6=>some (x6,({b with aC:=x4.1}:aA))
def mA(s:Sub)(b:aA)(x1:Bool):=
 (if x1 then(OY b.aC s.B s.E).bind λx2=>(if !x2.2 then(bJ s 8).bind λx3=>some (x3,({b with aC:=x2.1}:aA)) else(if(bB (s.B+1)) == 3 then some (({s with Pc:=2,B:=bB (s.B+1)}:Sub),({b with aC:=x2.1}:aA)) else some (({s with B:=bB (s.B+1)}:Sub),({b with aC:=x2.1}:aA)))) else(if s.Pc == 2 then(YU b.aC s.E).bind λx4=>(if x4.2 then l9 s b x4 1 else l9 s b x4 s.Out) else(bJ s 1).bind λx7=>some (x7,b)))
def pM(s:Sub)(b:aA):=
 (if s.Pc == 0 then some (({s with Pc:=1,E:=b.aC.aK,B:=0}:Sub),b) else(if s.Pc == 1 then(iO s.B).bind λx8=>mA s b x8 else mA s b false))
def M4(x3 x5:List Int):=
 some ((⟨x5,x3⟩:Heap),true)
def FK(slot gen x1:Int)(x2 x3:List Int)(x4:Bool):=
 (if x4 then some ((⟨x2,x3⟩:Heap),false) else(xF slot x1).bind λx6=>(mD gen 4).bind λx7=>(m6 x2 x6 x7).bind λx8=>M4 x3 x8)
def M5(slot gen x1:Int)(x2 x3:List Int):=
 (if decide (x1<0) then FK slot gen x1 x2 x3 true else(bT gen 1 7).bind λx9=>FK slot gen x1 x2 x3 (!x9))
def WR(h:Heap)(slot gen:Int):=
 (vK h).bind λx10=>(E7 h slot).bind λx11=>M5 slot gen x11 x10.Bytes x10.Class
def y7(c slot:Int)(x1:aE)(x2:Int)(x3:Bool):=
 (if x3 then some (x1,false) else(idx x1.Own x2).bind λx4=>(if decide (2<=(x4.aV.length:Int)) then(idx x1.Global c).bind λx5=>need (x5.aV.length+([slot]).length<=1073741824) (some ((⟨x1.Global.set c.toNat (⟨x5.aV++([slot])⟩:bG),x1.Own⟩:aE),true)) else need (x4.aV.length+([slot]).length<=1073741824) (some ((⟨x1.Global,x1.Own.set x2.toNat (⟨x4.aV++([slot])⟩:bG)⟩:aE),true))))
def aEL(l:aE)(w_ c slot:Int):=
 (i7 l).bind λx1=>(M0 w_ c).bind λx2=>(pJ l).bind λx6=>(if !x6 then y7 c slot x1 x2 true else(if decide (x2<0) then y7 c slot x1 x2 true else(sQ slot).bind λx7=>(if !x7 then y7 c slot x1 x2 true else(JF l slot).bind λx8=>y7 c slot x1 x2 x8)))
def PW(x3:Mem):=
 some x3
def PX(m:Mem)(w_ h:Int)(x2:Mem):=
 (if decide ((bB ((bB (Int.tdiv h 32))+1))<=6) then(lI m.Heap (Int.tmod h 32)).bind λx4=>(aEL m.aE w_ x4 (Int.tmod h 32)).bind λx5=>PW (⟨x2.Heap,x5.1⟩:Mem) else PW x2)
def M6(m:Mem)(w_ h:Int):=
 (WR m.Heap (Int.tmod h 32) (bB ((bB (Int.tdiv h 32))+1))).bind λx1=>(i7 m.aE).bind λx6=>PX m w_ h (⟨x1.1,x6⟩:Mem)
def FL(x1:Bool):=
 some x1
def JJ(l:List bW)(w_ i:Int):=
 (iO w_).bind λx2=>(if x2 then(idx l w_).bind λx3=>(bT i 0 (bB ((x3.Rows.length:Int)-1))).bind λx4=>FL x4 else FL false)
def LQ(x1:Bool):=
 some x1
def RS(r_:fB)(e_:Int):=
 (if decide (2<=e_) then LQ (decide (r_.aK<=(bB (e_-2)))) else LQ false)
def JK(s:Sub)(b:aA):=
 (bJ s 0).bind λx3=>some (x3,b)
def fO(s:Sub)(b:aA)(w_:Int):Int->Option (Step Int (Out Unit (Sub×aA)))
 |x2=>(idx b.aQ w_).bind λx4=>(if decide (x2<(x4.Rows.length:Int)) then(idx x4.Rows x2).bind λx5=>(RS x5 s.E).bind λx6=>(if x6 then some (.stop (Out.ret (({s with Pc:=2,Row:=x2,B:=0,H:=x5.Handle}:Sub),b))) else some (.next (bB (x2+1)))) else some (.stop (Out.brk ())))
def WS(s:Sub)(b:aA):(Out Unit (Sub×aA))->Option (Sub×aA)
 |.brk ()=>JK s b
 |.ret r=>some r
def pN(s:Sub)(b:aA)(w_:Int):=
 (loop (fO s b w_) (if s.Row<0 then 0 else s.Row)).bind (WS s b)
def C3(s:List fB)(i j:Int):=
 need (0<=(i:Int)/\(i:Int)<=(j:Int)/\(j:Int)<=((s.length:Int):Int)/\((s.length:Int):Int)<=(s.length:Int)) ((if i == j then some s else need (0<=(i:Int)/\(i:Int)<=(s.length:Int)) (need (0<=(j:Int)/\(j:Int)<=(s.length:Int)) (need (i.toNat<=j.toNat) (need (0<=(((((cT s i.toNat (s.drop j.toNat)).take (i.toNat+(s.length-j.toNat))).drop 0).length:Int):Int)/\(((((cT s i.toNat (s.drop j.toNat)).take (i.toNat+(s.length-j.toNat))).drop 0).length:Int):Int)<=((s.length:Int):Int)/\((s.length:Int):Int)<=((cT s i.toNat (s.drop j.toNat)).length:Int)) (some (((cT s i.toNat (s.drop j.toNat)).take (i.toNat+(s.length-j.toNat))).drop 0)))))))
def B7(w_ i:Int)(x1:(List bW))(x2:Bool):=
 (if x2 then some (x1,false) else(idx x1 w_).bind λx3=>(C3 x3.Rows i (bB (i+1))).bind λx4=>some (x1.set w_.toNat (⟨x4⟩:bW),true))
def LR(l:List bW)(w_ i:Int):=
 (lQ l).bind λx1=>(tG l).bind λx5=>(if !x5 then B7 w_ i x1 true else(JJ l w_ i).bind λx6=>B7 w_ i x1 (!x6))
def dP(s:Sub)(b:aA)(w_:Int)(x5:Bool):=
 (if x5 then(LR b.aQ w_ s.Row).bind λx6=>(M6 b.Mem w_ s.H).bind λx7=>some (({s with Pc:=1,Out:=bB (s.Out+1)}:Sub),({b with Mem:=x7,aQ:=x6.1}:aA)) else(bJ s 1).bind λx8=>some (x8,b))
def fA(s:Sub)(b:aA)(w_:Int)(x1 x3:Bool):=
 (if x3 then(idx b.qU s.B).bind λx4=>(if x4 == s.H then some (({s with Pc:=1,Row:=bB (s.Row+1)}:Sub),b) else(if(bB (s.B+1)) == 3 then some (({s with Pc:=3,B:=bB (s.B+1)}:Sub),b) else some (({s with B:=bB (s.B+1)}:Sub),b))) else(if s.Pc == 3 then(if x1 then(idx b.aQ w_).bind λx9=>(idx x9.Rows s.Row).bind λx10=>(RS x10 s.E).bind λx11=>dP s b w_ x11 else dP s b w_ false) else dP s b w_ false))
def gG(s:Sub)(b:aA)(w_:Int)(x1:Bool):=
 (if s.Pc == 0 then some (({s with Pc:=1,E:=b.aC.aK,Row:=0}:Sub),b) else(if s.Pc == 1 then(pN s b w_).bind λx2=>some (x2.1,x2.2) else(if s.Pc == 2 then(iO s.B).bind λx12=>(if x12 then fA s b w_ x1 x1 else fA s b w_ x1 false) else fA s b w_ x1 false)))
def pO(s:Sub)(b:aA)(w_:Int):=
 (JJ b.aQ w_ s.Row).bind λx13=>(if x13 then(idx b.aQ w_).bind λx14=>(idx x14.Rows s.Row).bind λx15=>gG s b w_ (x15.Handle == s.H) else gG s b w_ false)
def A5(w_ e_:Int)(x1:aC)(x2:Bool):=
 (if x2 then some (x1,false) else(idx x1.cE w_).bind λx3=>some ((⟨x1.aK,x1.cE.set w_.toNat (⟨true,e_,false,0⟩:wQ)⟩:aC),true))
def TE(c:aC)(w_ e_:Int):=
 (lP c).bind λx1=>(pK c).bind λx4=>(if !x4 then A5 w_ e_ x1 true else(iO w_).bind λx5=>(if !x5 then A5 w_ e_ x1 true else(bT e_ 0 c.aK).bind λx6=>A5 w_ e_ x1 (!x6)))
def AE(s:Sub)(b:aA)(x1:Bool)(x2:Int)(x3:List wQ):=
 (if !x1 then(bJ s 1).bind λx4=>some (x4,b) else some (({s with Pc:=2}:Sub),({b with aC:=(⟨x2,x3⟩:aC)}:aA)))
def y8(s:Sub)(b:aA)(w_:Int):=
 (if s.Pc == 0 then some (({s with Pc:=1,E:=b.aC.aK}:Sub),b) else(if s.Pc == 1 then(TE b.aC w_ s.E).bind λx5=>AE s b x5.2 x5.1.aK x5.1.cE else(if s.Pc == 2 then(if b.aC.aK == s.E then(bJ s 0).bind λx6=>some (x6,b) else some (({s with Pc:=0}:Sub),b)) else(bJ s 1).bind λx7=>some (x7,b))))
def qJ(s:Sub)(b:aA)(w_:Int):=
 (if s.gK then some (s,b) else(if s.Kind == 1 then(tM s b w_).bind λx1=>some (x1.1,x1.2) else(if s.Kind == 2 then(qW s b w_).bind λx2=>some (x2.1,x2.2) else(if s.Kind == 3 then(pM s b).bind λx3=>some (x3.1,x3.2) else(if s.Kind == 4 then(pO s b w_).bind λx4=>some (x4.1,x4.2) else(if s.Kind == 5 then(y8 s b w_).bind λx5=>some (x5.1,x5.2) else(bJ s 1).bind λx6=>some (x6,b)))))))
def tN(t:Table)(w_:Int):=
 (idx t.aS w_).bind λx1=>(qJ x1.Sub t.aA w_).bind λx2=>(if !x2.1.gK then some ({t with aA:=x2.2,aS:=t.aS.set w_.toNat ({x1 with Sub:=x2.1}:aI)}:Table) else(if x1.Pc == 0 then some ({t with aA:=x2.2,aS:=t.aS.set w_.toNat ({x1 with Pc:=1,Sub:=x2.1}:aI)}:Table) else(if x1.Pc == 20 then(lR 4 0).bind λx3=>some ({t with aA:=x2.2,aS:=t.aS.set w_.toNat ({x1 with Pc:=21,Sub:=x3}:aI)}:Table) else some ({t with aA:=x2.2,aS:=t.aS.set w_.toNat ({x1 with Pc:=19,Sub:=x2.1}:aI)}:Table))))
def pP(j:aI):=
 (bT j.At 0 (bB ((j.Batch.bK.length:Int)-1))).bind λx1=>(if !x1 then some ((⟨0,0,0⟩:iP),false,j) else(idx j.Batch.bK j.At).bind λx2=>some (x2,true,j))
def cM(j:aI)(code:Int):=
 some ({j with Pc:=16,Code:=code}:aI)
def N3:=
 some (-1)
def oH(s:List aU)(f:(aU->Option Bool)):Int->Option (Step Int (Out Unit Int))
 |x2=>(if decide (x2<(s.length:Int)) then(idx s x2).bind λx3=>(f x3).bind λx4=>(if x4 then some (.stop (Out.ret x2)) else some (.next (bB (x2+1)))) else some (.stop (Out.brk ())))
def N4:(Out Unit Int)->Option Int
 |.brk ()=>N3
 |.ret r=>some r
def cW(s:List aU)(f:(aU->Option Bool)):=
 (loop (oH s f) 0).bind (N4)
def xO(x8:List aU)(x9:Int):=
 need (0<=(x9:Int)/\(x9:Int)<=(x8.length:Int)) (need (0<=(x9:Int)/\(x9:Int)<=((cT x8 x9.toNat (List.replicate (x8.length-x9.toNat) (⟨0,false,0⟩:aU))).length:Int)) (some (((cT x8 x9.toNat (List.replicate (x8.length-x9.toNat) (⟨0,false,0⟩:aU))).take x9.toNat).drop 0)))
def iI(x7:Int)(x10:List aU)(x11:Int):Option (Step ((List aU)×Int×Int) ((List aU)×Int)):=
 some (.next (x10,x11,bB (x7+1)))
def kC(del:(aU->Option Bool)):((List aU)×Int×Int)->Option (Step ((List aU)×Int×Int) ((List aU)×Int))
 |(x5,x6,x7)=>(if decide (x7<(x5.length:Int)) then(idx x5 x7).bind λx12=>(del x12).bind λx13=>(if !x13 then(idx x5 x6).bind λx14=>iI x7 (x5.set x6.toNat x12) (bB (x6+1)) else iI x7 x5 x6) else some (.stop ((x5,x6))))
def xP:((List aU)×Int)->Option (List aU)
 |(x8,x9)=>xO x8 x9
def jV(s:List aU)(del:(aU->Option Bool)):=
 (cW s del).bind λx1=>(if x1 == (-1) then some s else(loop (kC del) (s,x1,bB (x1+1))).bind (xP))
def KB(x k0:aU):=
 some (x.Key == k0.Key)
def B8(x k0:aU):=
 some (decide (k0.Key<x.Key))
def qX(s:List aU)(i:Int)(v:List aU):=
 need (0<=i/\i<=(s.length:Int)/\s.length+v.length<=1073741824) (some (s.take i.toNat++v++s.drop i.toNat))
def rT(w_:aU)(x2:(List aU))(x4:Int):=
 (qX x2 x4 ([w_])).bind λx5=>some x5
def IU(l:List aU)(w_:aU):=
 (nG l).bind λx1=>(jV x1 (λy0=>KB y0 w_)).bind λx2=>(cW x2 (λy0=>B8 y0 w_)).bind λx3=>(if decide (x3<0) then rT w_ x2 (x2.length:Int) else rT w_ x2 x3)
def rU(j:aI)(x:aU):=
 (IU j.aH x).bind λx1=>(if decide (6<(x1.length:Int)) then(cM j 1).bind λx2=>some (false,x2) else some (true,({j with aH:=x1}:aI)))
def FM(x:aU)(k0:Int):=
 some (x.Key == k0)
def LS(l:List aU)(key:Int):=
 (cW l (λy0=>FM y0 key)).bind λx1=>(if decide (x1<0) then some ((⟨0,false,0⟩:aU),false) else(idx l x1).bind λx2=>some (x2,true))
def aAR(a_ b:Int):=
 some (Int.tmod (bB (a_+b)) 65536)
def qY(x5:aI):=
 some ({x5 with Pc:=1,At:=bB (x5.At+1)}:aI)
def mI(x2:aI)(x3:Bool)(x4:Int):=
 need (x2.fY.length+([(⟨x3,x4⟩:fY)]).length<=1073741824)<|qY ({x2 with fY:=x2.fY++([(⟨x3,x4⟩:fY)])}:aI)
def mJ(j:aI)(c:iP)(is:Bool)(x1:Int):=
 (if c.Kind == 4 then(aAR x1 c.dI).bind λx6=>(rU j (⟨c.Key,false,x6⟩:aU)).bind λx7=>(if !x7.1 then some x7.2 else mI x7.2 true x6) else mI j is x1)
def rV(j:aI)(c:iP)(val:Int)(is:Bool):=
 (if !is then mJ j c is 0 else mJ j c is val)
def HQ(key:Int):=
 (bT key 0 99).bind λx1=>(if !x1 then some (-1) else some (Int.tmod key 2))
def FN(x1:iP×Bool×aI)(x6:Bool)(x7:aI)(x8:Int)(x9:Bool)(x10:Int):=
 (if x6 then(rV x7 x1.1 x10 (!x9)).bind λx11=>some x11 else(HQ x1.1.Key).bind λx12=>some ({x7 with Pc:=2,bR:=x12}:aI))
def kD(x1:iP×Bool×aI)(x3:Bool)(x4:aI):=
 (if x3 then(rU x4 (⟨x1.1.Key,x1.1.Kind == 3,x1.1.dI⟩:aU)).bind λx5=>(if x5.1 then need (x5.2.fY.length+([(⟨false,0⟩:fY)]).length<=1073741824) (some (⟨x5.2.bO,x5.2.Batch,x5.2.aG,x5.2.Pc,bB (x5.2.At+1),x5.2.K,x5.2.bR,x5.2.eB,x5.2.H,x5.2.gR,x5.2.Node,x5.2.Found,x5.2.Code,x5.2.Sub,x5.2.Reads,x5.2.aH,x5.2.fY++([(⟨false,0⟩:fY)]),x5.2.gL,x5.2.bD,x5.2.cA⟩:aI)) else some x5.2) else(LS x4.aH x1.1.Key).bind λx13=>FN x1 x13.2 x4 x13.1.Key x13.1.G3 x13.1.dI)
def FO(j:aI):=
 (pP j).bind λx1=>(if !x1.2.1 then(lR 1 16).bind λx2=>some (⟨x1.2.2.bO,x1.2.2.Batch,x1.2.2.aG,6,x1.2.2.At,0,x1.2.2.bR,x1.2.2.eB,x1.2.2.H,x1.2.2.gR,x1.2.2.Node,x1.2.2.Found,x1.2.2.Code,x2,x1.2.2.Reads,x1.2.2.aH,x1.2.2.fY,x1.2.2.gL,x1.2.2.bD,x1.2.2.cA⟩:aI) else(if x1.1.Kind == 2 then kD x1 true x1.2.2 else kD x1 (x1.1.Kind == 3) x1.2.2))
def LU(slot c:Int):=
 (xF slot c).bind λx1=>(if decide (x1<0) then some (-1) else some (bB (x1+4)))
def y9(h:Heap)(slot:Int):=
 (lI h slot).bind λx1=>(LU slot x1).bind λx2=>some x2
def pQ(h:Heap)(slot:Int):=
 (y9 h slot).bind λx1=>(pH h.Bytes x1 2).bind λx2=>(pH h.Bytes (bB (x1+2)) 4).bind λx3=>(pH h.Bytes (bB (x1+6)) 4).bind λx4=>some (⟨x2,x3,x4⟩:gX)
def FP(h:Heap)(slot:Int):=
 (lI h slot).bind λx1=>(DP x1).bind λx2=>some (decide (10<=x2))
def FQ(m:Mem)(h:Int)(x1:Bool):Option (gX×Int):=
 (if x1 then some ((⟨0,0,0⟩:gX),4) else(FP m.Heap (Int.tmod h 32)).bind λx2=>(if !x2 then some ((⟨0,0,0⟩:gX),2) else(pQ m.Heap (Int.tmod h 32)).bind λx3=>some (x3,0)))
def JM(m:Mem)(h:Int):Option (gX×Int):=
 (iN h).bind λx4=>(if !x4 then FQ m h true else(lI m.Heap (Int.tmod h 32)).bind λx5=>FQ m h (decide (x5<0)))
def nV(x1:Bool):=
 some x1
def C4(p:wQ):=
 (if p.On then nV (!p.gO) else nV false)
def hU(n:gX):=
 (iN n.Next).bind λx1=>(if !x1 then some 0 else some n.Next)
def FR(s:Seen)(k0:Int):=
 some (s.bR == k0)
def LV(l:List Seen)(b v:Int):=
 (pG l).bind λx1=>(eW l (λy0=>FR y0 b)).bind λx2=>(if decide (x2<0) then need (x1.length+([(⟨b,v⟩:Seen)]).length<=1073741824) (some (x1++([(⟨b,v⟩:Seen)]),true)) else(idx l x2).bind λx3=>some (x1,x3.eB == v))
def tO(t:Table)(w_:Int)(x13:List aI)(x14:Bool):=
 (if x14 then(idx x13 w_).bind λx15=>some ({t with aS:=x13.set w_.toNat ({x15 with Pc:=5}:aI)}:Table) else some ({t with aS:=x13}:Table))
def C5(t:Table)(w_:Int)(x13:List aI):=
 (idx x13 w_).bind λx16=>(if x16.Found then tO t w_ x13 true else tO t w_ x13 (x16.H == 0))
def M7(t:Table)(x26:List aI):=
 some ({t with aS:=x26}:Table)
def C6(t:Table)(w_:Int)(x6:iP×Bool×aI)(x21:List Seen)(x22:Bool):=
 (idx (t.aS.set w_.toNat x6.2.2) w_).bind λx23=>(if !x22 then(cM ({x23 with Reads:=x21}:aI) 7).bind λx24=>some ({t with aS:=(t.aS.set w_.toNat x6.2.2).set w_.toNat x24}:Table) else(if !x6.2.1 then(cM ({x23 with Reads:=x21}:aI) 1).bind λx25=>some ({t with aS:=(t.aS.set w_.toNat x6.2.2).set w_.toNat x25}:Table) else(rV ({x23 with Reads:=x21}:aI) x6.1 x23.Node.dI x23.Found).bind λx27=>M7 t ((t.aS.set w_.toNat x6.2.2).set w_.toNat x27)))
def jM(t:Table)(w_:Int)(x6:iP×Bool×aI)(x18:Bool):=
 (if x18 then(idx (t.aS.set w_.toNat x6.2.2) w_).bind λx19=>(cM x19 7).bind λx20=>some ({t with aS:=(t.aS.set w_.toNat x6.2.2).set w_.toNat x20}:Table) else(idx (t.aS.set w_.toNat x6.2.2) w_).bind λx28=>(LV x28.Reads x28.bR x28.eB).bind λx29=>C6 t w_ x6 x29.1 x29.2)
def C7(t:Table)(w_ x2 x3 x4:Int):=
 (idx t.aS w_).bind λx5=>(pP x5).bind λx6=>(if x6.2.2.Pc == 2 then(if x4 != 0 then(cM x6.2.2 7).bind λx7=>some ({t with aS:=t.aS.set w_.toNat x7}:Table) else(if x2 == 0 then some ({t with aS:=t.aS.set w_.toNat (⟨x6.2.2.bO,x6.2.2.Batch,x6.2.2.aG,5,x6.2.2.At,x6.2.2.K,x6.2.2.bR,x3,x2,x6.2.2.gR,(⟨0,0,0⟩:gX),false,x6.2.2.Code,x6.2.2.Sub,x6.2.2.Reads,x6.2.2.aH,x6.2.2.fY,x6.2.2.gL,x6.2.2.bD,x6.2.2.cA⟩:aI)}:Table) else some ({t with aS:=t.aS.set w_.toNat (⟨x6.2.2.bO,x6.2.2.Batch,x6.2.2.aG,3,x6.2.2.At,x6.2.2.K,x6.2.2.bR,x3,x2,x6.2.2.gR,(⟨0,0,0⟩:gX),false,x6.2.2.Code,x6.2.2.Sub,x6.2.2.Reads,x6.2.2.aH,x6.2.2.fY,x6.2.2.gL,x6.2.2.bD,x6.2.2.cA⟩:aI)}:Table))) else(if x6.2.2.Pc == 3 then(JM t.aA.Mem x6.2.2.H).bind λx8=>some ({t with aS:=t.aS.set w_.toNat (⟨x6.2.2.bO,x6.2.2.Batch,x6.2.2.aG,4,x6.2.2.At,x6.2.2.K,x6.2.2.bR,x6.2.2.eB,x6.2.2.H,x6.2.2.gR,x8.1,x6.2.2.Found,x6.2.2.Code,x6.2.2.Sub,x6.2.2.Reads,x6.2.2.aH,x6.2.2.fY,x6.2.2.gL,x6.2.2.bD,x6.2.2.cA⟩:aI)}:Table) else(if x6.2.2.Pc == 4 then(idx t.aA.aC.cE w_).bind λx9=>(C4 x9).bind λx10=>(if !x10 then(cM x6.2.2 6).bind λx11=>some ({t with aS:=t.aS.set w_.toNat x11}:Table) else(if !x6.2.1 then(cM x6.2.2 1).bind λx12=>some ({t with aS:=t.aS.set w_.toNat x12}:Table) else(hU x6.2.2.Node).bind λx17=>C5 t w_ (t.aS.set w_.toNat (⟨x6.2.2.bO,x6.2.2.Batch,x6.2.2.aG,3,x6.2.2.At,x6.2.2.K,x6.2.2.bR,x6.2.2.eB,x17,x6.2.2.gR,x6.2.2.Node,x6.2.2.Node.Key == x6.1.Key,x6.2.2.Code,x6.2.2.Sub,x6.2.2.Reads,x6.2.2.aH,x6.2.2.fY,x6.2.2.gL,x6.2.2.bD,x6.2.2.cA⟩:aI)))) else(if x4 != 0 then jM t w_ x6 true else jM t w_ x6 (x3 != x6.2.2.eB)))))
def B9(t:Table)(w_:Int):=
 (idx t.aS w_).bind λx1=>(idx t.aR x1.bR).bind λx30=>C7 t w_ x30.Head x30.eB x30.dU
def aQ2(x5:Int):=
 some x5
def FT(x4 x6:Int):Option (Step (Int×Int) Int):=
 some (.next (x6,bB (x4+1)))
def TF(l:List aU)(n:Int):(Int×Int)->Option (Step (Int×Int) Int)
 |(x3,x4)=>(if decide (x4<(((l.take ((if(if(l.length:Int)<n then(l.length:Int) else n)<0 then 0 else(if(l.length:Int)<n then(l.length:Int) else n)).toNat)).drop 0).length:Int)) then(idx ((l.take ((if(if(l.length:Int)<n then(l.length:Int) else n)<0 then 0 else(if(l.length:Int)<n then(l.length:Int) else n)).toNat)).drop 0) x4).bind λx7=>(if !x7.G3 then FT x4 (bB (x3+1)) else FT x4 x3) else some (.stop (x3)))
def aQ3:Int->Option Int
 |x5=>aQ2 x5
def RU(l:List aU)(n:Int):=
 need (0<=(if(if(l.length:Int)<n then(l.length:Int) else n)<0 then 0 else(if(l.length:Int)<n then(l.length:Int) else n):Int)/\(if(if(l.length:Int)<n then(l.length:Int) else n)<0 then 0 else(if(l.length:Int)<n then(l.length:Int) else n):Int)<=(l.length:Int)) ((loop (TF l n) (0,0)).bind (aQ3))
def AF(x11:Table):=
 some x11
def AG(w_:Int)(x10:Table):=
 (idx x10.aS w_).bind λx12=>(lR 1 16).bind λx13=>AF ({x10 with aS:=x10.aS.set w_.toNat ({x12 with K:=bB (x12.K+1),Sub:=x13}:aI)}:Table)
def iA(w_:Int)(x6:Bool)(x7:Table):=
 (if x6 then(idx x7.aS w_).bind λx8=>(cM x8 x8.Sub.Code).bind λx9=>some ({x7 with aS:=x7.aS.set w_.toNat x9}:Table) else(idx x7.aS w_).bind λx14=>need (x14.gL.length+([x14.Sub.Out]).length<=1073741824)<|AG w_ ({x7 with aS:=x7.aS.set w_.toNat ({x14 with gL:=x14.gL++([x14.Sub.Out])}:aI)}:Table))
def AI(t:Table)(w_:Int)(x2:Bool):=
 (if x2 then(idx t.aS w_).bind λx3=>some ({t with aS:=t.aS.set w_.toNat ({x3 with Pc:=7,K:=0}:aI)}:Table) else(idx t.aS w_).bind λx4=>(qJ x4.Sub t.aA w_).bind λx5=>(if !x5.1.gK then some ({t with aA:=x5.2,aS:=t.aS.set w_.toNat ({x4 with Sub:=x5.1}:aI)}:Table) else(if x5.1.Code != 0 then iA w_ true ({t with aA:=x5.2,aS:=t.aS.set w_.toNat ({x4 with Sub:=x5.1}:aI)}:Table) else(iN x5.1.Out).bind λx15=>(if !x15 then iA w_ true ({t with aA:=x5.2,aS:=t.aS.set w_.toNat ({x4 with Sub:=x5.1}:aI)}:Table) else iA w_ (decide (6<=(x4.gL.length:Int))) ({t with aA:=x5.2,aS:=t.aS.set w_.toNat ({x4 with Sub:=x5.1}:aI)}:Table)))))
def zA(t:Table)(w_:Int):=
 (idx t.aS w_).bind λx1=>(RU x1.aH (x1.aH.length:Int)).bind λx16=>AI t w_ (decide (x16<=x1.K))
def cmp_isNaN_int(x:Int):=
 some (x != x)
def uU(x1:Bool):=
 some x1
def cmp_Less_int(x y:Int):=
 (cmp_isNaN_int x).bind λx2=>(if x2 then(cmp_isNaN_int y).bind λx3=>(if !x3 then uU true else uU (decide (x<y))) else uU (decide (x<y)))
def jN(data x5:List Int):=
 need (x5.length=data.length) (some x5)
def nI(data:List Int)(x4:Int)(x10:List Int):Option (Step ((List Int)×Int) (List Int)):=
 need (x10.length=data.length) (some (.next (x10,bB (x4+1))))
def jO(data:List Int)(x9:Int)(x12:List Int):Option (Step ((List Int)×Int) (List Int)):=
 need (x12.length=data.length) (some (.next (x12,bB (x9-1))))
def dR(data x8:List Int)(x9:Int)(x11:Bool):Option (Step ((List Int)×Int) (List Int)):=
 need (x8.length=data.length) ((if x11 then(idx x8 (bB (x9-1))).bind λx13=>(idx x8 x9).bind λx14=>(idx (x8.set x9.toNat x13) (bB (x9-1))).bind λx15=>jO data x9 ((x8.set x9.toNat x13).set ((bB (x9-1)).toNat) x14) else some (.stop (x8))))
def dS(data:List Int)(a_:Int):((List Int)×Int)->Option (Step ((List Int)×Int) (List Int))
 |(x8,x9)=>need (x8.length=data.length) ((if decide (a_<x9) then(idx x8 x9).bind λx16=>(idx x8 (bB (x9-1))).bind λx17=>(cmp_Less_int x16 x17).bind λx18=>dR data x8 x9 x18 else dR data x8 x9 false))
def nJ(data:List Int)(x4:Int):(List Int)->Option (Step ((List Int)×Int) (List Int))
 |x10=>nI data x4 x10
def dB(data:List Int)(a_ b:Int):((List Int)×Int)->Option (Step ((List Int)×Int) (List Int))
 |(x3,x4)=>need (x3.length=data.length) ((if decide (x4<b) then(loop (dS data a_) (x3,x4)).bind (nJ data x4) else some (.stop (x3))))
def jP(data:List Int):(List Int)->Option (List Int)
 |x5=>jN data x5
def iF(data:List Int)(a_ b:Int):=
 (loop (dB data a_ b) (data,bB (a_+1))).bind (jP data)
def uV(data:List Int)(a_ b limit:Int):Unit->Option (Step Unit (List Int))
 |()=>(if decide ((bB (b-a_))<=12) then(iF data a_ b).bind λx1=>some (.stop (x1)) else(if limit == 0 then none else none))
def KC:(List Int)->Option (List Int)
 |r=>some r
def oJ(data:List Int)(a_ b limit:Int):=
 (loop (uV data a_ b limit) ()).bind (KC)
def C8(x5 x6:Int):=
 (idx ([0,1,2,2,3,3,3,3,4,4,4,4,4,4,4,4,5,5,5,5,5,5,5,5,5,5,5,5,5,5,5,5,6,6,6,6,6,6,6,6,6,6,6,6,6,6,6,6,6,6,6,6,6,6,6,6,6,6,6,6,6,6,6,6,7,7,7,7,7,7,7,7,7,7,7,7,7,7,7,7,7,7,7,7,7,7,7,7,7,7,7,7,7,7,7,7,7,7,7,7,7,7,7,7,7,7,7,7,7,7,7,7,7,7,7,7,7,7,7,7,7,7,7,7,7,7,7,7,8,8,8,8,8,8,8,8,8,8,8,8,8,8,8,8,8,8,8,8,8,8,8,8,8,8,8,8,8,8,8,8,8,8,8,8,8,8,8,8,8,8,8,8,8,8,8,8,8,8,8,8,8,8,8,8,8,8,8,8,8,8,8,8,8,8,8,8,8,8,8,8,8,8,8,8,8,8,8,8,8,8,8,8,8,8,8,8,8,8,8,8,8,8,8,8,8,8,8,8,8,8,8,8,8,8,8,8,8,8,8,8,8,8,8,8,8,8,8,8,8,8,8,8,8,8,8,8]:List UInt8) ((u8 x5).toNat:Int)).bind λx7=>some (bB (x6+(x7.toNat:Int)))
def C9(x3 x4:Int):=
 (if decide (256<=x3) then C8 (pA .u64 x3 8) (bB (x4+8)) else C8 x3 x4)
def DA(x1 x2:Int):=
 (if decide (65536<=x1) then C9 (pA .u64 x1 16) (bB (x2+16)) else C9 x1 x2)
def U6(x:Int):=
 (if decide (4294967296<=x) then DA (pA .u64 x 32) 32 else DA x 0)
def A6(x:Int):=
 (U6 x).bind λx1=>some x1
def CA(x:List Int):=
 (A6 (IntKind.u64.wrap (x.length:Int))).bind λx1=>(oJ x 0 (x.length:Int) x1).bind λx2=>some x2
def KD(x5:List Int):=
 (CA x5).bind λx6=>(slices_Compact_int x6).bind λx7=>some x7
def CB(x4:Int)(x8:List Int):Option (Step ((List Int)×Int) (List Int)):=
 some (.next (x8,bB (x4+1)))
def KE(l:List aU):((List Int)×Int)->Option (Step ((List Int)×Int) (List Int))
 |(x3,x4)=>(if decide (x4<(l.length:Int)) then(idx l x4).bind λx9=>(HQ x9.Key).bind λx10=>(if decide (0<=x10) then need (x3.length+([x10]).length<=1073741824) (CB x4 (x3++([x10]))) else CB x4 x3) else some (.stop (x3)))
def U7:(List Int)->Option (List Int)
 |x5=>KD x5
def LW(l:List aU):=
 (loop (KE l) (([]:List Int),0)).bind (U7)
def pR(x1:Bool):=
 some x1
def wG(s:Seen)(k0:Int)(k1:bR):=
 (if s.bR == k0 then pR (s.eB != k1.eB) else pR false)
def tP(t:Table)(w_:Int)(x3:List bR)(x4:List aI)(x5:aI):=
 (idx x4 w_).bind λx6=>some ({t with aR:=x3,aS:=x4.set w_.toNat ({x6 with Pc:=8,K:=0}:aI),Log:=t.Log++([(⟨2,w_,x5.aG,0,[],[]⟩:mT)])}:Table)
def nK(t:Table)(w_:Int)(x2:(List Int))(x3:List bR)(x4:List aI):=
 (idx x4 w_).bind λx5=>(if decide ((x2.length:Int)<=x5.K) then need (t.Log.length+([(⟨2,w_,x5.aG,0,[],[]⟩:mT)]).length<=1073741824)<|tP t w_ x3 x4 x5 else some ({t with aR:=x3,aS:=x4}:Table))
def nL(t:Table)(w_:Int)(x2:(List Int))(x7:Int)(x12:bR)(x15:List aI):=
 (idx x15 w_).bind λx16=>nK t w_ x2 (t.aR.set x7.toNat ({x12 with dU:=bB (w_+1)}:bR)) (x15.set w_.toNat ({x16 with K:=bB (x16.K+1)}:aI))
def DB(t:Table)(w_:Int)(x2:(List Int))(x7:Int)(x12:bR)(x17:aI):=
 nL t w_ x2 x7 x12 (t.aS.set w_.toNat ({x17 with bD:=x17.bD++([x7])}:aI))
def iJ(t:Table)(w_:Int)(x2:(List Int))(x7:Int)(x9:Bool):=
 (if x9 then(idx t.aS w_).bind λx10=>(cM x10 7).bind λx11=>some ({t with aS:=t.aS.set w_.toNat x11}:Table) else(idx t.aR x7).bind λx12=>(if x12.eB == 1000000 then(idx t.aS w_).bind λx13=>(cM x13 3).bind λx14=>some ({t with aS:=t.aS.set w_.toNat x14}:Table) else(idx t.aS w_).bind λx17=>(iY x17.bD x7).bind λx18=>(if !x18 then need (x17.bD.length+([x7]).length<=1073741824)<|DB t w_ x2 x7 x12 x17 else nL t w_ x2 x7 x12 t.aS)))
def CC(t:Table)(w_:Int):=
 (idx t.aS w_).bind λx1=>(LW x1.aH).bind λx2=>(if decide (x1.K<(x2.length:Int)) then(idx x2 x1.K).bind λx7=>(idx t.aR x7).bind λx8=>(if x8.dU != 0 then iJ t w_ x2 x7 true else(fV x1.Reads (λy0=>wG y0 x7 x8)).bind λx19=>iJ t w_ x2 x7 x19) else nK t w_ x2 t.aR t.aS)
def fP(t:Table)(w_:Int)(x8:Bool):=
 (if x8 then(idx t.aS w_).bind λx9=>(cM x9 7).bind λx10=>some ({t with aS:=t.aS.set w_.toNat x10}:Table) else(idx t.aS w_).bind λx11=>some ({t with aS:=t.aS.set w_.toNat ({x11 with K:=bB (x11.K+1)}:aI)}:Table))
def tQ(t:Table)(w_ x4 x5 x6 x7:Int):=
 (if x7 != 0 then(if x7 != (bB (w_+1)) then fP t w_ true else fP t w_ (x6 != x4)) else fP t w_ (x6 != x4))
def tR(t:Table)(w_ x3 x4:Int):=
 (idx t.aR x3).bind λx12=>tQ t w_ x4 x12.Head x12.eB x12.dU
def tS(t:Table)(w_:Int)(x1:aI):=
 (if decide ((x1.Reads.length:Int)<=x1.K) then(idx t.aS w_).bind λx2=>some ({t with aS:=t.aS.set w_.toNat ({x2 with Pc:=9,K:=0}:aI)}:Table) else(idx t.aS w_).bind λx13=>(idx x13.Reads x13.K).bind λx14=>tR t w_ x14.bR x14.eB)
def qZ(t:Table)(w_:Int):=
 (idx t.aS w_).bind λx1=>tS t w_ x1
def oV(j:aI)(x:aU):=
 (if x.G3 then some ({j with Pc:=9,K:=bB (j.K+1)}:aI) else some ({j with Pc:=12}:aI))
def vQ(m:Mem)(h:Int):Option Int:=
 (xL m h).bind λx1=>(if !x1 then some 4 else(FP m.Heap (Int.tmod h 32)).bind λx2=>(if !x2 then some 2 else some 0))
def M8(x4:Int)(x5:Mem):=
 some (x5,x4)
def WT(x4:Int)(x6:Mem):=
 M8 x4 x6
def FU(m:Mem)(h next_:Int)(x2:Bool)(x3:Mem):=
 (if x2 then some (x3,1) else(vQ m h).bind λx4=>(if x4 == 0 then(y9 m.Heap (Int.tmod h 32)).bind λx7=>(mD next_ 4).bind λx8=>(m6 x3.Heap.Bytes (bB (x7+6)) x8).bind λx9=>WT x4 (⟨(⟨x9,x3.Heap.Class⟩:Heap),x3.aE⟩:Mem) else M8 x4 x3))
def OZ(m:Mem)(h next_:Int):=
 (pE m).bind λx1=>(xG m).bind λx10=>(if !x10 then FU m h next_ true x1 else(m5 next_).bind λx11=>FU m h next_ (!x11) x1)
def xQ(x1:Bool):=
 some x1
def JN(n:gX):=
 (bT n.Key 0 99).bind λx2=>(if x2 then(bT n.dI 0 65535).bind λx3=>(if x3 then(m5 n.Next).bind λx4=>xQ x4 else xQ false) else xQ false)
def KF(x4:Int)(x5:Mem):=
 some (x5,x4)
def U8(x4:Int)(x6:Mem):=
 KF x4 x6
def CD(m:Mem)(h:Int)(n:gX)(x2:Bool)(x3:Mem):=
 (if x2 then some (x3,1) else(vQ m h).bind λx4=>(if x4 == 0 then(y9 m.Heap (Int.tmod h 32)).bind λx7=>(mD n.Key 2).bind λx8=>(mD n.dI 4).bind λx9=>need (x8.length+x9.length<=9223372036854775807)<|(mD n.Next 4).bind λx10=>need ((x8++x9).length+x10.length<=9223372036854775807)<|(m6 x3.Heap.Bytes x7 ((x8++x9)++x10)).bind λx11=>U8 x4 (⟨(⟨x11,x3.Heap.Class⟩:Heap),x3.aE⟩:Mem) else KF x4 x3))
def LX(m:Mem)(h:Int)(n:gX):=
 (pE m).bind λx1=>(xG m).bind λx12=>(if !x12 then CD m h n true x1 else(JN n).bind λx13=>CD m h n (!x13) x1)
def DC(t:Table)(j:aI)(b:bR)(x3:Table):=
 some (({x3 with aR:=t.aR,aS:=t.aS}:Table),({j with Pc:=13}:aI),b)
def KG(t:Table)(j:aI)(x:aU)(b:bR):=
 (RU j.aH j.K).bind λx1=>(if decide ((j.gL.length:Int)<=x1) then(cM j 1).bind λx2=>some (t,x2,b) else(if j.Pc == 12 then(idx j.gL x1).bind λx4=>(LX t.aA.Mem x4 ({x with Next:=b.Head}:gX)).bind λx5=>DC t j b ({t with aA:=(⟨x5.1,t.aA.aC,t.aA.aQ,t.aA.qU⟩:aA)}:Table) else(idx j.gL x1).bind λx6=>some (t,({j with Pc:=9,K:=bB (j.K+1)}:aI),({b with Head:=x6}:bR))))
def AK(t:Table)(x13:List aI):=
 some ({t with aS:=x13}:Table)
def mK(w_ x3:Int)(x4:Bool)(x5:Int)(x16:Table):=
 (idx x16.aS w_).bind λx17=>(oV x17 (⟨x3,x4,x5⟩:aU)).bind λx18=>some ({x16 with aS:=x16.aS.set w_.toNat x18}:Table)
def AL(w_ x3:Int)(x4:Bool)(x5:Int)(x21:Table):=
 mK w_ x3 x4 x5 x21
def rA(w_ x3:Int)(x4:Bool)(x5:Int)(x19:Bool)(x20:Table):=
 (if x19 then(idx x20.aS w_).bind λx22=>need (x22.cA.length+([x22.H]).length<=1073741824)<|AL w_ x3 x4 x5 ({x20 with aS:=x20.aS.set w_.toNat ({x22 with cA:=x22.cA++([x22.H])}:aI)}:Table) else mK w_ x3 x4 x5 x20)
def mL(w_ x3:Int)(x4:Bool)(x5:Int)(x15:Table):=
 (idx x15.aS w_).bind λx23=>(iN x23.H).bind λx24=>(if x24 then rA w_ x3 x4 x5 (decide ((x23.cA.length:Int)<6)) x15 else rA w_ x3 x4 x5 false x15)
def AM(w_ x3:Int)(x4:Bool)(x5:Int)(x26:Table):=
 mL w_ x3 x4 x5 x26
def AN(t:Table)(w_ x3:Int)(x4:Bool)(x5:Int):=
 (HQ x3).bind λx6=>(idx t.aR x6).bind λx7=>(idx t.aS w_).bind λx8=>(if x8.Pc == 9 then(if x7.Head == 0 then(oV ({x8 with Pc:=10,H:=x7.Head,gR:=0}:aI) (⟨x3,x4,x5⟩:aU)).bind λx9=>some ({t with aS:=t.aS.set w_.toNat x9}:Table) else some ({t with aS:=t.aS.set w_.toNat ({x8 with Pc:=10,H:=x7.Head,gR:=0}:aI)}:Table)) else(if x8.Pc == 10 then(JM t.aA.Mem x8.H).bind λx10=>(if x10.1.Key == x3 then some ({t with aS:=t.aS.set w_.toNat ({x8 with Pc:=11,Node:=x10.1}:aI)}:Table) else(hU x10.1).bind λx11=>(if x11 == 0 then(oV ({x8 with Node:=x10.1}:aI) (⟨x3,x4,x5⟩:aU)).bind λx12=>some ({t with aS:=t.aS.set w_.toNat x12}:Table) else(hU x10.1).bind λx14=>AK t (t.aS.set w_.toNat ({x8 with H:=x14,gR:=x8.H,Node:=x10.1}:aI)))) else(if x8.Pc == 11 then(if x8.gR == 0 then(hU x8.Node).bind λx25=>mL w_ x3 x4 x5 ({t with aR:=t.aR.set x6.toNat ({x7 with Head:=x25}:bR)}:Table) else(hU x8.Node).bind λx27=>(OZ t.aA.Mem x8.gR x27).bind λx28=>AM w_ x3 x4 x5 ({t with aA:=(⟨x28.1,t.aA.aC,t.aA.aQ,t.aA.qU⟩:aA)}:Table)) else(KG t x8 (⟨x3,x4,x5⟩:aU) x7).bind λx29=>some (⟨x29.1.aA,t.aR.set x6.toNat x29.2.2,t.aS.set w_.toNat x29.2.1,x29.1.eE,x29.1.Log,x29.1.aG⟩:Table))))
def AO(t:Table)(w_:Int)(x1:aI):=
 (if decide ((x1.aH.length:Int)<=x1.K) then(idx t.aS w_).bind λx2=>some ({t with aS:=t.aS.set w_.toNat ({x2 with Pc:=14}:aI)}:Table) else(idx t.aS w_).bind λx30=>(idx x30.aH x30.K).bind λx31=>AN t w_ x31.Key x31.G3 x31.dI)
def zC(t:Table)(w_:Int):=
 (idx t.aS w_).bind λx1=>AO t w_ x1
def pS(s:List Int)(i j:Int):=
 need (0<=(i:Int)/\(i:Int)<=(j:Int)/\(j:Int)<=((s.length:Int):Int)/\((s.length:Int):Int)<=(s.length:Int)) ((if i == j then some s else need (0<=(i:Int)/\(i:Int)<=(s.length:Int)) (need (0<=(j:Int)/\(j:Int)<=(s.length:Int)) (need (i.toNat<=j.toNat) (need (0<=(((((cT s i.toNat (s.drop j.toNat)).take (i.toNat+(s.length-j.toNat))).drop 0).length:Int):Int)/\(((((cT s i.toNat (s.drop j.toNat)).take (i.toNat+(s.length-j.toNat))).drop 0).length:Int):Int)<=((s.length:Int):Int)/\((s.length:Int):Int)<=((cT s i.toNat (s.drop j.toNat)).length:Int)) (some (((cT s i.toNat (s.drop j.toNat)).take (i.toNat+(s.length-j.toNat))).drop 0)))))))
def rW(x1:aI):=
 some x1
def lT(j:aI):=
 (if decide (j.K<(j.cA.length:Int)) then(idx j.cA j.K).bind λx2=>(lR 2 x2).bind λx3=>rW ({j with Sub:=x3}:aI) else some j)
def lU(t:Table)(w_:Int)(x4:List bR):=
 (idx t.aS w_).bind λx5=>(pS x5.bD 0 1).bind λx6=>some ({t with aR:=x4,aS:=t.aS.set w_.toNat ({x5 with bD:=x6}:aI)}:Table)
def wH(t:Table)(w_:Int):=
 (idx t.aS w_).bind λx1=>(if decide (0<(x1.bD.length:Int)) then(idx x1.bD 0).bind λx2=>(idx t.aR x2).bind λx3=>(if x1.Pc == 14 then lU t w_ (t.aR.set x2.toNat (⟨x3.Head,if 1000000<(bB (x3.eB+1)) then 1000000 else(bB (x3.eB+1)),0⟩:bR)) else lU t w_ (t.aR.set x2.toNat ({x3 with dU:=0}:bR))) else(if x1.Pc == 16 then some ({t with aS:=t.aS.set w_.toNat ({x1 with Pc:=17}:aI)}:Table) else(lT ({x1 with Pc:=15,K:=0}:aI)).bind λx7=>some ({t with aS:=t.aS.set w_.toNat x7}:Table)))
def xR(t:Table)(w_:Int)(x1:aI):=
 (if decide ((x1.cA.length:Int)<=x1.K) then(idx t.aS w_).bind λx2=>some ({t with aS:=t.aS.set w_.toNat ({x2 with Pc:=18}:aI)}:Table) else(idx t.aS w_).bind λx3=>(qJ x3.Sub t.aA w_).bind λx4=>(if x4.1.gK then(lT ({x3 with K:=bB (x3.K+1),Sub:=x4.1}:aI)).bind λx5=>some ({t with aA:=x4.2,aS:=t.aS.set w_.toNat x5}:Table) else some ({t with aA:=x4.2,aS:=t.aS.set w_.toNat ({x3 with Sub:=x4.1}:aI)}:Table)))
def wI(t:Table)(w_:Int):=
 (idx t.aS w_).bind λx1=>xR t w_ x1
def CE(m:Mem)(w_ h:Int)(x1:Bool):Option (Mem×Int):=
 (if x1 then(pE m).bind λx2=>some (x2,1) else(xL m h).bind λx3=>(if !x3 then(pE m).bind λx4=>some (x4,4) else(M6 m w_ h).bind λx5=>some (x5,0)))
def LY(m:Mem)(w_ h:Int):Option (Mem×Int):=
 (xG m).bind λx6=>(if !x6 then CE m w_ h true else(iO w_).bind λx7=>CE m w_ h (!x7))
def CF(t:Table)(w_:Int):=
 (idx t.aS w_).bind λx1=>(if(x1.gL.length:Int) == 0 then some ({t with aS:=t.aS.set w_.toNat ({x1 with Pc:=18}:aI)}:Table) else(idx x1.gL 0).bind λx2=>(pS x1.gL 0 1).bind λx3=>(FH t.aA.aQ (Int.tmod x2 32)).bind λx4=>(if !x4 then(LY t.aA.Mem w_ x2).bind λx5=>some ({t with aA:=(⟨x5.1,t.aA.aC,t.aA.aQ,t.aA.qU⟩:aA),aS:=t.aS.set w_.toNat ({x1 with gL:=x3}:aI)}:Table) else some ({t with aS:=t.aS.set w_.toNat ({x1 with gL:=x3}:aI)}:Table)))
def A7(w_:Int)(x1:aC)(x2:Bool):=
 (if x2 then some (x1,false) else(idx x1.cE w_).bind λx3=>some ((⟨x1.aK,x1.cE.set w_.toNat (⟨false,0,false,0⟩:wQ)⟩:aC),true))
def TG(c:aC)(w_:Int):=
 (lP c).bind λx1=>(pK c).bind λx4=>(if !x4 then A7 w_ x1 true else(iO w_).bind λx5=>(if !x5 then A7 w_ x1 true else(idx c.cE w_).bind λx6=>A7 w_ x1 (!x6.On)))
def CG(b:aA)(w_:Int):=
 (TG b.aC w_).bind λx1=>some (x1.2,({b with aC:=x1.1}:aA))
def HA(t:Table)(w_:Int)(x1:aI):=
 some ({t with aS:=t.aS.set w_.toNat (⟨false,(⟨false,[]⟩:Batch),0,0,0,0,0,0,0,0,(⟨0,0,0⟩:gX),false,0,(⟨0,0,0,0,0,0,0,0,0,false⟩:Sub),[],[],[],[],[],[]⟩:aI),Log:=t.Log++([({x1 with Kind:=3,Who:=w_,bK:=[]}:mT)])}:Table)
def HB(t:Table)(w_:Int)(x1:aI):=
 some ({t with aS:=t.aS.set w_.toNat (⟨false,(⟨false,[]⟩:Batch),0,0,0,0,0,0,0,0,(⟨0,0,0⟩:gX),false,0,(⟨0,0,0,0,0,0,0,0,0,false⟩:Sub),[],[],[],[],[],[]⟩:aI),Log:=t.Log++([(⟨3,w_,x1.aG,x1.Code,[],[]⟩:mT)])}:Table)
def tT(t:Table)(w_:Int):=
 (idx t.aS w_).bind λx1=>(if x1.Code == 0 then need (t.Log.length+([({x1 with Kind:=3,Who:=w_,bK:=[]}:mT)]).length<=1073741824)<|HA t w_ x1 else need (t.Log.length+([(⟨3,w_,x1.aG,x1.Code,[],[]⟩:mT)]).length<=1073741824)<|HB t w_ x1)
def lA(t:Table)(w_:Int)(x1:aI)(x14:Bool):=
 (if x14 then(wH t w_).bind λx15=>some x15 else(if x1.Pc == 15 then(wI t w_).bind λx16=>some x16 else(if x1.Pc == 17 then(CF t w_).bind λx17=>some x17 else(if x1.Pc == 18 then(CG t.aA w_).bind λx18=>(idx t.aS w_).bind λx19=>some ({t with aA:=x18.2,aS:=t.aS.set w_.toNat ({x19 with Pc:=19}:aI)}:Table) else(if x1.Pc == 19 then(tT t w_).bind λx20=>some x20 else(idx t.aS w_).bind λx21=>(cM x21 1).bind λx22=>some ({t with aS:=t.aS.set w_.toNat x22}:Table))))))
def jQ(t:Table)(w_:Int)(x1:aI)(x3:Bool):=
 (if x3 then(tN t w_).bind λx4=>some x4 else(if x1.Pc == 1 then(idx t.aS w_).bind λx5=>(FO x5).bind λx6=>some ({t with aS:=t.aS.set w_.toNat x6}:Table) else(bT x1.Pc 2 5).bind λx7=>(if x7 then(B9 t w_).bind λx8=>some x8 else(if x1.Pc == 6 then(zA t w_).bind λx9=>some x9 else(if x1.Pc == 7 then(CC t w_).bind λx10=>some x10 else(if x1.Pc == 8 then(qZ t w_).bind λx11=>some x11 else(bT x1.Pc 9 13).bind λx12=>(if x12 then(zC t w_).bind λx13=>some x13 else(if x1.Pc == 14 then lA t w_ x1 true else lA t w_ x1 (x1.Pc == 16)))))))))
def CH(t:Table)(w_:Int):=
 (idx t.aS w_).bind λx1=>(if !x1.bO then(yY t w_).bind λx2=>some x2 else(if x1.Pc == 0 then jQ t w_ x1 true else(if x1.Pc == 20 then jQ t w_ x1 true else jQ t w_ x1 (x1.Pc == 21))))
def HR(j:aI):=
 some j.bO
def HT(q:aN):=
 some (decide (0<(q.List.length:Int)))
def FV(x1:Bool):=
 some x1
def FW(t:Table):=
 (g7 t.aS (λy0=>HR y0)).bind λx2=>(if !x2 then(j7 t.eE (λy0=>HT y0)).bind λx3=>FV (!x3) else FV false)
def tU(j:aI):=
 (sS j).bind λx1=>some (!x1)
def ZA(x5:Table):=
 some x5
def mM(x3:Int)(x6:Bool)(x7:Table):Option (Step (Int×Table) (Out Table Table)):=
 (if x6 then some (.stop (Out.ret x7)) else(CH x7 (Int.tmod x3 3)).bind λx8=>some (.next (bB (x3+1),x8)))
def mN(n:Int)(finish:Bool):(Int×Table)->Option (Step (Int×Table) (Out Table Table))
 |(x3,x4)=>(if decide (x3<n) then(if finish then(FW x4).bind λx9=>(if x9 then mM x3 true x4 else(g7 x4.aS (λy0=>tU y0)).bind λx10=>mM x3 x10 x4) else(g7 x4.aS (λy0=>tU y0)).bind λx11=>mM x3 x11 x4) else some (.stop (Out.brk x4)))
def K4:(Out Table Table)->Option Table
 |.brk x5=>ZA x5
 |.ret r=>some r
def HU(t:Table)(n:Int)(finish:Bool):=
 (loop (mN n finish) (0,t)).bind (K4)
def AP(x2:Table):=
 some x2
def nB(t:Table):=
 (EY t).bind λx1=>(FE t).bind λx3=>(if x3 then(HU x1 3000 true).bind λx4=>AP x4 else AP x1)
def aAS(x5:List mT):=
 some x5
def tV(x4:Int)(x6:List mT):Option (Step ((List mT)×Int) (List mT)):=
 some (.next (x6,bB (x4+1)))
def nM(t:Table):((List mT)×Int)->Option (Step ((List mT)×Int) (List mT))
 |(x3,x4)=>(if decide (x4<(t.Log.length:Int)) then(idx t.Log x4).bind λx7=>(if x7.Kind == 3 then(EL x7).bind λx8=>need (x3.length+([x8]).length<=1073741824) (tV x4 (x3++([x8]))) else tV x4 x3) else some (.stop (x3)))
def aAT:(List mT)->Option (List mT)
 |x5=>aAS x5
def CI(t:Table):=
 (loop (nM t) (([]:List mT),0)).bind (aAT)
def aGL:=
 some true
def uW(a_ b:List KV):Int->Option (Step Int (Out Unit Bool))
 |x2=>(if decide (x2<(a_.length:Int)) then(idx a_ x2).bind λx3=>(idx b x2).bind λx4=>(if !(decide (x3=x4)) then some (.stop (Out.ret false)) else some (.next (bB (x2+1)))) else some (.stop (Out.brk ())))
def aGM:(Out Unit Bool)->Option Bool
 |.brk ()=>aGL
 |.ret r=>some r
def LZ(a_ b:List KV):=
 (if(a_.length:Int) != (b.length:Int) then some false else(loop (uW a_ b) 0).bind (aGM))
def aGN(x6:List Int):=
 some (x6,true)
def CJ(m:Mem)(x4:List Int)(x5:Int)(x7:Bool):Option (Step ((List Int)×Int) (Out (List Int) ((List Int)×Bool))):=
 (if x7 then some (.stop (Out.ret ([],false))) else(pQ m.Heap (Int.tmod x5 32)).bind λx8=>(JN x8).bind λx9=>(if !x9 then some (.stop (Out.ret ([],false))) else need (x4.length+([x5]).length<=1073741824) (some (.next (x4++([x5]),x8.Next)))))
def CL(m:Mem):((List Int)×Int)->Option (Step ((List Int)×Int) (Out (List Int) ((List Int)×Bool)))
 |(x4,x5)=>(if x5 != 0 then(vQ m x5).bind λx10=>(if x10 != 0 then CJ m x4 x5 true else(iY x4 x5).bind λx11=>CJ m x4 x5 x11) else some (.stop (Out.brk x4)))
def aGO:(Out (List Int) ((List Int)×Bool))->Option ((List Int)×Bool)
 |.brk x6=>aGN x6
 |.ret r=>some r
def FX(m:Mem)(head:Int):=
 (xG m).bind λx1=>(if !x1 then some (([]:List Int),false) else(loop (CL m) (([]:List Int),head)).bind (aGO))
def aJ6(x6:List (List Int)):=
 some (x6,true)
def xS(t:Table):((List (List Int))×Int)->Option (Step ((List (List Int))×Int) (Out (List (List Int)) ((List (List Int))×Bool)))
 |(x4,x5)=>(if decide (x5<(t.aR.length:Int)) then(idx t.aR x5).bind λx7=>(FX t.aA.Mem x7.Head).bind λx8=>(if !x8.2 then some (.stop (Out.ret ([],false))) else need (x4.length+([x8.1]).length<=1073741824) (some (.next (x4++([x8.1]),bB (x5+1))))) else some (.stop (Out.brk x4)))
def aJ7:(Out (List (List Int)) ((List (List Int))×Bool))->Option ((List (List Int))×Bool)
 |.brk x6=>aJ6 x6
 |.ret r=>some r
def JO(t:Table):=
 (FE t).bind λx1=>(if !x1 then some (([]:List (List Int)),false) else(loop (xS t) (([]:List (List Int)),0)).bind (aJ7))
def KH(s:List KV):=
 need (([]:List KV).length+s.length<=1073741824) (some (([]:List KV)++s))
def TH:=
 some (-1)
def tW(s:List KV)(f:(KV->Option Bool)):Int->Option (Step Int (Out Unit Int))
 |x2=>(if decide (x2<(s.length:Int)) then(idx s x2).bind λx3=>(f x3).bind λx4=>(if x4 then some (.stop (Out.ret x2)) else some (.next (bB (x2+1)))) else some (.stop (Out.brk ())))
def TJ:(Out Unit Int)->Option Int
 |.brk ()=>TH
 |.ret r=>some r
def iZ(s:List KV)(f:(KV->Option Bool)):=
 (loop (tW s f) 0).bind (TJ)
def DS(x8:List KV)(x9:Int):=
 need (0<=(x9:Int)/\(x9:Int)<=(x8.length:Int)) (need (0<=(x9:Int)/\(x9:Int)<=((cT x8 x9.toNat (List.replicate (x8.length-x9.toNat) (⟨0,0⟩:KV))).length:Int)) (some (((cT x8 x9.toNat (List.replicate (x8.length-x9.toNat) (⟨0,0⟩:KV))).take x9.toNat).drop 0)))
def jW(x7:Int)(x10:List KV)(x11:Int):Option (Step ((List KV)×Int×Int) ((List KV)×Int)):=
 some (.next (x10,x11,bB (x7+1)))
def mB(del:(KV->Option Bool)):((List KV)×Int×Int)->Option (Step ((List KV)×Int×Int) ((List KV)×Int))
 |(x5,x6,x7)=>(if decide (x7<(x5.length:Int)) then(idx x5 x7).bind λx12=>(del x12).bind λx13=>(if !x13 then(idx x5 x6).bind λx14=>jW x7 (x5.set x6.toNat x12) (bB (x6+1)) else jW x7 x5 x6) else some (.stop ((x5,x6))))
def DT:((List KV)×Int)->Option (List KV)
 |(x8,x9)=>DS x8 x9
def pT(s:List KV)(del:(KV->Option Bool)):=
 (iZ s del).bind λx1=>(if x1 == (-1) then some s else(loop (mB del) (s,x1,bB (x1+1))).bind (DT))
def PY(x:KV)(k0:Int):=
 some (x.Key == k0)
def WU(l:List KV)(key:Int):=
 (KH l).bind λx1=>(pT x1 (λy0=>PY y0 key)).bind λx2=>some x2
def PZ(x:KV)(k0:Int):=
 some (decide (k0<x.Key))
def HV(s:List KV)(i:Int)(v:List KV):=
 need (0<=i/\i<=(s.length:Int)/\s.length+v.length<=1073741824) (some (s.take i.toNat++v++s.drop i.toNat))
def xT(key val:Int)(x1:(List KV))(x3:Int):=
 (HV x1 x3 ([(⟨key,val⟩:KV)])).bind λx4=>some x4
def DU(l:List KV)(key val:Int):=
 (WU l key).bind λx1=>(iZ x1 (λy0=>PZ y0 key)).bind λx2=>(if decide (x2<0) then xT key val x1 (x1.length:Int) else xT key val x1 x2)
def tmB(t:Table):List Int->List KV->Option (List KV)
 |[],m=>some m
 |h::l,m=>(tmB t l m).bind λm'=>(pQ t.aA.Mem.Heap (Int.tmod h 32)).bind λn=>DU m' n.Key n.dI
def tmL(t:Table):List (List Int)->List KV->Option (List KV)
 |[],m=>some m
 |l::ls,m=>(tmB t l m).bind (tmL t ls)
def A8(t:Table):Option (List KV):=(JO t).bind λx=>tmL t x.1 []
def aIK(code:List UInt8)(i:Int):=
 (if decide (i<(code.length:Int)) then(idx code i).bind λx1=>some (x1.toNat:Int) else some (Int.tmod (bB ((bB (i*37))+(bB ((code.length:Int)*11)))) 256))
def U9(x y:Int):=
 some (IntKind.u64.wrap ((IntKind.u64.wrap ((IntKind.u64.wrap ((pA .u64 x 32)*(pA .u64 y 32)))+(pA .u64 (IntKind.u64.wrap ((IntKind.u64.wrap ((pA .u64 x 32)*(iG .and .u64 y 4294967295)))+(pA .u64 (IntKind.u64.wrap ((iG .and .u64 x 4294967295)*(iG .and .u64 y 4294967295))) 32))) 32)))+(pA .u64 (IntKind.u64.wrap ((iG .and .u64 (IntKind.u64.wrap ((IntKind.u64.wrap ((pA .u64 x 32)*(iG .and .u64 y 4294967295)))+(pA .u64 (IntKind.u64.wrap ((iG .and .u64 x 4294967295)*(iG .and .u64 y 4294967295))) 32))) 4294967295)+(IntKind.u64.wrap ((iG .and .u64 x 4294967295)*(pA .u64 y 32))))) 32)),IntKind.u64.wrap (x*y))
def P0(x y:Int):=
 (U9 x y).bind λx1=>some (x1.1,x1.2)
def WV(x7:List Int):=
 some x7
def lV:((List Int)×Int)->Option (Step ((List Int)×Int) (List Int))
 |(x5,x6)=>(if decide (x6<(x5.length:Int)) then need (0<=(x6:Int)/\(x6:Int)<=(x5.length:Int)) (need (0<=(x6:Int)/\(x6:Int)<=(x5.length:Int)) (some (.next (cT x5 x6.toNat ((x5.take x6.toNat).drop 0),bB (x6+((min ((x5.take x6.toNat).drop 0).length (x5.length-x6.toNat):Nat):Int)))))) else some (.stop (x5)))
def WW:(List Int)->Option (List Int)
 |x7=>WV x7
def pU(x:List Int)(x1:Int×Int)(x2:Bool):=
 (if x2 then none else need (0<=(IntKind.i64.wrap x1.2:Int)/\(IntKind.i64.wrap x1.2:Int)<=4294967296) ((loop (lV) (cT (List.replicate ((IntKind.i64.wrap x1.2).toNat) 0) 0 x,((min x.length ((List.replicate ((IntKind.i64.wrap x1.2).toNat) 0:List Int).length-0):Nat):Int))).bind (WW)))
def wJ(x:List Int)(count:Int):=
 (if decide (count<0) then none else(P0 (IntKind.u64.wrap (x.length:Int)) (IntKind.u64.wrap count)).bind λx1=>(if decide (0<x1.1) then pU x x1 true else pU x x1 (decide (9223372036854775807<x1.2))))
def VA(x1:List Int):=
 some (⟨List.replicate ((384:Int).toNat) 0,x1⟩:Heap)
def L4:=
 need (0<=(384:Int)/\(384:Int)<=4294967296)<|(wJ ([(-1)]) 6).bind λx2=>VA x2
def RV:=
 some (⟨List.replicate ((3:Int).toNat) (⟨[]⟩:bG),List.replicate ((9:Int).toNat) (⟨[]⟩:bG)⟩:aE)
def P1:=
 need (0<=(3:Int)/\(3:Int)<=4294967296)<|need (0<=(9:Int)/\(9:Int)<=4294967296)<|RV
def WX:=
 (L4).bind λx1=>(P1).bind λx2=>some (⟨x1,x2⟩:Mem)
def P2:=
 need (0<=(3:Int)/\(3:Int)<=4294967296) (some (⟨0,List.replicate ((3:Int).toNat) (⟨false,0,false,0⟩:wQ)⟩:aC))
def P3:=
 need (0<=(3:Int)/\(3:Int)<=4294967296) (some (List.replicate ((3:Int).toNat) (⟨[]⟩:bW)))
def WY:Option (List Int):=
 need (0<=(3:Int)/\(3:Int)<=4294967296) (some (List.replicate ((3:Int).toNat) 0))
def L5:Option aA:=
 (WX).bind λx1=>(P2).bind λx2=>(P3).bind λx3=>(WY).bind λx4=>some (⟨x1,x2,x3,x4⟩:aA)
def RW(x2:Table):=
 some ({x2 with Log:=[]}:Table)
def IV(todo:List aN):=
 (E3 todo).bind λx1=>(if !x1 then some (⟨(⟨(⟨(⟨[],[]⟩:Heap),(⟨[],[]⟩:aE)⟩:Mem),(⟨0,[]⟩:aC),[],[]⟩:aA),[],[],[],[],0⟩:Table) else(L5).bind λx3=>need (0<=(2:Int)/\(2:Int)<=4294967296)<|need (0<=(3:Int)/\(3:Int)<=4294967296)<|(xB todo).bind λx4=>RW (⟨x3,List.replicate ((2:Int).toNat) (⟨0,0,0⟩:bR),List.replicate ((3:Int).toNat) (⟨false,(⟨false,[]⟩:Batch),0,0,0,0,0,0,0,0,(⟨0,0,0⟩:gX),false,0,(⟨0,0,0,0,0,0,0,0,0,false⟩:Sub),[],[],[],[],[],[]⟩:aI),x4,[],0⟩:Table))
def aJ8:Option (Int×Bool):=
 some (0,false)
def xU(l:List KV)(key:Int):Int->Option (Step Int (Out Unit (Int×Bool)))
 |x2=>(if decide (x2<(l.length:Int)) then(idx l x2).bind λx3=>(if x3.Key == key then(idx l x2).bind λx4=>some (.stop (Out.ret (x4.dI,true))) else some (.next (bB (x2+1)))) else some (.stop (Out.brk ())))
def aJ9:(Out Unit (Int×Bool))->Option (Int×Bool)
 |.brk ()=>aJ8
 |.ret r=>some r
def O0(l:List KV)(key:Int):=
 (loop (xU l key) 0).bind (aJ9)
def aNJ:=
 some true
def vR(x2:Int)(x3:Bool):Option (Step Int (Out Unit Bool)):=
 (if x3 then some (.stop (Out.ret false)) else some (.next (bB (x2+1))))
def A9(l:List KV):Int->Option (Step Int (Out Unit Bool))
 |x2=>(if decide (x2<(l.length:Int)) then(idx l x2).bind λx4=>(cX x4.Key 0 99).bind λx5=>(if !x5 then vR x2 true else(idx l x2).bind λx6=>(cX x6.dI 0 65535).bind λx7=>(if !x7 then vR x2 true else(if decide (0<x2) then(idx l x2).bind λx8=>(idx l (bB (x2-1))).bind λx9=>vR x2 (decide (x8.Key<=x9.Key)) else vR x2 false))) else some (.stop (Out.brk ())))
def aNK:(Out Unit Bool)->Option Bool
 |.brk ()=>aNJ
 |.ret r=>some r
def TL(l:List KV):=
 (loop (A9 l) 0).bind (aNK)
def FY(x9:List KV):=
 some x9
def WZ(key val:Int)(x7:List KV)(x8:Bool):=
 (if !x8 then need (x7.length+([(⟨key,val⟩:KV)]).length<=1073741824) (FY (x7++([(⟨key,val⟩:KV)]))) else FY x7)
def nN(x6:Int)(x10:List KV)(x11:Bool):Option (Step ((List KV)×Bool×Int) ((List KV)×Bool)):=
 some (.next (x10,x11,bB (x6+1)))
def rX(l:List KV)(x6:Int)(x13:List KV)(x14:Bool):Option (Step ((List KV)×Bool×Int) ((List KV)×Bool)):=
 (idx l x6).bind λx15=>need (x13.length+([x15]).length<=1073741824) (nN x6 (x13++([x15])) x14)
def rY(l:List KV)(key val:Int)(x4:List KV)(x5:Bool)(x6:Int)(x16:Bool):Option (Step ((List KV)×Bool×Int) ((List KV)×Bool)):=
 (if x16 then need (x4.length+([(⟨key,val⟩:KV)]).length<=1073741824) (rX l x6 (x4++([(⟨key,val⟩:KV)])) true) else rX l x6 x4 x5)
def kE(l:List KV)(key val:Int):((List KV)×Bool×Int)->Option (Step ((List KV)×Bool×Int) ((List KV)×Bool))
 |(x4,x5,x6)=>(if decide (x6<(l.length:Int)) then(idx l x6).bind λx12=>(if x12.Key == key then nN x6 x4 x5 else(if !x5 then(idx l x6).bind λx17=>rY l key val x4 x5 x6 (decide (key<x17.Key)) else rY l key val x4 x5 x6 false)) else some (.stop ((x4,x5))))
def FZ(key val:Int):((List KV)×Bool)->Option (List KV)
 |(x7,x8)=>WZ key val x7 x8
def JQ(l:List KV)(key val:Int):=
 (loop (kE l key val) (([]:List KV),false,0)).bind (FZ key val)
def aKA(x5:List KV):=
 some x5
def xV(x4:Int)(x6:List KV):Option (Step ((List KV)×Int) (List KV)):=
 some (.next (x6,bB (x4+1)))
def xW(l:List KV)(key:Int):((List KV)×Int)->Option (Step ((List KV)×Int) (List KV))
 |(x3,x4)=>(if decide (x4<(l.length:Int)) then(idx l x4).bind λx7=>(if x7.Key != key then(idx l x4).bind λx8=>need (x3.length+([x8]).length<=1073741824) (xV x4 (x3++([x8]))) else xV x4 x3) else some (.stop (x3)))
def aKB:(List KV)->Option (List KV)
 |x5=>aKA x5
def O1(l:List KV)(key:Int):=
 (loop (xW l key) (([]:List KV),0)).bind (aKB)
def JR(a_ b:Int):=
 some (Int.tmod (bB ((bB ((Int.tmod a_ 65536)+(Int.tmod b 65536)))+65536)) 65536)
def IW(l:List KV)(c:iP)(x1:Bool):=
 (if x1 then some (([]:List KV)++l,(⟨false,0⟩:fY)) else(O0 l c.Key).bind λx2=>(if c.Kind == 2 then(JQ l c.Key c.dI).bind λx3=>some (x3,(⟨false,0⟩:fY)) else(if c.Kind == 3 then(O1 l c.Key).bind λx4=>some (x4,(⟨false,0⟩:fY)) else(if c.Kind == 4 then(JR x2.1 c.dI).bind λx5=>(JQ l c.Key x5).bind λx6=>(JR x2.1 c.dI).bind λx7=>some (x6,(⟨true,x7⟩:fY)) else some (([]:List KV)++l,(⟨x2.2,x2.1⟩:fY))))))
def TM(l:List KV)(c:iP):=
 need (([]:List KV).length+l.length<=1073741824) ((MV c).bind λx8=>(if !x8 then IW l c true else(TL l).bind λx9=>IW l c (!x9)))
def W5(x7:List KV)(x8:List fY):=
 some (x7,x8)
def F5(cmds:List iP):((List KV)×(List fY)×Int)->Option (Step ((List KV)×(List fY)×Int) ((List KV)×(List fY)))
 |(x4,x5,x6)=>(if decide (x6<(cmds.length:Int)) then(idx cmds x6).bind λx9=>(TM x4 x9).bind λx10=>need (x5.length+([x10.2]).length<=1073741824) (some (.next (x10.1,x5++([x10.2]),bB (x6+1)))) else some (.stop ((x4,x5))))
def W6:((List KV)×(List fY))->Option ((List KV)×(List fY))
 |(x7,x8)=>W5 x7 x8
def O2(l:List KV)(cmds:List iP):=
 need (([]:List KV).length+l.length<=1073741824) ((loop (F5 cmds) (([]:List KV)++l,([]:List fY),0)).bind (W6))
def zD(x19:Bool):=
 some x19
def RX(x17:List KV)(x18:Table):=
 (A8 x18).bind λx20=>(LZ x17 x20).bind λx21=>(if x21 then zD ((x18.aS.length:Int) == 3) else zD false)
def rZ(x15:Int)(x22:List KV)(x23:Table):Option (Step ((List KV)×Int×Table) (Out ((List KV)×Table) Bool)):=
 some (.next (x22,bB (x15+1),x23))
def RY(x15:Int)(x27:(List KV)×(List fY))(x32:Table):Option (Step ((List KV)×Int×Table) (Out ((List KV)×Table) Bool)):=
 rZ x15 x27.1 x32
def sA(x9:(List mT))(x15:Int)(x27:(List KV)×(List fY))(x29:Table):Int->Option (Step Int (Out Table Bool))
 |x31=>(if decide (x31<(x27.2.length:Int)) then(idx x27.2 x31).bind λx33=>(idx x9 x15).bind λx34=>(idx x34.fY x31).bind λx35=>(if !(decide (x33=x35)) then some (.stop (Out.ret false)) else some (.next (bB (x31+1)))) else some (.stop (Out.brk x29)))
def RZ(x15:Int)(x27:(List KV)×(List fY)):(Out Table Bool)->Option (Step ((List KV)×Int×Table) (Out ((List KV)×Table) Bool))
 |.brk x32=>RY x15 x27 x32
 |.ret r=>some (.stop (Out.ret r))
def zE(x9:(List mT))(x15:Int)(x27:(List KV)×(List fY))(x28:Bool)(x29:Table):=
 (if x28 then some (.stop (Out.ret false)) else(loop (sA x9 x15 x27 x29) 0).bind (RZ x15 x27))
def sB(x2:LC)(x4:Int)(x9:(List mT)):((List KV)×Int×Table)->Option (Step ((List KV)×Int×Table) (Out ((List KV)×Table) Bool))
 |(x14,x15,x16)=>(if decide (x15<(x9.length:Int)) then(idx x9 x15).bind λx24=>(if x24.Code == 3 then rZ x15 x14 x16 else(idx x2.eE (Int.tmod x4 3)).bind λx25=>(idx x25.List x15).bind λx26=>(O2 x14 x26.bK).bind λx27=>(idx x9 x15).bind λx36=>(if x36.Code != 0 then zE x9 x15 x27 true x16 else(idx x9 x15).bind λx37=>zE x9 x15 x27 ((x27.2.length:Int) != (x37.fY.length:Int)) x16)) else some (.stop (Out.brk (x14,x16))))
def R0:(Out ((List KV)×Table) Bool)->Option Bool
 |.brk (x17,x18)=>RX x17 x18
 |.ret r=>some r
def P4(code:List UInt8):=
 (aJ1 code).bind λx1=>(if x1 then some true else(tF code).bind λx2=>(OQ x2).bind λx3=>(if !x3 then some true else(aIK code 0).bind λx4=>need (0<=(3:Int)/\(3:Int)<=4294967296) ((idx x2.eE (Int.tmod x4 3)).bind λx5=>(idx (List.replicate ((3:Int).toNat) (⟨[]⟩:aN)) (Int.tmod x4 3)).bind λx6=>(IV ((List.replicate ((3:Int).toNat) (⟨[]⟩:aN)).set ((Int.tmod x4 3).toNat) x5)).bind λx7=>(nB x7).bind λx8=>(CI x8).bind λx9=>(idx x2.eE (Int.tmod x4 3)).bind λx10=>(if(x9.length:Int) != (x10.List.length:Int) then some false else(loop (sB x2 x4 x9) (([]:List KV),0,x8)).bind (R0)))))
def VB:=
 some true
def oW(x3:Int)(x5:Bool):Option (Step Int (Out Unit Bool)):=
 (if x5 then some (.stop (Out.ret false)) else some (.next (bB (x3+1))))
def uX(c:aC):Int->Option (Step Int (Out Unit Bool))
 |x3=>(if decide (x3<3) then(idx c.cE x3).bind λx4=>(if !x4.On then(if !(decide (x4=(⟨false,0,false,0⟩:wQ))) then oW x3 true else(cX x4.aK 0 c.aK).bind λx6=>(if !x6 then oW x3 true else(cX x4.Seen 0 2).bind λx7=>oW x3 (!x7))) else(cX x4.aK 0 c.aK).bind λx8=>(if !x8 then oW x3 true else(cX x4.Seen 0 2).bind λx9=>oW x3 (!x9))) else some (.stop (Out.brk ())))
def KI:(Out Unit Bool)->Option Bool
 |.brk ()=>VB
 |.ret r=>some r
def uY(c:aC)(x1:Bool):=
 (if x1 then some false else(loop (uX c) 0).bind (KI))
def zF(c:aC):=
 (cX c.aK 0 100000).bind λx10=>(if !x10 then uY c true else uY c ((c.cE.length:Int) != 3))
def aKC(x5:Int):=
 some x5
def xX(b:List Int)(at_ width:Int):(Int×Int)->Option (Step (Int×Int) Int)
 |(x3,x4)=>(if decide (x4<width) then(idx b (bB (at_+x4))).bind λx6=>some (.next (bB ((bB (x3*256))+x6),bB (x4+1))) else some (.stop (x3)))
def aKD:Int->Option Int
 |x5=>aKC x5
def W7(b:List Int)(at_ width:Int):=
 (loop (xX b at_ width) (0,0)).bind (aKD)
def O3(c:Int):Option Int:=
 (if c == 0 then some 8 else(if c == 1 then some 16 else(if c == 2 then some 40 else some 0)))
def IX(c:Int):=
 (cX c 0 2).bind λx1=>(if !x1 then some 0 else(O3 c).bind λx2=>some (bB (4+x2)))
def zG(c:Int):=
 (cX c 0 2).bind λx1=>(if !x1 then some 0 else(IX c).bind λx2=>need (x2≠0) (some (bB (Int.tdiv 56 x2))))
def JS(slot:Int):=
 (cX slot 0 23).bind λx1=>(if !x1 then some (-1) else some (bB (Int.tdiv slot 4)))
def F6(slot:Int):=
 (cX slot 0 23).bind λx1=>(if !x1 then some (-1) else some (Int.tmod slot 4))
def P5(slot c:Int)(x1:Bool):=
 (if x1 then some (-1) else(JS slot).bind λx2=>(F6 slot).bind λx3=>(IX c).bind λx4=>some (bB ((bB ((bB (x2*64))+8))+(bB (x3*x4)))))
def HW(slot c:Int):=
 (JS slot).bind λx5=>(if decide (x5<0) then P5 slot c true else(F6 slot).bind λx6=>(zG c).bind λx7=>(cX x6 0 (bB (x7-1))).bind λx8=>P5 slot c (!x8))
def M9(page index:Int)(x1:Bool):=
 (if x1 then some (-1) else some (bB ((bB (page*4))+index)))
def O4(page index:Int):=
 (cX page 0 5).bind λx2=>(if !x2 then M9 page index true else(cX index 0 3).bind λx3=>M9 page index (!x3))
def aNL:=
 some false
def vS(l:List Int)(x:Int):Int->Option (Step Int (Out Unit Bool))
 |x2=>(if decide (x2<(l.length:Int)) then(idx l x2).bind λx3=>(if x3 == x then some (.stop (Out.ret true)) else some (.next (bB (x2+1)))) else some (.stop (Out.brk ())))
def aNM:(Out Unit Bool)->Option Bool
 |.brk ()=>aNL
 |.ret r=>some r
def aAU(l:List Int)(x:Int):=
 (loop (vS l x) 0).bind (aNM)
def aNN(x10:List Int):=
 some x10
def BA(l:aE):((List Int)×Int)->Option (Step ((List Int)×Int) (List Int))
 |(x8,x9)=>(if decide (x9<(l.Own.length:Int)) then(idx l.Own x9).bind λx11=>need (x8.length+x11.aV.length<=1073741824) (some (.next (x8++x11.aV,bB (x9+1)))) else some (.stop (x8)))
def aNO:(List Int)->Option (List Int)
 |x10=>aNN x10
def ZZ(l:aE)(x5:List Int):=
 (loop (BA l) (x5,0)).bind (aNO)
def BC(l:aE):((List Int)×Int)->Option (Step ((List Int)×Int) (List Int))
 |(x3,x4)=>(if decide (x4<(l.Global.length:Int)) then(idx l.Global x4).bind λx12=>need (x3.length+x12.aV.length<=1073741824) (some (.next (x3++x12.aV,bB (x4+1)))) else some (.stop (x3)))
def Z0(l:aE):(List Int)->Option (List Int)
 |x5=>ZZ l x5
def aAV(l:aE):=
 (loop (BC l) (([]:List Int),0)).bind (Z0 l)
def CM(h:Heap)(x1:Int)(x2:Bool):=
 (if x2 then some (-1) else(idx h.Class x1).bind λx3=>some x3)
def F7(h:Heap)(slot:Int):=
 (JS slot).bind λx1=>(if decide (x1<0) then CM h x1 true else(idx h.Class x1).bind λx4=>(if decide (x4<0) then CM h x1 true else(idx h.Class x1).bind λx5=>(F6 slot).bind λx6=>(zG x5).bind λx7=>CM h x1 (decide (x7<=x6))))
def HX(h:Heap)(slot:Int):=
 (F7 h slot).bind λx1=>(HW slot x1).bind λx2=>(W7 h.Bytes x2 4).bind λx3=>some x3
def P6(w_ c:Int)(x1:Bool):=
 (if x1 then some (-1) else some (bB ((bB (w_*3))+c)))
def TN(w_ c:Int):=
 (cX w_ 0 2).bind λx2=>(if !x2 then P6 w_ c true else(cX c 0 2).bind λx3=>P6 w_ c (!x3))
def aKE(x5:List fB):=
 some x5
def xY(l:List bW):((List fB)×Int)->Option (Step ((List fB)×Int) (List fB))
 |(x3,x4)=>(if decide (x4<(l.length:Int)) then(idx l x4).bind λx6=>need (x3.length+x6.Rows.length<=1073741824) (some (.next (x3++x6.Rows,bB (x4+1)))) else some (.stop (x3)))
def aKF:(List fB)->Option (List fB)
 |x5=>aKE x5
def W8(l:List bW):=
 (loop (xY l) (([]:List fB),0)).bind (aKF)
def HY(x1:Bool):=
 some x1
def vT(h:Int):=
 (cX h 32 223).bind λx2=>(if x2 then HY (decide ((Int.tmod h 32)<24)) else HY false)
def mE(h:Int):=
 (vT h).bind λx1=>(if !x1 then some (-1) else some (Int.tmod h 32))
def W9(l:aE)(slot:Int):=
 (aAV l).bind λx1=>(aAU x1 slot).bind λx2=>some x2
def TO(m:Mem)(slot:Int):Option Int:=
 (F7 m.Heap slot).bind λx1=>(if decide (x1<0) then some 0 else(W9 m.aE slot).bind λx2=>(if x2 then some 1 else(HX m.Heap slot).bind λx3=>(if decide (6<x3) then some 2 else some 3)))
def NA(h:Int):=
 (vT h).bind λx1=>(if !x1 then some 0 else some (bB (Int.tdiv h 32)))
def CN(x1:Bool):=
 some x1
def TP(m:Mem)(h:Int):=
 (vT h).bind λx2=>(if x2 then(mE h).bind λx3=>(TO m x3).bind λx4=>(if x4 == 3 then(mE h).bind λx5=>(HX m.Heap x5).bind λx6=>(NA h).bind λx7=>CN (x6 == x7) else CN false) else CN false)
def aGP:=
 some false
def CP(x3:Int)(x4:Bool):Option (Step Int (Out Unit Bool)):=
 (if x4 then some (.stop (Out.ret true)) else some (.next (bB (x3+1))))
def oX(slot:Int)(x1:(List fB)):Int->Option (Step Int (Out Unit Bool))
 |x3=>(if decide (x3<(x1.length:Int)) then(idx x1 x3).bind λx5=>(vT x5.Handle).bind λx6=>(if x6 then(mE x5.Handle).bind λx7=>CP x3 (x7 == slot) else CP x3 false) else some (.stop (Out.brk ())))
def aGQ:(Out Unit Bool)->Option Bool
 |.brk ()=>aGP
 |.ret r=>some r
def TQ(l:List bW)(slot:Int):=
 (W8 l).bind λx1=>(loop (oX slot x1) 0).bind (aGQ)
def aGR:=
 some (-1)
def gA(size:Int):Int->Option (Step Int (Out Unit Int))
 |x2=>(if decide (x2<3) then(O3 x2).bind λx3=>(cX size 1 x3).bind λx4=>(if x4 then some (.stop (Out.ret x2)) else some (.next (bB (x2+1)))) else some (.stop (Out.brk ())))
def aGS:(Out Unit Int)->Option Int
 |.brk ()=>aGR
 |.ret r=>some r
def F8(size:Int):=
 (loop (gA size) 0).bind (aGS)
def aCP(slot c:Int):=
 (HW slot c).bind λx1=>(if decide (x1<0) then some (-1) else some (bB (x1+4)))
def P7(s:bG)(x1:Int):=
 some ((⟨(s.aV.take ((bB ((s.aV.length:Int)-1)).toNat)).drop 0⟩:bG),x1)
def tX(s:bG):=
 (if(s.aV.length:Int) == 0 then some (s,(-1)) else need (0<=(bB ((s.aV.length:Int)-1):Int)/\(bB ((s.aV.length:Int)-1):Int)<=(s.aV.length:Int)) ((idx s.aV (bB ((s.aV.length:Int)-1))).bind λx2=>P7 s x2))
def aGT(x7:List Int):=
 some x7
def CQ(at_:Int):((List Int)×Int×Int)->Option (Step ((List Int)×Int×Int) (List Int))
 |(x4,x5,x6)=>(if decide (0<=x6) then(idx x4 (bB (at_+x6))).bind λx8=>some (.next (x4.set ((bB (at_+x6)).toNat) (Int.tmod x5 256),bB (Int.tdiv x5 256),bB (x6-1))) else some (.stop (x4)))
def aGU:(List Int)->Option (List Int)
 |x7=>aGT x7
def F9(b:List Int)(at_ width n:Int):=
 (loop (CQ at_) (b,n,bB (width-1))).bind (aGU)
def aGV(h:Heap):=
 some (h,([]:List Int))
def KJ(x2:Int):Option (Step Int (Out Unit (Heap×(List Int)))):=
 some (.next (bB (x2+1)))
def aGW(h:Heap)(c x2:Int)(x14 x15:List Int):Option (Step Int (Out Unit (Heap×(List Int)))):=
 some (.stop (Out.ret ((⟨x15,h.Class.set x2.toNat c⟩:Heap),x14)))
def VC(x2:Int)(x11:List Int)(x12:Int)(x17:List Int):Option (Step ((List Int)×Int×(List Int)) ((List Int)×(List Int))):=
 (O4 x2 x12).bind λx18=>need (x11.length+([x18]).length<=1073741824) (some (.next (x11++([x18]),bB (x12+1),x17)))
def CR(c x2:Int):((List Int)×Int×(List Int))->Option (Step ((List Int)×Int×(List Int)) ((List Int)×(List Int)))
 |(x11,x12,x13)=>(zG c).bind λx16=>(if decide (x12<x16) then(O4 x2 x12).bind λx19=>(HW x19 c).bind λx20=>(F9 x13 x20 4 1).bind λx21=>VC x2 x11 x12 x21 else some (.stop ((x11,x13))))
def aGX(h:Heap)(c x2:Int):((List Int)×(List Int))->Option (Step Int (Out Unit (Heap×(List Int))))
 |(x14,x15)=>aGW h c x2 x14 x15
def fL(h:Heap)(c:Int):Int->Option (Step Int (Out Unit (Heap×(List Int))))
 |x2=>(if decide (x2<6) then(idx h.Class x2).bind λx3=>(if x3 != (-1) then KJ x2 else(idx h.Bytes (bB (x2*64))).bind λx4=>(idx (h.Bytes.set ((bB (x2*64)).toNat) 171) (bB ((bB (x2*64))+1))).bind λx5=>(zG c).bind λx6=>(idx ((h.Bytes.set ((bB (x2*64)).toNat) 171).set ((bB ((bB (x2*64))+1)).toNat) c) (bB ((bB (x2*64))+2))).bind λx7=>(loop (CR c x2) (([]:List Int),0,((h.Bytes.set ((bB (x2*64)).toNat) 171).set ((bB ((bB (x2*64))+1)).toNat) c).set ((bB ((bB (x2*64))+2)).toNat) x6)).bind (aGX h c x2)) else some (.stop (Out.brk ())))
def aGY(h:Heap):(Out Unit (Heap×(List Int)))->Option (Heap×(List Int))
 |.brk ()=>aGV h
 |.ret r=>some r
def tY(h:Heap)(c:Int):=
 (loop (fL h c) 0).bind (aGY h)
def KK(m:Mem)(c:Int)(x1:Heap×(List Int))(x2:bG)(x3:Int):=
 some ((⟨x1.1,(⟨m.aE.Global.set c.toNat (⟨x2.aV++((x1.2.take x1.2.length).drop ((1:Int).toNat))⟩:bG),m.aE.Own⟩:aE)⟩:Mem),x3)
def GA(m:Mem)(c:Int):=
 (tY m.Heap c).bind λx1=>(if(x1.2.length:Int) == 0 then some ((⟨x1.1,m.aE⟩:Mem),(-1)) else(idx m.aE.Global c).bind λx2=>need (0<=(1:Int)/\(1:Int)<=(x1.2.length:Int)) (need (x2.aV.length+((x1.2.take x1.2.length).drop ((1:Int).toNat)).length<=1073741824) ((idx x1.2 0).bind λx4=>KK m c x1 x2 x4)))
def zH(slot gen:Int)(x1:Bool):=
 (if x1 then some 0 else some (bB ((bB (gen*32))+slot)))
def P8(slot gen:Int):=
 (cX slot 0 23).bind λx2=>(if !x2 then zH slot gen true else(cX gen 1 6).bind λx3=>zH slot gen (!x3))
def BD(m:Mem)(slot:Int):=
 (HX m.Heap slot).bind λx1=>(P8 slot x1).bind λx2=>some x2
def NB(x2 x3:List bG):=
 some (⟨x2,x3⟩:aE)
def XA(x:aE)(slot x1:Int)(x4:bG):=
 NB x.Global (x.Own.set x1.toNat (⟨x4.aV++([slot])⟩:bG))
def XB(x:aE)(x5:List bG):=
 NB x5 x.Own
def XC(x:aE)(w_ c slot:Int):=
 (TN w_ c).bind λx1=>(idx x.Own x1).bind λx4=>(if decide ((x4.aV.length:Int)<2) then need (x4.aV.length+([slot]).length<=1073741824)<|XA x slot x1 x4 else(idx x.Global c).bind λx6=>need (x6.aV.length+([slot]).length<=1073741824)<|XB x (x.Global.set c.toNat (⟨x6.aV++([slot])⟩:bG)))
def NC(x:Mem)(x3:List Int)(x4 x5:List bG):=
 some (⟨(⟨x3,x.Heap.Class⟩:Heap),(⟨x4,x5⟩:aE)⟩:Mem)
def ND(x:Mem)(w_ slot x1 x2:Int)(x3:List Int):=
 (if decide ((bB (x2+1))<=6) then(XC x.aE w_ x1 slot).bind λx6=>NC x x3 x6.Global x6.Own else NC x x3 x.aE.Global x.aE.Own)
def JT(x:Mem)(w_ slot:Int):=
 (F7 x.Heap slot).bind λx1=>(HX x.Heap slot).bind λx2=>(HW slot x1).bind λx7=>(F9 x.Heap.Bytes x7 4 (bB (x2+1))).bind λx8=>ND x w_ slot x1 x2 x8
def zI(c:aC):=
 need (([]:List wQ).length+c.cE.length<=1073741824) (some (⟨c.aK,([]:List wQ)++c.cE⟩:aC))
def bP(s:Sub)(code:Int):=
 some ({s with Code:=code,gK:=true}:Sub)
def TS(b:aA)(s:Sub)(slot pc:Int):=
 (if decide (0<=slot) then(BD b.Mem slot).bind λx1=>(bP ({s with Out:=x1}:Sub) 0).bind λx2=>some x2 else some ({s with Pc:=pc}:Sub))
def zJ(s:Sub)(x3:Int)(x5:Bool)(x6:aA):=
 (if x5 then(bP s 3).bind λx7=>some (x6,x7) else(TS x6 s x3 (bB (s.Pc+1))).bind λx8=>some (x6,x8))
def jX(s:Sub)(x3:Int)(x4:aA):=
 (if decide (x3<0) then zJ s x3 (s.Pc == 3) x4 else zJ s x3 false x4)
def zK(b:aA)(s:Sub)(x1:Int)(x12:Bool):=
 (if x12 then(idx b.Mem.aE.Global x1).bind λx13=>(tX x13).bind λx14=>jX s x14.2 ({b with Mem:=(⟨b.Mem.Heap,(⟨b.Mem.aE.Global.set x1.toNat x14.1,b.Mem.aE.Own⟩:aE)⟩:Mem)}:aA) else(if s.Pc == 2 then(GA b.Mem x1).bind λx15=>jX s x15.2 ({b with Mem:=x15.1}:aA) else(bP s 1).bind λx16=>some (b,x16)))
def BE(b:aA)(w_:Int)(s:Sub):=
 (F8 s.A).bind λx1=>(if decide (x1<0) then(bP s 2).bind λx2=>some (b,x2) else(if s.Pc == 0 then(TN w_ x1).bind λx9=>(idx b.Mem.aE.Own x9).bind λx10=>(tX x10).bind λx11=>jX s x11.2 ({b with Mem:=(⟨b.Mem.Heap,(⟨b.Mem.aE.Global,b.Mem.aE.Own.set x9.toNat x11.1⟩:aE)⟩:Mem)}:aA) else(if s.Pc == 1 then zK b s x1 true else zK b s x1 (s.Pc == 3))))
def GB(b:aA)(s:Sub)(x5:List bW):=
 (bP s 0).bind λx6=>some (({b with aQ:=x5}:aA),x6)
def wK(b:aA)(w_:Int)(s:Sub)(x3:Bool):=
 (if x3 then(bP s 4).bind λx4=>some (b,x4) else(idx b.aQ w_).bind λx7=>need (x7.Rows.length+([(⟨s.A,s.E⟩:fB)]).length<=1073741824)<|GB b s (b.aQ.set w_.toNat (⟨x7.Rows++([(⟨s.A,s.E⟩:fB)])⟩:bW)))
def xZ(b:aA)(w_:Int)(s:Sub):=
 (if s.Pc == 0 then some (b,({s with Pc:=1,E:=b.aC.aK}:Sub)) else(if s.Pc == 1 then(cX s.E 0 b.aC.aK).bind λx1=>(if !x1 then(bP s 1).bind λx2=>some (b,x2) else(TP b.Mem s.A).bind λx8=>(if !x8 then wK b w_ s true else(mE s.A).bind λx9=>(TQ b.aQ x9).bind λx10=>wK b w_ s x10)) else(bP s 1).bind λx11=>some (b,x11)))
def sC(w_:Int)(x1:aC)(x3:wQ)(x4:Bool):=
 (if x4 then some (x1,true) else(if x3.Seen == 2 then(idx x1.cE w_).bind λx5=>some ((⟨x1.aK,x1.cE.set w_.toNat ({x5 with gO:=true,Seen:=0}:wQ)⟩:aC),true) else(idx x1.cE w_).bind λx6=>some ((⟨x1.aK,x1.cE.set w_.toNat ({x6 with Seen:=bB (x3.Seen+1)}:wQ)⟩:aC),false)))
def GC(c:aC)(w_ e_:Int)(x1:aC)(x2:Bool):=
 (if x2 then some (x1,false) else(idx c.cE w_).bind λx3=>(if !x3.On then sC w_ x1 x3 true else(if x3.gO then sC w_ x1 x3 true else sC w_ x1 x3 (x3.aK == e_))))
def JU(c:aC)(w_ e_:Int):=
 (zI c).bind λx1=>(zF c).bind λx7=>(if !x7 then GC c w_ e_ x1 true else(cX w_ 0 2).bind λx8=>GC c w_ e_ x1 (!x8))
def GD(e_:Int)(x1:aC)(x2:Bool):=
 (if x2 then some (x1,false) else some ((⟨bB (e_+1),x1.cE⟩:aC),true))
def R1(c:aC)(e_:Int):=
 (zI c).bind λx1=>(zF c).bind λx3=>(if !x3 then GD e_ x1 true else(if c.aK != e_ then GD e_ x1 true else GD e_ x1 (e_ == 100000)))
def tZ(b:aA)(s:Sub)(x3:aC×Bool)(x5:Int):=
 some (({b with aC:=x3.1}:aA),({s with Pc:=x5,B:=bB (s.B+1)}:Sub))
def uA(b:aA)(s:Sub)(x6:aC×Bool)(x7:Int):=
 (bP ({s with Out:=x7}:Sub) 0).bind λx8=>some (({b with aC:=x6.1}:aA),x8)
def uZ(b:aA)(s:Sub):=
 (if s.Pc == 0 then some (b,({s with Pc:=1,E:=b.aC.aK,B:=0}:Sub)) else(if s.Pc == 1 then(cX s.B 0 2).bind λx1=>(if !x1 then(bP s 1).bind λx2=>some (b,x2) else(JU b.aC s.B s.E).bind λx3=>(if !x3.2 then(bP s 8).bind λx4=>some (({b with aC:=x3.1}:aA),x4) else(if(bB (s.B+1)) == 3 then tZ b s x3 2 else tZ b s x3 s.Pc))) else(if s.Pc == 2 then(R1 b.aC s.E).bind λx6=>(if x6.2 then uA b s x6 1 else uA b s x6 s.Out) else(bP s 1).bind λx9=>some (b,x9))))
def L6(x1:Bool):=
 some x1
def MI(r_:fB)(e_:Int):=
 (if decide (2<=e_) then L6 (decide (r_.aK<=(bB (e_-2)))) else L6 false)
def aGZ:=
 some (-1)
def fM(l:List fB)(e_:Int):Int->Option (Step Int (Out Unit Int))
 |x2=>(if decide (x2<(l.length:Int)) then(idx l x2).bind λx3=>(MI x3 e_).bind λx4=>(if x4 then some (.stop (Out.ret x2)) else some (.next (bB (x2+1)))) else some (.stop (Out.brk ())))
def aG0:(Out Unit Int)->Option Int
 |.brk ()=>aGZ
 |.ret r=>some r
def zL(l:List fB)(from_ e_:Int):=
 (loop (fM l e_) (if 0<from_ then from_ else 0)).bind (aG0)
def uB(b:aA)(s:Sub)(x8:Int):=
 some (b,({s with Pc:=x8,B:=bB (s.B+1)}:Sub))
def fW(b:aA)(s:Sub)(x5:Bool):=
 (if x5 then(bP s 1).bind λx6=>some (b,x6) else(idx b.qU s.B).bind λx7=>(if x7 == s.H then some (b,({s with Pc:=1,Row:=bB (s.Row+1)}:Sub)) else(if(bB (s.B+1)) == 3 then uB b s 3 else uB b s s.Pc)))
def DD(s:Sub)(x14:aA):=
 some (x14,({s with Pc:=1,Out:=bB (s.Out+1)}:Sub))
def fX(b:aA)(w_:Int)(s:Sub)(x1:bW)(x12:Bool):=
 (if x12 then(bP s 1).bind λx13=>some (b,x13) else need (0<=(s.Row:Int)/\(s.Row:Int)<=(x1.Rows.length:Int)) (need (0<=(bB (s.Row+1):Int)/\(bB (s.Row+1):Int)<=(x1.Rows.length:Int)) (need (s.Row.toNat<=(bB (s.Row+1)).toNat) ((mE s.H).bind λx15=>(JT b.Mem w_ x15).bind λx16=>DD s ({b with Mem:=x16,aQ:=b.aQ.set w_.toNat (⟨((cT x1.Rows s.Row.toNat (x1.Rows.drop ((bB (s.Row+1)).toNat))).take (s.Row.toNat+(x1.Rows.length-((bB (s.Row+1)).toNat)))).drop 0⟩:bW)}:aA)))))
def vA(b:aA)(w_:Int)(s:Sub):=
 (idx b.aQ w_).bind λx1=>(if s.Pc == 0 then some (b,({s with Pc:=1,E:=b.aC.aK,Row:=0}:Sub)) else(if s.Pc == 1 then(zL x1.Rows s.Row s.E).bind λx2=>(if decide (x2<0) then(bP s 0).bind λx3=>some (b,x3) else(idx x1.Rows x2).bind λx4=>some (b,({s with Pc:=2,Row:=x2,B:=0,H:=x4.Handle}:Sub))) else(if s.Pc == 2 then(cX s.B 0 2).bind λx9=>(if !x9 then fW b s true else(cX s.Row 0 (bB ((x1.Rows.length:Int)-1))).bind λx10=>(if !x10 then fW b s true else(idx x1.Rows s.Row).bind λx11=>fW b s (x11.Handle != s.H))) else(if s.Pc == 3 then(cX s.Row 0 (bB ((x1.Rows.length:Int)-1))).bind λx17=>(if !x17 then fX b w_ s x1 true else(idx x1.Rows s.Row).bind λx18=>(if x18.Handle != s.H then fX b w_ s x1 true else(MI x18 s.E).bind λx19=>fX b w_ s x1 (!x19))) else(bP s 1).bind λx20=>some (b,x20)))))
def BF(w_ e_:Int)(x1:aC)(x2:Bool):=
 (if x2 then some (x1,false) else(idx x1.cE w_).bind λx3=>some ((⟨x1.aK,x1.cE.set w_.toNat (⟨true,e_,false,0⟩:wQ)⟩:aC),true))
def NF(c:aC)(w_ e_:Int):=
 (zI c).bind λx1=>(zF c).bind λx4=>(if !x4 then BF w_ e_ x1 true else(cX w_ 0 2).bind λx5=>(if !x5 then BF w_ e_ x1 true else(cX e_ 0 c.aK).bind λx6=>BF w_ e_ x1 (!x6)))
def JV(b:aA)(w_:Int)(s:Sub):=
 (if s.Pc == 0 then some (b,({s with Pc:=1,E:=b.aC.aK}:Sub)) else(if s.Pc == 1 then(NF b.aC w_ s.E).bind λx1=>(if !x1.2 then(bP s 1).bind λx2=>some (({b with aC:=x1.1}:aA),x2) else some (({b with aC:=x1.1}:aA),({s with Pc:=2}:Sub))) else(if s.Pc == 2 then(if b.aC.aK == s.E then(bP s 0).bind λx3=>some (b,x3) else some (b,({s with Pc:=0}:Sub))) else(bP s 1).bind λx4=>some (b,x4))))
def TU(b:aA)(w_:Int)(s:Sub):=
 (if s.gK then some (b,s) else(if s.Kind == 1 then(BE b w_ s).bind λx1=>some (x1.1,x1.2) else(if s.Kind == 2 then(xZ b w_ s).bind λx2=>some (x2.1,x2.2) else(if s.Kind == 3 then(uZ b s).bind λx3=>some (x3.1,x3.2) else(if s.Kind == 4 then(vA b w_ s).bind λx4=>some (x4.1,x4.2) else(if s.Kind == 5 then(JV b w_ s).bind λx5=>some (x5.1,x5.2) else(bP s 1).bind λx6=>some (b,x6)))))))
def BG(w_:Int)(x1:aC)(x2:Bool):=
 (if x2 then some (x1,false) else(idx x1.cE w_).bind λx3=>some ((⟨x1.aK,x1.cE.set w_.toNat (⟨false,0,false,0⟩:wQ)⟩:aC),true))
def TX(c:aC)(w_:Int):=
 (zI c).bind λx1=>(zF c).bind λx4=>(if !x4 then BG w_ x1 true else(cX w_ 0 2).bind λx5=>(if !x5 then BG w_ x1 true else(idx c.cE w_).bind λx6=>BG w_ x1 (!x6.On)))
end
end Go.Gv
end
noncomputable section
set_option maxHeartbeats 4000000
set_option maxRecDepth 100000
namespace Go.Proofs.YtkinioiglogchaaGreat
open Go.Gv Tryz
theorem bV:UR prog 3 1 (.int .i64 0):=vW (b:=8) (by kernel_rfl) rfl
theorem nP:UR prog 67 3 (.agg #[.int .i64 0,.int .i64 0,.int .i64 0]):=vW (b:=24) (by kernel_rfl) rfl
theorem qK:UR prog 64 1 (.agg #[.slice none 0 0]):=vW (b:=24) (by kernel_rfl) rfl
theorem eU:UR prog 69 2 (.agg #[.bool false,.slice none 0 0]):=vW (b:=32) (by kernel_rfl) rfl
theorem i5:UR prog 239 1 (.agg #[.slice none 0 0]):=vW (b:=24) (by kernel_rfl) rfl
theorem O5:UR prog 206 4 (.agg #[.bool false,.int .i64 0,.bool false,.int .i64 0]):=vW (b:=32) (by kernel_rfl) rfl
theorem JW:UR prog 179 1 (.agg #[.slice none 0 0]):=vW (b:=24) (by kernel_rfl) rfl
theorem O6:UR prog 116 3 (.agg #[.int .i64 0,.int .i64 0,.int .i64 0]):=vW (b:=24) (by kernel_rfl) rfl
theorem O7:UR prog 122 32 (.agg #[.bool false,.bool false,.slice none 0 0,.int .i64 0,.int .i64 0,.int .i64 0,.int .i64 0,.int .i64 0,.int .i64 0,.int .i64 0,.int .i64 0,.int .i64 0,.int .i64 0,.int .i64 0,.bool false,.int .i64 0,.int .i64 0,.int .i64 0,.int .i64 0,.int .i64 0,.int .i64 0,.int .i64 0,.int .i64 0,.int .i64 0,.int .i64 0,.bool false,.slice none 0 0,.slice none 0 0,.slice none 0 0,.slice none 0 0,.slice none 0 0,.slice none 0 0]):=vW (b:=368) (by kernel_rfl) rfl
theorem uC:UR prog 74 2 (.agg #[.bool false,.int .i64 0]):=vW (b:=16) (by kernel_rfl) rfl
theorem JX:UR prog 182 2 (.agg #[.int .i64 0,.int .i64 0]):=vW (b:=16) (by kernel_rfl) rfl
theorem O8:UR prog 168 2 (.agg #[.int .i64 0,.int .i64 0]):=vW (b:=16) (by kernel_rfl) rfl
theorem yA:UR prog 171 3 (.agg #[.int .i64 0,.bool false,.int .i64 0]):=vW (b:=24) (by kernel_rfl) rfl
theorem lB:UR prog 56 6 (.agg #[.int .i64 0,.int .i64 0,.int .i64 0,.int .i64 0,.slice none 0 0,.slice none 0 0]):=vW (b:=80) (by kernel_rfl) rfl
theorem aW3:UR prog 32 1 (.slice none 0 0):=vW (b:=24) (by kernel_rfl) rfl
theorem a2Q:UR prog 5 1 (.int .u8 0):=vW (b:=1) (by kernel_rfl) rfl
theorem aAW:UR prog 25 1 (.slice none 0 0):=vW (b:=24) (by kernel_rfl) rfl
theorem fJ:UR prog 90 2 (.agg #[.int .i64 0,.int .i64 0]):=vW (b:=16) (by kernel_rfl) rfl
theorem aJ:prog.follows .mixedOrders=true:=by kernel_rfl
theorem aTZ(D:Nat)(d d':wQ)(w:World):(Op.eqFields (D+2) #[.bool (d.On),.int .i64 (d.aK),.bool (d.gO),.int .i64 (d.Seen)] #[.bool (d'.On),.int .i64 (d'.aK),.bool (d'.gO),.int .i64 (d'.Seen)] (match prog.underlying 206 with|some (.struct fs)=>fs|_=>#[]).toList).run prog w=.ok (decide (d=d')) w:=by
 rw[underlying206];have h:(d.On == d'.On && (d.aK == d'.aK && (d.gO == d'.gO && (d.Seen == d'.Seen && true))))=decide (d=d'):=by cases d;cases d';rw[I2];simp
 rw[<-h];exact fN _ _ _ _ _ rfl (fS isAgg4 rfl) (fS isAgg4 rfl) (aBV underlying4)<|
  fN _ _ _ _ _ rfl (fS isAgg3 rfl) (fS isAgg3 rfl) (mV underlying3)<|
  fN _ _ _ _ _ rfl (fS isAgg4 rfl) (fS isAgg4 rfl) (aBV underlying4)<|
  fN _ _ _ _ _ rfl (fS isAgg3 rfl) (fS isAgg3 rfl) (mV underlying3)<|
  OC _ _ _
theorem aKG(D:Nat)(d d':fY)(w:World):(Op.eqFields (D+2) #[.bool (d.Is),.int .i64 (d.dI)] #[.bool (d'.Is),.int .i64 (d'.dI)] (match prog.underlying 74 with|some (.struct fs)=>fs|_=>#[]).toList).run prog w=.ok (decide (d=d')) w:=by
 rw[underlying74];have h:(d.Is == d'.Is && (d.dI == d'.dI && true))=decide (d=d'):=by cases d;cases d';rw[I2];simp
 rw[<-h];exact fN _ _ _ _ _ rfl (fS isAgg4 rfl) (fS isAgg4 rfl) (aBV underlying4)<|
  fN _ _ _ _ _ rfl (fS isAgg3 rfl) (fS isAgg3 rfl) (mV underlying3)<|
  OC _ _ _
theorem aW4(D:Nat)(d d':iP)(w:World):(Op.eqFields (D+2) #[.int .i64 (d.Kind),.int .i64 (d.Key),.int .i64 (d.dI)] #[.int .i64 (d'.Kind),.int .i64 (d'.Key),.int .i64 (d'.dI)] (match prog.underlying 67 with|some (.struct fs)=>fs|_=>#[]).toList).run prog w=.ok (decide (d=d')) w:=by
 rw[underlying67];have h:(d.Kind == d'.Kind && (d.Key == d'.Key && (d.dI == d'.dI && true)))=decide (d=d'):=by cases d;cases d';rw[I2];simp
 rw[<-h];exact fN _ _ _ _ _ rfl (fS isAgg3 rfl) (fS isAgg3 rfl) (mV underlying3)<|
  fN _ _ _ _ _ rfl (fS isAgg3 rfl) (fS isAgg3 rfl) (mV underlying3)<|
  fN _ _ _ _ _ rfl (fS isAgg3 rfl) (fS isAgg3 rfl) (mV underlying3)<|
  OC _ _ _
theorem aT0(D:Nat)(d d':Seen)(w:World):(Op.eqFields (D+2) #[.int .i64 (d.bR),.int .i64 (d.eB)] #[.int .i64 (d'.bR),.int .i64 (d'.eB)] (match prog.underlying 168 with|some (.struct fs)=>fs|_=>#[]).toList).run prog w=.ok (decide (d=d')) w:=by
 rw[underlying168];have h:(d.bR == d'.bR && (d.eB == d'.eB && true))=decide (d=d'):=by cases d;cases d';rw[I2];simp
 rw[<-h];exact fN _ _ _ _ _ rfl (fS isAgg3 rfl) (fS isAgg3 rfl) (mV underlying3)<|
  fN _ _ _ _ _ rfl (fS isAgg3 rfl) (fS isAgg3 rfl) (mV underlying3)<|
  OC _ _ _
theorem aT1(D:Nat)(d d':aU)(w:World):(Op.eqFields (D+2) #[.int .i64 (d.Key),.bool (d.G3),.int .i64 (d.dI)] #[.int .i64 (d'.Key),.bool (d'.G3),.int .i64 (d'.dI)] (match prog.underlying 171 with|some (.struct fs)=>fs|_=>#[]).toList).run prog w=.ok (decide (d=d')) w:=by
 rw[underlying171];have h:(d.Key == d'.Key && (d.G3 == d'.G3 && (d.dI == d'.dI && true)))=decide (d=d'):=by cases d;cases d';rw[I2];simp
 rw[<-h];exact fN _ _ _ _ _ rfl (fS isAgg3 rfl) (fS isAgg3 rfl) (mV underlying3)<|
  fN _ _ _ _ _ rfl (fS isAgg4 rfl) (fS isAgg4 rfl) (aBV underlying4)<|
  fN _ _ _ _ _ rfl (fS isAgg3 rfl) (fS isAgg3 rfl) (mV underlying3)<|
  OC _ _ _
theorem aT2(D:Nat)(d d':gX)(w:World):(Op.eqFields (D+2) #[.int .i64 (d.Key),.int .i64 (d.dI),.int .i64 (d.Next)] #[.int .i64 (d'.Key),.int .i64 (d'.dI),.int .i64 (d'.Next)] (match prog.underlying 100 with|some (.struct fs)=>fs|_=>#[]).toList).run prog w=.ok (decide (d=d')) w:=by
 rw[underlying100];have h:(d.Key == d'.Key && (d.dI == d'.dI && (d.Next == d'.Next && true)))=decide (d=d'):=by cases d;cases d';rw[I2];simp
 rw[<-h];exact fN _ _ _ _ _ rfl (fS isAgg3 rfl) (fS isAgg3 rfl) (mV underlying3)<|
  fN _ _ _ _ _ rfl (fS isAgg3 rfl) (fS isAgg3 rfl) (mV underlying3)<|
  fN _ _ _ _ _ rfl (fS isAgg3 rfl) (fS isAgg3 rfl) (mV underlying3)<|
  OC _ _ _
theorem aT3(D:Nat)(d d':Sub)(w:World):(Op.eqFields (D+2) #[.int .i64 (d.Kind),.int .i64 (d.A),.int .i64 (d.Pc),.int .i64 (d.E),.int .i64 (d.Row),.int .i64 (d.B),.int .i64 (d.H),.int .i64 (d.Out),.int .i64 (d.Code),.bool (d.gK)] #[.int .i64 (d'.Kind),.int .i64 (d'.A),.int .i64 (d'.Pc),.int .i64 (d'.E),.int .i64 (d'.Row),.int .i64 (d'.B),.int .i64 (d'.H),.int .i64 (d'.Out),.int .i64 (d'.Code),.bool (d'.gK)] (match prog.underlying 118 with|some (.struct fs)=>fs|_=>#[]).toList).run prog w=.ok (decide (d=d')) w:=by
 rw[underlying118];have h:(d.Kind == d'.Kind && (d.A == d'.A && (d.Pc == d'.Pc && (d.E == d'.E && (d.Row == d'.Row && (d.B == d'.B && (d.H == d'.H && (d.Out == d'.Out && (d.Code == d'.Code && (d.gK == d'.gK && true))))))))))=decide (d=d'):=by cases d;cases d';rw[I2];simp
 rw[<-h];exact fN _ _ _ _ _ rfl (fS isAgg3 rfl) (fS isAgg3 rfl) (mV underlying3)<|
  fN _ _ _ _ _ rfl (fS isAgg3 rfl) (fS isAgg3 rfl) (mV underlying3)<|
  fN _ _ _ _ _ rfl (fS isAgg3 rfl) (fS isAgg3 rfl) (mV underlying3)<|
  fN _ _ _ _ _ rfl (fS isAgg3 rfl) (fS isAgg3 rfl) (mV underlying3)<|
  fN _ _ _ _ _ rfl (fS isAgg3 rfl) (fS isAgg3 rfl) (mV underlying3)<|
  fN _ _ _ _ _ rfl (fS isAgg3 rfl) (fS isAgg3 rfl) (mV underlying3)<|
  fN _ _ _ _ _ rfl (fS isAgg3 rfl) (fS isAgg3 rfl) (mV underlying3)<|
  fN _ _ _ _ _ rfl (fS isAgg3 rfl) (fS isAgg3 rfl) (mV underlying3)<|
  fN _ _ _ _ _ rfl (fS isAgg3 rfl) (fS isAgg3 rfl) (mV underlying3)<|
  fN _ _ _ _ _ rfl (fS isAgg4 rfl) (fS isAgg4 rfl) (aBV underlying4)<|
  OC _ _ _
theorem aW5(D:Nat)(d d':KV)(w:World):(Op.eqFields (D+2) #[.int .i64 (d.Key),.int .i64 (d.dI)] #[.int .i64 (d'.Key),.int .i64 (d'.dI)] (match prog.underlying 90 with|some (.struct fs)=>fs|_=>#[]).toList).run prog w=.ok (decide (d=d')) w:=by
 rw[underlying90];have h:(d.Key == d'.Key && (d.dI == d'.dI && true))=decide (d=d'):=by cases d;cases d';rw[I2];simp
 rw[<-h];exact fN _ _ _ _ _ rfl (fS isAgg3 rfl) (fS isAgg3 rfl) (mV underlying3)<|
  fN _ _ _ _ _ rfl (fS isAgg3 rfl) (fS isAgg3 rfl) (mV underlying3)<|
  OC _ _ _
section
open Go.RowKit Go.Shelf Go.Lib Go.Gv
set_option maxRecDepth 100000
set_option maxHeartbeats 4000000
theorem aT4(b off n c i vb:Nat)(cs vs:List Value)(w:World)(hi:i<n)(hroom:n+1<=c)(hc63:c<=9223372036854775807)(hvb:vb≠b)(hcl:cs.length=n*3)(hvl:vs.length=3)
  (hcs:aZ w b off cs) (hsp:∀j,j<c*3->(w.cell? ⟨b,off+j,none⟩).isSome=true) (hfz:∀j,j<c*3->w.frozen? ⟨b,off+j,none⟩=false)
  (hvs:aZ w vb 0 vs) (h1c:∀v∈cs,v.oneCell'=true) (h1v:∀v∈vs,v.oneCell'=true)
  (tA tB:TypeId) (kA kB:Nat) (hsa:w.shape? vb=some (tA,kA)) (hsb:w.shape? b=some (tB,kB)) (hkB:kB≠0) (hfa:w.frozen? ⟨vb,0,none⟩=false) (hfe:w.frozen? ⟨vb,kA,none⟩=false) :
  Calls prog 263 #[.slice (some ⟨b,off,none⟩) n c,.int .i64 i,.slice (some ⟨vb,0,none⟩) 1 1] w λe w'=>
   e=.returned (.slice (some ⟨b,off,none⟩) (n+1) c)/\w'=(w.drew.setCells b (off+(i+1)*3) (cs.drop (i*3))).setCells b (off+i*3) vs:=by
 have u0:=run_underlying underlying120;have hz2:¬((i:Int)=(n:Int)):=aa
 have hsz:(prog.info? 171).map (·.size)=some 3:=by kernel_rfl
 have hov:∀lb cb,(callFunc 286 #[.slice (some ⟨vb,0,none⟩) 1 1,.slice (some ⟨b,off+(i+1)*3,none⟩) lb cb]).run prog w=.ok (.value (.bool false)) w:=λlb cb=>by
  rw[run_callFunc_extern func286 (by kernel_rfl) (by kernel_rfl) (by kernel_rfl) (e:=Extern.SlicesOverlaps.overlaps #[120,120] #[4]) (by kernel_rfl),
   Lib.run_overlaps_apart w 120 4 171 underlying120 3 sizeOf171 ⟨vb,0,none⟩ ⟨b,off+(i+1)*3,none⟩ 1 1 lb cb hvb tA tB kA kB hsa hsb hkB hfa hfe]
  rfl
 have hdl:(cs.drop (i*3)).length=(n-i)*3:=by rw[UN,hcl];omega
 have mixed:=aJ;have hw1:IntKind.i64.wrap ((i:Int)+1)=(i:Int)+1:=by rw[IntKind.wrap_i64];omega
 have hw2:IntKind.i64.wrap ((n:Int)+1)=(n:Int)+1:=by rw[IntKind.wrap_i64];omega
 have hb1:(0:Int)<=(i:Int)+1:=aa
 have hin:i<=n:=aa
 have htn:((i:Int)+1).toNat=i+1:=aa
 have htm:((n:Int)+1).toNat=n+1:=aa
 have hb2:¬(c=i+1):=aa
 have hb3:(i:Int)<=(n:Int)+1:=aa
 have hb4:¬(c=i):=aa
 have hcp1:∀ty dc sc,(Builtin.copy_ #[120,120] ty #[.slice (some ⟨b,off+(i+1)*3,none⟩) (n-i) dc,.slice (some ⟨b,off+i*3,none⟩) (n+1-i) sc]).run prog w.drew=.ok (goInt (n-i:Nat)) (w.drew.setCells b (off+(i+1)*3) (cs.drop (i*3))):=λty dc sc=>
  wY w.drew _ _ ty 171 3 b (off+(i+1)*3) (n-i) dc ⟨b,off+i*3,none⟩ (n+1-i) sc (n-i) (cs.drop (i*3)) underlying120 hsz (by simp only[Nat.min_def];split<;>omega) hdl
   (λj v hj=>by rw[Addr.add_lit,D8];exact hcs (i*3+j) v (by rwa [aFJ] at hj))
   (λj hj=>by rw[D8];exact hsp _ aa) (λj hj=>by rw[D8];exact hfz _ aa) (λv hv=>h1c v (QQ hv))
 obtain⟨W1,hW1⟩:∃W1,W1=w.drew.setCells b (off+(i+1)*3) (cs.drop (i*3)):=⟨_,rfl⟩;have hsp1:∀k,k<c*3->(W1.cell? ⟨b,off+k,none⟩).isSome=true:=λk hk=>by rw[hW1];exact isSome_setCells b _ _ _ (λj hj=>by rw[D8];exact hsp _ aa) _ (hsp k hk)
 have hcp2:∀(W:World),(∀x,W.cell? x=W1.cell? x)->(∀x,W.frozen? x=W1.frozen? x)->∀ty dc,(Builtin.copy_ #[120,120] ty #[.slice (some ⟨b,off+i*3,none⟩) (n+1-i) dc,.slice (some ⟨vb,0,none⟩) 1 1]).run prog W=.ok (goInt 1) (W.setCells b (off+i*3) vs):=λW hWc hWf ty dc=>
  wY W _ _ ty 171 3 b (off+i*3) (n+1-i) dc ⟨vb,0,none⟩ 1 1 1 vs underlying120 hsz (by simp only[Nat.min_def];split<;>omega) (by rw[hvl])
   (λj v hj=>by
    rw[Addr.add_lit,hWc,hW1,World.cell?_setCells_out b _ _ _ _ (λh _=>absurd h hvb)];exact hvs j v hj)
   (λj hj=>by rw[hWc,D8];exact hsp1 _ aa) (λj hj=>by rw[hWf,hW1,World.frozen?_setCells,D8];exact hfz _ aa) h1v
 rw[<-hW1] at hcp1
 go_enter func263,ntmps263
 go_wp2_with (simp only[hov])
 go_region_law_o (refine step_copy_runI rfl _ _ 120 120 rfl _ _ (by simp[Act.eval,Act.put]) (by simp[Act.eval,Act.put]) (hcp1 _ _ _) ?_)
 go_wp2_with (at_builtin;refine wpList_copy_runI _ rfl _ _ 120 120 rfl _ _ rfl rfl (hcp2 _ (λ_=>rfl) (λ_=>rfl) _ _) ?_)
 go_ret
 first|exact⟨rfl,rfl⟩|exact⟨rfl,by rw[hW1]⟩
end
section
open Go.RowKit Go.Shelf Go.Lib Go.Gv
set_option maxRecDepth 100000
set_option maxHeartbeats 4000000
theorem aW6(b off n c vb:Nat)(vs:List Value)(w:World)(hroom:n+1<=c)(hc63:c<=9223372036854775807)(hvl:vs.length=3)
  (hsp:∀j,j<c*3->(w.cell? ⟨b,off+j,none⟩).isSome=true) (hfz:∀j,j<c*3->w.frozen? ⟨b,off+j,none⟩=false) (hvs:aZ w vb 0 vs) (h1v:∀v∈vs,v.oneCell'=true) :
  Calls prog 263 #[.slice (some ⟨b,off,none⟩) n c,.int .i64 n,.slice (some ⟨vb,0,none⟩) 1 1] w λe w'=>
   e=.returned (.slice (some ⟨b,off,none⟩) (n+1) c)/\w'=w.setCells b (off+n*3) vs:=by
 have u0:=run_underlying underlying120;have mixed:=aJ;obtain⟨i0,hi0,hz0,hzs,hzb⟩:=yA;have hsrc:Src prog i0.size 120 (.slice (some ⟨vb,0,none⟩) 1 1) 1 vs w:=by rw[hzs];exact Src.ofSlice w underlying120 ⟨vb,0,none⟩ 1 1 vs aa (λj u hj=>by rw[Addr.add_lit];exact hvs j u hj) h1v
 have hrun:=run_append_room_src w 120 120 120 171 i0 underlying120 hi0 b off n c (.slice (some ⟨vb,0,none⟩) 1 1) 1 vs hsrc hroom (by rw[hzs,hvl];exact λj hj=>by rw[D8];exact hsp _ aa) (by rw[hzs,hvl];exact λj hj=>by rw[D8];exact hfz _ aa);rw[hzs] at hrun
 go_enter func263,ntmps263
 go_wp2_with (at_builtin;refine Lib.wpList_append_run _ rfl _ _ _ _ rfl _ _ rfl rfl _ _ hrun ?_)
 go_ret
 exact⟨rfl,rfl⟩
theorem a2R(base:Option Addr)(n c vb:Nat)(cs vs:List Value)(w:World)(hnc:n<=c)(hroom:c<n+1)(hbig:n+1<=1073741824)(hcl:cs.length=n*3)(hvl:vs.length=3)(hnil:base=none->n=0)
  (hcs:∀a,base=some a->∀j v,cs[j]?=some v->w.cell? (a.add j)=some v) (hvs:aZ w vb 0 vs) (h1v:∀v∈vs,v.oneCell'=true) :
  Calls prog 263 #[.slice base n c,.int .i64 n,.slice (some ⟨vb,0,none⟩) 1 1] w λe w'=>
   e=.returned (.slice (some ⟨w.heap.size,0,none⟩) (n+1) (grownCap w (n+1) c 171)) /\
   w'=w.drew.alloc (.cells ((cs++vs).toArray++Builtin.zeroCells (.agg #[.int .i64 0,.bool false,.int .i64 0]:Value).cells (grownCap w (n+1) c 171-(n+1))) 171):=by
 have u0:=run_underlying underlying120;have mixed:=aJ;obtain⟨i0,hi0,hz0,hzs,hzb⟩:=yA;have hsrc:Src prog i0.size 120 (.slice (some ⟨vb,0,none⟩) 1 1) 1 vs w:=by rw[hzs];exact Src.ofSlice w underlying120 ⟨vb,0,none⟩ 1 1 vs aa (λj u hj=>by rw[Addr.add_lit];exact hvs j u hj) h1v
 have hold:(Builtin.firstCells i0.size n (.slice base n c)).run prog w.drew=.ok cs.toArray w.drew:=by
  rw[hzs];cases base with
  |none=>
   have h0:=hnil rfl;subst h0;rw[List.length_eq_zero_iff.1 (by omega:cs.length=0)];exact run_firstCells_none w.drew 3 0 0 c
  |some a=>exact run_firstCells_some w.drew 3 n a n c cs hcl (λj v hj=>hcs a rfl j v hj)
 have hfit:Builtin.nextslicecap (n+1) c*i0.bytes<=281474976710656:=growslice_fits hroom (lX (aBS hbig hzb) ai);have hrun:=run_append_grow_src w 120 120 120 171 i0 _ underlying120 hi0 hz0 base n c cs hold _ 1 vs hsrc hroom aa hfit
 go_enter func263,ntmps263
 cases base with
 |none=>
  have h0:=hnil rfl;subst h0
  go_wp2_with (at_builtin;refine Lib.wpList_append_run _ rfl _ _ _ _ rfl _ _ rfl rfl _ _ hrun ?_)
  go_ret
  exact⟨rfl,rfl⟩
 |some a=>
  obtain⟨ab,ao,asp⟩:=a
  go_wp2_with (at_builtin;refine Lib.wpList_append_run _ rfl _ _ _ _ rfl _ _ rfl rfl _ _ hrun ?_)
  all_goals (go_ret;exact⟨rfl,rfl⟩)
theorem aW7(b off n c i vb:Nat)(cs vs:List Value)(w:World)(hi:i<n)(hnc:n<=c)(hroom:c<n+1)(hbig:n+1<=1073741824)(hcl:cs.length=n*3)(hvl:vs.length=3)
  (hcs:aZ w b off cs) (hvs:aZ w vb 0 vs) (h1c:∀v∈cs,v.oneCell'=true) (h1v:∀v∈vs,v.oneCell'=true) :
  Calls prog 263 #[.slice (some ⟨b,off,none⟩) n c,.int .i64 i,.slice (some ⟨vb,0,none⟩) 1 1] w λe w'=>
   e=.returned (.slice (some ⟨w.heap.size,0,none⟩) (n+1) (grownCap w (n+1) c 171)) /\
   w'=(((w.alloc (.cells ((cs.take (i*3)).toArray++Builtin.zeroCells (.agg #[.int .i64 0,.bool false,.int .i64 0]:Value).cells (n+1-i)++Builtin.zeroCells (.agg #[.int .i64 0,.bool false,.int .i64 0]:Value).cells (grownCap w (n+1) c 171-(n+1))) 171)).drew.setCells w.heap.size (i*3) vs).drew).setCells w.heap.size ((i+1)*3) (cs.drop (i*3)):=by
 have u0:=run_underlying underlying120;have u3:=run_underlying underlying3;have mixed:=aJ;obtain⟨i0,hi0,hz0,hzs,hzb⟩:=yA;have hz2:¬((i:Int)=(n:Int)):=aa
 have hz3:(c:Int)<(n:Int)+1:=aa
 have hsz:(prog.info? 171).map (·.size)=some 3:=by rw[hi0];simp[hzs]
 have hbw:b<w.heap.size:=block_lt_of_cell (hcs 0 _ (iT aa));have hvw:vb<w.heap.size:=block_lt_of_cell (hvs 0 _ (iT aa));have hkk:(n:Int)+1-(i:Int)=((n+1-i:Nat):Int):=aa
 have hik:i+(n+1-i)=n+1:=aa
 have htl:(cs.take (i*3)).length=i*3:=by rw[ZS];omega
 have hold:(Builtin.firstCells i0.size i (.slice (some ⟨b,off,none⟩) i c)).run prog w.drew=.ok (cs.take (i*3)).toArray w.drew:=by
  rw[hzs];exact run_firstCells_some w.drew 3 i ⟨b,off,none⟩ i c (cs.take (i*3)) htl (λj v hj=>by
   rw[Addr.add_lit];rw[aBO] at hj;split at hj
   ·exact hcs j v hj
   ·cases hj)
 have hfit:Builtin.nextslicecap (n+1) c*i0.bytes<=281474976710656:=growslice_fits hroom (lX (aBS hbig hzb) ai);have hrz:∀ty,(Builtin.append_ #[120,3] ty #[.slice (some ⟨b,off,none⟩) i c,.int .i64 ((n:Int)+1-(i:Int))]).run prog w =
   .ok (.slice (some ⟨w.heap.size,0,none⟩) (n+1) (grownCap w (n+1) c 171)) (w.drew.alloc (.cells ((cs.take (i*3)).toArray++Builtin.zeroCells (.agg #[.int .i64 0,.bool false,.int .i64 0]:Value).cells (n+1-i)++Builtin.zeroCells (.agg #[.int .i64 0,.bool false,.int .i64 0]:Value).cells (grownCap w (n+1) c 171-(n+1))) 171)):=λty=>by
  have h:=Lib.run_append_grow_zeros w 120 3 ty 171 i0 _ .i64 .i64 underlying120 underlying3 hi0 hz0 (some ⟨b,off,none⟩) i c (cs.take (i*3)) hold (n+1-i) aa aa aa aa (lX (aBS (show n+1-i<=1073741824 by omega) hzb) ai) (by rw[hik];exact hfit);rw[hik] at h;rw[hkk];exact h
 obtain⟨G,hG⟩:∃G,G=grownCap w (n+1) c 171:=⟨_,rfl⟩;obtain⟨ROW,hROW⟩:∃ROW:Array Value,ROW=(cs.take (i*3)).toArray++Builtin.zeroCells (.agg #[.int .i64 0,.bool false,.int .i64 0]:Value).cells (n+1-i)++Builtin.zeroCells (.agg #[.int .i64 0,.bool false,.int .i64 0]:Value).cells (G-(n+1)):=⟨_,rfl⟩;rw[<-hG] at hrz ⊢;rw[<-hROW] at hrz ⊢;have hRl:(n+1)*3<=ROW.size:=by rw[hROW];simp only[Array.size_append,aJA,htl,size_zeroCells];have:(.agg #[.int .i64 0,.bool false,.int .i64 0]:Value).cells.size=3:=rfl;rw[this];omega
 obtain⟨W1,hW1⟩:∃W1,W1=w.drew.alloc (.cells ROW 171):=⟨_,rfl⟩;rw[<-hW1] at hrz;have hN:∀j,j<(n+1)*3->(W1.cell? ⟨w.heap.size,j,none⟩).isSome=true:=λj hj=>by rw[hW1,World.cell?_alloc_at (w:=w.drew) ROW _ w.heap.size j rfl,Array.getElem?_eq_getElem aa];rfl
 have hNf:∀j,W1.frozen? ⟨w.heap.size,j,none⟩=false:=λj=>by rw[hW1];exact World.frozen?_alloc_at (w:=w.drew) ROW _ w.heap.size j rfl
 have hOb:∀j v,w.cell? ⟨b,j,none⟩=some v->W1.cell? ⟨b,j,none⟩=some v:=λj v h=>by rw[hW1,World.cell?_alloc_past (w:=w.drew) _ b j hbw];exact h
 have hOv:∀j v,w.cell? ⟨vb,j,none⟩=some v->W1.cell? ⟨vb,j,none⟩=some v:=λj v h=>by rw[hW1,World.cell?_alloc_past (w:=w.drew) _ vb j hvw];exact h
 have hcpA:∀(W:World),(∀x,W.cell? x=W1.cell? x)->(∀x,W.frozen? x=W1.frozen? x)->∀ty dc,(Builtin.copy_ #[120,120] ty #[.slice (some ⟨w.heap.size,i*3,none⟩) (n+1-i) dc,.slice (some ⟨vb,0,none⟩) 1 1]).run prog W=.ok (goInt 1) (W.setCells w.heap.size (i*3) vs):=λW hWc hWf ty dc=>
  wY W _ _ ty 171 3 w.heap.size (i*3) (n+1-i) dc ⟨vb,0,none⟩ 1 1 1 vs underlying120 hsz (by simp only[Nat.min_def];split<;>omega) (by rw[hvl])
   (λj v hj=>by rw[Addr.add_lit,hWc];exact hOv _ v (hvs j v hj))
   (λj hj=>by rw[hWc];exact hN _ aa) (λj hj=>by rw[hWf];exact hNf _) h1v
 have hGn:n+1<=G:=by rw[hG];exact grownCap_ge w _ _ _
 have hG63:G<=9223372036854775807:=by have:=grownCap_le_maxLen w (n+1) c 171 (by unfold maxLen;omega);rw[<-hG] at this;unfold maxLen at this;omega
 have hGi:¬(G=i):=aa
 have hGim:¬(G=i+1):=aa
 have hci:¬(c=i):=aa
 have hbN:b≠w.heap.size:=aa
 have hdl:(cs.drop (i*3)).length=(n-i)*3:=by rw[UN,hcl];omega
 have hcpB:∀(W:World),(∀x,W.cell? x=(W1.setCells w.heap.size (i*3) vs).cell? x)->(∀x,W.frozen? x=(W1.setCells w.heap.size (i*3) vs).frozen? x)->∀ty dc sc,(Builtin.copy_ #[120,120] ty #[.slice (some ⟨w.heap.size,(i+1)*3,none⟩) (n-i) dc,.slice (some ⟨b,off+i*3,none⟩) (n-i) sc]).run prog W=.ok (goInt (n-i:Nat)) (W.setCells w.heap.size ((i+1)*3) (cs.drop (i*3))):=λW hWc hWf ty dc sc=>
  wY W _ _ ty 171 3 w.heap.size ((i+1)*3) (n-i) dc ⟨b,off+i*3,none⟩ (n-i) sc (n-i) (cs.drop (i*3)) underlying120 hsz (by simp only[Nat.min_def];split<;>omega) hdl
   (λj v hj=>by
    rw[Addr.add_lit,hWc,World.cell?_setCells_out _ _ _ _ _ (λh _=>absurd h hbN),D8];exact hOb _ v (hcs (i*3+j) v (by rwa [aFJ] at hj)))
   (λj hj=>by rw[hWc];exact isSome_setCells _ _ _ _ (λt ht=>hN _ aa) _ (hN _ aa))
   (λj hj=>by rw[hWf,World.frozen?_setCells];exact hNf _) (λv hv=>h1c v (QQ hv))
 subst hW1;have hE1:∀x,((w.alloc (.cells ROW 171)).drew).cell? x=(w.drew.alloc (.cells ROW 171)).cell? x:=λx=>rfl;have hE2:∀x,((w.alloc (.cells ROW 171)).drew).frozen? x=(w.drew.alloc (.cells ROW 171)).frozen? x:=λx=>rfl;have hF1:∀x,(((w.alloc (.cells ROW 171)).drew.setCells w.heap.size (i*3) vs).drew).cell? x=((w.drew.alloc (.cells ROW 171)).setCells w.heap.size (i*3) vs).cell? x:=λx=>rfl;have hF2:∀x,(((w.alloc (.cells ROW 171)).drew.setCells w.heap.size (i*3) vs).drew).frozen? x=((w.drew.alloc (.cells ROW 171)).setCells w.heap.size (i*3) vs).frozen? x:=λx=>rfl;have hw1:IntKind.i64.wrap ((i:Int)+1)=(i:Int)+1:=by rw[IntKind.wrap_i64];omega
 have hw2:IntKind.i64.wrap ((n:Int)+1)=(n:Int)+1:=by rw[IntKind.wrap_i64];omega
 have hw3:IntKind.i64.wrap ((n:Int)+1-(i:Int))=(n:Int)+1-(i:Int):=by rw[IntKind.wrap_i64];omega
 have hb1:(0:Int)<=(i:Int)+1:=aa
 have hin:i<=n:=aa
 have htn:((i:Int)+1).toNat=i+1:=aa
 have hb3:(i:Int)<=(n:Int):=aa
 clear hkk hik hold hROW hG hRl htl
 go_enter func263,ntmps263
 go_wp2_with (first
  |(at_builtin;refine Lib.wpList_append_run _ rfl _ _ _ _ rfl _ _ rfl rfl _ _ (hrz _) ?_)
  |(at_builtin;refine wpList_copy_runI _ rfl _ _ 120 120 rfl _ _ rfl rfl (hcpA _ hE1 hE2 _ _) ?_)
  |(at_builtin;refine wpList_copy_runI _ rfl _ _ 120 120 rfl _ _ rfl rfl (hcpB _ (λ_=>rfl) (λ_=>rfl) _ _ _) ?_))
 go_region_law_o (refine step_copy_runI rfl _ _ 120 120 rfl (.slice (some ⟨w.heap.size,(i+1)*3,none⟩) (n-i) (G-(i+1))) (.slice (some ⟨b,off+i*3,none⟩) (n-i) (c-i)) (by simp[Act.eval,Act.put]) (by simp[Act.eval,Act.put]) (hcpB _ hF1 hF2 3 (G-(i+1)) (c-i)) ?_)
 go_wp2
 go_ret
 exact⟨rfl,rfl⟩
end
section
open Go.RowKit Go.Shelf Go.Lib Go.Gv
set_option maxRecDepth 100000
set_option maxHeartbeats 4000000
theorem aW8(b off n c i vb:Nat)(cs vs:List Value)(w:World)(hi:i<n)(hroom:n+1<=c)(hc63:c<=9223372036854775807)(hvb:vb≠b)(hcl:cs.length=n*2)(hvl:vs.length=2)
  (hcs:aZ w b off cs) (hsp:∀j,j<c*2->(w.cell? ⟨b,off+j,none⟩).isSome=true) (hfz:∀j,j<c*2->w.frozen? ⟨b,off+j,none⟩=false)
  (hvs:aZ w vb 0 vs) (h1c:∀v∈cs,v.oneCell'=true) (h1v:∀v∈vs,v.oneCell'=true)
  (tA tB:TypeId) (kA kB:Nat) (hsa:w.shape? vb=some (tA,kA)) (hsb:w.shape? b=some (tB,kB)) (hkB:kB≠0) (hfa:w.frozen? ⟨vb,0,none⟩=false) (hfe:w.frozen? ⟨vb,kA,none⟩=false) :
  Calls prog 94 #[.slice (some ⟨b,off,none⟩) n c,.int .i64 i,.slice (some ⟨vb,0,none⟩) 1 1] w λe w'=>
   e=.returned (.slice (some ⟨b,off,none⟩) (n+1) c)/\w'=(w.drew.setCells b (off+(i+1)*2) (cs.drop (i*2))).setCells b (off+i*2) vs:=by
 have u0:=run_underlying underlying59;have hz2:¬((i:Int)=(n:Int)):=aa
 have hsz:(prog.info? 90).map (·.size)=some 2:=by kernel_rfl
 have hov:∀lb cb,(callFunc 177 #[.slice (some ⟨vb,0,none⟩) 1 1,.slice (some ⟨b,off+(i+1)*2,none⟩) lb cb]).run prog w=.ok (.value (.bool false)) w:=λlb cb=>by
  rw[run_callFunc_extern func177 (by kernel_rfl) (by kernel_rfl) (by kernel_rfl) (e:=Extern.SlicesOverlaps.overlaps #[59,59] #[4]) (by kernel_rfl),
   Lib.run_overlaps_apart w 59 4 90 underlying59 2 sizeOf90 ⟨vb,0,none⟩ ⟨b,off+(i+1)*2,none⟩ 1 1 lb cb hvb tA tB kA kB hsa hsb hkB hfa hfe]
  rfl
 have hdl:(cs.drop (i*2)).length=(n-i)*2:=by rw[UN,hcl];omega
 have mixed:=aJ;have hw1:IntKind.i64.wrap ((i:Int)+1)=(i:Int)+1:=by rw[IntKind.wrap_i64];omega
 have hw2:IntKind.i64.wrap ((n:Int)+1)=(n:Int)+1:=by rw[IntKind.wrap_i64];omega
 have hb1:(0:Int)<=(i:Int)+1:=aa
 have hin:i<=n:=aa
 have htn:((i:Int)+1).toNat=i+1:=aa
 have htm:((n:Int)+1).toNat=n+1:=aa
 have hb2:¬(c=i+1):=aa
 have hb3:(i:Int)<=(n:Int)+1:=aa
 have hb4:¬(c=i):=aa
 have hcp1:∀ty dc sc,(Builtin.copy_ #[59,59] ty #[.slice (some ⟨b,off+(i+1)*2,none⟩) (n-i) dc,.slice (some ⟨b,off+i*2,none⟩) (n+1-i) sc]).run prog w.drew=.ok (goInt (n-i:Nat)) (w.drew.setCells b (off+(i+1)*2) (cs.drop (i*2))):=λty dc sc=>
  wY w.drew _ _ ty 90 2 b (off+(i+1)*2) (n-i) dc ⟨b,off+i*2,none⟩ (n+1-i) sc (n-i) (cs.drop (i*2)) underlying59 hsz (by simp only[Nat.min_def];split<;>omega) hdl
   (λj v hj=>by rw[Addr.add_lit,D8];exact hcs (i*2+j) v (by rwa [aFJ] at hj))
   (λj hj=>by rw[D8];exact hsp _ aa) (λj hj=>by rw[D8];exact hfz _ aa) (λv hv=>h1c v (QQ hv))
 obtain⟨W1,hW1⟩:∃W1,W1=w.drew.setCells b (off+(i+1)*2) (cs.drop (i*2)):=⟨_,rfl⟩;have hsp1:∀k,k<c*2->(W1.cell? ⟨b,off+k,none⟩).isSome=true:=λk hk=>by rw[hW1];exact isSome_setCells b _ _ _ (λj hj=>by rw[D8];exact hsp _ aa) _ (hsp k hk)
 have hcp2:∀(W:World),(∀x,W.cell? x=W1.cell? x)->(∀x,W.frozen? x=W1.frozen? x)->∀ty dc,(Builtin.copy_ #[59,59] ty #[.slice (some ⟨b,off+i*2,none⟩) (n+1-i) dc,.slice (some ⟨vb,0,none⟩) 1 1]).run prog W=.ok (goInt 1) (W.setCells b (off+i*2) vs):=λW hWc hWf ty dc=>
  wY W _ _ ty 90 2 b (off+i*2) (n+1-i) dc ⟨vb,0,none⟩ 1 1 1 vs underlying59 hsz (by simp only[Nat.min_def];split<;>omega) (by rw[hvl])
   (λj v hj=>by
    rw[Addr.add_lit,hWc,hW1,World.cell?_setCells_out b _ _ _ _ (λh _=>absurd h hvb)];exact hvs j v hj)
   (λj hj=>by rw[hWc,D8];exact hsp1 _ aa) (λj hj=>by rw[hWf,hW1,World.frozen?_setCells,D8];exact hfz _ aa) h1v
 rw[<-hW1] at hcp1
 go_enter func94,ntmps94
 go_wp2_with (simp only[hov])
 go_region_law_o (refine step_copy_runI rfl _ _ 59 59 rfl _ _ (by simp[Act.eval,Act.put]) (by simp[Act.eval,Act.put]) (hcp1 _ _ _) ?_)
 go_wp2_with (at_builtin;refine wpList_copy_runI _ rfl _ _ 59 59 rfl _ _ rfl rfl (hcp2 _ (λ_=>rfl) (λ_=>rfl) _ _) ?_)
 go_ret
 first|exact⟨rfl,rfl⟩|exact⟨rfl,by rw[hW1]⟩
end
section
open Go.RowKit Go.Shelf Go.Lib Go.Gv
set_option maxRecDepth 100000
set_option maxHeartbeats 4000000
theorem a2S(b off n c vb:Nat)(vs:List Value)(w:World)(hroom:n+1<=c)(hc63:c<=9223372036854775807)(hvl:vs.length=2)
  (hsp:∀j,j<c*2->(w.cell? ⟨b,off+j,none⟩).isSome=true) (hfz:∀j,j<c*2->w.frozen? ⟨b,off+j,none⟩=false) (hvs:aZ w vb 0 vs) (h1v:∀v∈vs,v.oneCell'=true) :
  Calls prog 94 #[.slice (some ⟨b,off,none⟩) n c,.int .i64 n,.slice (some ⟨vb,0,none⟩) 1 1] w λe w'=>
   e=.returned (.slice (some ⟨b,off,none⟩) (n+1) c)/\w'=w.setCells b (off+n*2) vs:=by
 have u0:=run_underlying underlying59;have mixed:=aJ;obtain⟨i0,hi0,hz0,hzs,hzb⟩:=fJ;have hsrc:Src prog i0.size 59 (.slice (some ⟨vb,0,none⟩) 1 1) 1 vs w:=by rw[hzs];exact Src.ofSlice w underlying59 ⟨vb,0,none⟩ 1 1 vs aa (λj u hj=>by rw[Addr.add_lit];exact hvs j u hj) h1v
 have hrun:=run_append_room_src w 59 59 59 90 i0 underlying59 hi0 b off n c (.slice (some ⟨vb,0,none⟩) 1 1) 1 vs hsrc hroom (by rw[hzs,hvl];exact λj hj=>by rw[D8];exact hsp _ aa) (by rw[hzs,hvl];exact λj hj=>by rw[D8];exact hfz _ aa);rw[hzs] at hrun
 go_enter func94,ntmps94
 go_wp2_with (at_builtin;refine Lib.wpList_append_run _ rfl _ _ _ _ rfl _ _ rfl rfl _ _ hrun ?_)
 go_ret
 exact⟨rfl,rfl⟩
theorem a72(base:Option Addr)(n c vb:Nat)(cs vs:List Value)(w:World)(hnc:n<=c)(hroom:c<n+1)(hbig:n+1<=1073741824)(hcl:cs.length=n*2)(hvl:vs.length=2)(hnil:base=none->n=0)
  (hcs:∀a,base=some a->∀j v,cs[j]?=some v->w.cell? (a.add j)=some v) (hvs:aZ w vb 0 vs) (h1v:∀v∈vs,v.oneCell'=true) :
  Calls prog 94 #[.slice base n c,.int .i64 n,.slice (some ⟨vb,0,none⟩) 1 1] w λe w'=>
   e=.returned (.slice (some ⟨w.heap.size,0,none⟩) (n+1) (grownCap w (n+1) c 90)) /\
   w'=w.drew.alloc (.cells ((cs++vs).toArray++Builtin.zeroCells (.agg #[.int .i64 0,.int .i64 0]:Value).cells (grownCap w (n+1) c 90-(n+1))) 90):=by
 have u0:=run_underlying underlying59;have mixed:=aJ;obtain⟨i0,hi0,hz0,hzs,hzb⟩:=fJ;have hsrc:Src prog i0.size 59 (.slice (some ⟨vb,0,none⟩) 1 1) 1 vs w:=by rw[hzs];exact Src.ofSlice w underlying59 ⟨vb,0,none⟩ 1 1 vs aa (λj u hj=>by rw[Addr.add_lit];exact hvs j u hj) h1v
 have hold:(Builtin.firstCells i0.size n (.slice base n c)).run prog w.drew=.ok cs.toArray w.drew:=by
  rw[hzs];cases base with
  |none=>
   have h0:=hnil rfl;subst h0;rw[List.length_eq_zero_iff.1 (by omega:cs.length=0)];exact run_firstCells_none w.drew 2 0 0 c
  |some a=>exact run_firstCells_some w.drew 2 n a n c cs hcl (λj v hj=>hcs a rfl j v hj)
 have hfit:Builtin.nextslicecap (n+1) c*i0.bytes<=281474976710656:=growslice_fits hroom (lX (aBS hbig hzb) ai);have hrun:=run_append_grow_src w 59 59 59 90 i0 _ underlying59 hi0 hz0 base n c cs hold _ 1 vs hsrc hroom aa hfit
 go_enter func94,ntmps94
 cases base with
 |none=>
  have h0:=hnil rfl;subst h0
  go_wp2_with (at_builtin;refine Lib.wpList_append_run _ rfl _ _ _ _ rfl _ _ rfl rfl _ _ hrun ?_)
  go_ret
  exact⟨rfl,rfl⟩
 |some a=>
  obtain⟨ab,ao,asp⟩:=a
  go_wp2_with (at_builtin;refine Lib.wpList_append_run _ rfl _ _ _ _ rfl _ _ rfl rfl _ _ hrun ?_)
  all_goals (go_ret;exact⟨rfl,rfl⟩)
theorem a2T(b off n c i vb:Nat)(cs vs:List Value)(w:World)(hi:i<n)(hnc:n<=c)(hroom:c<n+1)(hbig:n+1<=1073741824)(hcl:cs.length=n*2)(hvl:vs.length=2)
  (hcs:aZ w b off cs) (hvs:aZ w vb 0 vs) (h1c:∀v∈cs,v.oneCell'=true) (h1v:∀v∈vs,v.oneCell'=true) :
  Calls prog 94 #[.slice (some ⟨b,off,none⟩) n c,.int .i64 i,.slice (some ⟨vb,0,none⟩) 1 1] w λe w'=>
   e=.returned (.slice (some ⟨w.heap.size,0,none⟩) (n+1) (grownCap w (n+1) c 90)) /\
   w'=(((w.alloc (.cells ((cs.take (i*2)).toArray++Builtin.zeroCells (.agg #[.int .i64 0,.int .i64 0]:Value).cells (n+1-i)++Builtin.zeroCells (.agg #[.int .i64 0,.int .i64 0]:Value).cells (grownCap w (n+1) c 90-(n+1))) 90)).drew.setCells w.heap.size (i*2) vs).drew).setCells w.heap.size ((i+1)*2) (cs.drop (i*2)):=by
 have u0:=run_underlying underlying59;have u3:=run_underlying underlying3;have mixed:=aJ;obtain⟨i0,hi0,hz0,hzs,hzb⟩:=fJ;have hz2:¬((i:Int)=(n:Int)):=aa
 have hz3:(c:Int)<(n:Int)+1:=aa
 have hsz:(prog.info? 90).map (·.size)=some 2:=by rw[hi0];simp[hzs]
 have hbw:b<w.heap.size:=block_lt_of_cell (hcs 0 _ (iT aa));have hvw:vb<w.heap.size:=block_lt_of_cell (hvs 0 _ (iT aa));have hkk:(n:Int)+1-(i:Int)=((n+1-i:Nat):Int):=aa
 have hik:i+(n+1-i)=n+1:=aa
 have htl:(cs.take (i*2)).length=i*2:=by rw[ZS];omega
 have hold:(Builtin.firstCells i0.size i (.slice (some ⟨b,off,none⟩) i c)).run prog w.drew=.ok (cs.take (i*2)).toArray w.drew:=by
  rw[hzs];exact run_firstCells_some w.drew 2 i ⟨b,off,none⟩ i c (cs.take (i*2)) htl (λj v hj=>by
   rw[Addr.add_lit];rw[aBO] at hj;split at hj
   ·exact hcs j v hj
   ·cases hj)
 have hfit:Builtin.nextslicecap (n+1) c*i0.bytes<=281474976710656:=growslice_fits hroom (lX (aBS hbig hzb) ai);have hrz:∀ty,(Builtin.append_ #[59,3] ty #[.slice (some ⟨b,off,none⟩) i c,.int .i64 ((n:Int)+1-(i:Int))]).run prog w =
   .ok (.slice (some ⟨w.heap.size,0,none⟩) (n+1) (grownCap w (n+1) c 90)) (w.drew.alloc (.cells ((cs.take (i*2)).toArray++Builtin.zeroCells (.agg #[.int .i64 0,.int .i64 0]:Value).cells (n+1-i)++Builtin.zeroCells (.agg #[.int .i64 0,.int .i64 0]:Value).cells (grownCap w (n+1) c 90-(n+1))) 90)):=λty=>by
  have h:=Lib.run_append_grow_zeros w 59 3 ty 90 i0 _ .i64 .i64 underlying59 underlying3 hi0 hz0 (some ⟨b,off,none⟩) i c (cs.take (i*2)) hold (n+1-i) aa aa aa aa (lX (aBS (show n+1-i<=1073741824 by omega) hzb) ai) (by rw[hik];exact hfit);rw[hik] at h;rw[hkk];exact h
 obtain⟨G,hG⟩:∃G,G=grownCap w (n+1) c 90:=⟨_,rfl⟩;obtain⟨ROW,hROW⟩:∃ROW:Array Value,ROW=(cs.take (i*2)).toArray++Builtin.zeroCells (.agg #[.int .i64 0,.int .i64 0]:Value).cells (n+1-i)++Builtin.zeroCells (.agg #[.int .i64 0,.int .i64 0]:Value).cells (G-(n+1)):=⟨_,rfl⟩;rw[<-hG] at hrz ⊢;rw[<-hROW] at hrz ⊢;have hRl:(n+1)*2<=ROW.size:=by rw[hROW];simp only[Array.size_append,aJA,htl,size_zeroCells];have:(.agg #[.int .i64 0,.int .i64 0]:Value).cells.size=2:=rfl;rw[this];omega
 obtain⟨W1,hW1⟩:∃W1,W1=w.drew.alloc (.cells ROW 90):=⟨_,rfl⟩;rw[<-hW1] at hrz;have hN:∀j,j<(n+1)*2->(W1.cell? ⟨w.heap.size,j,none⟩).isSome=true:=λj hj=>by rw[hW1,World.cell?_alloc_at (w:=w.drew) ROW _ w.heap.size j rfl,Array.getElem?_eq_getElem aa];rfl
 have hNf:∀j,W1.frozen? ⟨w.heap.size,j,none⟩=false:=λj=>by rw[hW1];exact World.frozen?_alloc_at (w:=w.drew) ROW _ w.heap.size j rfl
 have hOb:∀j v,w.cell? ⟨b,j,none⟩=some v->W1.cell? ⟨b,j,none⟩=some v:=λj v h=>by rw[hW1,World.cell?_alloc_past (w:=w.drew) _ b j hbw];exact h
 have hOv:∀j v,w.cell? ⟨vb,j,none⟩=some v->W1.cell? ⟨vb,j,none⟩=some v:=λj v h=>by rw[hW1,World.cell?_alloc_past (w:=w.drew) _ vb j hvw];exact h
 have hcpA:∀(W:World),(∀x,W.cell? x=W1.cell? x)->(∀x,W.frozen? x=W1.frozen? x)->∀ty dc,(Builtin.copy_ #[59,59] ty #[.slice (some ⟨w.heap.size,i*2,none⟩) (n+1-i) dc,.slice (some ⟨vb,0,none⟩) 1 1]).run prog W=.ok (goInt 1) (W.setCells w.heap.size (i*2) vs):=λW hWc hWf ty dc=>
  wY W _ _ ty 90 2 w.heap.size (i*2) (n+1-i) dc ⟨vb,0,none⟩ 1 1 1 vs underlying59 hsz (by simp only[Nat.min_def];split<;>omega) (by rw[hvl])
   (λj v hj=>by rw[Addr.add_lit,hWc];exact hOv _ v (hvs j v hj))
   (λj hj=>by rw[hWc];exact hN _ aa) (λj hj=>by rw[hWf];exact hNf _) h1v
 have hGn:n+1<=G:=by rw[hG];exact grownCap_ge w _ _ _
 have hG63:G<=9223372036854775807:=by have:=grownCap_le_maxLen w (n+1) c 90 (by unfold maxLen;omega);rw[<-hG] at this;unfold maxLen at this;omega
 have hGi:¬(G=i):=aa
 have hGim:¬(G=i+1):=aa
 have hci:¬(c=i):=aa
 have hbN:b≠w.heap.size:=aa
 have hdl:(cs.drop (i*2)).length=(n-i)*2:=by rw[UN,hcl];omega
 have hcpB:∀(W:World),(∀x,W.cell? x=(W1.setCells w.heap.size (i*2) vs).cell? x)->(∀x,W.frozen? x=(W1.setCells w.heap.size (i*2) vs).frozen? x)->∀ty dc sc,(Builtin.copy_ #[59,59] ty #[.slice (some ⟨w.heap.size,(i+1)*2,none⟩) (n-i) dc,.slice (some ⟨b,off+i*2,none⟩) (n-i) sc]).run prog W=.ok (goInt (n-i:Nat)) (W.setCells w.heap.size ((i+1)*2) (cs.drop (i*2))):=λW hWc hWf ty dc sc=>
  wY W _ _ ty 90 2 w.heap.size ((i+1)*2) (n-i) dc ⟨b,off+i*2,none⟩ (n-i) sc (n-i) (cs.drop (i*2)) underlying59 hsz (by simp only[Nat.min_def];split<;>omega) hdl
   (λj v hj=>by
    rw[Addr.add_lit,hWc,World.cell?_setCells_out _ _ _ _ _ (λh _=>absurd h hbN),D8];exact hOb _ v (hcs (i*2+j) v (by rwa [aFJ] at hj)))
   (λj hj=>by rw[hWc];exact isSome_setCells _ _ _ _ (λt ht=>hN _ aa) _ (hN _ aa))
   (λj hj=>by rw[hWf,World.frozen?_setCells];exact hNf _) (λv hv=>h1c v (QQ hv))
 subst hW1;have hE1:∀x,((w.alloc (.cells ROW 90)).drew).cell? x=(w.drew.alloc (.cells ROW 90)).cell? x:=λx=>rfl;have hE2:∀x,((w.alloc (.cells ROW 90)).drew).frozen? x=(w.drew.alloc (.cells ROW 90)).frozen? x:=λx=>rfl;have hF1:∀x,(((w.alloc (.cells ROW 90)).drew.setCells w.heap.size (i*2) vs).drew).cell? x=((w.drew.alloc (.cells ROW 90)).setCells w.heap.size (i*2) vs).cell? x:=λx=>rfl;have hF2:∀x,(((w.alloc (.cells ROW 90)).drew.setCells w.heap.size (i*2) vs).drew).frozen? x=((w.drew.alloc (.cells ROW 90)).setCells w.heap.size (i*2) vs).frozen? x:=λx=>rfl;have hw1:IntKind.i64.wrap ((i:Int)+1)=(i:Int)+1:=by rw[IntKind.wrap_i64];omega
 have hw2:IntKind.i64.wrap ((n:Int)+1)=(n:Int)+1:=by rw[IntKind.wrap_i64];omega
 have hw3:IntKind.i64.wrap ((n:Int)+1-(i:Int))=(n:Int)+1-(i:Int):=by rw[IntKind.wrap_i64];omega
 have hb1:(0:Int)<=(i:Int)+1:=aa
 have hin:i<=n:=aa
 have htn:((i:Int)+1).toNat=i+1:=aa
 have hb3:(i:Int)<=(n:Int):=aa
 clear hkk hik hold hROW hG hRl htl
 go_enter func94,ntmps94
 go_wp2_with (first
  |(at_builtin;refine Lib.wpList_append_run _ rfl _ _ _ _ rfl _ _ rfl rfl _ _ (hrz _) ?_)
  |(at_builtin;refine wpList_copy_runI _ rfl _ _ 59 59 rfl _ _ rfl rfl (hcpA _ hE1 hE2 _ _) ?_)
  |(at_builtin;refine wpList_copy_runI _ rfl _ _ 59 59 rfl _ _ rfl rfl (hcpB _ (λ_=>rfl) (λ_=>rfl) _ _ _) ?_))
 go_region_law_o (refine step_copy_runI rfl _ _ 59 59 rfl (.slice (some ⟨w.heap.size,(i+1)*2,none⟩) (n-i) (G-(i+1))) (.slice (some ⟨b,off+i*2,none⟩) (n-i) (c-i)) (by simp[Act.eval,Act.put]) (by simp[Act.eval,Act.put]) (hcpB _ hF1 hF2 3 (G-(i+1)) (c-i)) ?_)
 go_wp2
 go_ret
 exact⟨rfl,rfl⟩
end
section
open Go Go.RowKit
attribute [local go_sem] Oper.semAt_some
def bDB(x:Nat×Int):Array Value:=#[.int .i64 (x.1:Int),.int .i64 x.2]
theorem bLD{n l Bs n₀ z cap len:Nat}{a:Option Addr}{ls:List Int}{F:Fence}(hlen:ls.length=len)(h7:F.fn 88)(hro:F.round=none)(hn:1<=n)(hreach:len<=9223372036854775807)(hb:Bs<n₀/\Bs≠z)(J:List (Nat×Int)->World->Prop)
  (hY:∀pre x W,J pre W->(pre.length<len/\ls[len-1-pre.length]?=some x.2)->YieldAt F (n-1) prog l (bDB x) W λe W'=>e=.returned (.bool true)/\J (pre++[x]) W'/\KX n₀ z W W')
  (W:World) (hBs:W.cell? ⟨Bs,0,none⟩=some (.slice a len cap)) (hc:ls=[]\/∃b off,a=some ⟨b,off,none⟩/\(b<n₀/\b≠z)/\∀j v,ls[j]?=some v->W.cell? ⟨b,off+j,none⟩=some (.int .i64 v)) (h0:J [] W) :
  CallsIn F n prog 88 #[.func (.yield l) #[] #[],.pointer (some ⟨Bs,0,none⟩)] W λe W'=>(∃v,e=.returned v)/\∃xs,xs.length=len/\J xs W':=by
 have kx:∀{A B:World} {b o:Nat},KX n₀ z A B->b<n₀/\b≠z->B.cell? ⟨b,o,none⟩=A.cell? ⟨b,o,none⟩:=λh hb=>World.cell?_of_block (h.HI _ hb.1 hb.2);refine callsIn_of_wp func88 rfl h7 ?_ hro;simp only[ntmps88,aJA,G5,List.length_nil,Nat.reduceAdd,Nat.reduceSub,Array.replicate_succ,Array.replicate_zero,List.push_toArray,List.append_toArray,QT,D5]
 gi_wp2
 gi_loopw [3] (λi wr=>∃pre,pre.length<=len/\i=.int .i64 ((len:Int)-1-pre.length)/\J pre wr/\KX n₀ z W wr)
  (λi _=>(intOf i+1).toNat)
 case atStart=>exact⟨[],jK _,ae,h0,KX.refl _ _ _⟩
 case round=>
  obtain⟨pre,hk,rfl,hJs,hnx⟩:=hrel;have hBs':=(kx (o:=0) hnx hb).trans hBs;by_cases hlt:pre.length<len
  ·obtain⟨b,off,rfl,hbn,hc⟩:=hc.resolve_left (by rintro rfl;simp at hlen;omega);have hi:len-1-pre.length<ls.length:=aa
   obtain⟨fn,tmps,assign,body,hy,hR⟩:=hY _ (len-1-pre.length,ls[len-1-pre.length]) wr hJs ⟨hlt,iT hi⟩;have c0:=(kx (o:=off+(len-1-pre.length)) hnx hbn).trans (hc (len-1-pre.length) _ (iT hi));have e1:((len-1-pre.length:Nat):Int)=(len:Int)-1-pre.length:=aa
   simp only[bDB] at hy;rw[e1] at hy;generalize hp:pre.length=k at *
   gi_wp2
   refine hR.mono ?_;rintro e W3 ⟨rfl,hJ3,hk3⟩
   gi_wp2
   go_roundw
   case rel=>exact⟨_,ah,ah,hJ3,hnx.trans hk3⟩
   case measure=>simp[intOf];omega
  ·generalize hp:pre.length=k at *;obtain rfl:k=len:=aa
   gi_wp2
   go_end0
   exact⟨⟨_,rfl⟩,_,hp,hJs⟩
theorem bLE{F:Fence}(n:Nat)(h5:F.fn 40)(hro:F.round=none)(a:Option Addr)(len cap:Nat)(w:World) :
  CallsIn F n prog 40 #[.slice a len cap] w λe w'=>e=.returned (.func (.func 88) #[] #[.pointer (some ⟨w.heap.size,0,none⟩)])/\w'=w.alloc (.cells #[.slice a len cap] 25):=by
 refine callsIn_of_wp func40 rfl h5 ?_ hro;simp only[ntmps40,aJA,G5,List.length_nil,Nat.reduceAdd,Nat.reduceSub,Array.replicate_succ,Array.replicate_zero,List.push_toArray,List.append_toArray,QT,D5]
 gi_wp2
 go_ret
 exact⟨rfl,rfl⟩
theorem aKH{t:Table}{l:List Int}:∀{ls:List (List Int)} {m:List KV},tmL t (ls++[l]) m=(tmL t ls m).bind (tmB t l)
 |[],m=>by simp[tmL]
 |a::ls,m=>by simp only[D5,tmL,Option.bind_assoc];congr 1;funext m';exact aKH
theorem a0K{t:Table}{b:List Int}{m r:List KV}:∀{a:List Int},tmB t (a++b) m=some r->∃q,tmB t b m=some q
 |[],h=>⟨r,h⟩
 |x::a,h=>by
  simp only[D5,tmB] at h;cases e:tmB t (a++b) m with
  |none=>rw[e] at h;cases h
  |some q=>exact a0K e
theorem a0L{t:Table}:∀{a b:List (List Int)} {m r:List KV},tmL t (a++b) m=some r->∃q,tmL t a m=some q
 |[],b,m,r,h=>⟨m,rfl⟩
 |x::a,b,m,r,h=>by
  simp only[D5,tmL] at h ⊢;cases e:tmB t x m with
  |none=>rw[e] at h;cases h
  |some q=>rw[e] at h;exact a0L h
structure WF (w:World) (z:Nat) (A:Array Value) (y:AC) (L:List (List Int)) (m:List KV) (W:World):Prop where
 below:Below w.heap.size w W
 b1:W.heap[w.heap.size]?=some (.cells A 47 (0,0))
 b3:∃v,W.heap[z]?=some (.cells #[v] 59 (0,0))/\(∃yv:AC,v=yv.v m.length)/\OwZ w.heap.size z W v m
 ls:RdZ z W [y.v L.length] L
theorem WF.kept{w W W':World}{z:Nat}{A:Array Value}{y:AC}{L:List (List Int)}{m:List KV}(h:WF w z A y L m W)(hb:Below w.heap.size w W')(hz:w.heap.size≠z)(hk:CK z W W')(h3:W'.heap[z]?=W.heap[z]?):WF w z A y L m W':=by obtain⟨v,e1,e2,e3⟩:=h.b3;exact⟨hb,(hk _ _ _ _ hz h.b1).trans h.b1,⟨v,h3.trans e1,e2,e3.kept hk⟩,h.ls.kept hk⟩
theorem bDC{w:World}{t:Table}{v0 v1 v2 v3 v4 v5 v6 v7 v8 v9 v10 v11 v12:Value}{L:List (List Int)}{ok:Bool}{r:List KV}(hr:tmL t L []=some r)
  (hch:∀W,Below w.heap.size w W->CallsIn Fence.wide 7 prog 39 #[.agg #[v0,v1,v2,v3,v4,v5,v6,v7,v8,v9,v10,v11,v12]] W λe W'=>∃y:AC,e=.returned (.tuple #[y.v L.length,.bool ok])/\Below W.heap.size W W'/\∀z,z<W.heap.size->RdZ z W' [y.v L.length] L)
  (hnd:∀n W h nd,Below w.heap.size w W->pQ t.aA.Mem.Heap (Int.tmod h 32)=some nd->CallsIn Fence.wide n prog 41 #[.agg #[v0,v1],.int .i64 (Int.tmod h 32)] W λe W'=>e=.returned (.agg #[.int .i64 nd.Key,.int .i64 nd.dI,.int .i64 nd.Next])/\Below W.heap.size W W')
  (hmp:∀n W z v (m:List KV) k x q,w.heap.size<=W.heap.size->z<W.heap.size->(∃yv:AC,v=yv.v m.length)->RdZ z W [v] m->DU m k x=some q->CallsIn Fence.wide n prog 42 #[v,.int .i64 k,.int .i64 x] W λe W'=>∃y:AC,e=.returned (y.v q.length)/\Below W.heap.size W W'/\OwZ w.heap.size z W' (y.v q.length) q) :
  CallsIn Fence.wide 8 prog 18 #[.agg #[v0,v1,v2,v3,v4,v5,v6,v7,v8,v9,v10,v11,v12]] w λe W'=>∃y:AC,e=.returned (y.v r.length)/\Below w.heap.size w W'/\OwZ w.heap.size (w.heap.size+2) W' (y.v r.length) r:=by
 refine callsIn_of_wp_marks func18 rfl trivial ?_ rfl;simp only[ntmps18,aJA,G5,List.length_nil,Nat.reduceAdd,Nat.reduceSub,Array.replicate_succ,Array.replicate_zero,List.push_toArray,List.append_toArray,QT,D5]
 gi_wp2
 refine⟨trivial,(hch _ ?_).mono ?_⟩
 ·exact(((Below.refl _ w).alloc (iU _) _).alloc ae _).alloc ah _
 ·rintro e W0 ⟨y,rfl,hb0,hL0⟩;simp only[]
  go_at_K
  gi_wp2
  have hb1:Below w.heap.size w W0:=((((Below.refl _ w).alloc (iU _) _).alloc ae _).alloc ah _).trans (hb0.mono ah);refine wpIn_loop (λa' W'=>∃(k:Nat) (u7 u20 u21 u22 u23 u24 u40:Value) (ds:List Deferred) (m:List KV),k<=L.length/\tmL t (L.take k) []=some m/\WF w (w.heap.size+2) #[v0,v1,v2,v3,v4,v5,v6,v7,v8,v9,v10,v11,v12] y L m W'/\(Mks ds W'/\∀D,mkD D∈ds->w.heap.size+2<D)/\a'=⟨#[.agg #[v0,v1,v2,v3,v4,v5,v6,v7,v8,v9,v10,v11,v12],.pointer (some ⟨w.heap.size,0,none⟩),.slice none 0 0,.pointer (some ⟨w.heap.size+1+1,0,none⟩),y.v L.length,.bool ok,undef,u7,undef,undef,undef,.slice (some ⟨w.heap.size+1,0,none⟩) 0 0,.tuple #[y.v L.length,.bool ok],.agg #[v0,v1,v2,v3,v4,v5,v6,v7,v8,v9,v10,v11,v12],.tuple #[y.v L.length,.bool ok],y.v L.length,.bool ok,y.v L.length,.int .i64 L.length,.int .i64 k,u20,u21,u22,u23,u24,undef,undef,undef,undef,undef,undef,undef,undef,undef,undef,undef,undef,undef,undef,undef,u40,undef],ds⟩) (λa' _=>L.length-(intOf (a'.tmps.getD 19 undef)).toNat) ?_ ?_
  ·refine⟨0,_,_,_,_,_,_,_,[],[],jK _,rfl,⟨hb1,?_,⟨_,?_,⟨⟨some ⟨w.heap.size+1,0,none⟩,0⟩,rfl⟩,bC2 _ _⟩,hL0 _ ae⟩,⟨trivial,λD h=>by cases h⟩,rfl⟩
   ·exact(hb0.block _ ah).trans (((Below.heap_alloc _ _ _ ah).trans (Below.heap_alloc _ _ _ ae)).trans (World.alloc_heap_new w _))
   ·have b2:=λo o' o''=>World.alloc_heap_new ((w.alloc o).alloc o') o'';simp only[World.size_alloc] at b2;exact(hb0.block _ ae).trans (b2 _ _ _)
  ·rintro a' W ⟨k,u7,u20,u21,u22,u23,u24,u40,ds,m,hk,hm,hw,⟨hd1,hd2⟩,rfl⟩;by_cases hlt:k<L.length
   ·obtain⟨ya,yc,ye,q1,q2,q3⟩:=(show mU _ _ _ _ from hw.ls);obtain⟨yb,yo,rfl,q4⟩:=q3.resolve_left (by rintro rfl;simp at hlt);obtain⟨ec,g1,g2,g3⟩:=q4 k hlt;obtain⟨la,lc,rfl,p1,p2,p3⟩:=(show mU _ _ _ _ from g3);injection ye with ye
    rw[ye];have hc0:W.cell? ⟨yb,yo+k,none⟩=some (.slice la L[k].length lc):=by simpa[show aL.n (List Int)=1 from rfl] using g1 0 _ rfl
    have hin:L[k]=[]\/∃b off,la=some ⟨b,off,none⟩/\(b<W.heap.size/\b≠w.heap.size+2)/\∀j v,L[k][j]?=some v->W.cell? ⟨b,off+j,none⟩=some (.int .i64 v):=by
     refine Decidable.or_iff_not_imp_left.2 λhne=>?_;obtain⟨b,off,e,h⟩:=p3.resolve_left hne;have key:∀j v,L[k][j]?=some v->b≠w.heap.size+2/\W.cell? ⟨b,off+j,none⟩=some (.int .i64 v):=λj v hj=>by obtain⟨hlt,rfl⟩:=AT.1 hj;obtain⟨ec,c1,c2,c3⟩:=h j hlt;have c3:ec=[.int .i64 L[k][j]]:=c3;subst c3;simp only[show aL.n Int=1 from rfl,Nat.mul_one] at c1 c2;exact⟨(c2 (off+j) ⟨rfl,aa,ae⟩).1,by simpa using c1 0 _ rfl⟩
     have h0:=key 0 _ (iT (List.length_pos_iff.2 hne));exact⟨b,off,e,⟨World.block_lt_of_cell? W _ h0.2,h0.1⟩,λj v hj=>(key j v hj).2⟩
    have hsuc:∃m',tmB t L[k] m=some m'/\tmL t (L.take (k+1)) []=some m':=by obtain⟨q,hq⟩:=a0L (a:=L.take (k+1)) (b:=L.drop (k+1)) (by rw[ZU];exact hr);rw[I6 hlt,aKH,hm] at hq;exact⟨q,hq,by rw[I6 hlt,aKH,hm];exact hq⟩
    obtain⟨m',hm1,hm2⟩:=hsuc;have hLl:L.length<=9223372036854775807:=by have:=q1;simp only[maxLen] at q2;omega
    have hlen:L[k].length<=9223372036854775807:=by have:=p1;have:=p2;simp only[maxLen] at p2;omega
    clear g1 g2 g3 p1 p2 p3 q3 q4;generalize L[k]=ls at *
    gi_wp2
    refine⟨trivial,(bLE (F:=Fence.wide) 7 trivial rfl _ _ _ _).mono ?_⟩;rintro e W1 ⟨rfl,rfl⟩;simp only[]
    go_at_K
    gi_wp2
    have hdB:∀D,mkD D∈ds->D<W.heap.size:=λD hD=>(aF6.1 (hd1.at D hD)).1;have hzW:w.heap.size+2<W.heap.size:=(let ⟨_,h,_⟩:=hw.b3;(aF6.1 h).1);refine a7L (F:=Fence.wide) rfl ai (gf:=88) (lb:=#[.pointer (some ⟨W.heap.size,0,none⟩)]) (n₀:=W.heap.size+1) (z:=w.heap.size+2) (encs:=bDB) (S:=λxs=>xs.length=ls.length) (R:=λpre x=>pre.length<ls.length/\ls[ls.length-1-pre.length]?=some x.2) (w0:=W.alloc (.cells #[.slice la ls.length lc] 25)) rfl trivial call88 ?hseq ae (Below.refl _ _) (λ_=>rfl)
     (λpre W'=>∃m',tmB t (ls.drop (ls.length-pre.length)) m=some m'/\WF w (w.heap.size+2) #[v0,v1,v2,v3,v4,v5,v6,v7,v8,v9,v10,v11,v12] y L m' W'/\Mks ds W') ?hI ?h0 (λx=>⟨#[.agg #[v0,v1,v2,v3,v4,v5,v6,v7,v8,v9,v10,v11,v12],.pointer (some ⟨w.heap.size,0,none⟩),.slice none 0 0,.pointer (some ⟨w.heap.size+1+1,0,none⟩),.slice (some ⟨yb,yo,none⟩) L.length yc,.bool ok,undef,.slice la ls.length lc,undef,.int .i64 x.2,undef,.slice (some ⟨w.heap.size+1,0,none⟩) 0 0,.tuple #[.slice (some ⟨yb,yo,none⟩) L.length yc,.bool ok],.agg #[v0,v1,v2,v3,v4,v5,v6,v7,v8,v9,v10,v11,v12],.tuple #[.slice (some ⟨yb,yo,none⟩) L.length yc,.bool ok],.slice (some ⟨yb,yo,none⟩) L.length yc,.bool ok,.slice (some ⟨yb,yo,none⟩) L.length yc,.int .i64 L.length,.int .i64 k,.bool true,.pointer (some ⟨yb,yo+k,none⟩),.slice la ls.length lc,.slice la ls.length lc,.func (.func 88) #[] #[.pointer (some ⟨W.heap.size,0,none⟩)],.int .i64 (x.1:Int),.int .i64 x.2,undef,undef,undef,undef,undef,undef,undef,undef,undef,undef,undef,undef,undef,u40,undef],[]⟩) ?hassign ?hbody ?hdone
    case hassign=>
     rintro l x W'
     gi_wp2
     exact⟨by simp[bDB],trivial⟩
    case hbody=>
     rintro l pre x W' hs ⟨hp1,hp2⟩ ⟨m1,e1,e2,e3⟩;obtain⟨_,f1,⟨yv,rfl⟩,f3⟩:=e2.b3;have hnx:∃nd q,pQ t.aA.Mem.Heap (Int.tmod x.2 32)=some nd/\DU m1 nd.Key nd.dI=some q/\tmB t (ls.drop (ls.length-(pre++[x]).length)) m=some q:=by
      obtain⟨hi,hx⟩:=AT.1 hp2;have hdr:ls.drop (ls.length-(pre++[x]).length)=x.2::ls.drop (ls.length-pre.length):=by rw[show ls.length-(pre++[x]).length=ls.length-1-pre.length by simp;omega,vY hi,hx];congr 2;omega
      obtain⟨q,hq⟩:=a0K (a:=ls.take (ls.length-(pre++[x]).length)) (by rw[ZU];exact hm1);have hq':=hq;rw[hdr] at hq';simp only[tmB,e1,aM] at hq';cases en:pQ t.aA.Mem.Heap (Int.tmod x.2 32) with
      |none=>rw[en] at hq';cases hq'
      |some nd=>rw[en] at hq';exact⟨nd,q,rfl,hq',hq⟩
     obtain⟨nd,q,d1,d2,d3⟩:=hnx;have hx0:W'.cell? ⟨w.heap.size,0,none⟩=some (v0):=by simp[World.cell?,e2.b1]
     have hx1:W'.cell? ⟨w.heap.size,1,none⟩=some (v1):=by simp[World.cell?,e2.b1]
     gi_wp2
     refine⟨trivial,(show CallsIn (Fence.wide.inRound l) 5 _ _ _ _ _ from hnd 5 W' x.2 nd e2.below d1).mono ?_⟩;rintro e W1 ⟨rfl,hb1⟩;simp only[]
     go_at_K
     have hzl:w.heap.size+2<W'.heap.size:=(aF6.1 f1).1;have hB12:Below W'.heap.size W' (W1.alloc (.cells #[.int .i64 nd.Key,.int .i64 nd.dI,.int .i64 nd.Next] 100)):=hb1.trans (((Below.refl _ W1).alloc (iU _) _).mono hb1.size);have c2:(W1.alloc (.cells #[.int .i64 nd.Key,.int .i64 nd.dI,.int .i64 nd.Next] 100)).heap[W1.heap.size]?=some (.cells #[.int .i64 nd.Key,.int .i64 nd.dI,.int .i64 nd.Next] 100):=World.alloc_heap_new W1 _;have c20:(W1.alloc (.cells #[.int .i64 nd.Key,.int .i64 nd.dI,.int .i64 nd.Next] 100)).cell? ⟨W1.heap.size,0,none⟩=some (.int .i64 nd.Key):=by simp only[World.cell?,c2];rfl
     have c21:(W1.alloc (.cells #[.int .i64 nd.Key,.int .i64 nd.dI,.int .i64 nd.Next] 100)).cell? ⟨W1.heap.size,1,none⟩=some (.int .i64 nd.dI):=by simp only[World.cell?,c2];rfl
     have c2z:(W1.alloc (.cells #[.int .i64 nd.Key,.int .i64 nd.dI,.int .i64 nd.Next] 100)).heap[w.heap.size+1+1]?=some (.cells #[yv.v m1.length] 59 (0,0)):=(hB12.block _ hzl).trans f1;have c23:(W1.alloc (.cells #[.int .i64 nd.Key,.int .i64 nd.dI,.int .i64 nd.Next] 100)).cell? ⟨w.heap.size+1+1,0,none⟩=some (yv.v m1.length):=by simp only[World.cell?,c2z];rfl
     gi_wp2
     refine⟨trivial,(show CallsIn (Fence.wide.inRound l) 5 _ _ _ _ _ from hmp 5 (W1.alloc (.cells #[.int .i64 nd.Key,.int .i64 nd.dI,.int .i64 nd.Next] 100)) (w.heap.size+2) _ m1 nd.Key nd.dI q (lX e2.below.size hB12.size) (D9 hzl hB12.size) ⟨yv,rfl⟩ (f3.kept (CK.below hB12)).rdZ d2).mono ?_⟩;rintro e W3 ⟨y3,rfl,hb3,hr3⟩;simp only[]
     go_at_K
     have hB23:Below W'.heap.size W' W3:=hB12.trans (hb3.mono hB12.size);have c3z:W3.heap[w.heap.size+1+1]?=some (.cells #[yv.v m1.length] 59 (0,0)):=(hB23.block _ hzl).trans f1;have c30:W3.cell? ⟨w.heap.size+1+1,0,none⟩=some (yv.v m1.length):=by simp[World.cell?,c3z]
     have c31:W3.frozen? ⟨w.heap.size+1+1,0,none⟩=false:=by simp[World.frozen?,c3z]
     gi_wp2
     rw[aTN c3z];have hW4:∃W4,W4=W3.putObj (w.heap.size+1+1) (.cells (#[yv.v m1.length].setIfInBounds 0 (.slice y3.a q.length y3.c)) 59 (0,0)):=⟨_,rfl⟩;obtain⟨W4,hW4⟩:=hW4;rw[<-hW4];have o4:∀b,b≠w.heap.size+2->W4.heap[b]?=W3.heap[b]?:=λb hb=>by rw[hW4];exact World.putObj_heap_other hb
     have z4:W4.heap[w.heap.size+2]?=some (.cells #[y3.v q.length] 59 (0,0)):=by rw[hW4];exact World.putObj_heap_same (D9 hzl hB23.size)
     have s4':W4.heap.size=W3.heap.size:=by rw[hW4];simp[World.putObj]
     have k4:CK (w.heap.size+2) W3 W4:=λb _ _ _ hb _=>o4 b hb;simp only[World.size_alloc] at hs;refine⟨⟨by rw[s4'];exact hB23.size,λk o hk ho hoc=>?_⟩,⟨by rw[s4'];exact hB23.size,λk hk hz=>(o4 k hz).trans (hB23.block k aa)⟩,q,d3,⟨⟨?_,?_,?_,?_,λk hk=>?_⟩,(o4 _ aa).trans ((hB23.block _ (by have:=e2.below.size;omega)).trans e2.b1),⟨_,z4,⟨y3,rfl⟩,hr3.kept k4⟩,e2.ls.kept ((CK.below hB23).trans k4)⟩,e3.kept λD hD _=>(o4 D (by have:=hd2 D hD;omega)).trans (hB23.block D (by have:=hdB D hD;omega))⟩
     ·simp only[World.size_alloc] at hk;exact(o4 k aa).trans ((hB23.block k (aF6.1 ho).1).trans ho)
     ·rw[hW4];exact hB23.os.trans e2.below.os
     ·rw[hW4];exact hB23.tape.trans e2.below.tape
     ·rw[hW4];exact hB23.output.trans e2.below.output
     ·rw[s4'];exact lX e2.below.size hB23.size
     ·exact(o4 k aa).trans ((hB23.block k (by have:=e2.below.size;omega)).trans (e2.below.block k hk))
    case hI=>
     rintro pre X Y row ⟨m1,e1,e2,e3⟩ hg hr;simp only[World.size_alloc] at hr;have hrow:∀j,row=some j->W.heap.size<j:=λj e=>by have:=(hr j e).1;omega
     have nc:∀b t c f,X.heap[b]?=some (Obj.cells c t f)->Y.heap[b]?=X.heap[b]?:=λb t c f hb=>hg.block b (aF6.1 hb).1 λe=>by obtain⟨_,o,ho,hoc⟩:=hr b e.symm;rw[hb] at ho;cases ho;cases hoc
     refine⟨m1,e1,e2.kept (e2.below.grown hg e2.below.size λj e=>by have:=hrow j e;omega) aa (λb t c f _ hb=>nc b t c f hb) (let ⟨_,h,_⟩:=e2.b3;nc _ _ _ _ h),e3.kept λD hD h=>hg.block D (aF6.1 h).1 λe=>by have:=hrow D e.symm;have:=hdB D hD;omega⟩
    case h0=>
     have ba:Below W.heap.size W (W.alloc (.cells #[.slice la ls.length lc] 25)):=(Below.refl _ W).alloc (iU _) _;exact⟨m,by simp[tmB],hw.kept (hw.below.trans (ba.mono hw.below.size)) aa (CK.below ba) (ba.block _ hzW),hd1.kept λD hD _=>ba.block D (hdB D hD)⟩
    case hseq=>
     intro l J W' hb _ hY hJ;have hb':Below W.heap.size W W':=((Below.refl _ W).alloc (iU _) _).trans (hb.mono ae);refine bLD (F:=Fence.wide) (n:=7) (l:=l) (Bs:=W.heap.size) (n₀:=W.heap.size+1) (z:=w.heap.size+2) (ls:=ls) (a:=la) (cap:=lc) rfl trivial rfl ai ?_ ⟨aa,aa⟩ J (λpre x W1 h1 h2=>hY pre x W1 h1 h2) W' ?_ ?_ hJ
     ·have:=hlen;omega
     ·exact(World.cell?_of_block (hb.block W.heap.size ae)).trans (by simp only[World.cell?,World.alloc_heap_new];rfl)
     ·exact hin.imp id λ⟨b,off,e,hbz,hc⟩=>⟨b,off,e,⟨aa,hbz.2⟩,λj v hj=>(World.cell?_of_block (hb'.block b hbz.1)).trans (hc j v hj)⟩
    case hdone=>
     rintro D xs W' hD hxs ⟨m1,e1,e2,e3⟩ hK;rw[hxs,Nat.sub_self,UM,hm1] at e1;cases e1
     gi_wp2
     simp only[World.size_alloc] at hD;refine⟨⟨k+1,_,_,_,_,_,_,_,mkD D::ds,m',hlt,hm2,e2,⟨⟨D,rfl,hK,λE hE=>by have:=hdB E hE;omega,e3⟩,λE hE=>?_⟩,rfl⟩,?_⟩
     ·rcases j6.1 hE with e|e
      ·simp only[mkD,Deferred.mk.injEq,Target.collected.injEq] at e;omega
      ·exact hd2 E e
     ·simp[intOf];omega
   ·obtain rfl:k=L.length:=aa
    rw[List.take_length,hr] at hm;cases hm;obtain⟨_,f1,⟨yv,rfl⟩,f3⟩:=hw.b3;have c0:W.cell? ⟨w.heap.size+1+1,0,none⟩=some (yv.v r.length):=by simp only[World.cell?,f1];rfl
    gi_wp2
    refine hd1.leave λW' h2 h3 ⟨o1,o2,o3⟩=>⟨yv.v r.length,?_,yv,rfl,⟨o1.trans hw.below.os,o2.trans hw.below.tape,o3.trans hw.below.output,by rw[h3];exact hw.below.size,λk hk=>(h2 k λD hD=>by have:=hd2 D hD;omega).trans (hw.below.block k hk)⟩,f3.kept λb t' c f hz hb=>h2 b λD hD e=>?_⟩
    ·simp[results,f18,go_sem]
    ·have:=hd1.at D hD;rw[<-e,hb] at this;cases this
end
end Go.Proofs.YtkinioiglogchaaGreat
end
