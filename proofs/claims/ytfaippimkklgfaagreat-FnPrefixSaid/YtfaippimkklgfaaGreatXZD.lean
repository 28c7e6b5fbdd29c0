import Derived.Test.YtfaippimkklgfaaGreatXZC
set_option linter.unusedVariables false
set_option linter.unusedSimpArgs false
set_option linter.unusedSectionVars false
set_option linter.constructorNameAsVariable false
set_option linter.unnecessarySimpa false
noncomputable section
namespace Go.Gv
noncomputable section
def aJ6(code:List UInt8):Option Bool:=
 some (decide (1048576<(code.length:Int)))
def aNB(x5:Int):Option (Int×Int):=
 some (0,x5)
def IK(code:List UInt8)(x3 x4:Int)(x6:Bool):Option (Step (Int×Int) Int):=
 (if x6 then(idx code x4).bind fun x7=>some (.next (iP .and .i64 (bB ((bB ((bB (x3*131))+(x7.toNat:Int)))+7)) 1073741823,bB (x4+1))) else some (.stop (x3)))
def Z5(code:List UInt8):(Int×Int)->Option (Step (Int×Int) Int)
 | (x3,x4)=>(if decide (x4<(code.length:Int)) then IK code x3 x4 (decide (x4<4000)) else IK code x3 x4 false)
def aNC:Int->Option (Int×Int)
 | x5=>aNB x5
def NF(code:List UInt8):Option (Int×Int):=
 (loop (Z5 code) (bB (10101+(code.length:Int)),0)).bind (aNC)
def EN(c:bR)(x1 x2:Int):Option (Int×(Int×Int)):=
 some (x1,(x2,bB ((bB (c.h*6364136223846793005))+1442695040888963407)))
def tH(c:bR):Option (Int×(Int×Int)):=
 (if decide (c.i<(c.b.length:Int)) then(idx c.b c.i).bind fun x3=>EN c (iP .and .i64 (bB ((iP .and .i64 (iP .xor .i64 (pW .i64 (bB ((bB (c.h*6364136223846793005))+1442695040888963407)) 33) (pW .i64 (bB ((bB (c.h*6364136223846793005))+1442695040888963407)) 45)) 255)+(x3.toNat:Int))) 255) (bB (c.i+1)) else EN c (iP .and .i64 (iP .xor .i64 (pW .i64 (bB ((bB (c.h*6364136223846793005))+1442695040888963407)) 33) (pW .i64 (bB ((bB (c.h*6364136223846793005))+1442695040888963407)) 45)) 255) c.i)
def dI(c:bR)(n:Int):Option (Int×(Int×Int)):=
 (if decide (n<=0) then some (0,(c.i,c.h)) else(if decide (n<=256) then(tH c).bind fun x1=>need (n≠0) (some (Int.tmod x1.1 n,(x1.2.1,x1.2.2))) else(tH c).bind fun x2=>(tH (⟨c.b,x2.2.1,x2.2.2⟩:bR)).bind fun x3=>(tH (⟨c.b,x3.2.1,x3.2.2⟩:bR)).bind fun x4=>(tH (⟨c.b,x4.2.1,x4.2.2⟩:bR)).bind fun x5=>need (n≠0) (some (Int.tmod (bB ((bB ((bB ((bB (x2.1*16777216))+(bB (x3.1*65536))))+(bB (x4.1*256))))+x5.1)) n,(x5.2.1,x5.2.2)))))
def iQ(c:bR)(list:List Int):Option (Int×(Int×Int)):=
 (dI c (list.length:Int)).bind fun x1=>(idx list x1.1).bind fun x2=>some (x2,(x1.2.1,x1.2.2))
def mQ(x1:Bool):Option Bool:=
 some x1
def xB(kind:Int):Option Bool:=
 (if kind == 1 then mQ true else(if kind == 2 then mQ true else(if kind == 3 then mQ true else mQ (kind == 7))))
def PE(c:bR)(n:Int):Option (Bool×(Int×Int)):=
 (dI c n).bind fun x1=>some (x1.1 == 0,(x1.2.1,x1.2.2))
def IL(x1:Int×(Int×Int))(x4 x5 x6 x7 x8:Int):Option (kE×(Int×Int)):=
 some ((⟨x1.1,x4,x7,x8⟩:kE),(x5,x6))
def IM(c:bR)(x1:Int×(Int×Int))(x4 x10 x11 x12:Int):Option (kE×(Int×Int)):=
 (dI (⟨c.b,x10,x11⟩:bR) 60000).bind fun x13=>IL x1 x4 x13.2.1 x13.2.2 x12 x13.1
def A9(c:bR)(x1:Int×(Int×Int))(x2 x3 x4:Int):Option (kE×(Int×Int)):=
 (if x1.1 == 1 then(dI (⟨c.b,x2,x3⟩:bR) 40).bind fun x9=>(PE (⟨c.b,x9.2.1,x9.2.2⟩:bR) 12).bind fun x14=>(if x14.1 then(iQ (⟨c.b,x14.2.1,x14.2.2⟩:bR) ([0,41,100]:List Int)).bind fun x15=>IM c x1 x4 x15.2.1 x15.2.2 x15.1 else IM c x1 x4 x14.2.1 x14.2.2 (bB (1+x9.1))) else IL x1 x4 x2 x3 0 0)
def UD(c:bR):Option (kE×(Int×Int)):=
 (iQ c ([1,1,1,2,2,3,3,4,4,5,6,7,7]:List Int)).bind fun x1=>(xB x1.1).bind fun x16=>(if x16 then(iQ (⟨c.b,x1.2.1,x1.2.2⟩:bR) ([0,0,0,1]:List Int)).bind fun x17=>A9 c x1 x17.2.1 x17.2.2 x17.1 else A9 c x1 x1.2.1 x1.2.2 0)
def aCG(x9:List Queue)(x10 x11:Int):Option ((List Queue)×(Int×Int)):=
 some (x9,(x10,x11))
def PF(x5:List Queue)(x6 x21 x22:Int)(x23:List kE):Option (Step ((List Queue)×Int×Int×Int) ((List Queue)×Int×Int)):=
 need (x5.length+([(⟨x23⟩:Queue)]).length<=1073741824) (some (.next (x5++([(⟨x23⟩:Queue)]),bB (x6+1),x21,x22)))
def EO(x17 x24 x25:Int)(x26:List kE):Option (Step (Int×Int×Int×(List kE)) (Int×Int×(List kE))):=
 some (.next (bB (x17 - 1),x24,x25,x26))
def PG(c:bR):(Int×Int×Int×(List kE))->Option (Step (Int×Int×Int×(List kE)) (Int×Int×(List kE)))
 | (x17,x18,x19,x20)=>(if decide (0<x17) then(UD (⟨c.b,x18,x19⟩:bR)).bind fun x27=>need (x20.length+([x27.1]).length<=1073741824)<|EO x17 x27.2.1 x27.2.2 (x20++([x27.1])) else some (.stop ((x18,x19,x20))))
def PH(x5:List Queue)(x6:Int):(Int×Int×(List kE))->Option (Step ((List Queue)×Int×Int×Int) ((List Queue)×Int×Int))
 | (x21,x22,x23)=>PF x5 x6 x21 x22 x23
def PI(c:bR)(most:Int):((List Queue)×Int×Int×Int)->Option (Step ((List Queue)×Int×Int×Int) ((List Queue)×Int×Int))
 | (x5,x6,x7,x8)=>(if decide (x6<3) then(dI (⟨c.b,x7,x8⟩:bR) (bB (most+1))).bind fun x12=>(loop (PG c) (x12.1,x12.2.1,x12.2.2,[])).bind (PH x5 x6) else some (.stop ((x5,x7,x8))))
def aCH:((List Queue)×Int×Int)->Option ((List Queue)×(Int×Int))
 | (x9,x10,x11)=>aCG x9 x10 x11
def xC(c:bR)(most:Int):Option ((List Queue)×(Int×Int)):=
 (loop (PI c most) (([]:List Queue),0,c.i,c.h)).bind (aCH)
def aEW(x10:List Int)(x11 x12:Int):Option ((List Int)×(Int×Int)):=
 some (x10,(x11,x12))
def SK(x7:Int)(x14:Int×(Int×Int))(x19:List Int):Option (Step ((List Int)×Int×Int×Int) ((List Int)×Int×Int)):=
 some (.next (x19,bB (x7 - 1),x14.2.1,x14.2.2))
def SL(x13:Int×(Int×Int)):((List Int)×Int)->Option (Step ((List Int)×Int) (List Int))
 | (x17,x18)=>(if decide (0<x18) then need (x17.length+([x13.1]).length<=1073741824) (some (.next (x17++([x13.1]),bB (x18 - 1)))) else some (.stop (x17)))
def SM(x7:Int)(x14:Int×(Int×Int)):(List Int)->Option (Step ((List Int)×Int×Int×Int) ((List Int)×Int×Int))
 | x19=>SK x7 x14 x19
def SN(c:bR):((List Int)×Int×Int×Int)->Option (Step ((List Int)×Int×Int×Int) ((List Int)×Int×Int))
 | (x6,x7,x8,x9)=>(if decide (0<x7) then(dI (⟨c.b,x8,x9⟩:bR) 3).bind fun x13=>(dI (⟨c.b,x13.2.1,x13.2.2⟩:bR) 4).bind fun x14=>(loop (SL x13) (x6,bB (1+x14.1))).bind (SM x7 x14) else some (.stop ((x6,x8,x9))))
def aEX:((List Int)×Int×Int)->Option ((List Int)×(Int×Int))
 | (x10,x11,x12)=>aEW x10 x11 x12
def IN(c:bR)(most:Int):Option ((List Int)×(Int×Int)):=
 (dI c most).bind fun x1=>(loop (SN c) (([]:List Int),x1.1,x1.2.1,x1.2.2)).bind (aEX)
def lQ(x2:List Queue)(x3 x4:Int):Option ((List Queue)×(Int×Int)):=
 some (x2,(x3,x4))
def DD(x6:List Queue)(x7 x8:Int):Option ((List Queue)×(Int×Int)):=
 lQ x6 x7 x8
def aBA(x17:List Queue)(x18 x19:Int):Option ((List Queue)×(Int×Int)):=
 lQ x17 x18 x19
def DE(x14:List Queue)(x20:Bool)(x21 x22:Int):Option (Step ((List Queue)×Int×Int) ((List Queue)×Int×Int)):=
 (if x20 then(idx x14 1).bind fun x23=>need (x23.lX.length+([(⟨4,0,0,0⟩:kE)]).length<=1073741824) (some (.next (x14.set ((1:Int).toNat) (⟨x23.lX++([(⟨4,0,0,0⟩:kE)])⟩:Queue),x21,x22))) else some (.stop ((x14,x21,x22))))
def NG(c:bR):((List Queue)×Int×Int)->Option (Step ((List Queue)×Int×Int) ((List Queue)×Int×Int))
 | (x14,x15,x16)=>(idx x14 1).bind fun x24=>(dI (⟨c.b,x15,x16⟩:bR) 2).bind fun x25=>DE x14 (decide ((x24.lX.length:Int)<(bB (12+x25.1)))) x25.2.1 x25.2.2
def aBB:((List Queue)×Int×Int)->Option ((List Queue)×(Int×Int))
 | (x17,x18,x19)=>aBA x17 x18 x19
def CA(c:bR):Option ((List Queue)×(Int×Int)):=
 (xC c 7).bind fun x1=>(dI (⟨c.b,x1.2.1,x1.2.2⟩:bR) 20).bind fun x5=>(if x5.1 == 0 then need (0<=(2:Int)/\(2:Int)<=(x1.1.length:Int)) (some ((x1.1.take ((2:Int).toNat)).drop 0,(x5.2.1,x5.2.2))) else(if x5.1 == 1 then(idx x1.1 0).bind fun x9=>(iQ (⟨c.b,x5.2.1,x5.2.2⟩:bR) ([0,8]:List Int)).bind fun x10=>need (x9.lX.length+([(⟨x10.1,0,0,0⟩:kE)]).length<=1073741824)<|DD (x1.1.set ((0:Int).toNat) (⟨x9.lX++([(⟨x10.1,0,0,0⟩:kE)])⟩:Queue)) x10.2.1 x10.2.2 else(if x5.1 == 2 then(loop (NG c) (x1.1,x5.2.1,x5.2.2)).bind (aBB) else(if x5.1 == 3 then(idx x1.1 2).bind fun x26=>need (x26.lX.length+([(⟨2,2,0,0⟩:kE)]).length<=1073741824) (lQ (x1.1.set ((2:Int).toNat) (⟨x26.lX++([(⟨2,2,0,0⟩:kE)])⟩:Queue)) x5.2.1 x5.2.2) else lQ x1.1 x5.2.1 x5.2.2))))
def lM(x4:List Queue)(x5:List Int):Option nQ:=
 some (⟨x4,x5⟩:nQ)
def tO(code:List UInt8):Option nQ:=
 (NF code).bind fun x1=>(xC (⟨code,x1.1,x1.2⟩:bR) 8).bind fun x2=>(IN (⟨code,x2.2.1,x2.2.2⟩:bR) 90).bind fun x3=>(dI (⟨code,x3.2.1,x3.2.2⟩:bR) 16).bind fun x6=>(if x6.1 == 0 then(CA (⟨code,x6.2.1,x6.2.2⟩:bR)).bind fun x7=>lM x7.1 x3.1 else(if x6.1 == 1 then need (x3.1.length+([(-1),3,1]:List Int).length<=1073741824) (lM x2.1 (x3.1++([(-1),3,1]:List Int))) else lM x2.1 x3.1))
def EP(x1 x2:Int×(Int×Int))(x3 x4 x5:Int):Option (kJ×(Int×Int)):=
 some ((⟨x1.1,x2.1,x5⟩:kJ),(x3,x4))
def ER(c:bR)(x1 x2:Int×(Int×Int))(x6:Bool):Option (kJ×(Int×Int)):=
 (if x6 then(dI (⟨c.b,x2.2.1,x2.2.2⟩:bR) 60000).bind fun x7=>(iQ (⟨c.b,x7.2.1,x7.2.2⟩:bR) ([1,65535,x7.1]:List Int)).bind fun x8=>EP x1 x2 x8.2.1 x8.2.2 x8.1 else EP x1 x2 x2.2.1 x2.2.2 0)
def JT(c:bR):Option (kJ×(Int×Int)):=
 (iQ c ([1,1,2,2,3,4,4]:List Int)).bind fun x1=>(dI (⟨c.b,x1.2.1,x1.2.2⟩:bR) 6).bind fun x2=>(if x1.1 == 2 then ER c x1 x2 true else ER c x1 x2 (x1.1 == 4))
def aGO(x11 x12:Int)(x13:List kJ):Option (Batch×(Int×Int)):=
 some ((⟨false,x13⟩:Batch),(x11,x12))
def KM(x7 x14 x15:Int)(x16:List kJ):Option (Step (Int×Int×Int×(List kJ)) (Int×Int×(List kJ))):=
 some (.next (bB (x7 - 1),x14,x15,x16))
def VL(c:bR):(Int×Int×Int×(List kJ))->Option (Step (Int×Int×Int×(List kJ)) (Int×Int×(List kJ)))
 | (x7,x8,x9,x10)=>(if decide (0<x7) then(JT (⟨c.b,x8,x9⟩:bR)).bind fun x17=>need (x10.length+([x17.1]).length<=1073741824)<|KM x7 x17.2.1 x17.2.2 (x10++([x17.1])) else some (.stop ((x8,x9,x10))))
def aGP:(Int×Int×(List kJ))->Option (Batch×(Int×Int))
 | (x11,x12,x13)=>aGO x11 x12 x13
def LK(c:bR):Option (Batch×(Int×Int)):=
 (PE c 4).bind fun x1=>(if x1.1 then some ((⟨true,[]⟩:Batch),(x1.2.1,x1.2.2)) else(dI (⟨c.b,x1.2.1,x1.2.2⟩:bR) 3).bind fun x2=>(loop (VL c) (bB (1+x2.1),x2.2.1,x2.2.2,[])).bind (aGP))
def aCI(x9:List aN)(x10 x11:Int):Option ((List aN)×(Int×Int)):=
 some (x9,(x10,x11))
def PJ(x5:List aN)(x6 x21 x22:Int)(x23:List Batch):Option (Step ((List aN)×Int×Int×Int) ((List aN)×Int×Int)):=
 need (x5.length+([(⟨x23⟩:aN)]).length<=1073741824) (some (.next (x5++([(⟨x23⟩:aN)]),bB (x6+1),x21,x22)))
def ES(x17 x24 x25:Int)(x26:List Batch):Option (Step (Int×Int×Int×(List Batch)) (Int×Int×(List Batch))):=
 some (.next (bB (x17 - 1),x24,x25,x26))
def PK(c:bR):(Int×Int×Int×(List Batch))->Option (Step (Int×Int×Int×(List Batch)) (Int×Int×(List Batch)))
 | (x17,x18,x19,x20)=>(if decide (0<x17) then(LK (⟨c.b,x18,x19⟩:bR)).bind fun x27=>need (x20.length+([x27.1]).length<=1073741824)<|ES x17 x27.2.1 x27.2.2 (x20++([x27.1])) else some (.stop ((x18,x19,x20))))
def PL(x5:List aN)(x6:Int):(Int×Int×(List Batch))->Option (Step ((List aN)×Int×Int×Int) ((List aN)×Int×Int))
 | (x21,x22,x23)=>PJ x5 x6 x21 x22 x23
def PM(c:bR)(most:Int):((List aN)×Int×Int×Int)->Option (Step ((List aN)×Int×Int×Int) ((List aN)×Int×Int))
 | (x5,x6,x7,x8)=>(if decide (x6<3) then(dI (⟨c.b,x7,x8⟩:bR) (bB (most+1))).bind fun x12=>(loop (PK c) (x12.1,x12.2.1,x12.2.2,[])).bind (PL x5 x6) else some (.stop ((x5,x7,x8))))
def aCJ:((List aN)×Int×Int)->Option ((List aN)×(Int×Int))
 | (x9,x10,x11)=>aCI x9 x10 x11
def xD(c:bR)(most:Int):Option ((List aN)×(Int×Int)):=
 (loop (PM c most) (([]:List aN),0,c.i,c.h)).bind (aCJ)
def aEY(x10:List Int)(x11 x12:Int):Option ((List Int)×(Int×Int)):=
 some (x10,(x11,x12))
def SO(x7:Int)(x14:Int×(Int×Int))(x19:List Int):Option (Step ((List Int)×Int×Int×Int) ((List Int)×Int×Int)):=
 some (.next (x19,bB (x7 - 1),x14.2.1,x14.2.2))
def SQ(x13:Int×(Int×Int)):((List Int)×Int)->Option (Step ((List Int)×Int) (List Int))
 | (x17,x18)=>(if decide (0<x18) then need (x17.length+([x13.1]).length<=1073741824) (some (.next (x17++([x13.1]),bB (x18 - 1)))) else some (.stop (x17)))
def SR(x7:Int)(x14:Int×(Int×Int)):(List Int)->Option (Step ((List Int)×Int×Int×Int) ((List Int)×Int×Int))
 | x19=>SO x7 x14 x19
def SS(c:bR):((List Int)×Int×Int×Int)->Option (Step ((List Int)×Int×Int×Int) ((List Int)×Int×Int))
 | (x6,x7,x8,x9)=>(if decide (0<x7) then(dI (⟨c.b,x8,x9⟩:bR) 3).bind fun x13=>(dI (⟨c.b,x13.2.1,x13.2.2⟩:bR) 8).bind fun x14=>(loop (SQ x13) (x6,bB (1+x14.1))).bind (SR x7 x14) else some (.stop ((x6,x8,x9))))
def aEZ:((List Int)×Int×Int)->Option ((List Int)×(Int×Int))
 | (x10,x11,x12)=>aEY x10 x11 x12
def IP(c:bR)(most:Int):Option ((List Int)×(Int×Int)):=
 (dI c most).bind fun x1=>(loop (SS c) (([]:List Int),x1.1,x1.2.1,x1.2.2)).bind (aEZ)
def rT(x2 x3 x4 x5 x6:Int):Option (kJ×(Int×Int)):=
 some ((⟨x4,x5,x6⟩:kJ),(x2,x3))
def PN(c:bR):Option (kJ×(Int×Int)):=
 (JT c).bind fun x1=>(dI (⟨c.b,x1.2.1,x1.2.2⟩:bR) 14).bind fun x7=>(if x7.1 == 0 then(iQ (⟨c.b,x7.2.1,x7.2.2⟩:bR) ([0,5]:List Int)).bind fun x8=>rT x8.2.1 x8.2.2 x8.1 x1.1.Key x1.1.cK else(if x7.1 == 1 then(iQ (⟨c.b,x7.2.1,x7.2.2⟩:bR) ([(-1),99,100]:List Int)).bind fun x9=>rT x9.2.1 x9.2.2 x1.1.Kind x9.1 x1.1.cK else(if x7.1 == 2 then(iQ (⟨c.b,x7.2.1,x7.2.2⟩:bR) ([(-1),65536,1,0]:List Int)).bind fun x10=>rT x10.2.1 x10.2.2 x1.1.Kind x1.1.Key x10.1 else rT x7.2.1 x7.2.2 x1.1.Kind x1.1.Key x1.1.cK)))
def lR(x2:List aN)(x3 x4:Int):Option ((List aN)×(Int×Int)):=
 some (x2,(x3,x4))
def NH(x13:List aN)(x14 x15:Int):Option ((List aN)×(Int×Int)):=
 lR x13 x14 x15
def DF(x10:List aN)(x16:Bool)(x17 x18:Int):Option (Step ((List aN)×Int×Int) ((List aN)×Int×Int)):=
 (if x16 then(idx x10 1).bind fun x19=>need (x19.List.length+([(⟨true,[]⟩:Batch)]).length<=1073741824) (some (.next (x10.set ((1:Int).toNat) (⟨x19.List++([(⟨true,[]⟩:Batch)])⟩:aN),x17,x18))) else some (.stop ((x10,x17,x18))))
def NI(c:bR):((List aN)×Int×Int)->Option (Step ((List aN)×Int×Int) ((List aN)×Int×Int))
 | (x10,x11,x12)=>(idx x10 1).bind fun x20=>(dI (⟨c.b,x11,x12⟩:bR) 2).bind fun x21=>DF x10 (decide ((x20.List.length:Int)<(bB (12+x21.1)))) x21.2.1 x21.2.2
def aBC:((List aN)×Int×Int)->Option ((List aN)×(Int×Int))
 | (x13,x14,x15)=>NH x13 x14 x15
def DG(x22:List aN)(x23 x24:Int):Option ((List aN)×(Int×Int)):=
 lR x22 x23 x24
def CB(c:bR):Option ((List aN)×(Int×Int)):=
 (xD c 5).bind fun x1=>(dI (⟨c.b,x1.2.1,x1.2.2⟩:bR) 20).bind fun x5=>(if x5.1 == 0 then need (0<=(2:Int)/\(2:Int)<=(x1.1.length:Int)) (some ((x1.1.take ((2:Int).toNat)).drop 0,(x5.2.1,x5.2.2))) else(if x5.1 == 1 then(idx x1.1 0).bind fun x6=>need (x6.List.length+([(⟨false,[]⟩:Batch)]).length<=1073741824) (lR (x1.1.set ((0:Int).toNat) (⟨x6.List++([(⟨false,[]⟩:Batch)])⟩:aN)) x5.2.1 x5.2.2) else(if x5.1 == 2 then(loop (NI c) (x1.1,x5.2.1,x5.2.2)).bind (aBC) else(if x5.1 == 3 then(idx x1.1 2).bind fun x25=>(PN (⟨c.b,x5.2.1,x5.2.2⟩:bR)).bind fun x26=>need (x25.List.length+([(⟨false,[x26.1]⟩:Batch)]).length<=1073741824)<|DG (x1.1.set ((2:Int).toNat) (⟨x25.List++([(⟨false,[x26.1]⟩:Batch)])⟩:aN)) x26.2.1 x26.2.2 else lR x1.1 x5.2.1 x5.2.2))))
def lN(x4:List aN)(x5:List Int):Option jP:=
 some (⟨x4,x5⟩:jP)
def tP(code:List UInt8):Option jP:=
 (NF code).bind fun x1=>(xD (⟨code,x1.1,x1.2⟩:bR) 6).bind fun x2=>(IP (⟨code,x2.2.1,x2.2.2⟩:bR) 60).bind fun x3=>(dI (⟨code,x3.2.1,x3.2.2⟩:bR) 16).bind fun x6=>(if x6.1 == 0 then(CB (⟨code,x6.2.1,x6.2.2⟩:bR)).bind fun x7=>lN x7.1 x3.1 else(if x6.1 == 1 then need (x3.1.length+([(-1),3,1]:List Int).length<=1073741824) (lN x2.1 (x3.1++([(-1),3,1]:List Int))) else lN x2.1 x3.1))
def LL(x1:Bool):Option Bool:=
 some x1
def bX(x low high:Int):Option Bool:=
 (if decide (low<=x) then LL (decide (x<=high)) else LL false)
def LM(x3:Bool):Option Bool:=
 some x3
def LN(x4:Bool):Option Bool:=
 some x4
def ET(o_:kE)(x2:Bool):Option Bool:=
 (if x2 then some false else(if o_.Kind != 1 then(if o_.lY == 0 then LM (o_.cK == 0) else LM false) else(bX o_.lY 0 100).bind fun x5=>(if x5 then(bX o_.cK 0 65535).bind fun x6=>LN x6 else LN false)))
def ZF(o_:kE):Option Bool:=
 (bX o_.Kind 1 7).bind fun x1=>(if !x1 then some false else(xB o_.Kind).bind fun x7=>(if !x7 then(if o_.Cell != 0 then ET o_ true else(bX o_.Cell 0 1).bind fun x8=>ET o_ (!x8)) else(bX o_.Cell 0 1).bind fun x9=>ET o_ (!x9)))
def VM(todo:List Queue):Option Bool:=
 some ((todo.length:Int) == 3)
def VN(x2:Int):Option (Step Int (Out Unit Bool)):=
 some (.next (bB (x2+1)))
def pH(todo:List Queue)(x2:Int):Int->Option (Step Int (Out Unit Bool))
 | x5=>(idx todo x2).bind fun x6=>(if decide (x5<(x6.lX.length:Int)) then(idx todo x2).bind fun x7=>(idx x7.lX x5).bind fun x8=>(ZF x8).bind fun x9=>(if !x9 then some (.stop (Out.ret false)) else some (.next (bB (x5+1)))) else some (.stop (Out.brk ())))
def VO(x2:Int):(Out Unit Bool)->Option (Step Int (Out Unit Bool))
 | .brk ()=>VN x2
 | .ret r=>some (.stop (Out.ret r))
def pI(todo:List Queue):Int->Option (Step Int (Out Unit Bool))
 | x2=>(if decide (x2<(todo.length:Int)) then(idx todo x2).bind fun x3=>(if decide (12<(x3.lX.length:Int)) then some (.stop (Out.ret false)) else(loop (pH todo x2) 0).bind (VO x2)) else some (.stop (Out.brk ())))
def VQ(todo:List Queue):(Out Unit Bool)->Option Bool
 | .brk ()=>VM todo
 | .ret r=>some r
def LO(todo:List Queue):Option Bool:=
 (loop (pI todo) 0).bind (VQ todo)
def aGQ(x5:List Int):Option Heap:=
 some (⟨List.replicate ((384:Int).toNat) 0,x5⟩:Heap)
def uR:(Int×(List Int))->Option (Step (Int×(List Int)) (List Int))
 | (x3,x4)=>(if decide (x3<6) then need (x4.length+([(-1)]).length<=1073741824) (some (.next (bB (x3+1),x4++([(-1)])))) else some (.stop (x4)))
def aGR:(List Int)->Option Heap
 | x5=>aGQ x5
def LP:Option Heap:=
 need (0<=(384:Int)/\(384:Int)<=4294967296) ((loop (uR) (0,[])).bind (aGR))
def SU:Option aB:=
 some (⟨List.replicate ((3:Int).toNat) (⟨[]⟩:aY),List.replicate ((9:Int).toNat) (⟨[]⟩:aY)⟩:aB)
def QP:Option aB:=
 need (0<=(3:Int)/\(3:Int)<=4294967296)<|need (0<=(9:Int)/\(9:Int)<=4294967296)<|SU
def XG:Option Mem:=
 (LP).bind fun x1=>(QP).bind fun x2=>some (⟨x1,x2⟩:Mem)
def QQ:Option aG:=
 need (0<=(3:Int)/\(3:Int)<=4294967296) (some (⟨0,List.replicate ((3:Int).toNat) (⟨false,0,false,0⟩:wW)⟩:aG))
def QT:Option (List bM):=
 need (0<=(3:Int)/\(3:Int)<=4294967296) (some (List.replicate ((3:Int).toNat) (⟨[]⟩:bM)))
def XH:Option (List Int):=
 need (0<=(3:Int)/\(3:Int)<=4294967296) (some (List.replicate ((3:Int).toNat) 0))
def EU:Option aA:=
 (XG).bind fun x1=>(QQ).bind fun x2=>(QT).bind fun x3=>(XH).bind fun x4=>some (⟨x1,x2,x3,x4⟩:aA)
def aCK(x5:List Queue):Option (List Queue):=
 some x5
def EV(l:List Queue):((List Queue)×Int)->Option (Step ((List Queue)×Int) (List Queue))
 | (x3,x4)=>(if decide (x4<(l.length:Int)) then(idx l x4).bind fun x6=>need (([]:List kE).length+x6.lX.length<=1073741824) (need (x3.length+([(⟨([]:List kE)++x6.lX⟩:Queue)]).length<=1073741824) (some (.next (x3++([(⟨([]:List kE)++x6.lX⟩:Queue)]),bB (x4+1))))) else some (.stop (x3)))
def aCL:(List Queue)->Option (List Queue)
 | x5=>aCK x5
def EW(l:List Queue):Option (List Queue):=
 (loop (EV l) (([]:List Queue),0)).bind (aCL)
def SW(x2:aE):Option aE:=
 some ({x2 with Log:=[]}:aE)
def IQ(todo:List Queue):Option aE:=
 (LO todo).bind fun x1=>(if !x1 then some (⟨(⟨(⟨(⟨[],[]⟩:Heap),(⟨[],[]⟩:aB)⟩:Mem),(⟨0,[]⟩:aG),[],[]⟩:aA),[],[],[],[],0⟩:aE) else(EU).bind fun x3=>need (0<=(2:Int)/\(2:Int)<=4294967296)<|need (0<=(3:Int)/\(3:Int)<=4294967296)<|(EW todo).bind fun x4=>SW (⟨x3,List.replicate ((2:Int).toNat) 0,List.replicate ((3:Int).toNat) (⟨false,(⟨0,0,0,0⟩:kE),0,0,(⟨0,0,0,0,0,0,0,0,0,false⟩:Sub),0,0,0,0⟩:fU),x4,[],0⟩:aE))
def UE(x:nQ):Option Bool:=
 (IQ x.cC).bind fun x1=>some ((x1.aH.length:Int) == 3)
def IS(c:kJ)(x2:Bool):Option Bool:=
 (if x2 then(bX c.cK 0 65535).bind fun x3=>some x3 else some (c.cK == 0))
def IT(c:kJ)(x1:Bool):Option Bool:=
 (if x1 then some false else(if c.Kind == 2 then IS c true else IS c (c.Kind == 4)))
def UF(c:kJ):Option Bool:=
 (bX c.Kind 1 4).bind fun x4=>(if !x4 then IT c true else(bX c.Key 0 99).bind fun x5=>IT c (!x5))
def VR(b:Batch):Option Bool:=
 (bX (b.cB.length:Int) 1 6).bind fun x3=>some x3
def pJ(b:Batch):Int->Option (Step Int (Out Unit Bool))
 | x2=>(if decide (x2<(b.cB.length:Int)) then(idx b.cB x2).bind fun x4=>(UF x4).bind fun x5=>(if !x5 then some (.stop (Out.ret false)) else some (.next (bB (x2+1)))) else some (.stop (Out.brk ())))
def VT(b:Batch):(Out Unit Bool)->Option Bool
 | .brk ()=>VR b
 | .ret r=>some r
def LQ(b:Batch):Option Bool:=
 (if b.Collect then some ((b.cB.length:Int) == 0) else(loop (pJ b) 0).bind (VT b))
def VU(todo:List aN):Option Bool:=
 some ((todo.length:Int) == 3)
def VV(x2:Int):Option (Step Int (Out Unit Bool)):=
 some (.next (bB (x2+1)))
def pK(todo:List aN)(x2:Int):Int->Option (Step Int (Out Unit Bool))
 | x5=>(idx todo x2).bind fun x6=>(if decide (x5<(x6.List.length:Int)) then(idx todo x2).bind fun x7=>(idx x7.List x5).bind fun x8=>(LQ x8).bind fun x9=>(if !x9 then some (.stop (Out.ret false)) else some (.next (bB (x5+1)))) else some (.stop (Out.brk ())))
def VW(x2:Int):(Out Unit Bool)->Option (Step Int (Out Unit Bool))
 | .brk ()=>VV x2
 | .ret r=>some (.stop (Out.ret r))
def pL(todo:List aN):Int->Option (Step Int (Out Unit Bool))
 | x2=>(if decide (x2<(todo.length:Int)) then(idx todo x2).bind fun x3=>(if decide (12<(x3.List.length:Int)) then some (.stop (Out.ret false)) else(loop (pK todo x2) 0).bind (VW x2)) else some (.stop (Out.brk ())))
def VX(todo:List aN):(Out Unit Bool)->Option Bool
 | .brk ()=>VU todo
 | .ret r=>some r
def LR(todo:List aN):Option Bool:=
 (loop (pL todo) 0).bind (VX todo)
def UG(l:List kJ):Option (List kJ):=
 need (([]:List kJ).length+l.length<=1073741824) (some (([]:List kJ)++l))
def IU(b:Batch):Option Batch:=
 (UG b.cB).bind fun x1=>some (⟨b.Collect,x1⟩:Batch)
def aCM(x5:List aN):Option (List aN):=
 some x5
def PO(x3:List aN)(x4:Int)(x10:List Batch):Option (Step ((List aN)×Int) (List aN)):=
 need (x3.length+([(⟨x10⟩:aN)]).length<=1073741824) (some (.next (x3++([(⟨x10⟩:aN)]),bB (x4+1))))
def EX(x8:Int)(x12:List Batch):Option (Step (Int×(List Batch)) (List Batch)):=
 some (.next (bB (x8+1),x12))
def EY(l:List aN)(x4:Int):(Int×(List Batch))->Option (Step (Int×(List Batch)) (List Batch))
 | (x8,x9)=>(idx l x4).bind fun x11=>(if decide (x8<(x11.List.length:Int)) then(idx l x4).bind fun x13=>(idx x13.List x8).bind fun x14=>(IU x14).bind fun x15=>need (x9.length+([x15]).length<=1073741824)<|EX x8 (x9++([x15])) else some (.stop (x9)))
def PQ(x3:List aN)(x4:Int):(List Batch)->Option (Step ((List aN)×Int) (List aN))
 | x10=>PO x3 x4 x10
def EZ(l:List aN):((List aN)×Int)->Option (Step ((List aN)×Int) (List aN))
 | (x3,x4)=>(if decide (x4<(l.length:Int)) then(loop (EY l x4) (0,[])).bind (PQ x3 x4) else some (.stop (x3)))
def aCN:(List aN)->Option (List aN)
 | x5=>aCM x5
def E0(l:List aN):Option (List aN):=
 (loop (EZ l) (([]:List aN),0)).bind (aCN)
def SX(x2:Table):Option Table:=
 some ({x2 with Log:=[]}:Table)
def IV(todo:List aN):Option Table:=
 (LR todo).bind fun x1=>(if !x1 then some (⟨(⟨(⟨(⟨[],[]⟩:Heap),(⟨[],[]⟩:aB)⟩:Mem),(⟨0,[]⟩:aG),[],[]⟩:aA),[],[],[],[],0⟩:Table) else(EU).bind fun x3=>need (0<=(2:Int)/\(2:Int)<=4294967296)<|need (0<=(3:Int)/\(3:Int)<=4294967296)<|(E0 todo).bind fun x4=>SX (⟨x3,List.replicate ((2:Int).toNat) (⟨0,0,0⟩:dZ),List.replicate ((3:Int).toNat) (⟨false,(⟨false,[]⟩:Batch),0,0,0,0,0,0,0,0,(⟨0,0,0⟩:iZ),false,0,(⟨0,0,0,0,0,0,0,0,0,false⟩:Sub),[],[],[],[],[],[]⟩:aR),x4,[],0⟩:Table))
def PR(x:jP):Option Bool:=
 (IV x.cC).bind fun x1=>some ((x1.aH.length:Int) == 3)
def AG:Option Int:=
 some (-1)
def lF(s:List Queue)(f:(Queue->Option Bool)):Int->Option (Step Int (Out Unit Int))
 | x2=>(if decide (x2<(s.length:Int)) then(idx s x2).bind fun x3=>(f x3).bind fun x4=>(if x4 then some (.stop (Out.ret x2)) else some (.next (bB (x2+1)))) else some (.stop (Out.brk ())))
def AH:(Out Unit Int)->Option Int
 | .brk ()=>AG
 | .ret r=>some r
def tQ(s:List Queue)(f:(Queue->Option Bool)):Option Int:=
 (loop (lF s f) 0).bind (AH)
def lG(s:List Queue)(f:(Queue->Option Bool)):Option Bool:=
 (tQ s f).bind fun x1=>some (decide (0<=x1))
def E1:Option Int:=
 some (-1)
def nS(s:List kE)(f:(kE->Option Bool)):Int->Option (Step Int (Out Unit Int))
 | x2=>(if decide (x2<(s.length:Int)) then(idx s x2).bind fun x3=>(f x3).bind fun x4=>(if x4 then some (.stop (Out.ret x2)) else some (.next (bB (x2+1)))) else some (.stop (Out.brk ())))
def E2:(Out Unit Int)->Option Int
 | .brk ()=>E1
 | .ret r=>some r
def AO(s:List kE)(f:(kE->Option Bool)):Option Int:=
 (loop (nS s f) 0).bind (E2)
def nT(s:List kE)(f:(kE->Option Bool)):Option Bool:=
 (AO s f).bind fun x1=>some (decide (0<=x1))
def rU(x1:Bool):Option Bool:=
 some x1
def bY(n low high:Int):Option Bool:=
 (if decide (low<=n) then rU (decide (n<=high)) else rU false)
def LS(x4:Bool):Option Bool:=
 some x4
def LU(x7:Bool):Option Bool:=
 some x7
def E3(o_:kE)(x3:Bool):Option Bool:=
 (if x3 then some false else(if o_.Kind == 1 then(bY o_.lY 0 100).bind fun x5=>(if x5 then(bY o_.cK 0 65535).bind fun x6=>LS x6 else LS false) else(if o_.lY == 0 then LU (o_.cK == 0) else LU false)))
def pY(o_:kE)(x1:Bool):Option Bool:=
 (bY o_.Kind 1 7).bind fun x2=>(if !x2 then some false else(if x1 then(bY o_.Cell 0 1).bind fun x8=>(if !x8 then E3 o_ true else E3 o_ false) else E3 o_ (o_.Cell != 0)))
def SY(o_:kE):Option Bool:=
 (if o_.Kind == 1 then pY o_ true else(if o_.Kind == 2 then pY o_ true else(if o_.Kind == 3 then pY o_ true else pY o_ (o_.Kind == 7))))
def CC(o_:kE):Option Bool:=
 (SY o_).bind fun x1=>some (!x1)
def y5(x1:Bool):Option Bool:=
 some x1
def IW(q:Queue):Option Bool:=
 (if decide (12<(q.lX.length:Int)) then y5 true else(nT q.lX (fun y0=>CC y0)).bind fun x2=>y5 x2)
def E4(x1:Bool):Option Bool:=
 some x1
def PT(todo:List Queue):Option Bool:=
 (if(todo.length:Int) == 3 then(lG todo (fun y0=>IW y0)).bind fun x2=>E4 (!x2) else E4 false)
def VY(x y:Int):Option (Int×Int):=
 some (IntKind.u64.wrap ((IntKind.u64.wrap ((IntKind.u64.wrap ((pW .u64 x 32)*(pW .u64 y 32)))+(pW .u64 (IntKind.u64.wrap ((IntKind.u64.wrap ((pW .u64 x 32)*(iP .and .u64 y 4294967295)))+(pW .u64 (IntKind.u64.wrap ((iP .and .u64 x 4294967295)*(iP .and .u64 y 4294967295))) 32))) 32)))+(pW .u64 (IntKind.u64.wrap ((iP .and .u64 (IntKind.u64.wrap ((IntKind.u64.wrap ((pW .u64 x 32)*(iP .and .u64 y 4294967295)))+(pW .u64 (IntKind.u64.wrap ((iP .and .u64 x 4294967295)*(iP .and .u64 y 4294967295))) 32))) 4294967295)+(IntKind.u64.wrap ((iP .and .u64 x 4294967295)*(pW .u64 y 32))))) 32)),IntKind.u64.wrap (x*y))
def QU(x y:Int):Option (Int×Int):=
 (VY x y).bind fun x1=>some (x1.1,x1.2)
def XI(x7:List Int):Option (List Int):=
 some x7
def mE:((List Int)×Int)->Option (Step ((List Int)×Int) (List Int))
 | (x5,x6)=>(if decide (x6<(x5.length:Int)) then need (0<=(x6:Int)/\(x6:Int)<=(x5.length:Int)) (need (0<=(x6:Int)/\(x6:Int)<=(x5.length:Int)) (some (.next (dC x5 x6.toNat ((x5.take x6.toNat).drop 0),bB (x6+((min ((x5.take x6.toNat).drop 0).length (x5.length - x6.toNat):Nat):Int)))))) else some (.stop (x5)))
def XJ:(List Int)->Option (List Int)
 | x7=>XI x7
def pZ(x:List Int)(x1:Int×Int)(x2:Bool):Option (List Int):=
 (if x2 then none else need (0<=(IntKind.i64.wrap x1.2:Int)/\(IntKind.i64.wrap x1.2:Int)<=4294967296) ((loop (mE) (dC (List.replicate ((IntKind.i64.wrap x1.2).toNat) 0) 0 x,((min x.length ((List.replicate ((IntKind.i64.wrap x1.2).toNat) 0:List Int).length - 0):Nat):Int))).bind (XJ)))
def wJ(x:List Int)(count:Int):Option (List Int):=
 (if decide (count<0) then none else(QU (IntKind.u64.wrap (x.length:Int)) (IntKind.u64.wrap count)).bind fun x1=>(if decide (0<x1.1) then pZ x x1 true else pZ x x1 (decide (9223372036854775807<x1.2))))
def VZ(x1:List Int):Option Heap:=
 some (⟨List.replicate ((384:Int).toNat) 0,x1⟩:Heap)
def LV:Option Heap:=
 need (0<=(384:Int)/\(384:Int)<=4294967296)<|(wJ ([(-1)]) 6).bind fun x2=>VZ x2
def SZ:Option aB:=
 some (⟨List.replicate ((3:Int).toNat) (⟨[]⟩:aY),List.replicate ((9:Int).toNat) (⟨[]⟩:aY)⟩:aB)
def QV:Option aB:=
 need (0<=(3:Int)/\(3:Int)<=4294967296)<|need (0<=(9:Int)/\(9:Int)<=4294967296)<|SZ
def XL:Option Mem:=
 (LV).bind fun x1=>(QV).bind fun x2=>some (⟨x1,x2⟩:Mem)
def QW:Option aG:=
 need (0<=(3:Int)/\(3:Int)<=4294967296) (some (⟨0,List.replicate ((3:Int).toNat) (⟨false,0,false,0⟩:wW)⟩:aG))
def QX:Option (List bM):=
 need (0<=(3:Int)/\(3:Int)<=4294967296) (some (List.replicate ((3:Int).toNat) (⟨[]⟩:bM)))
def XM:Option (List Int):=
 need (0<=(3:Int)/\(3:Int)<=4294967296) (some (List.replicate ((3:Int).toNat) 0))
def E5:Option aA:=
 (XL).bind fun x1=>(QW).bind fun x2=>(QX).bind fun x3=>(XM).bind fun x4=>some (⟨x1,x2,x3,x4⟩:aA)
def KN(s:List kE):Option (List kE):=
 need (([]:List kE).length+s.length<=1073741824) (some (([]:List kE)++s))
def aE0(x5:List Queue):Option (List Queue):=
 some x5
def H4(todo:List Queue):((List Queue)×Int)->Option (Step ((List Queue)×Int) (List Queue))
 | (x3,x4)=>(if decide (x4<(todo.length:Int)) then(idx todo x4).bind fun x6=>(KN x6.lX).bind fun x7=>need (x3.length+([(⟨x7⟩:Queue)]).length<=1073741824) (some (.next (x3++([(⟨x7⟩:Queue)]),bB (x4+1)))) else some (.stop (x3)))
def aE1:(List Queue)->Option (List Queue)
 | x5=>aE0 x5
def IX(todo:List Queue):Option (List Queue):=
 (loop (H4 todo) (([]:List Queue),0)).bind (aE1)
def S1(x2:aE):Option aE:=
 some ({x2 with Log:=[]}:aE)
def IY(todo:List Queue):Option aE:=
 (PT todo).bind fun x1=>(if !x1 then some (⟨(⟨(⟨(⟨[],[]⟩:Heap),(⟨[],[]⟩:aB)⟩:Mem),(⟨0,[]⟩:aG),[],[]⟩:aA),[],[],[],[],0⟩:aE) else(E5).bind fun x3=>need (0<=(2:Int)/\(2:Int)<=4294967296)<|need (0<=(3:Int)/\(3:Int)<=4294967296)<|(IX todo).bind fun x4=>S1 (⟨x3,List.replicate ((2:Int).toNat) 0,List.replicate ((3:Int).toNat) (⟨false,(⟨0,0,0,0⟩:kE),0,0,(⟨0,0,0,0,0,0,0,0,0,false⟩:Sub),0,0,0,0⟩:fU),x4,[],0⟩:aE))
def fC(w_:Int):Option Bool:=
 (bY w_ 0 2).bind fun x1=>some x1
def eG(s:aE)(kind w_ handle val code:Int)(x1:fU):Option aE:=
 some ({s with Log:=s.Log++([(⟨kind,w_,x1.aI,x1.Op.Cell,handle,val,code⟩:Ev)])}:aE)
def dU(s:aE)(kind w_ handle val code:Int):Option aE:=
 (idx s.aH w_).bind fun x1=>need (s.Log.length+([(⟨kind,w_,x1.aI,x1.Op.Cell,handle,val,code⟩:Ev)]).length<=1073741824)<|eG s kind w_ handle val code x1
def y6(s:List kE)(i j:Int):Option (List kE):=
 need (0<=(i:Int)/\(i:Int)<=(j:Int)/\(j:Int)<=((s.length:Int):Int)/\((s.length:Int):Int)<=(s.length:Int)) ((if i == j then some s else need (0<=(i:Int)/\(i:Int)<=(s.length:Int)) (need (0<=(j:Int)/\(j:Int)<=(s.length:Int)) (need (i.toNat<=j.toNat) (need (0<=(((((dC s i.toNat (s.drop j.toNat)).take (i.toNat+(s.length - j.toNat))).drop 0).length:Int):Int)/\(((((dC s i.toNat (s.drop j.toNat)).take (i.toNat+(s.length - j.toNat))).drop 0).length:Int):Int)<=((s.length:Int):Int)/\((s.length:Int):Int)<=((dC s i.toNat (s.drop j.toNat)).length:Int)) (some (((dC s i.toNat (s.drop j.toNat)).take (i.toNat+(s.length - j.toNat))).drop 0)))))))
def eO(kind a_:Int):Option Sub:=
 some (⟨kind,a_,0,0,0,0,0,0,0,false⟩:Sub)
def bS(j:fU)(code:Int):Option fU:=
 some ({j with Pc:=9,Code:=code}:fU)
def eQ(s:aE)(w_:Int)(x4:(List kE))(x5:fU):Option aE:=
 (idx s.aH w_).bind fun x6=>(dU ({s with aH:=s.aH.set w_.toNat x5,cC:=s.cC.set w_.toNat (⟨x4⟩:Queue),aI:=bB (s.aI+1)}:aE) 1 w_ 0 0 0).bind fun x7=>some x7
def kU(s:aE)(w_:Int)(x3:kE)(x4:(List kE))(x9:Bool):Option aE:=
 (if x9 then(eO 5 0).bind fun x10=>(idx s.aA.aG.cW w_).bind fun x11=>(if x11.On then(bS (⟨true,x3,bB (s.aI+1),0,x10,0,0,0,0⟩:fU) 1).bind fun x12=>eQ s w_ x4 x12 else eQ s w_ x4 (⟨true,x3,bB (s.aI+1),0,x10,0,0,0,0⟩:fU)) else(if x3.Kind == 4 then(eO 3 0).bind fun x13=>eQ s w_ x4 (⟨true,x3,bB (s.aI+1),0,x13,0,0,0,0⟩:fU) else eQ s w_ x4 (⟨true,x3,bB (s.aI+1),0,(⟨0,0,0,0,0,0,0,0,0,false⟩:Sub),0,0,0,0⟩:fU)))
def rC(s:aE)(w_:Int)(x1:Bool):Option aE:=
 (if x1 then some s else(idx s.cC w_).bind fun x2=>(idx x2.lX 0).bind fun x3=>(y6 x2.lX 0 1).bind fun x4=>(if x3.Kind == 1 then(eO 1 x3.lY).bind fun x8=>eQ s w_ x4 (⟨true,x3,bB (s.aI+1),0,x8,0,0,0,0⟩:fU) else(if x3.Kind == 2 then kU s w_ x3 x4 true else kU s w_ x3 x4 (x3.Kind == 5))))
def y7(s:aE)(w_:Int):Option aE:=
 (idx s.cC w_).bind fun x14=>(if(x14.lX.length:Int) == 0 then rC s w_ true else rC s w_ (s.aI == 1000000))
def bN(s:Sub)(code:Int):Option Sub:=
 some ({s with Code:=code,dB:=true}:Sub)
def lZ(c:Int):Option Bool:=
 (bY c 0 2).bind fun x1=>some x1
def xE(c:Int):Option Int:=
 (lZ c).bind fun x1=>(if !x1 then some 0 else(idx ([8,16,40]:List Int) c).bind fun x2=>some x2)
def aGS:Option Int:=
 some (-1)
def CD(x2:Int)(x3:Bool):Option (Step Int (Out Unit Int)):=
 (if x3 then some (.stop (Out.ret x2)) else some (.next (bB (x2+1))))
def kY(size:Int):Int->Option (Step Int (Out Unit Int))
 | x2=>(if decide (x2<3) then(if decide (1<=size) then(xE x2).bind fun x4=>CD x2 (decide (size<=x4)) else CD x2 false) else some (.stop (Out.brk ())))
def aGT:(Out Unit Int)->Option Int
 | .brk ()=>aGS
 | .ret r=>some r
def LW(size:Int):Option Int:=
 (loop (kY size) 0).bind (aGT)
def i5(s:List Int):Option (List Int):=
 need (([]:List Int).length+s.length<=1073741824) (some (([]:List Int)++s))
def aCO(x5 x10:List aY):Option aB:=
 some (⟨x5,x10⟩:aB)
def E6(x8:Int)(x12:List aY):Option (Step (Int×(List aY)) (List aY)):=
 some (.next (bB (x8+1),x12))
def E7(l:aB):(Int×(List aY))->Option (Step (Int×(List aY)) (List aY))
 | (x8,x9)=>(if decide (x8<(l.Own.length:Int)) then(idx l.Own x8).bind fun x11=>(i5 x11.aW).bind fun x13=>need (x9.length+([(⟨x13⟩:aY)]).length<=1073741824)<|E6 x8 (x9++([(⟨x13⟩:aY)])) else some (.stop (x9)))
def aCP(x5:List aY):(List aY)->Option aB
 | x10=>aCO x5 x10
def PU(l:aB)(x5:List aY):Option aB:=
 (loop (E7 l) (0,[])).bind (aCP x5)
def E8(x3:Int)(x15:List aY):Option (Step (Int×(List aY)) (List aY)):=
 some (.next (bB (x3+1),x15))
def E9(l:aB):(Int×(List aY))->Option (Step (Int×(List aY)) (List aY))
 | (x3,x4)=>(if decide (x3<(l.Global.length:Int)) then(idx l.Global x3).bind fun x14=>(i5 x14.aW).bind fun x16=>need (x4.length+([(⟨x16⟩:aY)]).length<=1073741824)<|E8 x3 (x4++([(⟨x16⟩:aY)])) else some (.stop (x4)))
def PW(l:aB):(List aY)->Option aB
 | x5=>PU l x5
def jK(l:aB):Option aB:=
 (loop (E9 l) (0,[])).bind (PW l)
def oD(slot:Int):Option Bool:=
 (bY slot 0 23).bind fun x1=>some x1
def tR(x10:List Raw):Option (List Raw):=
 some x10
def i6(slices:List (List Raw)):((List Raw)×Int)->Option (Step ((List Raw)×Int) (List Raw))
 | (x8,x9)=>(if decide (x9<(slices.length:Int)) then(idx slices x9).bind fun x11=>need (x8.length+x11.length<=1073741824) (some (.next (x8++x11,bB (x9+1)))) else some (.stop (x8)))
def UH:(List Raw)->Option (List Raw)
 | x10=>tR x10
def nU(slices:List (List Raw))(x5:Int):Option (List Raw):=
 need (0<=x5/\x5<=1073741824) ((loop (i6 slices) ([],0)).bind (UH))
def g8(slices:List (List Raw)):(Int×Int)->Option (Step (Int×Int) Int)
 | (x3,x4)=>(if decide (x4<(slices.length:Int)) then(idx slices x4).bind fun x12=>(if decide ((bB (x3+(x12.length:Int)))<0) then none else some (.next (bB (x3+(x12.length:Int)),bB (x4+1)))) else some (.stop (x3)))
def FA(slices:List (List Raw)):Int->Option (List Raw)
 | x5=>nU slices x5
def rD(slices:List (List Raw)):Option (List Raw):=
 (loop (g8 slices) (0,0)).bind (FA slices)
theorem OU{u1 u2:List Raw}(h:u1.length+u2.length<=1073741824):loop (g8 [u1,u2]) (0,0)=some ((u1.length+u2.length:Nat):Int):=by
 have e1:bB (u1.length:Int)=u1.length:=NB (by omega);have e2:bB ((u1.length:Int)+(u2.length:Int))=((u1.length+u2.length:Nat):Int):=by rw[NB (by omega)];rfl
 have e3:bB (0+1)=1:=NB (by omega);have e4:bB 2=2:=NB (by omega);have n1:¬(u1.length:Int)<0:=by omega
 have n2:¬((u1.length+u2.length:Nat):Int)<0:=by omega
 rw[bW (s':=((u1.length:Int),1)) ?_,bW (s':=(((u1.length+u2.length:Nat):Int),2)) ?_,bV (r:=((u1.length+u2.length:Nat):Int)) ?_]
 ·simp[g8]
 ·simp[g8,idx,e2,e4];omega
 ·simp[g8,idx,e1,n1];exact e3
theorem S2{u1 u2:List Raw}{n1 n2:Nat}(hl:u1.length=n1/\u2.length=n2)(h:n1+n2<=1073741824):rD [u1,u2]=some (u1++u2):=by
 obtain⟨rfl,rfl⟩:=hl;have e3:bB (0+1)=1:=NB (by omega);have e4:bB 2=2:=NB (by omega);unfold rD;rw[OU h];simp only[aD,FA,nU];rw[aK (by omega),bW (s':=(u1,1)) ?_,bW (s':=(u1++u2,2)) ?_,bV (r:=u1++u2) ?_]
 ·rfl
 ·simp[i6]
 ·simp[i6,idx,e4,aK h]
 ·have h1:u1.length<=1073741824:=by omega
  simp[i6,idx,aK h1];exact e3
def KO:Option Bool:=
 some true
def CE(x4:Int)(x12:List Bool):Option (Step (Int×(List Bool)) (Out Unit Bool)):=
 some (.next (bB (x4+1),x12))
def pM(x10:Int)(x11:List Bool)(x13:Int)(x14:Bool):Option (Step (Int×(List Bool)) (Out (List Bool) Bool)):=
 (if x14 then some (.stop (Out.ret false)) else need (0<=(x13:Int)/\(x13:Int)<24) ((idx (x11:List Bool) x13).bind fun x15=>some (.next (bB (x10+1),x11.set (x13.toNat) true))))
def mY(x6:aY):(Int×(List Bool))->Option (Step (Int×(List Bool)) (Out (List Bool) Bool))
 | (x10,x11)=>(if decide (x10<(x6.aW.length:Int)) then(idx x6.aW x10).bind fun x13=>(oD x13).bind fun x16=>(if !x16 then pM x10 x11 x13 true else need (0<=(x13:Int)/\(x13:Int)<24) ((idx (x11:List Bool) x13).bind fun x17=>pM x10 x11 x13 x17)) else some (.stop (Out.brk x11)))
def V1(x4:Int):(Out (List Bool) Bool)->Option (Step (Int×(List Bool)) (Out Unit Bool))
 | .brk x12=>CE x4 x12
 | .ret r=>some (.stop (Out.ret r))
def mZ(x4:Int)(x5:List Bool)(x6:aY)(x7:Bool):Option (Step (Int×(List Bool)) (Out Unit Bool)):=
 (if x7 then some (.stop (Out.ret false)) else(loop (mY x6) (0,x5)).bind (V1 x4))
def m4(l:aB):(Int×(List Bool))->Option (Step (Int×(List Bool)) (Out Unit Bool))
 | (x4,x5)=>(if decide (x4<((l.Own++l.Global).length:Int)) then(idx (l.Own++l.Global) x4).bind fun x6=>(if decide (x4<(l.Own.length:Int)) then mZ x4 x5 x6 (decide (2<(x6.aW.length:Int))) else mZ x4 x5 x6 false) else some (.stop (Out.brk ())))
def aGU:(Out Unit Bool)->Option Bool
 | .brk ()=>KO
 | .ret r=>some r
def uS(l:aB)(x1:Bool):Option Bool:=
 (if x1 then some false else need (l.Own.length+l.Global.length<=1073741824) ((loop (m4 l) (0,[false,false,false,false,false,false,false,false,false,false,false,false,false,false,false,false,false,false,false,false,false,false,false,false])).bind (aGU)))
def l4(l:aB):Option Bool:=
 (if(l.Global.length:Int) != 3 then uS l true else uS l ((l.Own.length:Int) != 9))
def IZ(w_ c:Int)(x1:Bool):Option Int:=
 (if x1 then some (-1) else some (bB ((bB (w_*3))+c)))
def NJ(w_ c:Int):Option Int:=
 (fC w_).bind fun x2=>(if !x2 then IZ w_ c true else(lZ c).bind fun x3=>IZ w_ c (!x3))
def xF(s:aY):Option (Int×aY):=
 (if decide ((bB ((s.aW.length:Int) - 1))<0) then some ((-1),s) else(idx s.aW (bB ((s.aW.length:Int) - 1))).bind fun x1=>need (0<=(bB ((s.aW.length:Int) - 1):Int)/\(bB ((s.aW.length:Int) - 1):Int)<=(bB ((s.aW.length:Int) - 1):Int)/\(bB ((s.aW.length:Int) - 1):Int)<=(s.aW.length:Int)) (some (x1,(⟨(s.aW.take ((bB ((s.aW.length:Int) - 1)).toNat)).drop 0⟩:aY))))
def CF(x1:aB)(x2:Int)(x3:Bool):Option (aB×Int):=
 (if x3 then some (x1,(-1)) else(idx x1.Own x2).bind fun x4=>(xF x4).bind fun x5=>some ((⟨x1.Global,x1.Own.set x2.toNat x5.2⟩:aB),x5.1))
def LX(l:aB)(w_ c:Int):Option (aB×Int):=
 (jK l).bind fun x1=>(NJ w_ c).bind fun x2=>(l4 l).bind fun x6=>(if !x6 then CF x1 x2 true else CF x1 x2 (decide (x2<0)))
def tS(c:Int)(x1:aB)(x2:Bool):Option (aB×Int):=
 (if x2 then some (x1,(-1)) else(idx x1.Global c).bind fun x3=>(xF x3).bind fun x4=>some ((⟨x1.Global.set c.toNat x4.2,x1.Own⟩:aB),x4.1))
def CG(l:aB)(c:Int):Option (aB×Int):=
 (jK l).bind fun x1=>(l4 l).bind fun x5=>(if !x5 then tS c x1 true else(lZ c).bind fun x6=>tS c x1 (!x6))
def jQ(width:Int):Option Bool:=
 (bY width 1 7).bind fun x1=>some x1
def aND(x8:List UInt8):Option (List UInt8):=
 some x8
def qQ:(Int×(List UInt8)×Int)->Option (Step (Int×(List UInt8)×Int) (List UInt8))
 | (x5,x6,x7)=>(if decide (0<=x7) then(idx x6 x7).bind fun x9=>some (.next (pW .i64 x5 8,x6.set x7.toNat (u8 x5),bB (x7 - 1))) else some (.stop (x6)))
def aNE:(List UInt8)->Option (List UInt8)
 | x8=>aND x8
def vT(n width:Int)(x1:Bool):Option (List UInt8):=
 (if x1 then some ([]) else need (0<=(width:Int)/\(width:Int)<=4294967296) ((loop (qQ) (n,List.replicate (width.toNat) 0,bB (width - 1))).bind (aNE)))
def lS(n width:Int):Option (List UInt8):=
 (jQ width).bind fun x10=>(if !x10 then vT n width true else(if decide (n<0) then vT n width true else need (0<=(IntKind.u64.wrap (bB (8*width)):Int)) (vT n width (decide ((aJF .i64 1 (IntKind.u64.wrap (bB (8*width))))<=n)))))
def NL(b x5:List Int):Option (List Int):=
 need (x5.length=b.length) (some x5)
def mF(b:List Int)(at_:Int)(text:List UInt8):((List Int)×Int)->Option (Step ((List Int)×Int) (List Int))
 | (x3,x4)=>need (x3.length=b.length) ((if decide (x4<(text.length:Int)) then(idx text x4).bind fun x6=>(idx x3 (bB (at_+x4))).bind fun x7=>some (.next (x3.set ((bB (at_+x4)).toNat) (x6.toNat:Int),bB (x4+1))) else some (.stop (x3))))
def NM(b:List Int):(List Int)->Option (List Int)
 | x5=>NL b x5
def mG(b:List Int)(at_:Int)(text:List UInt8):Option (List Int):=
 (loop (mF b at_ text) (b,0)).bind (NM b)
def LB:Option Int:=
 some (-1)
def fE(s:List Int)(v:Int):Int->Option (Step Int (Out Unit Int))
 | x2=>(if decide (x2<(s.length:Int)) then(idx s x2).bind fun x3=>(if v == x3 then some (.stop (Out.ret x2)) else some (.next (bB (x2+1)))) else some (.stop (Out.brk ())))
def AP:(Out Unit Int)->Option Int
 | .brk ()=>LB
 | .ret r=>some r
def oF(s:List Int)(v:Int):Option Int:=
 (loop (fE s v) 0).bind (AP)
def vU(h:Heap):Option Heap:=
 (i5 h.Bytes).bind fun x1=>(i5 h.Class).bind fun x2=>some (⟨x1,x2⟩:Heap)
def vV(c:Int):Option Int:=
 (lZ c).bind fun x1=>(if !x1 then some 0 else(xE c).bind fun x2=>some (bB (4+x2)))
def p5(c:Int):Option Int:=
 (lZ c).bind fun x1=>(if !x1 then some 0 else(vV c).bind fun x2=>need (x2≠0) (some (bB (Int.tdiv 56 x2))))
def BA(slot c:Int)(x1:Bool):Option Int:=
 (if x1 then some (-1) else(vV c).bind fun x2=>some (bB ((bB ((bB ((bB (Int.tdiv slot 4))*64))+8))+(bB ((Int.tmod slot 4)*x2)))))
def xG(slot c:Int):Option Int:=
 (oD slot).bind fun x3=>(if !x3 then BA slot c true else(lZ c).bind fun x4=>(if !x4 then BA slot c true else(p5 c).bind fun x5=>BA slot c (decide (x5<=(Int.tmod slot 4)))))
def D6:Option Int:=
 some (-1)
def j5(s:List Int)(f:(Int->Option Bool)):Int->Option (Step Int (Out Unit Int))
 | x2=>(if decide (x2<(s.length:Int)) then(idx s x2).bind fun x3=>(f x3).bind fun x4=>(if x4 then some (.stop (Out.ret x2)) else some (.next (bB (x2+1)))) else some (.stop (Out.brk ())))
def rV:(Out Unit Int)->Option Int
 | .brk ()=>D6
 | .ret r=>some r
def xH(s:List Int)(f:(Int->Option Bool)):Option Int:=
 (loop (j5 s f) 0).bind (rV)
def gO(s:List Int)(f:(Int->Option Bool)):Option Bool:=
 (xH s f).bind fun x1=>some (decide (0<=x1))
def XN(x:Int):Option Bool:=
 (bY x 0 255).bind fun x1=>some x1
def FB(x:Int):Option Bool:=
 (XN x).bind fun x1=>some (!x1)
def CH(x1:Bool):Option Bool:=
 some x1
def LY(b:List Int):Option Bool:=
 (if decide ((b.length:Int)<=1000) then(gO b (fun y0=>FB y0)).bind fun x2=>CH (!x2) else CH false)
def I0(c:Int):Option Bool:=
 (bY c (-1) 2).bind fun x1=>some (!x1)
def rW(x1:Bool):Option Bool:=
 some x1
def JU(h:Heap):Option Bool:=
 (if(h.Bytes.length:Int) == 384 then(LY h.Bytes).bind fun x2=>(if x2 then(if(h.Class.length:Int) == 6 then(gO h.Class (fun y0=>I0 y0)).bind fun x3=>rW (!x3) else rW false) else rW false) else rW false)
def aGV(x5:Int):Option Int:=
 some x5
def uT(b:List Int)(at_ width:Int):(Int×Int)->Option (Step (Int×Int) Int)
 | (x3,x4)=>(if decide (x4<(((b.take ((bB (at_+width)).toNat)).drop at_.toNat).length:Int)) then(idx ((b.take ((bB (at_+width)).toNat)).drop at_.toNat) x4).bind fun x6=>some (.next (bB ((bB (256*x3))+x6),bB (x4+1))) else some (.stop (x3)))
def aGW:Int->Option Int
 | x5=>aGV x5
def jR(b:List Int)(at_ width:Int):Option Int:=
 need (0<=(at_:Int)/\(at_:Int)<=(bB (at_+width):Int)/\(bB (at_+width):Int)<=(b.length:Int)) ((loop (uT b at_ width) (0,0)).bind (aGW))
def I1(x:Int):Option Bool:=
 some (x != 0)
def JV(b:List Int):Option Bool:=
 (gO b (fun y0=>I1 y0)).bind fun x1=>some (!x1)
def aJ7:Option Bool:=
 some true
def rX(h:Heap)(page x1 x4:Int):Int->Option (Step Int (Out Unit Bool))
 | x6=>(if decide (x6<x4) then(vV x1).bind fun x7=>(jR ((h.Bytes.take ((bB ((bB (page+1))*64)).toNat)).drop ((bB (page*64)).toNat)) (bB (8+(bB (x6*x7)))) 4).bind fun x8=>(bY x8 1 7).bind fun x9=>(if !x9 then some (.stop (Out.ret false)) else some (.next (bB (x6+1)))) else some (.stop (Out.brk ())))
def aJ8:(Out Unit Bool)->Option Bool
 | .brk ()=>aJ7
 | .ret r=>some r
def kN(h:Heap)(page x1:Int)(x3:Bool):Option Bool:=
 (if x3 then some false else(p5 x1).bind fun x4=>(loop (rX h page x1 x4) 0).bind (aJ8))
def PX(h:Heap)(page:Int):Option Bool:=
 (idx h.Class page).bind fun x1=>need (0<=(bB (page*64):Int)/\(bB (page*64):Int)<=(bB ((bB (page+1))*64):Int)/\(bB ((bB (page+1))*64):Int)<=(h.Bytes.length:Int)) ((if decide (x1<0) then(JV ((h.Bytes.take ((bB ((bB (page+1))*64)).toNat)).drop ((bB (page*64)).toNat))).bind fun x2=>some x2 else(idx ((h.Bytes.take ((bB ((bB (page+1))*64)).toNat)).drop ((bB (page*64)).toNat)) 0).bind fun x10=>(if x10 != 171 then kN h page x1 true else(idx ((h.Bytes.take ((bB ((bB (page+1))*64)).toNat)).drop ((bB (page*64)).toNat)) 1).bind fun x11=>(if x11 != x1 then kN h page x1 true else(idx ((h.Bytes.take ((bB ((bB (page+1))*64)).toNat)).drop ((bB (page*64)).toNat)) 2).bind fun x12=>(p5 x1).bind fun x13=>(if x12 != x13 then kN h page x1 true else need (0<=(3:Int)/\(3:Int)<=(8:Int)/\(8:Int)<=(((h.Bytes.take ((bB ((bB (page+1))*64)).toNat)).drop ((bB (page*64)).toNat)).length:Int)) ((JV ((((h.Bytes.take ((bB ((bB (page+1))*64)).toNat)).drop ((bB (page*64)).toNat)).take ((8:Int).toNat)).drop ((3:Int).toNat))).bind fun x14=>kN h page x1 (!x14)))))))
def aJ9:Option Bool:=
 some true
def xI(h:Heap):Int->Option (Step Int (Out Unit Bool))
 | x3=>(if decide (x3<6) then(PX h x3).bind fun x4=>(if !x4 then some (.stop (Out.ret false)) else some (.next (bB (x3+1)))) else some (.stop (Out.brk ())))
def aKA:(Out Unit Bool)->Option Bool
 | .brk ()=>aJ9
 | .ret r=>some r
def JW(h:Heap):Option Bool:=
 (JU h).bind fun x1=>(if !x1 then some false else(loop (xI h) 0).bind (aKA))
def FC(page index:Int)(x1:Bool):Option Int:=
 (if x1 then some (-1) else some (bB ((bB (page*4))+index)))
def PY(page index:Int):Option Int:=
 (bY page 0 5).bind fun x2=>(if !x2 then FC page index true else(bY index 0 3).bind fun x3=>FC page index (!x3))
def aNF(c:Int)(x1:Heap)(x2:Int)(x13 x14:List Int):Option (Heap×(List Int)):=
 some ((⟨x14,x1.Class.set x2.toNat c⟩:Heap),x13)
def QY(x10:List Int)(x11 x15:Int)(x16:List Int):Option (Step ((List Int)×Int×(List Int)) ((List Int)×(List Int))):=
 need (x10.length+([x15]).length<=1073741824) (some (.next (x10++([x15]),bB (x11+1),x16)))
def I2(c x2 x6:Int):((List Int)×Int×(List Int))->Option (Step ((List Int)×Int×(List Int)) ((List Int)×(List Int)))
 | (x10,x11,x12)=>(if decide (x11<x6) then(PY x2 x11).bind fun x15=>(xG x15 c).bind fun x17=>(lS 1 4).bind fun x18=>(mG x12 x17 x18).bind fun x19=>QY x10 x11 x15 x19 else some (.stop ((x10,x12))))
def aNG(c:Int)(x1:Heap)(x2:Int):((List Int)×(List Int))->Option (Heap×(List Int))
 | (x13,x14)=>aNF c x1 x2 x13 x14
def QZ(c:Int)(x1:Heap)(x2:Int)(x5:List Int):Option (Heap×(List Int)):=
 (p5 c).bind fun x6=>(loop (I2 c x2 x6) (([]:List Int),0,x5)).bind (aNG c x1 x2)
def BC(c:Int)(x1:Heap)(x2:Int)(x3:Bool):Option (Heap×(List Int)):=
 (if x3 then some (x1,([]:List Int)) else(idx x1.Class x2).bind fun x4=>need (0<=(bB (x2*64):Int)/\(bB (x2*64):Int)<=(x1.Bytes.length:Int))<|(p5 c).bind fun x20=>QZ c x1 x2 (dC x1.Bytes ((bB (x2*64)).toNat) ([171,c,x20]:List Int)))
def H5(h:Heap)(c:Int):Option (Heap×(List Int)):=
 (vU h).bind fun x1=>(oF h.Class (-1)).bind fun x2=>(JW h).bind fun x21=>(if !x21 then BC c x1 x2 true else(lZ c).bind fun x22=>(if !x22 then BC c x1 x2 true else BC c x1 x2 (decide (x2<0))))
def KP(x4:Int)(x5:Mem):Option (Mem×Int):=
 some (x5,x4)
def KQ(c:Int)(x1:Heap×(List Int))(x2:Mem):Option (Mem×Int):=
 (if(x1.2.length:Int) == 0 then some (x2,(-1)) else(idx x2.aB.Global c).bind fun x3=>need (0<=(1:Int)/\(1:Int)<=(x1.2.length:Int)) (need (x3.aW.length+((x1.2.take x1.2.length).drop ((1:Int).toNat)).length<=1073741824) ((idx x1.2 0).bind fun x6=>KP x6 (⟨x2.Heap,(⟨x2.aB.Global.set c.toNat (⟨x3.aW++((x1.2.take x1.2.length).drop ((1:Int).toNat))⟩:aY),x2.aB.Own⟩:aB)⟩:Mem))))
def LZ(m:Mem)(c:Int):Option (Mem×Int):=
 (H5 m.Heap c).bind fun x1=>(jK m.aB).bind fun x7=>KQ c x1 (⟨x1.1,x7⟩:Mem)
def CI(h:Heap)(slot:Int)(x1:Bool):Option Int:=
 (if x1 then some (-1) else(idx h.Class (bB (Int.tdiv slot 4))).bind fun x2=>some x2)
def kO(h:Heap)(slot:Int):Option Int:=
 (oD slot).bind fun x3=>(if !x3 then CI h slot true else(idx h.Class (bB (Int.tdiv slot 4))).bind fun x4=>(xG slot x4).bind fun x5=>CI h slot (decide (x5<0)))
def tT(h:Heap)(slot:Int):Option Int:=
 (JU h).bind fun x1=>(if !x1 then some (-1) else(kO h slot).bind fun x2=>some x2)
def DH(h:Heap)(slot:Int):Option Int:=
 (tT h slot).bind fun x1=>(if decide (x1<0) then some 0 else(xG slot x1).bind fun x2=>(jR h.Bytes x2 4).bind fun x3=>some x3)
def y8(slot gen:Int)(x1:Bool):Option Int:=
 (if x1 then some 0 else some (bB ((bB (gen*32))+slot)))
def Q0(slot gen:Int):Option Int:=
 (oD slot).bind fun x2=>(if !x2 then y8 slot gen true else(bY gen 1 6).bind fun x3=>y8 slot gen (!x3))
def I3(m:Mem)(slot:Int):Option Int:=
 (DH m.Heap slot).bind fun x1=>(Q0 slot x1).bind fun x2=>some x2
def jG(s:Sub)(x3:Int)(x4:aA):Option (Sub×aA):=
 (if decide (0<=x3) then(I3 x4.Mem x3).bind fun x5=>(bN ({s with Out:=x5}:Sub) 0).bind fun x6=>some (x6,x4) else(if s.Pc == 3 then(bN s 3).bind fun x7=>some (x7,x4) else some (({s with Pc:=bB (s.Pc+1)}:Sub),x4)))
def o5(s:Sub)(b:aA)(x1:Int)(x9:Bool):Option (Sub×aA):=
 (if x9 then(CG b.Mem.aB x1).bind fun x10=>jG s x10.2 ({b with Mem:=(⟨b.Mem.Heap,x10.1⟩:Mem)}:aA) else(if s.Pc == 2 then(LZ b.Mem x1).bind fun x11=>jG s x11.2 ({b with Mem:=x11.1}:aA) else(bN s 1).bind fun x12=>some (x12,b)))
def tU(s:Sub)(b:aA)(w_:Int):Option (Sub×aA):=
 (LW s.A).bind fun x1=>(if decide (x1<0) then(bN s 2).bind fun x2=>some (x2,b) else(if s.Pc == 0 then(LX b.Mem.aB w_ x1).bind fun x8=>jG s x8.2 ({b with Mem:=(⟨b.Mem.Heap,x8.1⟩:Mem)}:aA) else(if s.Pc == 1 then o5 s b x1 true else o5 s b x1 (s.Pc == 3))))
def AI:Option Int:=
 some (-1)
def lH(s:List bM)(f:(bM->Option Bool)):Int->Option (Step Int (Out Unit Int))
 | x2=>(if decide (x2<(s.length:Int)) then(idx s x2).bind fun x3=>(f x3).bind fun x4=>(if x4 then some (.stop (Out.ret x2)) else some (.next (bB (x2+1)))) else some (.stop (Out.brk ())))
def AJ:(Out Unit Int)->Option Int
 | .brk ()=>AI
 | .ret r=>some r
def tV(s:List bM)(f:(bM->Option Bool)):Option Int:=
 (loop (lH s f) 0).bind (AJ)
def lI(s:List bM)(f:(bM->Option Bool)):Option Bool:=
 (tV s f).bind fun x1=>some (decide (0<=x1))
def BD:Option Int:=
 some (-1)
def l5(s:List eJ)(f:(eJ->Option Bool)):Int->Option (Step Int (Out Unit Int))
 | x2=>(if decide (x2<(s.length:Int)) then(idx s x2).bind fun x3=>(f x3).bind fun x4=>(if x4 then some (.stop (Out.ret x2)) else some (.next (bB (x2+1)))) else some (.stop (Out.brk ())))
def BE:(Out Unit Int)->Option Int
 | .brk ()=>BD
 | .ret r=>some r
def wE(s:List eJ)(f:(eJ->Option Bool)):Option Int:=
 (loop (l5 s f) 0).bind (BE)
def l6(s:List eJ)(f:(eJ->Option Bool)):Option Bool:=
 (wE s f).bind fun x1=>some (decide (0<=x1))
def oG(x1:Bool):Option Bool:=
 some x1
def fF(h:Int):Option Bool:=
 (bY h 32 223).bind fun x2=>(if x2 then oG (decide ((Int.tmod h 32)<24)) else oG false)
def rE(x1:Bool):Option Bool:=
 some x1
def rY(r_:eJ)(k0:Int):Option Bool:=
 (fF r_.Handle).bind fun x2=>(if x2 then rE ((Int.tmod r_.Handle 32) == k0) else rE false)
def FD(own:bM)(k0:Int):Option Bool:=
 (l6 own.Rows (fun y0=>rY y0 k0)).bind fun x1=>some x1
def FE(l:List bM)(slot:Int):Option Bool:=
 (lI l (fun y0=>FD y0 slot)).bind fun x1=>some x1
def nE(s:List Int)(v:Int):Option Bool:=
 (oF s v).bind fun x1=>some (decide (0<=x1))
def qR(s:aY)(k0:Int):Option Bool:=
 (nE s.aW k0).bind fun x1=>some x1
def AK:Option Int:=
 some (-1)
def lJ(s:List aY)(f:(aY->Option Bool)):Int->Option (Step Int (Out Unit Int))
 | x2=>(if decide (x2<(s.length:Int)) then(idx s x2).bind fun x3=>(f x3).bind fun x4=>(if x4 then some (.stop (Out.ret x2)) else some (.next (bB (x2+1)))) else some (.stop (Out.brk ())))
def AL:(Out Unit Int)->Option Int
 | .brk ()=>AK
 | .ret r=>some r
def tW(s:List aY)(f:(aY->Option Bool)):Option Int:=
 (loop (lJ s f) 0).bind (AL)
def jA(s:List aY)(f:(aY->Option Bool)):Option Bool:=
 (tW s f).bind fun x1=>some (decide (0<=x1))
def FF(x1:Bool):Option Bool:=
 some x1
def JX(l:aB)(slot:Int):Option Bool:=
 (jA l.Global (fun y0=>qR y0 slot)).bind fun x2=>(if x2 then FF true else(jA l.Own (fun y0=>qR y0 slot)).bind fun x3=>FF x3)
def L4(m:Mem)(slot:Int):Option Int:=
 (kO m.Heap slot).bind fun x1=>(if decide (x1<0) then some 0 else(JX m.aB slot).bind fun x2=>(if x2 then some 1 else(DH m.Heap slot).bind fun x3=>(if decide (6<x3) then some 2 else some 3)))
def xJ(x1:Bool):Option Bool:=
 some x1
def xK(m:Mem)(h:Int):Option Bool:=
 (fF h).bind fun x2=>(if x2 then(L4 m (Int.tmod h 32)).bind fun x3=>(if x3 == 3 then(DH m.Heap (Int.tmod h 32)).bind fun x4=>xJ (x4 == (bB (Int.tdiv h 32))) else xJ false) else xJ false)
def FG(x5:Int):Option Int:=
 some x5
def kP(l:List bM):(Int×Int)->Option (Step (Int×Int) Int)
 | (x3,x4)=>(if decide (x4<(l.length:Int)) then(idx l x4).bind fun x6=>some (.next (bB (x3+(x6.Rows.length:Int)),bB (x4+1))) else some (.stop (x3)))
def aCQ:Int->Option Int
 | x5=>FG x5
def xL(l:List bM):Option Int:=
 (loop (kP l) (0,0)).bind (aCQ)
def CJ(l:List bM):Option Bool:=
 (xL l).bind fun x5=>some (decide (x5<=24))
def CK(x3:Int)(x11:List Bool):Option (Step (Int×(List Bool)) (Out Unit Bool)):=
 some (.next (bB (x3+1),x11))
def kZ(x9:Int)(x10:List Bool)(x12:eJ)(x13:Bool):Option (Step (Int×(List Bool)) (Out (List Bool) Bool)):=
 (if x13 then some (.stop (Out.ret false)) else need (0<=(Int.tmod x12.Handle 32:Int)/\(Int.tmod x12.Handle 32:Int)<24) ((idx (x10:List Bool) (Int.tmod x12.Handle 32)).bind fun x14=>some (.next (bB (x9+1),x10.set ((Int.tmod x12.Handle 32).toNat) true))))
def m5(x6:bM):(Int×(List Bool))->Option (Step (Int×(List Bool)) (Out (List Bool) Bool))
 | (x9,x10)=>(if decide (x9<(x6.Rows.length:Int)) then(idx x6.Rows x9).bind fun x12=>(fF x12.Handle).bind fun x15=>(if !x15 then kZ x9 x10 x12 true else(bY x12.aQ 0 100000).bind fun x16=>(if !x16 then kZ x9 x10 x12 true else need (0<=(Int.tmod x12.Handle 32:Int)/\(Int.tmod x12.Handle 32:Int)<24) ((idx (x10:List Bool) (Int.tmod x12.Handle 32)).bind fun x17=>kZ x9 x10 x12 x17))) else some (.stop (Out.brk x10)))
def V2(x3:Int):(Out (List Bool) Bool)->Option (Step (Int×(List Bool)) (Out Unit Bool))
 | .brk x11=>CK x3 x11
 | .ret r=>some (.stop (Out.ret r))
def m6(l:List bM):(Int×(List Bool))->Option (Step (Int×(List Bool)) (Out Unit Bool))
 | (x3,x4)=>(if decide (x3<(l.length:Int)) then(idx l x3).bind fun x6=>(loop (m5 x6) (0,x4)).bind (V2 x3) else some (.stop (Out.brk ())))
def V3(l:List bM):(Out Unit Bool)->Option Bool
 | .brk ()=>CJ l
 | .ret r=>some r
def qA(l:List bM):Option Bool:=
 (if(l.length:Int) != 3 then some false else(loop (m6 l) (0,[false,false,false,false,false,false,false,false,false,false,false,false,false,false,false,false,false,false,false,false,false,false,false,false])).bind (V3 l))
def wK(s:List eJ):Option (List eJ):=
 need (([]:List eJ).length+s.length<=1073741824) (some (([]:List eJ)++s))
def aCR(x5:List bM):Option (List bM):=
 some x5
def FH(l:List bM):((List bM)×Int)->Option (Step ((List bM)×Int) (List bM))
 | (x3,x4)=>(if decide (x4<(l.length:Int)) then(idx l x4).bind fun x6=>(wK x6.Rows).bind fun x7=>need (x3.length+([(⟨x7⟩:bM)]).length<=1073741824) (some (.next (x3++([(⟨x7⟩:bM)]),bB (x4+1)))) else some (.stop (x3)))
def aCS:(List bM)->Option (List bM)
 | x5=>aCR x5
def oN(l:List bM):Option (List bM):=
 (loop (FH l) (([]:List bM),0)).bind (aCS)
def y9(l:List bM)(w_ h e_:Int)(x1:Bool):Option ((List bM)×Bool):=
 (if x1 then(oN l).bind fun x2=>some (x2,false) else(oN l).bind fun x3=>(idx x3 w_).bind fun x4=>need (x4.Rows.length+([(⟨h,e_⟩:eJ)]).length<=1073741824) ((qA (x3.set w_.toNat (⟨x4.Rows++([(⟨h,e_⟩:eJ)])⟩:bM))).bind fun x5=>(if !x5 then(oN l).bind fun x6=>some (x6,false) else some (x3.set w_.toNat (⟨x4.Rows++([(⟨h,e_⟩:eJ)])⟩:bM),true))))
def I4(l:List bM)(w_ h e_:Int):Option ((List bM)×Bool):=
 (qA l).bind fun x7=>(if !x7 then y9 l w_ h e_ true else(fC w_).bind fun x8=>y9 l w_ h e_ (!x8))
def nV(s:Sub)(b:aA)(w_:Int)(x3:Bool):Option (Sub×aA):=
 (if x3 then(bN s 4).bind fun x4=>some (x4,b) else(I4 b.bH w_ s.A s.E).bind fun x5=>(bN s 0).bind fun x6=>some (x6,({b with bH:=x5.1}:aA)))
def nW(s:Sub)(b:aA)(w_:Int)(x1:Bool):Option (Sub×aA):=
 (if x1 then(bN s 1).bind fun x2=>some (x2,b) else(xK b.Mem s.A).bind fun x7=>(if !x7 then nV s b w_ true else(FE b.bH (Int.tmod s.A 32)).bind fun x8=>nV s b w_ x8))
def rF(s:Sub)(b:aA)(w_:Int):Option (Sub×aA):=
 (if s.Pc == 0 then some (({s with Pc:=1,E:=b.aG.aQ}:Sub),b) else(if s.Pc != 1 then nW s b w_ true else(bY s.E 0 b.aG.aQ).bind fun x9=>nW s b w_ (!x9)))
def zA(s:List wW):Option (List wW):=
 need (([]:List wW).length+s.length<=1073741824) (some (([]:List wW)++s))
def oO(c:aG):Option aG:=
 (zA c.cW).bind fun x1=>some (⟨c.aQ,x1⟩:aG)
def D7:Option Int:=
 some (-1)
def j6(s:List wW)(f:(wW->Option Bool)):Int->Option (Step Int (Out Unit Int))
 | x2=>(if decide (x2<(s.length:Int)) then(idx s x2).bind fun x3=>(f x3).bind fun x4=>(if x4 then some (.stop (Out.ret x2)) else some (.next (bB (x2+1)))) else some (.stop (Out.brk ())))
def rZ:(Out Unit Int)->Option Int
 | .brk ()=>D7
 | .ret r=>some r
def xM(s:List wW)(f:(wW->Option Bool)):Option Int:=
 (loop (j6 s f) 0).bind (rZ)
def mR(s:List wW)(f:(wW->Option Bool)):Option Bool:=
 (xM s f).bind fun x1=>some (decide (0<=x1))
def mS(x1:Bool):Option Bool:=
 some x1
def xN(p:wW)(k0:aG):Option Bool:=
 (bY p.aQ 0 k0.aQ).bind fun x2=>(if !x2 then mS true else(bY p.Seen 0 2).bind fun x3=>(if !x3 then mS true else(if !p.On then mS (!(decide (p=(⟨false,0,false,0⟩:wW)))) else mS false)))
def uU(x1:Bool):Option Bool:=
 some x1
def tX(c:aG):Option Bool:=
 (bY c.aQ 0 100000).bind fun x2=>(if x2 then(if(c.cW.length:Int) == 3 then(mR c.cW (fun y0=>xN y0 c)).bind fun x3=>uU (!x3) else uU false) else uU false)
def sA(w_:Int)(x1:aG)(x4:Bool):Option (aG×Bool):=
 (if x4 then some (x1,true) else(idx x1.cW w_).bind fun x5=>(if decide (x5.Seen<2) then some ((⟨x1.aQ,x1.cW.set w_.toNat ({x5 with Seen:=bB (x5.Seen+1)}:wW)⟩:aG),false) else some ((⟨x1.aQ,x1.cW.set w_.toNat ({x5 with fB:=true,Seen:=0}:wW)⟩:aG),true)))
def FI(w_ e_:Int)(x1:aG)(x2:Bool):Option (aG×Bool):=
 (if x2 then some (x1,false) else(idx x1.cW w_).bind fun x3=>(if !x3.On then sA w_ x1 true else(if x3.fB then sA w_ x1 true else sA w_ x1 (x3.aQ == e_))))
def PZ(c:aG)(w_ e_:Int):Option (aG×Bool):=
 (oO c).bind fun x1=>(tX c).bind fun x6=>(if !x6 then FI w_ e_ x1 true else(fC w_).bind fun x7=>FI w_ e_ x1 (!x7))
def FJ(x1:aG)(x2:Bool):Option (aG×Bool):=
 (if x2 then some (x1,false) else some ((⟨bB (x1.aQ+1),x1.cW⟩:aG),true))
def ZG(c:aG)(e_:Int):Option (aG×Bool):=
 (oO c).bind fun x1=>(tX c).bind fun x3=>(if !x3 then FJ x1 true else(if c.aQ != e_ then FJ x1 true else FJ x1 (c.aQ == 100000)))
def mT(s:Sub)(b:aA)(x4:aG×Bool)(x5:Int):Option (Sub×aA):=
 (bN ({s with Out:=x5}:Sub) 0).bind fun x6=>some (x6,({b with aG:=x4.1}:aA))
def mU(s:Sub)(b:aA)(x1:Bool):Option (Sub×aA):=
 (if x1 then(PZ b.aG s.B s.E).bind fun x2=>(if !x2.2 then(bN s 8).bind fun x3=>some (x3,({b with aG:=x2.1}:aA)) else(if(bB (s.B+1)) == 3 then some (({s with Pc:=2,B:=bB (s.B+1)}:Sub),({b with aG:=x2.1}:aA)) else some (({s with B:=bB (s.B+1)}:Sub),({b with aG:=x2.1}:aA)))) else(if s.Pc == 2 then(ZG b.aG s.E).bind fun x4=>(if x4.2 then mT s b x4 1 else mT s b x4 s.Out) else(bN s 1).bind fun x7=>some (x7,b)))
def qB(s:Sub)(b:aA):Option (Sub×aA):=
 (if s.Pc == 0 then some (({s with Pc:=1,E:=b.aG.aQ,B:=0}:Sub),b) else(if s.Pc == 1 then(fC s.B).bind fun x8=>mU s b x8 else mU s b false))
def NN(x3 x5:List Int):Option (Heap×Bool):=
 some ((⟨x5,x3⟩:Heap),true)
def FK(slot gen x1:Int)(x2 x3:List Int)(x4:Bool):Option (Heap×Bool):=
 (if x4 then some ((⟨x2,x3⟩:Heap),false) else(xG slot x1).bind fun x6=>(lS gen 4).bind fun x7=>(mG x2 x6 x7).bind fun x8=>NN x3 x8)
def NO(slot gen x1:Int)(x2 x3:List Int):Option (Heap×Bool):=
 (if decide (x1<0) then FK slot gen x1 x2 x3 true else(bY gen 1 7).bind fun x9=>FK slot gen x1 x2 x3 (!x9))
def XO(h:Heap)(slot gen:Int):Option (Heap×Bool):=
 (vU h).bind fun x10=>(tT h slot).bind fun x11=>NO slot gen x11 x10.Bytes x10.Class
def zC(c slot:Int)(x1:aB)(x2:Int)(x3:Bool):Option (aB×Bool):=
 (if x3 then some (x1,false) else(idx x1.Own x2).bind fun x4=>(if decide (2<=(x4.aW.length:Int)) then(idx x1.Global c).bind fun x5=>need (x5.aW.length+([slot]).length<=1073741824) (some ((⟨x1.Global.set c.toNat (⟨x5.aW++([slot])⟩:aY),x1.Own⟩:aB),true)) else need (x4.aW.length+([slot]).length<=1073741824) (some ((⟨x1.Global,x1.Own.set x2.toNat (⟨x4.aW++([slot])⟩:aY)⟩:aB),true))))
def aE2(l:aB)(w_ c slot:Int):Option (aB×Bool):=
 (jK l).bind fun x1=>(NJ w_ c).bind fun x2=>(l4 l).bind fun x6=>(if !x6 then zC c slot x1 x2 true else(if decide (x2<0) then zC c slot x1 x2 true else(oD slot).bind fun x7=>(if !x7 then zC c slot x1 x2 true else(JX l slot).bind fun x8=>zC c slot x1 x2 x8)))
def Q1(x3:Mem):Option Mem:=
 some x3
def Q2(m:Mem)(w_ h:Int)(x2:Mem):Option Mem:=
 (if decide ((bB ((bB (Int.tdiv h 32))+1))<=6) then(kO m.Heap (Int.tmod h 32)).bind fun x4=>(aE2 m.aB w_ x4 (Int.tmod h 32)).bind fun x5=>Q1 (⟨x2.Heap,x5.1⟩:Mem) else Q1 x2)
def NP(m:Mem)(w_ h:Int):Option Mem:=
 (XO m.Heap (Int.tmod h 32) (bB ((bB (Int.tdiv h 32))+1))).bind fun x1=>(jK m.aB).bind fun x6=>Q2 m w_ h (⟨x1.1,x6⟩:Mem)
def FL(x1:Bool):Option Bool:=
 some x1
def JY(l:List bM)(w_ i:Int):Option Bool:=
 (fC w_).bind fun x2=>(if x2 then(idx l w_).bind fun x3=>(bY i 0 (bB ((x3.Rows.length:Int) - 1))).bind fun x4=>FL x4 else FL false)
def L5(x1:Bool):Option Bool:=
 some x1
def S3(r_:eJ)(e_:Int):Option Bool:=
 (if decide (2<=e_) then L5 (decide (r_.aQ<=(bB (e_ - 2)))) else L5 false)
def JZ(s:Sub)(b:aA):Option (Sub×aA):=
 (bN s 0).bind fun x3=>some (x3,b)
def fV(s:Sub)(b:aA)(w_:Int):Int->Option (Step Int (Out Unit (Sub×aA)))
 | x2=>(idx b.bH w_).bind fun x4=>(if decide (x2<(x4.Rows.length:Int)) then(idx x4.Rows x2).bind fun x5=>(S3 x5 s.E).bind fun x6=>(if x6 then some (.stop (Out.ret (({s with Pc:=2,Row:=x2,B:=0,H:=x5.Handle}:Sub),b))) else some (.next (bB (x2+1)))) else some (.stop (Out.brk ())))
def XP(s:Sub)(b:aA):(Out Unit (Sub×aA))->Option (Sub×aA)
 | .brk ()=>JZ s b
 | .ret r=>some r
def qC(s:Sub)(b:aA)(w_:Int):Option (Sub×aA):=
 (loop (fV s b w_) (if s.Row<0 then 0 else s.Row)).bind (XP s b)
def DI(s:List eJ)(i j:Int):Option (List eJ):=
 need (0<=(i:Int)/\(i:Int)<=(j:Int)/\(j:Int)<=((s.length:Int):Int)/\((s.length:Int):Int)<=(s.length:Int)) ((if i == j then some s else need (0<=(i:Int)/\(i:Int)<=(s.length:Int)) (need (0<=(j:Int)/\(j:Int)<=(s.length:Int)) (need (i.toNat<=j.toNat) (need (0<=(((((dC s i.toNat (s.drop j.toNat)).take (i.toNat+(s.length - j.toNat))).drop 0).length:Int):Int)/\(((((dC s i.toNat (s.drop j.toNat)).take (i.toNat+(s.length - j.toNat))).drop 0).length:Int):Int)<=((s.length:Int):Int)/\((s.length:Int):Int)<=((dC s i.toNat (s.drop j.toNat)).length:Int)) (some (((dC s i.toNat (s.drop j.toNat)).take (i.toNat+(s.length - j.toNat))).drop 0)))))))
def CL(w_ i:Int)(x1:(List bM))(x2:Bool):Option ((List bM)×Bool):=
 (if x2 then some (x1,false) else(idx x1 w_).bind fun x3=>(DI x3.Rows i (bB (i+1))).bind fun x4=>some (x1.set w_.toNat (⟨x4⟩:bM),true))
def L6(l:List bM)(w_ i:Int):Option ((List bM)×Bool):=
 (oN l).bind fun x1=>(qA l).bind fun x5=>(if !x5 then CL w_ i x1 true else(JY l w_ i).bind fun x6=>CL w_ i x1 (!x6))
def eB(s:Sub)(b:aA)(w_:Int)(x5:Bool):Option (Sub×aA):=
 (if x5 then(L6 b.bH w_ s.Row).bind fun x6=>(NP b.Mem w_ s.H).bind fun x7=>some (({s with Pc:=1,Out:=bB (s.Out+1)}:Sub),({b with Mem:=x7,bH:=x6.1}:aA)) else(bN s 1).bind fun x8=>some (x8,b))
def fA(s:Sub)(b:aA)(w_:Int)(x1 x3:Bool):Option (Sub×aA):=
 (if x3 then(idx b.qZ s.B).bind fun x4=>(if x4 == s.H then some (({s with Pc:=1,Row:=bB (s.Row+1)}:Sub),b) else(if(bB (s.B+1)) == 3 then some (({s with Pc:=3,B:=bB (s.B+1)}:Sub),b) else some (({s with B:=bB (s.B+1)}:Sub),b))) else(if s.Pc == 3 then(if x1 then(idx b.bH w_).bind fun x9=>(idx x9.Rows s.Row).bind fun x10=>(S3 x10 s.E).bind fun x11=>eB s b w_ x11 else eB s b w_ false) else eB s b w_ false))
def gP(s:Sub)(b:aA)(w_:Int)(x1:Bool):Option (Sub×aA):=
 (if s.Pc == 0 then some (({s with Pc:=1,E:=b.aG.aQ,Row:=0}:Sub),b) else(if s.Pc == 1 then(qC s b w_).bind fun x2=>some (x2.1,x2.2) else(if s.Pc == 2 then(fC s.B).bind fun x12=>(if x12 then fA s b w_ x1 x1 else fA s b w_ x1 false) else fA s b w_ x1 false)))
def qD(s:Sub)(b:aA)(w_:Int):Option (Sub×aA):=
 (JY b.bH w_ s.Row).bind fun x13=>(if x13 then(idx b.bH w_).bind fun x14=>(idx x14.Rows s.Row).bind fun x15=>gP s b w_ (x15.Handle == s.H) else gP s b w_ false)
def BF(w_ e_:Int)(x1:aG)(x2:Bool):Option (aG×Bool):=
 (if x2 then some (x1,false) else(idx x1.cW w_).bind fun x3=>some ((⟨x1.aQ,x1.cW.set w_.toNat (⟨true,e_,false,0⟩:wW)⟩:aG),true))
def UI(c:aG)(w_ e_:Int):Option (aG×Bool):=
 (oO c).bind fun x1=>(tX c).bind fun x4=>(if !x4 then BF w_ e_ x1 true else(fC w_).bind fun x5=>(if !x5 then BF w_ e_ x1 true else(bY e_ 0 c.aQ).bind fun x6=>BF w_ e_ x1 (!x6)))
def AQ(s:Sub)(b:aA)(x1:Bool)(x2:Int)(x3:List wW):Option (Sub×aA):=
 (if !x1 then(bN s 1).bind fun x4=>some (x4,b) else some (({s with Pc:=2}:Sub),({b with aG:=(⟨x2,x3⟩:aG)}:aA)))
def zD(s:Sub)(b:aA)(w_:Int):Option (Sub×aA):=
 (if s.Pc == 0 then some (({s with Pc:=1,E:=b.aG.aQ}:Sub),b) else(if s.Pc == 1 then(UI b.aG w_ s.E).bind fun x5=>AQ s b x5.2 x5.1.aQ x5.1.cW else(if s.Pc == 2 then(if b.aG.aQ == s.E then(bN s 0).bind fun x6=>some (x6,b) else some (({s with Pc:=0}:Sub),b)) else(bN s 1).bind fun x7=>some (x7,b))))
def hU(s:Sub)(b:aA)(w_:Int):Option (Sub×aA):=
 (if s.dB then some (s,b) else(if s.Kind == 1 then(tU s b w_).bind fun x1=>some (x1.1,x1.2) else(if s.Kind == 2 then(rF s b w_).bind fun x2=>some (x2.1,x2.2) else(if s.Kind == 3 then(qB s b).bind fun x3=>some (x3.1,x3.2) else(if s.Kind == 4 then(qD s b w_).bind fun x4=>some (x4.1,x4.2) else(if s.Kind == 5 then(zD s b w_).bind fun x5=>some (x5.1,x5.2) else(bN s 1).bind fun x6=>some (x6,b)))))))
def dY(j:fU)(pc:Int):Option fU:=
 some ({j with Pc:=pc,Code:=0}:fU)
def qE(m:Mem):Option Mem:=
 (vU m.Heap).bind fun x1=>(jK m.aB).bind fun x2=>some (⟨x1,x2⟩:Mem)
def FM(slot c:Int):Option Int:=
 (xG slot c).bind fun x1=>(if decide (x1<0) then some (-1) else some (bB (x1+4)))
def UJ(slot c:Int):Option Span:=
 (FM slot c).bind fun x1=>(if decide (x1<0) then some (⟨0,0⟩:Span) else(xE c).bind fun x2=>some (⟨x1,bB (x1+x2)⟩:Span))
def zE(h:Heap)(slot at_ width:Int):Option Int:=
 (kO h slot).bind fun x1=>(UJ slot x1).bind fun x2=>(bY at_ 0 (bB ((bB (x2.To - x2.a4K)) - width))).bind fun x3=>(if !x3 then some (-1) else some (bB (x2.a4K+at_)))
def aE3:Option Bool:=
 some true
def zF(x2:Int)(x4:Bool):Option (Step Int (Out Unit Bool)):=
 (if x4 then some (.stop (Out.ret false)) else some (.next (bB (x2+1))))
def oH(h:Heap)(s:aY)(c:Int):Int->Option (Step Int (Out Unit Bool))
 | x2=>(if decide (x2<(s.aW.length:Int)) then(idx s.aW x2).bind fun x3=>(kO h x3).bind fun x5=>(if x5 != c then zF x2 true else(DH h x3).bind fun x6=>zF x2 (decide (6<x6))) else some (.stop (Out.brk ())))
def aE4:(Out Unit Bool)->Option Bool
 | .brk ()=>aE3
 | .ret r=>some r
def BG(h:Heap)(s:aY)(c:Int):Option Bool:=
 (loop (oH h s c) 0).bind (aE4)
def aNH:Option Bool:=
 some true
def vW(m:Mem):Int->Option (Step Int (Out Unit Bool))
 | x5=>(if decide (x5<(m.aB.Own.length:Int)) then(idx m.aB.Own x5).bind fun x6=>(BG m.Heap x6 (Int.tmod x5 3)).bind fun x7=>(if !x7 then some (.stop (Out.ret false)) else some (.next (bB (x5+1)))) else some (.stop (Out.brk ())))
def aNI:(Out Unit Bool)->Option Bool
 | .brk ()=>aNH
 | .ret r=>some r
def Z6(m:Mem):Option Bool:=
 (loop (vW m) 0).bind (aNI)
def vX(m:Mem):Int->Option (Step Int (Out Unit Bool))
 | x3=>(if decide (x3<(m.aB.Global.length:Int)) then(idx m.aB.Global x3).bind fun x8=>(BG m.Heap x8 x3).bind fun x9=>(if !x9 then some (.stop (Out.ret false)) else some (.next (bB (x3+1)))) else some (.stop (Out.brk ())))
def Z7(m:Mem):(Out Unit Bool)->Option Bool
 | .brk ()=>Z6 m
 | .ret r=>some r
def I5(m:Mem)(x1:Bool):Option Bool:=
 (if x1 then some false else(loop (vX m) 0).bind (Z7 m))
def DJ(m:Mem):Option Bool:=
 (JW m.Heap).bind fun x10=>(if !x10 then I5 m true else(l4 m.aB).bind fun x11=>I5 m (!x11))
def FN(m:Mem)(h at_ width:Int)(x1:Bool):Option (Int×Int):=
 (if x1 then some (0,1) else(xK m h).bind fun x2=>(if !x2 then some (0,4) else(zE m.Heap (Int.tmod h 32) at_ width).bind fun x3=>(if decide (x3<0) then some (0,2) else(jR m.Heap.Bytes x3 width).bind fun x4=>some (x4,0))))
def XQ(m:Mem)(h at_ width:Int):Option (Int×Int):=
 (DJ m).bind fun x5=>(if !x5 then FN m h at_ width true else(jQ width).bind fun x6=>FN m h at_ width (!x6))
def V4(x4:Mem):Option (Mem×Int):=
 some (x4,0)
def L7(m:Mem)(h at_ width n:Int):Option (Mem×Int):=
 (qE m).bind fun x1=>(lS n width).bind fun x2=>(XQ m h at_ width).bind fun x3=>(if x3.2 != 0 then some (x1,x3.2) else(if x2 == ([]) then some (x1,1) else(zE m.Heap (Int.tmod h 32) at_ width).bind fun x5=>(mG x1.Heap.Bytes x5 x2).bind fun x6=>V4 (⟨(⟨x6,x1.Heap.Class⟩:Heap),x1.aB⟩:Mem)))
def FO(s:aE)(w_ x7:Int)(x8:Mem):Option aE:=
 (if x7 != 0 then(idx s.aH w_).bind fun x9=>(bS x9 x7).bind fun x10=>some ({s with aH:=s.aH.set w_.toNat x10}:aE) else(idx s.aH w_).bind fun x11=>(dY x11 2).bind fun x12=>some ({s with aA:=(⟨x8,s.aA.aG,s.aA.bH,s.aA.qZ⟩:aA),aH:=s.aH.set w_.toNat x12}:aE))
def FP(w_:Int)(x16:aE):Option aE:=
 (idx x16.aH w_).bind fun x17=>(if x17.Old == 0 then(bS x17 0).bind fun x18=>some ({x16 with aH:=x16.aH.set w_.toNat x18}:aE) else(eO 2 x17.Old).bind fun x19=>(dY ({x17 with Sub:=x19}:fU) 3).bind fun x20=>some ({x16 with aH:=x16.aH.set w_.toNat x20}:aE))
def FQ(s:aE)(w_:Int)(x1:fU)(x14:Int)(x15:List Int):Option aE:=
 (idx (s.aH.set w_.toNat ({x1 with Old:=x14}:fU)) w_).bind fun x21=>(dU ({s with Cells:=x15,aH:=s.aH.set w_.toNat ({x1 with Old:=x14}:fU)}:aE) 2 w_ x21.H x21.Op.cK 0).bind fun x22=>FP w_ x22
def FR(s:aE)(w_:Int):Option aE:=
 (idx s.aH w_).bind fun x1=>(if x1.Pc == 0 then(hU x1.Sub s.aA w_).bind fun x2=>(if !x2.1.dB then some ({s with aA:=x2.2,aH:=s.aH.set w_.toNat ({x1 with Sub:=x2.1}:fU)}:aE) else(if x2.1.Code != 0 then(bS ({x1 with Sub:=x2.1}:fU) x2.1.Code).bind fun x3=>some ({s with aA:=x2.2,aH:=s.aH.set w_.toNat x3}:aE) else(fF x2.1.Out).bind fun x4=>(if !x4 then(bS ({x1 with Sub:=x2.1}:fU) 1).bind fun x5=>some ({s with aA:=x2.2,aH:=s.aH.set w_.toNat x5}:aE) else(dY ({x1 with Sub:=x2.1,H:=x2.1.Out}:fU) 1).bind fun x6=>some ({s with aA:=x2.2,aH:=s.aH.set w_.toNat x6}:aE)))) else(if x1.Pc == 1 then(L7 s.aA.Mem x1.H 0 4 x1.Op.cK).bind fun x13=>FO s w_ x13.2 x13.1 else(if x1.Pc == 2 then(idx s.Cells x1.Op.Cell).bind fun x14=>(idx (s.aH.set w_.toNat ({x1 with Old:=x14}:fU)) w_).bind fun x23=>(idx s.Cells x23.Op.Cell).bind fun x24=>FQ s w_ x1 x14 (s.Cells.set x23.Op.Cell.toNat x23.H) else(if x1.Pc == 3 then(hU x1.Sub s.aA w_).bind fun x25=>(if x25.1.dB then(bS ({x1 with Sub:=x25.1}:fU) x25.1.Code).bind fun x26=>some ({s with aA:=x25.2,aH:=s.aH.set w_.toNat x26}:aE) else some ({s with aA:=x25.2,aH:=s.aH.set w_.toNat ({x1 with Sub:=x25.1}:fU)}:aE)) else(bS x1 1).bind fun x27=>some ({s with aH:=s.aH.set w_.toNat x27}:aE)))))
def BH(w_:Int)(x1:aG)(x2:Bool):Option (aG×Bool):=
 (if x2 then some (x1,false) else(idx x1.cW w_).bind fun x3=>some ((⟨x1.aQ,x1.cW.set w_.toNat (⟨false,0,false,0⟩:wW)⟩:aG),true))
def UK(c:aG)(w_:Int):Option (aG×Bool):=
 (oO c).bind fun x1=>(tX c).bind fun x4=>(if !x4 then BH w_ x1 true else(fC w_).bind fun x5=>(if !x5 then BH w_ x1 true else(idx c.cW w_).bind fun x6=>BH w_ x1 (!x6.On)))
def k9(b:aA)(w_:Int):Option (Bool×aA):=
 (UK b.aG w_).bind fun x1=>some (x1.2,({b with aG:=x1.1}:aA))
def xO(s:aE)(w_:Int):Option aE:=
 (idx s.aH w_).bind fun x1=>(idx s.Cells x1.Op.Cell).bind fun x2=>(dU ({s with aH:=s.aH.set w_.toNat ({x1 with H:=x2}:fU)}:aE) 3 w_ x2 0 0).bind fun x3=>some x3
def uV(b:aA)(h at_ width:Int)(x1:Bool):Option (Int×Bool):=
 (if x1 then some (0,false) else(zE b.Mem.Heap (Int.tmod h 32) at_ width).bind fun x2=>(if decide (x2<0) then some (0,false) else(jR b.Mem.Heap.Bytes x2 width).bind fun x3=>some (x3,true)))
def L8(b:aA)(h at_ width:Int):Option (Int×Bool):=
 (fF h).bind fun x4=>(if !x4 then uV b h at_ width true else(tT b.Mem.Heap (Int.tmod h 32)).bind fun x5=>(if decide (x5<0) then uV b h at_ width true else(jQ width).bind fun x6=>uV b h at_ width (!x6)))
def m7(s:aE)(w_:Int):Option aE:=
 (idx s.aH w_).bind fun x1=>(L8 s.aA x1.H 0 4).bind fun x2=>some ({s with aH:=s.aH.set w_.toNat ({x1 with cK:=x2.1}:fU)}:aE)
def jH(x1:Bool):Option Bool:=
 some x1
def lT(p:wW):Option Bool:=
 (if p.On then jH (!p.fB) else jH false)
def nF(s:aE)(w_ pc:Int):Option aE:=
 (idx s.aH w_).bind fun x1=>(dY x1 pc).bind fun x2=>(idx s.aA.aG.cW w_).bind fun x3=>(lT x3).bind fun x4=>(if !x4 then some ({s with aH:=s.aH.set w_.toNat ({x2 with cK:=0,Code:=6}:fU)}:aE) else some ({s with aH:=s.aH.set w_.toNat x2}:aE))
def FT(s:aE)(w_:Int):Option aE:=
 (idx s.aH w_).bind fun x1=>(if x1.Pc == 0 then(hU x1.Sub s.aA w_).bind fun x2=>(if x2.1.dB then(dY ({x1 with Sub:=x2.1}:fU) 1).bind fun x3=>some ({s with aA:=x2.2,aH:=s.aH.set w_.toNat x3}:aE) else some ({s with aA:=x2.2,aH:=s.aH.set w_.toNat ({x1 with Sub:=x2.1}:fU)}:aE)) else(if x1.Pc == 1 then(xO s w_).bind fun x4=>(idx x4.aH w_).bind fun x5=>(dY x5 2).bind fun x6=>(if x6.H == 0 then some ({x4 with aH:=x4.aH.set w_.toNat ({x6 with Pc:=4,Code:=8}:fU)}:aE) else some ({x4 with aH:=x4.aH.set w_.toNat x6}:aE)) else(if x1.Pc == 2 then(m7 s w_).bind fun x7=>(idx x7.aH w_).bind fun x8=>(dY x8 3).bind fun x9=>some ({x7 with aH:=x7.aH.set w_.toNat x9}:aE) else(if x1.Pc == 3 then(nF s w_ 4).bind fun x10=>some x10 else(if x1.Pc == 4 then(k9 s.aA w_).bind fun x11=>(bS x1 x1.Code).bind fun x12=>some ({s with aA:=x11.2,aH:=s.aH.set w_.toNat x12}:aE) else(bS x1 1).bind fun x13=>some ({s with aH:=s.aH.set w_.toNat x13}:aE))))))
def xP(x1:Bool):Option Bool:=
 some x1
def xQ(h:Int):Option Bool:=
 (if h == 0 then xP true else(fF h).bind fun x2=>xP x2)
def L9(h:Int):Option Bool:=
 (xQ h).bind fun x1=>some (!x1)
def I6(x1:Bool):Option Bool:=
 some x1
def NQ(z:List Int):Option Bool:=
 (if(z.length:Int) == 3 then(gO z (fun y0=>L9 y0)).bind fun x2=>I6 (!x2) else I6 false)
def uW(w_ h:Int)(x1:(List Int))(x2:Bool):Option ((List Int)×Bool):=
 (if x2 then some (x1,false) else(idx x1 w_).bind fun x3=>some (x1.set w_.toNat h,true))
def MA(z:List Int)(w_ h:Int):Option ((List Int)×Bool):=
 (i5 z).bind fun x1=>(NQ z).bind fun x4=>(if !x4 then uW w_ h x1 true else(fC w_).bind fun x5=>(if !x5 then uW w_ h x1 true else(fF h).bind fun x6=>uW w_ h x1 (!x6)))
def BI(w_:Int)(x1:(List Int))(x2:Bool):Option ((List Int)×Bool):=
 (if x2 then some (x1,false) else(idx x1 w_).bind fun x3=>some (x1.set w_.toNat 0,true))
def UL(z:List Int)(w_:Int):Option ((List Int)×Bool):=
 (i5 z).bind fun x1=>(NQ z).bind fun x4=>(if !x4 then BI w_ x1 true else(fC w_).bind fun x5=>(if !x5 then BI w_ x1 true else(idx z w_).bind fun x6=>BI w_ x1 (x6 == 0)))
def FU(s:aE)(w_:Int)(x6:List Int):Option aE:=
 (idx s.aH w_).bind fun x7=>(dY x7 2).bind fun x8=>some ({s with aA:=(⟨s.aA.Mem,s.aA.aG,s.aA.bH,x6⟩:aA),aH:=s.aH.set w_.toNat x8}:aE)
def FV(s:aE)(w_:Int)(x10:Bool):Option aE:=
 (if x10 then(idx s.aH w_).bind fun x11=>(dY x11 0).bind fun x12=>some ({s with aH:=s.aH.set w_.toNat x12}:aE) else(idx s.aH w_).bind fun x13=>(dU s 3 w_ x13.H 0 0).bind fun x14=>(idx x14.aH w_).bind fun x15=>(dY x15 3).bind fun x16=>some ({x14 with aH:=x14.aH.set w_.toNat x16}:aE))
def FW(s:aE)(w_:Int):Option aE:=
 (idx s.aH w_).bind fun x1=>(if x1.Pc == 0 then(idx s.Cells x1.Op.Cell).bind fun x2=>(dY ({x1 with H:=x2}:fU) 1).bind fun x3=>(if x3.H == 0 then(dU ({s with aH:=s.aH.set w_.toNat x3}:aE) 3 w_ 0 0 0).bind fun x4=>(idx x4.aH w_).bind fun x5=>some ({x4 with aH:=x4.aH.set w_.toNat ({x5 with Pc:=4,Code:=8}:fU)}:aE) else some ({s with aH:=s.aH.set w_.toNat x3}:aE)) else(if x1.Pc == 1 then(MA s.aA.qZ w_ x1.H).bind fun x9=>FU s w_ x9.1 else(if x1.Pc == 2 then(idx s.Cells x1.Op.Cell).bind fun x17=>FV s w_ (x17 != x1.H) else(if x1.Pc == 3 then(m7 s w_).bind fun x18=>(idx x18.aH w_).bind fun x19=>(dY x19 4).bind fun x20=>some ({x18 with aH:=x18.aH.set w_.toNat x20}:aE) else(if x1.Pc == 4 then(UL s.aA.qZ w_).bind fun x21=>(bS x1 x1.Code).bind fun x22=>some ({s with aA:=(⟨s.aA.Mem,s.aA.aG,s.aA.bH,x21.1⟩:aA),aH:=s.aH.set w_.toNat x22}:aE) else(bS x1 1).bind fun x23=>some ({s with aH:=s.aH.set w_.toNat x23}:aE))))))
def tY(s:aE)(w_:Int)(x5:Bool):Option aE:=
 (if x5 then(idx s.aH w_).bind fun x6=>(bS x6 6).bind fun x7=>some ({s with aH:=s.aH.set w_.toNat x7}:aE) else(idx s.aH w_).bind fun x8=>(if x8.Pc == 0 then(xO s w_).bind fun x9=>(idx x9.aH w_).bind fun x10=>(dY x10 1).bind fun x11=>(if x11.H == 0 then(bS x11 8).bind fun x12=>some ({x9 with aH:=x9.aH.set w_.toNat x12}:aE) else some ({x9 with aH:=x9.aH.set w_.toNat x11}:aE)) else(if x8.Pc == 1 then(m7 s w_).bind fun x13=>(idx x13.aH w_).bind fun x14=>(dY x14 2).bind fun x15=>some ({x13 with aH:=x13.aH.set w_.toNat x15}:aE) else(if x8.Pc == 2 then(nF s w_ 9).bind fun x16=>some x16 else(bS x8 1).bind fun x17=>some ({s with aH:=s.aH.set w_.toNat x17}:aE)))))
def tZ(s:aE)(w_:Int)(x1:wW)(x2:Bool):Option aE:=
 (if x2 then(idx s.aH w_).bind fun x3=>(bS x3 5).bind fun x4=>some ({s with aH:=s.aH.set w_.toNat x4}:aE) else(idx s.aH w_).bind fun x18=>(if x18.Pc == 0 then tY s w_ x1.fB else tY s w_ false))
def DK(s:aE)(w_:Int)(x1:wW):Option aE:=
 (idx s.aH w_).bind fun x19=>(if x19.Pc == 0 then tZ s w_ x1 (!x1.On) else tZ s w_ x1 false)
def CM(s:aE)(w_:Int):Option aE:=
 (idx s.aH w_).bind fun x20=>(idx s.aA.aG.cW w_).bind fun x21=>DK s w_ x21
def rG(w_ x3:Int)(x4:aE):Option aE:=
 (idx x4.aH w_).bind fun x5=>(bS x5 x3).bind fun x6=>some ({x4 with aH:=x4.aH.set w_.toNat x6}:aE)
def rH(s:aE)(w_:Int)(x17:Bool):Option aE:=
 (if x17 then(idx s.aH w_).bind fun x18=>(hU x18.Sub s.aA w_).bind fun x19=>(if x19.1.dB then(bS ({x18 with Sub:=x19.1,cK:=x19.1.Out}:fU) x19.1.Code).bind fun x20=>some ({s with aA:=x19.2,aH:=s.aH.set w_.toNat x20}:aE) else some ({s with aA:=x19.2,aH:=s.aH.set w_.toNat ({x18 with Sub:=x19.1}:fU)}:aE)) else(idx s.aH w_).bind fun x21=>(bS x21 1).bind fun x22=>some ({s with aH:=s.aH.set w_.toNat x22}:aE))
def rI(s:aE)(w_:Int)(x12:Bool):Option aE:=
 (if x12 then(idx s.aH w_).bind fun x13=>(hU x13.Sub s.aA w_).bind fun x14=>(if x14.1.dB then(eO 4 0).bind fun x15=>(dY ({x13 with Sub:=x15}:fU) 1).bind fun x16=>some ({s with aA:=x14.2,aH:=s.aH.set w_.toNat x16}:aE) else some ({s with aA:=x14.2,aH:=s.aH.set w_.toNat ({x13 with Sub:=x14.1}:fU)}:aE)) else(idx s.aH w_).bind fun x23=>(if x23.Op.Kind == 4 then rH s w_ (x23.Pc == 1) else rH s w_ false))
def rJ(s:aE)(w_:Int)(x8:Bool):Option aE:=
 (if x8 then(idx s.aH w_).bind fun x9=>(hU x9.Sub s.aA w_).bind fun x10=>(if x10.1.dB then(bS ({x9 with Sub:=x10.1}:fU) x10.1.Code).bind fun x11=>some ({s with aA:=x10.2,aH:=s.aH.set w_.toNat x11}:aE) else some ({s with aA:=x10.2,aH:=s.aH.set w_.toNat ({x9 with Sub:=x10.1}:fU)}:aE)) else(idx s.aH w_).bind fun x24=>(if x24.Op.Kind == 4 then rI s w_ (x24.Pc == 0) else rI s w_ false))
def rK(s:aE)(w_:Int)(x2:Bool):Option aE:=
 (if x2 then(k9 s.aA w_).bind fun x7=>(if !x7.1 then rG w_ 5 ({s with aA:=x7.2}:aE) else rG w_ 0 ({s with aA:=x7.2}:aE)) else(idx s.aH w_).bind fun x25=>(if x25.Op.Kind == 5 then rJ s w_ (x25.Pc == 0) else rJ s w_ false))
def zG(s:aE)(w_:Int):Option aE:=
 (idx s.aH w_).bind fun x1=>(if x1.Op.Kind == 6 then rK s w_ (x1.Pc == 0) else rK s w_ false)
def uX(s:aE)(w_:Int):Option aE:=
 (idx s.aH w_).bind fun x1=>(if !x1.iI then(y7 s w_).bind fun x2=>some x2 else(if x1.Pc == 9 then(dU s 4 w_ x1.H x1.cK x1.Code).bind fun x3=>(idx x3.aH w_).bind fun x4=>some ({x3 with aH:=x3.aH.set w_.toNat (⟨false,(⟨0,0,0,0⟩:kE),0,0,(⟨0,0,0,0,0,0,0,0,0,false⟩:Sub),0,0,0,0⟩:fU)}:aE) else(if x1.Op.Kind == 1 then(FR s w_).bind fun x5=>some x5 else(if x1.Op.Kind == 2 then(FT s w_).bind fun x6=>some x6 else(if x1.Op.Kind == 3 then(FW s w_).bind fun x7=>some x7 else(if x1.Op.Kind == 7 then(CM s w_).bind fun x8=>some x8 else(zG s w_).bind fun x9=>some x9))))))
def aCT(x6:aE):Option aE:=
 some x6
def wL(x4:Int)(x7:aE):Option (Step (Int×aE) aE):=
 some (.next (bB (x4+1),x7))
def qF(x:nQ):(Int×aE)->Option (Step (Int×aE) aE)
 | (x4,x5)=>(if decide (x4<(((x.a8.take ((if 400<(x.a8.length:Int) then 400 else(x.a8.length:Int)).toNat)).drop 0).length:Int)) then(idx ((x.a8.take ((if 400<(x.a8.length:Int) then 400 else(x.a8.length:Int)).toNat)).drop 0) x4).bind fun x8=>(fC x8).bind fun x9=>(if x9 then(uX x5 x8).bind fun x10=>wL x4 x10 else wL x4 x5) else some (.stop (x5)))
def aCU:aE->Option aE
 | x6=>aCT x6
def xR(x:nQ):Option aE:=
 (IY x.cC).bind fun x1=>(if(x1.aH.length:Int) == 0 then some x1 else need (0<=(if 400<(x.a8.length:Int) then 400 else(x.a8.length:Int):Int)/\(if 400<(x.a8.length:Int) then 400 else(x.a8.length:Int):Int)<=(x.a8.length:Int)) ((loop (qF x) (0,x1)).bind (aCU)))
def aZU(x:nQ)(n:Int):Option nQ:=
 need (0<=(if n<(x.a8.length:Int) then n else(x.a8.length:Int):Int)/\(if n<(x.a8.length:Int) then n else(x.a8.length:Int):Int)<=(x.a8.length:Int)) (some ((⟨x.cC,(x.a8.take ((if n<(x.a8.length:Int) then n else(x.a8.length:Int)).toNat)).drop 0⟩:nQ)))
def aIX(code:List UInt8)(i:Int):Option Int:=
 (if decide (i<(code.length:Int)) then(idx code i).bind fun x1=>some (x1.toNat:Int) else some (Int.tmod (bB ((bB (i*37))+(bB ((code.length:Int)*11)))) 256))
def NR(code:List UInt8)(i n:Int):Option Int:=
 (aIX code i).bind fun x1=>some (bB (Int.tdiv (bB (x1*(bB (n+1)))) 256))
def NS:Option Int:=
 some (-1)
def oP(s:List aN)(f:(aN->Option Bool)):Int->Option (Step Int (Out Unit Int))
 | x2=>(if decide (x2<(s.length:Int)) then(idx s x2).bind fun x3=>(f x3).bind fun x4=>(if x4 then some (.stop (Out.ret x2)) else some (.next (bB (x2+1)))) else some (.stop (Out.brk ())))
def xS:(Out Unit Int)->Option Int
 | .brk ()=>NS
 | .ret r=>some r
def D8(s:List aN)(f:(aN->Option Bool)):Option Int:=
 (loop (oP s f) 0).bind (xS)
def oQ(s:List aN)(f:(aN->Option Bool)):Option Bool:=
 (D8 s f).bind fun x1=>some (decide (0<=x1))
def OV:Option Int:=
 some (-1)
def pB(s:List Batch)(f:(Batch->Option Bool)):Int->Option (Step Int (Out Unit Int))
 | x2=>(if decide (x2<(s.length:Int)) then(idx s x2).bind fun x3=>(f x3).bind fun x4=>(if x4 then some (.stop (Out.ret x2)) else some (.next (bB (x2+1)))) else some (.stop (Out.brk ())))
def AM:(Out Unit Int)->Option Int
 | .brk ()=>OV
 | .ret r=>some r
def FX(s:List Batch)(f:(Batch->Option Bool)):Option Int:=
 (loop (pB s f) 0).bind (AM)
def pC(s:List Batch)(f:(Batch->Option Bool)):Option Bool:=
 (FX s f).bind fun x1=>some (decide (0<=x1))
def S4:Option Int:=
 some (-1)
def sB(s:List kJ)(f:(kJ->Option Bool)):Int->Option (Step Int (Out Unit Int))
 | x2=>(if decide (x2<(s.length:Int)) then(idx s x2).bind fun x3=>(f x3).bind fun x4=>(if x4 then some (.stop (Out.ret x2)) else some (.next (bB (x2+1)))) else some (.stop (Out.brk ())))
def D9:(Out Unit Int)->Option Int
 | .brk ()=>S4
 | .ret r=>some r
def J0(s:List kJ)(f:(kJ->Option Bool)):Option Int:=
 (loop (sB s f) 0).bind (D9)
def sC(s:List kJ)(f:(kJ->Option Bool)):Option Bool:=
 (J0 s f).bind fun x1=>some (decide (0<=x1))
def qS(x2:Bool):Option Bool:=
 some x2
def vY(c:kJ)(x1:Bool):Option Bool:=
 (bY c.Kind 1 4).bind fun x3=>(if x3 then(bY c.Key 0 99).bind fun x4=>(if x4 then(if x1 then(bY c.cK 0 65535).bind fun x5=>(if x5 then qS true else qS (c.cK == 0)) else qS (c.cK == 0)) else qS false) else qS false)
def UM(c:kJ):Option Bool:=
 (if c.Kind == 2 then vY c true else vY c (c.Kind == 4))
def NT(c:kJ):Option Bool:=
 (UM c).bind fun x1=>some (!x1)
def uY(x1:Bool):Option Bool:=
 some x1
def MB(b:Batch):Option Bool:=
 (if b.Collect then some ((b.cB.length:Int) == 0) else(bY (b.cB.length:Int) 1 6).bind fun x2=>(if x2 then(sC b.cB (fun y0=>NT y0)).bind fun x3=>uY (!x3) else uY false))
def H6(b:Batch):Option Bool:=
 (MB b).bind fun x1=>some (!x1)
def wM(x1:Bool):Option Bool:=
 some x1
def FY(q:aN):Option Bool:=
 (if decide (12<(q.List.length:Int)) then wM true else(pC q.List (fun y0=>H6 y0)).bind fun x2=>wM x2)
def CN(x1:Bool):Option Bool:=
 some x1
def MC(todo:List aN):Option Bool:=
 (if(todo.length:Int) == 3 then(oQ todo (fun y0=>FY y0)).bind fun x2=>CN (!x2) else CN false)
def sD(s:List kJ):Option (List kJ):=
 need (([]:List kJ).length+s.length<=1073741824) (some (([]:List kJ)++s))
def FZ(b:Batch):Option Batch:=
 (sD b.cB).bind fun x1=>some (⟨b.Collect,x1⟩:Batch)
def aCV(x5:List aN):Option (List aN):=
 some x5
def P0(x3:List aN)(x4:Int)(x11:List Batch):Option (Step ((List aN)×Int) (List aN)):=
 need (x3.length+([(⟨x11⟩:aN)]).length<=1073741824) (some (.next (x3++([(⟨x11⟩:aN)]),bB (x4+1))))
def F5(x9:Int)(x13:List Batch):Option (Step (Int×(List Batch)) (List Batch)):=
 some (.next (bB (x9+1),x13))
def F6(x6:aN):(Int×(List Batch))->Option (Step (Int×(List Batch)) (List Batch))
 | (x9,x10)=>(if decide (x9<(x6.List.length:Int)) then(idx x6.List x9).bind fun x12=>(FZ x12).bind fun x14=>need (x10.length+([x14]).length<=1073741824)<|F5 x9 (x10++([x14])) else some (.stop (x10)))
def P1(x3:List aN)(x4:Int):(List Batch)->Option (Step ((List aN)×Int) (List aN))
 | x11=>P0 x3 x4 x11
def F7(todo:List aN):((List aN)×Int)->Option (Step ((List aN)×Int) (List aN))
 | (x3,x4)=>(if decide (x4<(todo.length:Int)) then(idx todo x4).bind fun x6=>(loop (F6 x6) (0,[])).bind (P1 x3 x4) else some (.stop (x3)))
def aCW:(List aN)->Option (List aN)
 | x5=>aCV x5
def F8(todo:List aN):Option (List aN):=
 (loop (F7 todo) (([]:List aN),0)).bind (aCW)
def S5(x2:Table):Option Table:=
 some ({x2 with Log:=[]}:Table)
def I7(todo:List aN):Option Table:=
 (MC todo).bind fun x1=>(if !x1 then some (⟨(⟨(⟨(⟨[],[]⟩:Heap),(⟨[],[]⟩:aB)⟩:Mem),(⟨0,[]⟩:aG),[],[]⟩:aA),[],[],[],[],0⟩:Table) else(E5).bind fun x3=>need (0<=(2:Int)/\(2:Int)<=4294967296)<|need (0<=(3:Int)/\(3:Int)<=4294967296)<|(F8 todo).bind fun x4=>S5 (⟨x3,List.replicate ((2:Int).toNat) (⟨0,0,0⟩:dZ),List.replicate ((3:Int).toNat) (⟨false,(⟨false,[]⟩:Batch),0,0,0,0,0,0,0,0,(⟨0,0,0⟩:iZ),false,0,(⟨0,0,0,0,0,0,0,0,0,false⟩:Sub),[],[],[],[],[],[]⟩:aR),x4,[],0⟩:Table))
def LC(s:List Batch)(i j:Int):Option (List Batch):=
 need (0<=i/\i<=j/\j<=(s.length:Int)) (some (s.take i.toNat++s.drop j.toNat))
def AR(t:Table)(w_:Int)(x2:aN)(x3:Batch)(x6:aR)(x8:List QO):Option Table:=
 some (⟨t.aA,t.dP,t.aH.set w_.toNat ({x6 with Batch:=(⟨x6.Batch.Collect,x3.cB⟩:Batch),Reads:=[],aU:=[],gN:=[],iM:=[],cD:=[],dR:=[]}:aR),t.cC.set w_.toNat (⟨x2.List.drop 1⟩:aN),x8,bB (t.aI+1)⟩:Table)
def nG(t:Table)(w_:Int)(x2:aN)(x3:Batch)(x6:aR):Option Table:=
 (idx t.aH w_).bind fun x7=>(sD x3.cB).bind fun x9=>need (t.Log.length+([(⟨1,w_,x6.aI,0,x9,[]⟩:QO)]).length<=1073741824)<|AR t w_ x2 x3 x6 (t.Log++([(⟨1,w_,x6.aI,0,x9,[]⟩:QO)]))
def AS(t:Table)(w_:Int)(x2:aN)(x3:Batch)(x5:aR):Option Table:=
 (if x3.Collect then(eO 3 0).bind fun x10=>nG t w_ x2 x3 ({x5 with Batch:=(⟨x5.Batch.Collect,x3.cB⟩:Batch),Pc:=20,Sub:=x10,Reads:=[],aU:=[],gN:=[],iM:=[],cD:=[],dR:=[]}:aR) else nG t w_ x2 x3 ({x5 with Batch:=(⟨x5.Batch.Collect,x3.cB⟩:Batch),Reads:=[],aU:=[],gN:=[],iM:=[],cD:=[],dR:=[]}:aR))
def nH(t:Table)(w_:Int)(x1:Bool):Option Table:=
 (if x1 then some t else(idx t.cC w_).bind fun x2=>(idx x2.List 0).bind fun x3=>(LC x2.List 0 1).bind fun x4=>(eO 5 0).bind fun x11=>AS t w_ x2 x3 (⟨true,x3,bB (t.aI+1),0,0,0,0,0,0,0,(⟨0,0,0⟩:iZ),false,0,x11,[],[],[],[],[],[]⟩:aR))
def zH(t:Table)(w_:Int):Option Table:=
 (idx t.cC w_).bind fun x12=>(if(x12.List.length:Int) == 0 then nH t w_ true else nH t w_ (t.aI == 1000000))
def uA(t:Table)(w_:Int):Option Table:=
 (idx t.aH w_).bind fun x1=>(hU x1.Sub t.aA w_).bind fun x2=>(if !x2.1.dB then some ({t with aA:=x2.2,aH:=t.aH.set w_.toNat ({x1 with Sub:=x2.1}:aR)}:Table) else(if x1.Pc == 0 then some ({t with aA:=x2.2,aH:=t.aH.set w_.toNat ({x1 with Pc:=1,Sub:=x2.1}:aR)}:Table) else(if x1.Pc == 20 then(eO 4 0).bind fun x3=>some ({t with aA:=x2.2,aH:=t.aH.set w_.toNat ({x1 with Pc:=21,Sub:=x3}:aR)}:Table) else some ({t with aA:=x2.2,aH:=t.aH.set w_.toNat ({x1 with Pc:=19,Sub:=x2.1}:aR)}:Table))))
def qG(j:aR):Option (kJ×Bool×aR):=
 (bY j.At 0 (bB ((j.Batch.cB.length:Int) - 1))).bind fun x1=>(if !x1 then some ((⟨0,0,0⟩:kJ),false,j) else(idx j.Batch.cB j.At).bind fun x2=>some (x2,true,j))
def dE(j:aR)(code:Int):Option aR:=
 some ({j with Pc:=16,Code:=code}:aR)
def OW:Option Int:=
 some (-1)
def pD(s:List bC)(f:(bC->Option Bool)):Int->Option (Step Int (Out Unit Int))
 | x2=>(if decide (x2<(s.length:Int)) then(idx s x2).bind fun x3=>(f x3).bind fun x4=>(if x4 then some (.stop (Out.ret x2)) else some (.next (bB (x2+1)))) else some (.stop (Out.brk ())))
def OX:(Out Unit Int)->Option Int
 | .brk ()=>OW
 | .ret r=>some r
def dL(s:List bC)(f:(bC->Option Bool)):Option Int:=
 (loop (pD s f) 0).bind (OX)
def xT(x8:List bC)(x9:Int):Option (List bC):=
 need (0<=(x9:Int)/\(x9:Int)<=(x8.length:Int)) (need (0<=(x9:Int)/\(x9:Int)<=((dC x8 x9.toNat (List.replicate (x8.length - x9.toNat) (⟨0,false,0⟩:bC))).length:Int)) (some (((dC x8 x9.toNat (List.replicate (x8.length - x9.toNat) (⟨0,false,0⟩:bC))).take x9.toNat).drop 0)))
def iS(x7:Int)(x10:List bC)(x11:Int):Option (Step ((List bC)×Int×Int) ((List bC)×Int)):=
 some (.next (x10,x11,bB (x7+1)))
def kQ(del:(bC->Option Bool)):((List bC)×Int×Int)->Option (Step ((List bC)×Int×Int) ((List bC)×Int))
 | (x5,x6,x7)=>(if decide (x7<(x5.length:Int)) then(idx x5 x7).bind fun x12=>(del x12).bind fun x13=>(if !x13 then(idx x5 x6).bind fun x14=>iS x7 (x5.set x6.toNat x12) (bB (x6+1)) else iS x7 x5 x6) else some (.stop ((x5,x6))))
def xU:((List bC)×Int)->Option (List bC)
 | (x8,x9)=>xT x8 x9
def j7(s:List bC)(del:(bC->Option Bool)):Option (List bC):=
 (dL s del).bind fun x1=>(if x1 == (-1) then some s else(loop (kQ del) (s,x1,bB (x1+1))).bind (xU))
def DL(s:List bC):Option (List bC):=
 need (([]:List bC).length+s.length<=1073741824) (some (([]:List bC)++s))
def KR(x k0:bC):Option Bool:=
 some (x.Key == k0.Key)
def CP(x k0:bC):Option Bool:=
 some (decide (k0.Key<x.Key))
def rL(s:List bC)(i:Int)(v:List bC):Option (List bC):=
 need (0<=i/\i<=(s.length:Int)/\s.length+v.length<=1073741824) (some (s.take i.toNat++v++s.drop i.toNat))
def sE(w_:bC)(x2:(List bC))(x4:Int):Option (List bC):=
 (rL x2 x4 ([w_])).bind fun x5=>some x5
def I8(l:List bC)(w_:bC):Option (List bC):=
 (DL l).bind fun x1=>(j7 x1 (fun y0=>KR y0 w_)).bind fun x2=>(dL x2 (fun y0=>CP y0 w_)).bind fun x3=>(if decide (x3<0) then sE w_ x2 (x2.length:Int) else sE w_ x2 x3)
def sG(j:aR)(x:bC):Option (Bool×aR):=
 (I8 j.aU x).bind fun x1=>(if decide (6<(x1.length:Int)) then(dE j 1).bind fun x2=>some (false,x2) else some (true,({j with aU:=x1}:aR)))
def F9(x:bC)(k0:Int):Option Bool:=
 some (x.Key == k0)
def MD(l:List bC)(key:Int):Option (bC×Bool):=
 (dL l (fun y0=>F9 y0 key)).bind fun x1=>(if decide (x1<0) then some ((⟨0,false,0⟩:bC),false) else(idx l x1).bind fun x2=>some (x2,true))
def aBD(a_ b:Int):Option Int:=
 some (Int.tmod (bB (a_+b)) 65536)
def rM(x5:aR):Option aR:=
 some ({x5 with Pc:=1,At:=bB (x5.At+1)}:aR)
def nI(x2:aR)(x3:Bool)(x4:Int):Option aR:=
 need (x2.gN.length+([(⟨x3,x4⟩:gN)]).length<=1073741824)<|rM ({x2 with gN:=x2.gN++([(⟨x3,x4⟩:gN)])}:aR)
def nJ(j:aR)(c:kJ)(is:Bool)(x1:Int):Option aR:=
 (if c.Kind == 4 then(aBD x1 c.cK).bind fun x6=>(sG j (⟨c.Key,false,x6⟩:bC)).bind fun x7=>(if !x7.1 then some x7.2 else nI x7.2 true x6) else nI j is x1)
def sH(j:aR)(c:kJ)(val:Int)(is:Bool):Option aR:=
 (if !is then nJ j c is 0 else nJ j c is val)
def H7(key:Int):Option Int:=
 (bY key 0 99).bind fun x1=>(if !x1 then some (-1) else some (Int.tmod key 2))
def GA(x1:kJ×Bool×aR)(x6:Bool)(x7:aR)(x8:Int)(x9:Bool)(x10:Int):Option aR:=
 (if x6 then(sH x7 x1.1 x10 (!x9)).bind fun x11=>some x11 else(H7 x1.1.Key).bind fun x12=>some ({x7 with Pc:=2,dZ:=x12}:aR))
def kR(x1:kJ×Bool×aR)(x3:Bool)(x4:aR):Option aR:=
 (if x3 then(sG x4 (⟨x1.1.Key,x1.1.Kind == 3,x1.1.cK⟩:bC)).bind fun x5=>(if x5.1 then need (x5.2.gN.length+([(⟨false,0⟩:gN)]).length<=1073741824) (some (⟨x5.2.iI,x5.2.Batch,x5.2.aI,x5.2.Pc,bB (x5.2.At+1),x5.2.K,x5.2.dZ,x5.2.hJ,x5.2.H,x5.2.iJ,x5.2.Node,x5.2.Found,x5.2.Code,x5.2.Sub,x5.2.Reads,x5.2.aU,x5.2.gN++([(⟨false,0⟩:gN)]),x5.2.iM,x5.2.cD,x5.2.dR⟩:aR)) else some x5.2) else(MD x4.aU x1.1.Key).bind fun x13=>GA x1 x13.2 x4 x13.1.Key x13.1.OQ x13.1.cK)
def GB(j:aR):Option aR:=
 (qG j).bind fun x1=>(if !x1.2.1 then(eO 1 16).bind fun x2=>some (⟨x1.2.2.iI,x1.2.2.Batch,x1.2.2.aI,6,x1.2.2.At,0,x1.2.2.dZ,x1.2.2.hJ,x1.2.2.H,x1.2.2.iJ,x1.2.2.Node,x1.2.2.Found,x1.2.2.Code,x2,x1.2.2.Reads,x1.2.2.aU,x1.2.2.gN,x1.2.2.iM,x1.2.2.cD,x1.2.2.dR⟩:aR) else(if x1.1.Kind == 2 then kR x1 true x1.2.2 else kR x1 (x1.1.Kind == 3) x1.2.2))
def GC(h:Heap)(slot:Int):Option Bool:=
 (kO h slot).bind fun x1=>(xE x1).bind fun x2=>some (decide (10<=x2))
def zI(h:Heap)(slot:Int):Option Int:=
 (kO h slot).bind fun x1=>(FM slot x1).bind fun x2=>some x2
def P2(h:Heap)(slot:Int):Option iZ:=
 (zI h slot).bind fun x1=>(jR h.Bytes x1 2).bind fun x2=>(jR h.Bytes (bB (x1+2)) 4).bind fun x3=>(jR h.Bytes (bB (x1+6)) 4).bind fun x4=>some (⟨x2,x3,x4⟩:iZ)
def GD(m:Mem)(h:Int)(x1:Bool):Option (iZ×Int):=
 (if x1 then some ((⟨0,0,0⟩:iZ),4) else(GC m.Heap (Int.tmod h 32)).bind fun x2=>(if !x2 then some ((⟨0,0,0⟩:iZ),2) else(P2 m.Heap (Int.tmod h 32)).bind fun x3=>some (x3,0)))
def J1(m:Mem)(h:Int):Option (iZ×Int):=
 (fF h).bind fun x4=>(if !x4 then GD m h true else(kO m.Heap (Int.tmod h 32)).bind fun x5=>GD m h (decide (x5<0)))
def iA(n:iZ):Option Int:=
 (fF n.Next).bind fun x1=>(if !x1 then some 0 else some n.Next)
def GF(s:List Seen):Option (List Seen):=
 need (([]:List Seen).length+s.length<=1073741824) (some (([]:List Seen)++s))
def Q3:Option Int:=
 some (-1)
def qT(s:List Seen)(f:(Seen->Option Bool)):Int->Option (Step Int (Out Unit Int))
 | x2=>(if decide (x2<(s.length:Int)) then(idx s x2).bind fun x3=>(f x3).bind fun x4=>(if x4 then some (.stop (Out.ret x2)) else some (.next (bB (x2+1)))) else some (.stop (Out.brk ())))
def Q4:(Out Unit Int)->Option Int
 | .brk ()=>Q3
 | .ret r=>some r
def eX(s:List Seen)(f:(Seen->Option Bool)):Option Int:=
 (loop (qT s f) 0).bind (Q4)
def GG(s:Seen)(k0:Int):Option Bool:=
 some (s.dZ == k0)
def ME(l:List Seen)(b v:Int):Option ((List Seen)×Bool):=
 (GF l).bind fun x1=>(eX l (fun y0=>GG y0 b)).bind fun x2=>(if decide (x2<0) then need (x1.length+([(⟨b,v⟩:Seen)]).length<=1073741824) (some (x1++([(⟨b,v⟩:Seen)]),true)) else(idx l x2).bind fun x3=>some (x1,x3.hJ == v))
def uB(t:Table)(w_:Int)(x13:List aR)(x14:Bool):Option Table:=
 (if x14 then(idx x13 w_).bind fun x15=>some ({t with aH:=x13.set w_.toNat ({x15 with Pc:=5}:aR)}:Table) else some ({t with aH:=x13}:Table))
def DM(t:Table)(w_:Int)(x13:List aR):Option Table:=
 (idx x13 w_).bind fun x16=>(if x16.Found then uB t w_ x13 true else uB t w_ x13 (x16.H == 0))
def NU(t:Table)(x26:List aR):Option Table:=
 some ({t with aH:=x26}:Table)
def DN(t:Table)(w_:Int)(x6:kJ×Bool×aR)(x21:List Seen)(x22:Bool):Option Table:=
 (idx (t.aH.set w_.toNat x6.2.2) w_).bind fun x23=>(if !x22 then(dE ({x23 with Reads:=x21}:aR) 7).bind fun x24=>some ({t with aH:=(t.aH.set w_.toNat x6.2.2).set w_.toNat x24}:Table) else(if !x6.2.1 then(dE ({x23 with Reads:=x21}:aR) 1).bind fun x25=>some ({t with aH:=(t.aH.set w_.toNat x6.2.2).set w_.toNat x25}:Table) else(sH ({x23 with Reads:=x21}:aR) x6.1 x23.Node.cK x23.Found).bind fun x27=>NU t ((t.aH.set w_.toNat x6.2.2).set w_.toNat x27)))
def jW(t:Table)(w_:Int)(x6:kJ×Bool×aR)(x18:Bool):Option Table:=
 (if x18 then(idx (t.aH.set w_.toNat x6.2.2) w_).bind fun x19=>(dE x19 7).bind fun x20=>some ({t with aH:=(t.aH.set w_.toNat x6.2.2).set w_.toNat x20}:Table) else(idx (t.aH.set w_.toNat x6.2.2) w_).bind fun x28=>(ME x28.Reads x28.dZ x28.hJ).bind fun x29=>DN t w_ x6 x29.1 x29.2)
def DO(t:Table)(w_ x2 x3 x4:Int):Option Table:=
 (idx t.aH w_).bind fun x5=>(qG x5).bind fun x6=>(if x6.2.2.Pc == 2 then(if x4 != 0 then(dE x6.2.2 7).bind fun x7=>some ({t with aH:=t.aH.set w_.toNat x7}:Table) else(if x2 == 0 then some ({t with aH:=t.aH.set w_.toNat (⟨x6.2.2.iI,x6.2.2.Batch,x6.2.2.aI,5,x6.2.2.At,x6.2.2.K,x6.2.2.dZ,x3,x2,x6.2.2.iJ,(⟨0,0,0⟩:iZ),false,x6.2.2.Code,x6.2.2.Sub,x6.2.2.Reads,x6.2.2.aU,x6.2.2.gN,x6.2.2.iM,x6.2.2.cD,x6.2.2.dR⟩:aR)}:Table) else some ({t with aH:=t.aH.set w_.toNat (⟨x6.2.2.iI,x6.2.2.Batch,x6.2.2.aI,3,x6.2.2.At,x6.2.2.K,x6.2.2.dZ,x3,x2,x6.2.2.iJ,(⟨0,0,0⟩:iZ),false,x6.2.2.Code,x6.2.2.Sub,x6.2.2.Reads,x6.2.2.aU,x6.2.2.gN,x6.2.2.iM,x6.2.2.cD,x6.2.2.dR⟩:aR)}:Table))) else(if x6.2.2.Pc == 3 then(J1 t.aA.Mem x6.2.2.H).bind fun x8=>some ({t with aH:=t.aH.set w_.toNat (⟨x6.2.2.iI,x6.2.2.Batch,x6.2.2.aI,4,x6.2.2.At,x6.2.2.K,x6.2.2.dZ,x6.2.2.hJ,x6.2.2.H,x6.2.2.iJ,x8.1,x6.2.2.Found,x6.2.2.Code,x6.2.2.Sub,x6.2.2.Reads,x6.2.2.aU,x6.2.2.gN,x6.2.2.iM,x6.2.2.cD,x6.2.2.dR⟩:aR)}:Table) else(if x6.2.2.Pc == 4 then(idx t.aA.aG.cW w_).bind fun x9=>(lT x9).bind fun x10=>(if !x10 then(dE x6.2.2 6).bind fun x11=>some ({t with aH:=t.aH.set w_.toNat x11}:Table) else(if !x6.2.1 then(dE x6.2.2 1).bind fun x12=>some ({t with aH:=t.aH.set w_.toNat x12}:Table) else(iA x6.2.2.Node).bind fun x17=>DM t w_ (t.aH.set w_.toNat (⟨x6.2.2.iI,x6.2.2.Batch,x6.2.2.aI,3,x6.2.2.At,x6.2.2.K,x6.2.2.dZ,x6.2.2.hJ,x17,x6.2.2.iJ,x6.2.2.Node,x6.2.2.Node.Key == x6.1.Key,x6.2.2.Code,x6.2.2.Sub,x6.2.2.Reads,x6.2.2.aU,x6.2.2.gN,x6.2.2.iM,x6.2.2.cD,x6.2.2.dR⟩:aR)))) else(if x4 != 0 then jW t w_ x6 true else jW t w_ x6 (x3 != x6.2.2.hJ)))))
def CQ(t:Table)(w_:Int):Option Table:=
 (idx t.aH w_).bind fun x1=>(idx t.dP x1.dZ).bind fun x30=>DO t w_ x30.Head x30.hJ x30.lP
def aQT(x5:Int):Option Int:=
 some x5
def GH(x4 x6:Int):Option (Step (Int×Int) Int):=
 some (.next (x6,bB (x4+1)))
def UN(l:List bC)(n:Int):(Int×Int)->Option (Step (Int×Int) Int)
 | (x3,x4)=>(if decide (x4<(((l.take ((if(if(l.length:Int)<n then(l.length:Int) else n)<0 then 0 else(if(l.length:Int)<n then(l.length:Int) else n)).toNat)).drop 0).length:Int)) then(idx ((l.take ((if(if(l.length:Int)<n then(l.length:Int) else n)<0 then 0 else(if(l.length:Int)<n then(l.length:Int) else n)).toNat)).drop 0) x4).bind fun x7=>(if !x7.OQ then GH x4 (bB (x3+1)) else GH x4 x3) else some (.stop (x3)))
def aQU:Int->Option Int
 | x5=>aQT x5
def S6(l:List bC)(n:Int):Option Int:=
 need (0<=(if(if(l.length:Int)<n then(l.length:Int) else n)<0 then 0 else(if(l.length:Int)<n then(l.length:Int) else n):Int)/\(if(if(l.length:Int)<n then(l.length:Int) else n)<0 then 0 else(if(l.length:Int)<n then(l.length:Int) else n):Int)<=(l.length:Int)) ((loop (UN l n) (0,0)).bind (aQU))
def AT(x11:Table):Option Table:=
 some x11
def AU(w_:Int)(x10:Table):Option Table:=
 (idx x10.aH w_).bind fun x12=>(eO 1 16).bind fun x13=>AT ({x10 with aH:=x10.aH.set w_.toNat ({x12 with K:=bB (x12.K+1),Sub:=x13}:aR)}:Table)
def iB(w_:Int)(x6:Bool)(x7:Table):Option Table:=
 (if x6 then(idx x7.aH w_).bind fun x8=>(dE x8 x8.Sub.Code).bind fun x9=>some ({x7 with aH:=x7.aH.set w_.toNat x9}:Table) else(idx x7.aH w_).bind fun x14=>need (x14.iM.length+([x14.Sub.Out]).length<=1073741824)<|AU w_ ({x7 with aH:=x7.aH.set w_.toNat ({x14 with iM:=x14.iM++([x14.Sub.Out])}:aR)}:Table))
def AV(t:Table)(w_:Int)(x2:Bool):Option Table:=
 (if x2 then(idx t.aH w_).bind fun x3=>some ({t with aH:=t.aH.set w_.toNat ({x3 with Pc:=7,K:=0}:aR)}:Table) else(idx t.aH w_).bind fun x4=>(hU x4.Sub t.aA w_).bind fun x5=>(if !x5.1.dB then some ({t with aA:=x5.2,aH:=t.aH.set w_.toNat ({x4 with Sub:=x5.1}:aR)}:Table) else(if x5.1.Code != 0 then iB w_ true ({t with aA:=x5.2,aH:=t.aH.set w_.toNat ({x4 with Sub:=x5.1}:aR)}:Table) else(fF x5.1.Out).bind fun x15=>(if !x15 then iB w_ true ({t with aA:=x5.2,aH:=t.aH.set w_.toNat ({x4 with Sub:=x5.1}:aR)}:Table) else iB w_ (decide (6<=(x4.iM.length:Int))) ({t with aA:=x5.2,aH:=t.aH.set w_.toNat ({x4 with Sub:=x5.1}:aR)}:Table)))))
def zJ(t:Table)(w_:Int):Option Table:=
 (idx t.aH w_).bind fun x1=>(S6 x1.aU (x1.aU.length:Int)).bind fun x16=>AV t w_ (decide (x16<=x1.K))
def cmp_isNaN_int(x:Int):Option Bool:=
 some (x != x)
def uZ(x1:Bool):Option Bool:=
 some x1
def cmp_Less_int(x y:Int):Option Bool:=
 (cmp_isNaN_int x).bind fun x2=>(if x2 then(cmp_isNaN_int y).bind fun x3=>(if !x3 then uZ true else uZ (decide (x<y))) else uZ (decide (x<y)))
def jX(data x5:List Int):Option (List Int):=
 need (x5.length=data.length) (some x5)
def oR(data:List Int)(x4:Int)(x10:List Int):Option (Step ((List Int)×Int) (List Int)):=
 need (x10.length=data.length) (some (.next (x10,bB (x4+1))))
def jY(data:List Int)(x9:Int)(x12:List Int):Option (Step ((List Int)×Int) (List Int)):=
 need (x12.length=data.length) (some (.next (x12,bB (x9 - 1))))
def eH(data x8:List Int)(x9:Int)(x11:Bool):Option (Step ((List Int)×Int) (List Int)):=
 need (x8.length=data.length) ((if x11 then(idx x8 (bB (x9 - 1))).bind fun x13=>(idx x8 x9).bind fun x14=>(idx (x8.set x9.toNat x13) (bB (x9 - 1))).bind fun x15=>jY data x9 ((x8.set x9.toNat x13).set ((bB (x9 - 1)).toNat) x14) else some (.stop (x8))))
def eI(data:List Int)(a_:Int):((List Int)×Int)->Option (Step ((List Int)×Int) (List Int))
 | (x8,x9)=>need (x8.length=data.length) ((if decide (a_<x9) then(idx x8 x9).bind fun x16=>(idx x8 (bB (x9 - 1))).bind fun x17=>(cmp_Less_int x16 x17).bind fun x18=>eH data x8 x9 x18 else eH data x8 x9 false))
def oT(data:List Int)(x4:Int):(List Int)->Option (Step ((List Int)×Int) (List Int))
 | x10=>oR data x4 x10
def dM(data:List Int)(a_ b:Int):((List Int)×Int)->Option (Step ((List Int)×Int) (List Int))
 | (x3,x4)=>need (x3.length=data.length) ((if decide (x4<b) then(loop (eI data a_) (x3,x4)).bind (oT data x4) else some (.stop (x3))))
def jZ(data:List Int):(List Int)->Option (List Int)
 | x5=>jX data x5
def iO(data:List Int)(a_ b:Int):Option (List Int):=
 (loop (dM data a_ b) (data,bB (a_+1))).bind (jZ data)
def vA(data:List Int)(a_ b limit:Int):Unit->Option (Step Unit (List Int))
 | ()=>(if decide ((bB (b - a_))<=12) then(iO data a_ b).bind fun x1=>some (.stop (x1)) else(if limit == 0 then none else none))
def KS:(List Int)->Option (List Int)
 | r=>some r
def pE(data:List Int)(a_ b limit:Int):Option (List Int):=
 (loop (vA data a_ b limit) ()).bind (KS)
def DP(x5 x6:Int):Option Int:=
 (idx ([0,1,2,2,3,3,3,3,4,4,4,4,4,4,4,4,5,5,5,5,5,5,5,5,5,5,5,5,5,5,5,5,6,6,6,6,6,6,6,6,6,6,6,6,6,6,6,6,6,6,6,6,6,6,6,6,6,6,6,6,6,6,6,6,7,7,7,7,7,7,7,7,7,7,7,7,7,7,7,7,7,7,7,7,7,7,7,7,7,7,7,7,7,7,7,7,7,7,7,7,7,7,7,7,7,7,7,7,7,7,7,7,7,7,7,7,7,7,7,7,7,7,7,7,7,7,7,7,8,8,8,8,8,8,8,8,8,8,8,8,8,8,8,8,8,8,8,8,8,8,8,8,8,8,8,8,8,8,8,8,8,8,8,8,8,8,8,8,8,8,8,8,8,8,8,8,8,8,8,8,8,8,8,8,8,8,8,8,8,8,8,8,8,8,8,8,8,8,8,8,8,8,8,8,8,8,8,8,8,8,8,8,8,8,8,8,8,8,8,8,8,8,8,8,8,8,8,8,8,8,8,8,8,8,8,8,8,8,8,8,8,8,8,8,8,8,8,8,8,8,8,8,8,8,8,8]:List UInt8) ((u8 x5).toNat:Int)).bind fun x7=>some (bB (x6+(x7.toNat:Int)))
def DQ(x3 x4:Int):Option Int:=
 (if decide (256<=x3) then DP (pW .u64 x3 8) (bB (x4+8)) else DP x3 x4)
def DR(x1 x2:Int):Option Int:=
 (if decide (65536<=x1) then DQ (pW .u64 x1 16) (bB (x2+16)) else DQ x1 x2)
def V5(x:Int):Option Int:=
 (if decide (4294967296<=x) then DR (pW .u64 x 32) 32 else DR x 0)
def BJ(x:Int):Option Int:=
 (V5 x).bind fun x1=>some x1
def CR(x:List Int):Option (List Int):=
 (BJ (IntKind.u64.wrap (x.length:Int))).bind fun x1=>(pE x 0 (x.length:Int) x1).bind fun x2=>some x2
def KT(x5:List Int):Option (List Int):=
 (CR x5).bind fun x6=>(slices_Compact_int x6).bind fun x7=>some x7
def CS(x4:Int)(x8:List Int):Option (Step ((List Int)×Int) (List Int)):=
 some (.next (x8,bB (x4+1)))
def KU(l:List bC):((List Int)×Int)->Option (Step ((List Int)×Int) (List Int))
 | (x3,x4)=>(if decide (x4<(l.length:Int)) then(idx l x4).bind fun x9=>(H7 x9.Key).bind fun x10=>(if decide (0<=x10) then need (x3.length+([x10]).length<=1073741824) (CS x4 (x3++([x10]))) else CS x4 x3) else some (.stop (x3)))
def V6:(List Int)->Option (List Int)
 | x5=>KT x5
def MF(l:List bC):Option (List Int):=
 (loop (KU l) (([]:List Int),0)).bind (V6)
def jL(s:List Seen)(f:(Seen->Option Bool)):Option Bool:=
 (eX s f).bind fun x1=>some (decide (0<=x1))
def qH(x1:Bool):Option Bool:=
 some x1
def wN(s:Seen)(k0:Int)(k1:dZ):Option Bool:=
 (if s.dZ == k0 then qH (s.hJ != k1.hJ) else qH false)
def uC(t:Table)(w_:Int)(x3:List dZ)(x4:List aR)(x5:aR):Option Table:=
 (idx x4 w_).bind fun x6=>some ({t with dP:=x3,aH:=x4.set w_.toNat ({x6 with Pc:=8,K:=0}:aR),Log:=t.Log++([(⟨2,w_,x5.aI,0,[],[]⟩:QO)])}:Table)
def oV(t:Table)(w_:Int)(x2:(List Int))(x3:List dZ)(x4:List aR):Option Table:=
 (idx x4 w_).bind fun x5=>(if decide ((x2.length:Int)<=x5.K) then need (t.Log.length+([(⟨2,w_,x5.aI,0,[],[]⟩:QO)]).length<=1073741824)<|uC t w_ x3 x4 x5 else some ({t with dP:=x3,aH:=x4}:Table))
def oW(t:Table)(w_:Int)(x2:(List Int))(x7:Int)(x12:dZ)(x15:List aR):Option Table:=
 (idx x15 w_).bind fun x16=>oV t w_ x2 (t.dP.set x7.toNat ({x12 with lP:=bB (w_+1)}:dZ)) (x15.set w_.toNat ({x16 with K:=bB (x16.K+1)}:aR))
def DS(t:Table)(w_:Int)(x2:(List Int))(x7:Int)(x12:dZ)(x17:aR):Option Table:=
 oW t w_ x2 x7 x12 (t.aH.set w_.toNat ({x17 with cD:=x17.cD++([x7])}:aR))
def iT(t:Table)(w_:Int)(x2:(List Int))(x7:Int)(x9:Bool):Option Table:=
 (if x9 then(idx t.aH w_).bind fun x10=>(dE x10 7).bind fun x11=>some ({t with aH:=t.aH.set w_.toNat x11}:Table) else(idx t.dP x7).bind fun x12=>(if x12.hJ == 1000000 then(idx t.aH w_).bind fun x13=>(dE x13 3).bind fun x14=>some ({t with aH:=t.aH.set w_.toNat x14}:Table) else(idx t.aH w_).bind fun x17=>(nE x17.cD x7).bind fun x18=>(if !x18 then need (x17.cD.length+([x7]).length<=1073741824)<|DS t w_ x2 x7 x12 x17 else oW t w_ x2 x7 x12 t.aH)))
def CT(t:Table)(w_:Int):Option Table:=
 (idx t.aH w_).bind fun x1=>(MF x1.aU).bind fun x2=>(if decide (x1.K<(x2.length:Int)) then(idx x2 x1.K).bind fun x7=>(idx t.dP x7).bind fun x8=>(if x8.lP != 0 then iT t w_ x2 x7 true else(jL x1.Reads (fun y0=>wN y0 x7 x8)).bind fun x19=>iT t w_ x2 x7 x19) else oV t w_ x2 t.dP t.aH)
def fW(t:Table)(w_:Int)(x8:Bool):Option Table:=
 (if x8 then(idx t.aH w_).bind fun x9=>(dE x9 7).bind fun x10=>some ({t with aH:=t.aH.set w_.toNat x10}:Table) else(idx t.aH w_).bind fun x11=>some ({t with aH:=t.aH.set w_.toNat ({x11 with K:=bB (x11.K+1)}:aR)}:Table))
def uD(t:Table)(w_ x4 x5 x6 x7:Int):Option Table:=
 (if x7 != 0 then(if x7 != (bB (w_+1)) then fW t w_ true else fW t w_ (x6 != x4)) else fW t w_ (x6 != x4))
def uE(t:Table)(w_ x3 x4:Int):Option Table:=
 (idx t.dP x3).bind fun x12=>uD t w_ x4 x12.Head x12.hJ x12.lP
def uF(t:Table)(w_:Int)(x1:aR):Option Table:=
 (if decide ((x1.Reads.length:Int)<=x1.K) then(idx t.aH w_).bind fun x2=>some ({t with aH:=t.aH.set w_.toNat ({x2 with Pc:=9,K:=0}:aR)}:Table) else(idx t.aH w_).bind fun x13=>(idx x13.Reads x13.K).bind fun x14=>uE t w_ x14.dZ x14.hJ)
def rN(t:Table)(w_:Int):Option Table:=
 (idx t.aH w_).bind fun x1=>uF t w_ x1
def pN(j:aR)(x:bC):Option aR:=
 (if x.OQ then some ({j with Pc:=9,K:=bB (j.K+1)}:aR) else some ({j with Pc:=12}:aR))
def BK(m:Mem)(h:Int):Option Int:=
 (xK m h).bind fun x1=>(if !x1 then some 4 else(GC m.Heap (Int.tmod h 32)).bind fun x2=>(if !x2 then some 2 else some 0))
def NV(x4:Int)(x5:Mem):Option (Mem×Int):=
 some (x5,x4)
def XR(x4:Int)(x6:Mem):Option (Mem×Int):=
 NV x4 x6
def GI(m:Mem)(h next_:Int)(x2:Bool)(x3:Mem):Option (Mem×Int):=
 (if x2 then some (x3,1) else(BK m h).bind fun x4=>(if x4 == 0 then(zI m.Heap (Int.tmod h 32)).bind fun x7=>(lS next_ 4).bind fun x8=>(mG x3.Heap.Bytes (bB (x7+6)) x8).bind fun x9=>XR x4 (⟨(⟨x9,x3.Heap.Class⟩:Heap),x3.aB⟩:Mem) else NV x4 x3))
def P3(m:Mem)(h next_:Int):Option (Mem×Int):=
 (qE m).bind fun x1=>(DJ m).bind fun x10=>(if !x10 then GI m h next_ true x1 else(xQ next_).bind fun x11=>GI m h next_ (!x11) x1)
def xV(x1:Bool):Option Bool:=
 some x1
def P4(n:iZ):Option Bool:=
 (bY n.Key 0 99).bind fun x2=>(if x2 then(bY n.cK 0 65535).bind fun x3=>(if x3 then(xQ n.Next).bind fun x4=>xV x4 else xV false) else xV false)
def KV(x4:Int)(x5:Mem):Option (Mem×Int):=
 some (x5,x4)
def V7(x4:Int)(x6:Mem):Option (Mem×Int):=
 KV x4 x6
def CU(m:Mem)(h:Int)(n:iZ)(x2:Bool)(x3:Mem):Option (Mem×Int):=
 (if x2 then some (x3,1) else(BK m h).bind fun x4=>(if x4 == 0 then(zI m.Heap (Int.tmod h 32)).bind fun x7=>(lS n.Key 2).bind fun x8=>(lS n.cK 4).bind fun x9=>need (x8.length+x9.length<=9223372036854775807)<|(lS n.Next 4).bind fun x10=>need ((x8++x9).length+x10.length<=9223372036854775807)<|(mG x3.Heap.Bytes x7 ((x8++x9)++x10)).bind fun x11=>V7 x4 (⟨(⟨x11,x3.Heap.Class⟩:Heap),x3.aB⟩:Mem) else KV x4 x3))
def MG(m:Mem)(h:Int)(n:iZ):Option (Mem×Int):=
 (qE m).bind fun x1=>(DJ m).bind fun x12=>(if !x12 then CU m h n true x1 else(P4 n).bind fun x13=>CU m h n (!x13) x1)
def DT(t:Table)(j:aR)(b:dZ)(x3:Table):Option (Table×aR×dZ):=
 some (({x3 with dP:=t.dP,aH:=t.aH}:Table),({j with Pc:=13}:aR),b)
def KW(t:Table)(j:aR)(x:bC)(b:dZ):Option (Table×aR×dZ):=
 (S6 j.aU j.K).bind fun x1=>(if decide ((j.iM.length:Int)<=x1) then(dE j 1).bind fun x2=>some (t,x2,b) else(if j.Pc == 12 then(idx j.iM x1).bind fun x4=>(MG t.aA.Mem x4 ({x with Next:=b.Head}:iZ)).bind fun x5=>DT t j b ({t with aA:=(⟨x5.1,t.aA.aG,t.aA.bH,t.aA.qZ⟩:aA)}:Table) else(idx j.iM x1).bind fun x6=>some (t,({j with Pc:=9,K:=bB (j.K+1)}:aR),({b with Head:=x6}:dZ))))
def AW(t:Table)(x13:List aR):Option Table:=
 some ({t with aH:=x13}:Table)
def nK(w_ x3:Int)(x4:Bool)(x5:Int)(x16:Table):Option Table:=
 (idx x16.aH w_).bind fun x17=>(pN x17 (⟨x3,x4,x5⟩:bC)).bind fun x18=>some ({x16 with aH:=x16.aH.set w_.toNat x18}:Table)
def AX(w_ x3:Int)(x4:Bool)(x5:Int)(x21:Table):Option Table:=
 nK w_ x3 x4 x5 x21
def rO(w_ x3:Int)(x4:Bool)(x5:Int)(x19:Bool)(x20:Table):Option Table:=
 (if x19 then(idx x20.aH w_).bind fun x22=>need (x22.dR.length+([x22.H]).length<=1073741824)<|AX w_ x3 x4 x5 ({x20 with aH:=x20.aH.set w_.toNat ({x22 with dR:=x22.dR++([x22.H])}:aR)}:Table) else nK w_ x3 x4 x5 x20)
def nL(w_ x3:Int)(x4:Bool)(x5:Int)(x15:Table):Option Table:=
 (idx x15.aH w_).bind fun x23=>(fF x23.H).bind fun x24=>(if x24 then rO w_ x3 x4 x5 (decide ((x23.dR.length:Int)<6)) x15 else rO w_ x3 x4 x5 false x15)
def AY(w_ x3:Int)(x4:Bool)(x5:Int)(x26:Table):Option Table:=
 nL w_ x3 x4 x5 x26
def AZ(t:Table)(w_ x3:Int)(x4:Bool)(x5:Int):Option Table:=
 (H7 x3).bind fun x6=>(idx t.dP x6).bind fun x7=>(idx t.aH w_).bind fun x8=>(if x8.Pc == 9 then(if x7.Head == 0 then(pN ({x8 with Pc:=10,H:=x7.Head,iJ:=0}:aR) (⟨x3,x4,x5⟩:bC)).bind fun x9=>some ({t with aH:=t.aH.set w_.toNat x9}:Table) else some ({t with aH:=t.aH.set w_.toNat ({x8 with Pc:=10,H:=x7.Head,iJ:=0}:aR)}:Table)) else(if x8.Pc == 10 then(J1 t.aA.Mem x8.H).bind fun x10=>(if x10.1.Key == x3 then some ({t with aH:=t.aH.set w_.toNat ({x8 with Pc:=11,Node:=x10.1}:aR)}:Table) else(iA x10.1).bind fun x11=>(if x11 == 0 then(pN ({x8 with Node:=x10.1}:aR) (⟨x3,x4,x5⟩:bC)).bind fun x12=>some ({t with aH:=t.aH.set w_.toNat x12}:Table) else(iA x10.1).bind fun x14=>AW t (t.aH.set w_.toNat ({x8 with H:=x14,iJ:=x8.H,Node:=x10.1}:aR)))) else(if x8.Pc == 11 then(if x8.iJ == 0 then(iA x8.Node).bind fun x25=>nL w_ x3 x4 x5 ({t with dP:=t.dP.set x6.toNat ({x7 with Head:=x25}:dZ)}:Table) else(iA x8.Node).bind fun x27=>(P3 t.aA.Mem x8.iJ x27).bind fun x28=>AY w_ x3 x4 x5 ({t with aA:=(⟨x28.1,t.aA.aG,t.aA.bH,t.aA.qZ⟩:aA)}:Table)) else(KW t x8 (⟨x3,x4,x5⟩:bC) x7).bind fun x29=>some (⟨x29.1.aA,t.dP.set x6.toNat x29.2.2,t.aH.set w_.toNat x29.2.1,x29.1.cC,x29.1.Log,x29.1.aI⟩:Table))))
def A0(t:Table)(w_:Int)(x1:aR):Option Table:=
 (if decide ((x1.aU.length:Int)<=x1.K) then(idx t.aH w_).bind fun x2=>some ({t with aH:=t.aH.set w_.toNat ({x2 with Pc:=14}:aR)}:Table) else(idx t.aH w_).bind fun x30=>(idx x30.aU x30.K).bind fun x31=>AZ t w_ x31.Key x31.OQ x31.cK)
def zK(t:Table)(w_:Int):Option Table:=
 (idx t.aH w_).bind fun x1=>A0 t w_ x1
def qI(s:List Int)(i j:Int):Option (List Int):=
 need (0<=(i:Int)/\(i:Int)<=(j:Int)/\(j:Int)<=((s.length:Int):Int)/\((s.length:Int):Int)<=(s.length:Int)) ((if i == j then some s else need (0<=(i:Int)/\(i:Int)<=(s.length:Int)) (need (0<=(j:Int)/\(j:Int)<=(s.length:Int)) (need (i.toNat<=j.toNat) (need (0<=(((((dC s i.toNat (s.drop j.toNat)).take (i.toNat+(s.length - j.toNat))).drop 0).length:Int):Int)/\(((((dC s i.toNat (s.drop j.toNat)).take (i.toNat+(s.length - j.toNat))).drop 0).length:Int):Int)<=((s.length:Int):Int)/\((s.length:Int):Int)<=((dC s i.toNat (s.drop j.toNat)).length:Int)) (some (((dC s i.toNat (s.drop j.toNat)).take (i.toNat+(s.length - j.toNat))).drop 0)))))))
def sI(x1:aR):Option aR:=
 some x1
def mH(j:aR):Option aR:=
 (if decide (j.K<(j.dR.length:Int)) then(idx j.dR j.K).bind fun x2=>(eO 2 x2).bind fun x3=>sI ({j with Sub:=x3}:aR) else some j)
def mI(t:Table)(w_:Int)(x4:List dZ):Option Table:=
 (idx t.aH w_).bind fun x5=>(qI x5.cD 0 1).bind fun x6=>some ({t with dP:=x4,aH:=t.aH.set w_.toNat ({x5 with cD:=x6}:aR)}:Table)
def wO(t:Table)(w_:Int):Option Table:=
 (idx t.aH w_).bind fun x1=>(if decide (0<(x1.cD.length:Int)) then(idx x1.cD 0).bind fun x2=>(idx t.dP x2).bind fun x3=>(if x1.Pc == 14 then mI t w_ (t.dP.set x2.toNat (⟨x3.Head,if 1000000<(bB (x3.hJ+1)) then 1000000 else(bB (x3.hJ+1)),0⟩:dZ)) else mI t w_ (t.dP.set x2.toNat ({x3 with lP:=0}:dZ))) else(if x1.Pc == 16 then some ({t with aH:=t.aH.set w_.toNat ({x1 with Pc:=17}:aR)}:Table) else(mH ({x1 with Pc:=15,K:=0}:aR)).bind fun x7=>some ({t with aH:=t.aH.set w_.toNat x7}:Table)))
def xW(t:Table)(w_:Int)(x1:aR):Option Table:=
 (if decide ((x1.dR.length:Int)<=x1.K) then(idx t.aH w_).bind fun x2=>some ({t with aH:=t.aH.set w_.toNat ({x2 with Pc:=18}:aR)}:Table) else(idx t.aH w_).bind fun x3=>(hU x3.Sub t.aA w_).bind fun x4=>(if x4.1.dB then(mH ({x3 with K:=bB (x3.K+1),Sub:=x4.1}:aR)).bind fun x5=>some ({t with aA:=x4.2,aH:=t.aH.set w_.toNat x5}:Table) else some ({t with aA:=x4.2,aH:=t.aH.set w_.toNat ({x3 with Sub:=x4.1}:aR)}:Table)))
def wP(t:Table)(w_:Int):Option Table:=
 (idx t.aH w_).bind fun x1=>xW t w_ x1
def CV(m:Mem)(w_ h:Int)(x1:Bool):Option (Mem×Int):=
 (if x1 then(qE m).bind fun x2=>some (x2,1) else(xK m h).bind fun x3=>(if !x3 then(qE m).bind fun x4=>some (x4,4) else(NP m w_ h).bind fun x5=>some (x5,0)))
def MH(m:Mem)(w_ h:Int):Option (Mem×Int):=
 (DJ m).bind fun x6=>(if !x6 then CV m w_ h true else(fC w_).bind fun x7=>CV m w_ h (!x7))
def CX(t:Table)(w_:Int):Option Table:=
 (idx t.aH w_).bind fun x1=>(if(x1.iM.length:Int) == 0 then some ({t with aH:=t.aH.set w_.toNat ({x1 with Pc:=18}:aR)}:Table) else(idx x1.iM 0).bind fun x2=>(qI x1.iM 0 1).bind fun x3=>(FE t.aA.bH (Int.tmod x2 32)).bind fun x4=>(if !x4 then(MH t.aA.Mem w_ x2).bind fun x5=>some ({t with aA:=(⟨x5.1,t.aA.aG,t.aA.bH,t.aA.qZ⟩:aA),aH:=t.aH.set w_.toNat ({x1 with iM:=x3}:aR)}:Table) else some ({t with aH:=t.aH.set w_.toNat ({x1 with iM:=x3}:aR)}:Table)))
def HP(t:Table)(w_:Int)(x1:aR):Option Table:=
 some ({t with aH:=t.aH.set w_.toNat (⟨false,(⟨false,[]⟩:Batch),0,0,0,0,0,0,0,0,(⟨0,0,0⟩:iZ),false,0,(⟨0,0,0,0,0,0,0,0,0,false⟩:Sub),[],[],[],[],[],[]⟩:aR),Log:=t.Log++([({x1 with Kind:=3,Who:=w_,cB:=[]}:QO)])}:Table)
def HQ(t:Table)(w_:Int)(x1:aR):Option Table:=
 some ({t with aH:=t.aH.set w_.toNat (⟨false,(⟨false,[]⟩:Batch),0,0,0,0,0,0,0,0,(⟨0,0,0⟩:iZ),false,0,(⟨0,0,0,0,0,0,0,0,0,false⟩:Sub),[],[],[],[],[],[]⟩:aR),Log:=t.Log++([(⟨3,w_,x1.aI,x1.Code,[],[]⟩:QO)])}:Table)
def uG(t:Table)(w_:Int):Option Table:=
 (idx t.aH w_).bind fun x1=>(if x1.Code == 0 then need (t.Log.length+([({x1 with Kind:=3,Who:=w_,cB:=[]}:QO)]).length<=1073741824)<|HP t w_ x1 else need (t.Log.length+([(⟨3,w_,x1.aI,x1.Code,[],[]⟩:QO)]).length<=1073741824)<|HQ t w_ x1)
def lU(t:Table)(w_:Int)(x1:aR)(x14:Bool):Option Table:=
 (if x14 then(wO t w_).bind fun x15=>some x15 else(if x1.Pc == 15 then(wP t w_).bind fun x16=>some x16 else(if x1.Pc == 17 then(CX t w_).bind fun x17=>some x17 else(if x1.Pc == 18 then(k9 t.aA w_).bind fun x18=>(idx t.aH w_).bind fun x19=>some ({t with aA:=x18.2,aH:=t.aH.set w_.toNat ({x19 with Pc:=19}:aR)}:Table) else(if x1.Pc == 19 then(uG t w_).bind fun x20=>some x20 else(idx t.aH w_).bind fun x21=>(dE x21 1).bind fun x22=>some ({t with aH:=t.aH.set w_.toNat x22}:Table))))))
def j3(t:Table)(w_:Int)(x1:aR)(x3:Bool):Option Table:=
 (if x3 then(uA t w_).bind fun x4=>some x4 else(if x1.Pc == 1 then(idx t.aH w_).bind fun x5=>(GB x5).bind fun x6=>some ({t with aH:=t.aH.set w_.toNat x6}:Table) else(bY x1.Pc 2 5).bind fun x7=>(if x7 then(CQ t w_).bind fun x8=>some x8 else(if x1.Pc == 6 then(zJ t w_).bind fun x9=>some x9 else(if x1.Pc == 7 then(CT t w_).bind fun x10=>some x10 else(if x1.Pc == 8 then(rN t w_).bind fun x11=>some x11 else(bY x1.Pc 9 13).bind fun x12=>(if x12 then(zK t w_).bind fun x13=>some x13 else(if x1.Pc == 14 then lU t w_ x1 true else lU t w_ x1 (x1.Pc == 16)))))))))
def CY(t:Table)(w_:Int):Option Table:=
 (idx t.aH w_).bind fun x1=>(if !x1.iI then(zH t w_).bind fun x2=>some x2 else(if x1.Pc == 0 then j3 t w_ x1 true else(if x1.Pc == 20 then j3 t w_ x1 true else j3 t w_ x1 (x1.Pc == 21))))
def aCX(x6:Table):Option Table:=
 some x6
def wQ(x4:Int)(x7:Table):Option (Step (Int×Table) Table):=
 some (.next (bB (x4+1),x7))
def qJ(x:jP):(Int×Table)->Option (Step (Int×Table) Table)
 | (x4,x5)=>(if decide (x4<(((x.a8.take ((if 400<(x.a8.length:Int) then 400 else(x.a8.length:Int)).toNat)).drop 0).length:Int)) then(idx ((x.a8.take ((if 400<(x.a8.length:Int) then 400 else(x.a8.length:Int)).toNat)).drop 0) x4).bind fun x8=>(fC x8).bind fun x9=>(if x9 then(CY x5 x8).bind fun x10=>wQ x4 x10 else wQ x4 x5) else some (.stop (x5)))
def aCY:Table->Option Table
 | x6=>aCX x6
def xX(x:jP):Option Table:=
 (I7 x.cC).bind fun x1=>(if(x1.aH.length:Int) == 0 then some x1 else need (0<=(if 400<(x.a8.length:Int) then 400 else(x.a8.length:Int):Int)/\(if 400<(x.a8.length:Int) then 400 else(x.a8.length:Int):Int)<=(x.a8.length:Int)) ((loop (qJ x) (0,x1)).bind (aCY)))
def aV1(x:jP)(n:Int):Option jP:=
 need (0<=(if n<(x.a8.length:Int) then n else(x.a8.length:Int):Int)/\(if n<(x.a8.length:Int) then n else(x.a8.length:Int):Int)<=(x.a8.length:Int)) (some ((⟨x.cC,(x.a8.take ((if n<(x.a8.length:Int) then n else(x.a8.length:Int)).toNat)).drop 0⟩:jP)))
def V8(b:List Int):Option Bool:=
 some (decide ((b.length:Int)<=1000))
def pO(b:List Int):Int->Option (Step Int (Out Unit Bool))
 | x2=>(if decide (x2<(b.length:Int)) then(idx b x2).bind fun x3=>(bX x3 0 255).bind fun x4=>(if !x4 then some (.stop (Out.ret false)) else some (.next (bB (x2+1)))) else some (.stop (Out.brk ())))
def KX(b:List Int):(Out Unit Bool)->Option Bool
 | .brk ()=>V8 b
 | .ret r=>some r
def MI(b:List Int):Option Bool:=
 (loop (pO b) 0).bind (KX b)
def aGX:Option Bool:=
 some true
def pP(h:Heap):Int->Option (Step Int (Out Unit Bool))
 | x3=>(if decide (x3<6) then(idx h.Class x3).bind fun x4=>(bX x4 (-1) 2).bind fun x5=>(if !x5 then some (.stop (Out.ret false)) else some (.next (bB (x3+1)))) else some (.stop (Out.brk ())))
def aGY:(Out Unit Bool)->Option Bool
 | .brk ()=>aGX
 | .ret r=>some r
def vB(h:Heap)(x1:Bool):Option Bool:=
 (if x1 then some false else(loop (pP h) 0).bind (aGY))
def MJ(h:Heap):Option Bool:=
 (if(h.Bytes.length:Int) != 384 then vB h true else(if(h.Class.length:Int) != 6 then vB h true else(MI h.Bytes).bind fun x6=>vB h (!x6)))
def aKB(x5:Int):Option Int:=
 some x5
def xY(b:List Int)(at_ width:Int):(Int×Int)->Option (Step (Int×Int) Int)
 | (x3,x4)=>(if decide (x4<width) then(idx b (bB (at_+x4))).bind fun x6=>some (.next (bB ((bB (x3*256))+x6),bB (x4+1))) else some (.stop (x3)))
def aKC:Int->Option Int
 | x5=>aKB x5
def xZ(b:List Int)(at_ width:Int):Option Int:=
 (loop (xY b at_ width) (0,0)).bind (aKC)
def EA(slot:Int):Option Int:=
 (bX slot 0 23).bind fun x1=>(if !x1 then some (-1) else some (bB (Int.tdiv slot 4)))
def zL(slot:Int):Option Int:=
 (bX slot 0 23).bind fun x1=>(if !x1 then some (-1) else some (Int.tmod slot 4))
def qK(c:Int):Option Int:=
 (if c == 0 then some 8 else(if c == 1 then some 16 else(if c == 2 then some 40 else some 0)))
def BL(c:Int):Option Int:=
 (bX c 0 2).bind fun x1=>(if !x1 then some 0 else(qK c).bind fun x2=>some (bB (4+x2)))
def nX(c:Int):Option Int:=
 (bX c 0 2).bind fun x1=>(if !x1 then some 0 else(BL c).bind fun x2=>need (x2≠0) (some (bB (Int.tdiv 56 x2))))
def I9(slot c:Int)(x1:Bool):Option Int:=
 (if x1 then some (-1) else(EA slot).bind fun x2=>(zL slot).bind fun x3=>(BL c).bind fun x4=>some (bB ((bB ((bB (x2*64))+8))+(bB (x3*x4)))))
def yA(slot c:Int):Option Int:=
 (EA slot).bind fun x5=>(if decide (x5<0) then I9 slot c true else(zL slot).bind fun x6=>(nX c).bind fun x7=>(bX x6 0 (bB (x7 - 1))).bind fun x8=>I9 slot c (!x8))
def yC(page index:Int)(x1:Bool):Option Int:=
 (if x1 then some (-1) else some (bB ((bB (page*4))+index)))
def tI(page index:Int):Option Int:=
 (bX page 0 5).bind fun x2=>(if !x2 then yC page index true else(bX index 0 3).bind fun x3=>yC page index (!x3))
def aKD:Option Bool:=
 some true
def sJ(h:Heap)(p:Int):Int->Option (Step Int (Out Unit Bool))
 | x3=>(if decide (x3<(bB ((bB (p*64))+64))) then(idx h.Bytes x3).bind fun x4=>(if x4 != 0 then some (.stop (Out.ret false)) else some (.next (bB (x3+1)))) else some (.stop (Out.brk ())))
def aKE:(Out Unit Bool)->Option Bool
 | .brk ()=>aKD
 | .ret r=>some r
def aKF:Option Bool:=
 some true
def sK(h:Heap)(p x1:Int):Int->Option (Step Int (Out Unit Bool))
 | x9=>(nX x1).bind fun x10=>(if decide (x9<x10) then(tI p x9).bind fun x11=>(yA x11 x1).bind fun x12=>(xZ h.Bytes x12 4).bind fun x13=>(bX x13 1 7).bind fun x14=>(if !x14 then some (.stop (Out.ret false)) else some (.next (bB (x9+1)))) else some (.stop (Out.brk ())))
def aKG:(Out Unit Bool)->Option Bool
 | .brk ()=>aKF
 | .ret r=>some r
def XS(h:Heap)(p x1:Int):Option Bool:=
 (loop (sK h p x1) 0).bind (aKG)
def sL(h:Heap)(p:Int):Int->Option (Step Int (Out Unit Bool))
 | x7=>(if decide (x7<(bB ((bB (p*64))+8))) then(idx h.Bytes x7).bind fun x15=>(if x15 != 0 then some (.stop (Out.ret false)) else some (.next (bB (x7+1)))) else some (.stop (Out.brk ())))
def XT(h:Heap)(p x1:Int):(Out Unit Bool)->Option Bool
 | .brk ()=>XS h p x1
 | .ret r=>some r
def mJ(h:Heap)(p x1:Int)(x5:Bool):Option Bool:=
 (if x5 then some false else(loop (sL h p) (bB ((bB (p*64))+3))).bind (XT h p x1))
def P5(h:Heap)(p:Int):Option Bool:=
 (idx h.Class p).bind fun x1=>(if decide (x1<0) then(loop (sJ h p) (bB (p*64))).bind (aKE) else(idx h.Bytes (bB (p*64))).bind fun x16=>(if x16 != 171 then mJ h p x1 true else(idx h.Bytes (bB ((bB (p*64))+1))).bind fun x17=>(if x17 != x1 then mJ h p x1 true else(idx h.Bytes (bB ((bB (p*64))+2))).bind fun x18=>(nX x1).bind fun x19=>mJ h p x1 (x18 != x19))))
def aKH:Option Bool:=
 some true
def yD(h:Heap):Int->Option (Step Int (Out Unit Bool))
 | x3=>(if decide (x3<6) then(P5 h x3).bind fun x4=>(if !x4 then some (.stop (Out.ret false)) else some (.next (bB (x3+1)))) else some (.stop (Out.brk ())))
def aKI:(Out Unit Bool)->Option Bool
 | .brk ()=>aKH
 | .ret r=>some r
def P6(h:Heap):Option Bool:=
 (MJ h).bind fun x1=>(if !x1 then some false else(loop (yD h) 0).bind (aKI))
def aNJ:Option Bool:=
 some false
def vZ(l:List Int)(x:Int):Int->Option (Step Int (Out Unit Bool))
 | x2=>(if decide (x2<(l.length:Int)) then(idx l x2).bind fun x3=>(if x3 == x then some (.stop (Out.ret true)) else some (.next (bB (x2+1)))) else some (.stop (Out.brk ())))
def aNK:(Out Unit Bool)->Option Bool
 | .brk ()=>aNJ
 | .ret r=>some r
def H8(l:List Int)(x:Int):Option Bool:=
 (loop (vZ l x) 0).bind (aNK)
def aNL(x10:List Int):Option (List Int):=
 some x10
def BM(l:aB):((List Int)×Int)->Option (Step ((List Int)×Int) (List Int))
 | (x8,x9)=>(if decide (x9<(l.Own.length:Int)) then(idx l.Own x9).bind fun x11=>need (x8.length+x11.aW.length<=1073741824) (some (.next (x8++x11.aW,bB (x9+1)))) else some (.stop (x8)))
def aNM:(List Int)->Option (List Int)
 | x10=>aNL x10
def Z8(l:aB)(x5:List Int):Option (List Int):=
 (loop (BM l) (x5,0)).bind (aNM)
def BN(l:aB):((List Int)×Int)->Option (Step ((List Int)×Int) (List Int))
 | (x3,x4)=>(if decide (x4<(l.Global.length:Int)) then(idx l.Global x4).bind fun x12=>need (x3.length+x12.aW.length<=1073741824) (some (.next (x3++x12.aW,bB (x4+1)))) else some (.stop (x3)))
def Z9(l:aB):(List Int)->Option (List Int)
 | x5=>Z8 l x5
def NW(l:aB):Option (List Int):=
 (loop (BN l) (([]:List Int),0)).bind (Z9 l)
def aGZ:Option Bool:=
 some true
def CZ(x6:Int)(x7:Bool):Option (Step Int (Out Unit Bool)):=
 (if x7 then some (.stop (Out.ret false)) else some (.next (bB (x6+1))))
def pQ(x4:(List Int)):Int->Option (Step Int (Out Unit Bool))
 | x6=>(if decide (x6<(x4.length:Int)) then(idx x4 x6).bind fun x8=>(bX x8 0 23).bind fun x9=>(if !x9 then CZ x6 true else need (0<=(x6:Int)/\(x6:Int)<=(x4.length:Int)) ((H8 ((x4.take x6.toNat).drop 0) x8).bind fun x10=>CZ x6 x10)) else some (.stop (Out.brk ())))
def aG0:(Out Unit Bool)->Option Bool
 | .brk ()=>aGZ
 | .ret r=>some r
def V9(l:aB):Option Bool:=
 (NW l).bind fun x4=>(loop (pQ x4) 0).bind (aG0)
def pR(l:aB):Int->Option (Step Int (Out Unit Bool))
 | x3=>(if decide (x3<(l.Own.length:Int)) then(idx l.Own x3).bind fun x11=>(if decide (2<(x11.aW.length:Int)) then some (.stop (Out.ret false)) else some (.next (bB (x3+1)))) else some (.stop (Out.brk ())))
def WA(l:aB):(Out Unit Bool)->Option Bool
 | .brk ()=>V9 l
 | .ret r=>some r
def C0(l:aB)(x1:Bool):Option Bool:=
 (if x1 then some false else(loop (pR l) 0).bind (WA l))
def MK(l:aB):Option Bool:=
 (if(l.Global.length:Int) != 3 then C0 l true else C0 l ((l.Own.length:Int) != 9))
def vC(h:Heap)(x1:Int)(x2:Bool):Option Int:=
 (if x2 then some (-1) else(idx h.Class x1).bind fun x3=>some x3)
def nY(h:Heap)(slot:Int):Option Int:=
 (EA slot).bind fun x1=>(if decide (x1<0) then vC h x1 true else(idx h.Class x1).bind fun x4=>(if decide (x4<0) then vC h x1 true else(idx h.Class x1).bind fun x5=>(zL slot).bind fun x6=>(nX x5).bind fun x7=>vC h x1 (decide (x7<=x6))))
def yE(h:Heap)(slot:Int):Option Int:=
 (nY h slot).bind fun x1=>(yA slot x1).bind fun x2=>(xZ h.Bytes x2 4).bind fun x3=>some x3
def aE5:Option Bool:=
 some true
def zN(x2:Int)(x3:Bool):Option (Step Int (Out Unit Bool)):=
 (if x3 then some (.stop (Out.ret false)) else some (.next (bB (x2+1))))
def oJ(h:Heap)(l:List Int)(c:Int):Int->Option (Step Int (Out Unit Bool))
 | x2=>(if decide (x2<(l.length:Int)) then(idx l x2).bind fun x4=>(nY h x4).bind fun x5=>(if x5 != c then zN x2 true else(idx l x2).bind fun x6=>(yE h x6).bind fun x7=>zN x2 (decide (6<x7))) else some (.stop (Out.brk ())))
def aE6:(Out Unit Bool)->Option Bool
 | .brk ()=>aE5
 | .ret r=>some r
def BO(h:Heap)(l:List Int)(c:Int):Option Bool:=
 (loop (oJ h l c) 0).bind (aE6)
def BP(w_ c:Int)(x1:Bool):Option Int:=
 (if x1 then some (-1) else some (bB ((bB (w_*3))+c)))
def yF(w_ c:Int):Option Int:=
 (bX w_ 0 2).bind fun x2=>(if !x2 then BP w_ c true else(bX c 0 2).bind fun x3=>BP w_ c (!x3))
def aNN:Option Bool:=
 some true
def aAA(x3:Int):Option (Step Int (Out Unit Bool)):=
 some (.next (bB (x3+1)))
def BQ(m:Mem)(x3:Int):Int->Option (Step Int (Out Unit Bool))
 | x7=>(if decide (x7<3) then(yF x7 x3).bind fun x8=>(idx m.aB.Own x8).bind fun x9=>(BO m.Heap x9.aW x3).bind fun x10=>(if !x10 then some (.stop (Out.ret false)) else some (.next (bB (x7+1)))) else some (.stop (Out.brk ())))
def aAB(x3:Int):(Out Unit Bool)->Option (Step Int (Out Unit Bool))
 | .brk ()=>aAA x3
 | .ret r=>some (.stop (Out.ret r))
def BR(m:Mem):Int->Option (Step Int (Out Unit Bool))
 | x3=>(if decide (x3<3) then(idx m.aB.Global x3).bind fun x4=>(BO m.Heap x4.aW x3).bind fun x5=>(if !x5 then some (.stop (Out.ret false)) else(loop (BQ m x3) 0).bind (aAB x3)) else some (.stop (Out.brk ())))
def aNO:(Out Unit Bool)->Option Bool
 | .brk ()=>aNN
 | .ret r=>some r
def JA(m:Mem)(x1:Bool):Option Bool:=
 (if x1 then some false else(loop (BR m) 0).bind (aNO))
def NX(m:Mem):Option Bool:=
 (P6 m.Heap).bind fun x11=>(if !x11 then JA m true else(MK m.aB).bind fun x12=>JA m (!x12))
def WB:Option Bool:=
 some true
def m8(x3:Int)(x5:Bool):Option (Step Int (Out Unit Bool)):=
 (if x5 then some (.stop (Out.ret false)) else some (.next (bB (x3+1))))
def vD(c:aG):Int->Option (Step Int (Out Unit Bool))
 | x3=>(if decide (x3<3) then(idx c.cW x3).bind fun x4=>(if !x4.On then(if !(decide (x4=(⟨false,0,false,0⟩:wW))) then m8 x3 true else(bX x4.aQ 0 c.aQ).bind fun x6=>(if !x6 then m8 x3 true else(bX x4.Seen 0 2).bind fun x7=>m8 x3 (!x7))) else(bX x4.aQ 0 c.aQ).bind fun x8=>(if !x8 then m8 x3 true else(bX x4.Seen 0 2).bind fun x9=>m8 x3 (!x9))) else some (.stop (Out.brk ())))
def KY:(Out Unit Bool)->Option Bool
 | .brk ()=>WB
 | .ret r=>some r
def pS(c:aG)(x1:Bool):Option Bool:=
 (if x1 then some false else(loop (vD c) 0).bind (KY))
def qL(c:aG):Option Bool:=
 (bX c.aQ 0 100000).bind fun x10=>(if !x10 then pS c true else pS c ((c.cW.length:Int) != 3))
def aKJ(x5:List eJ):Option (List eJ):=
 some x5
def yG(l:List bM):((List eJ)×Int)->Option (Step ((List eJ)×Int) (List eJ))
 | (x3,x4)=>(if decide (x4<(l.length:Int)) then(idx l x4).bind fun x6=>need (x3.length+x6.Rows.length<=1073741824) (some (.next (x3++x6.Rows,bB (x4+1)))) else some (.stop (x3)))
def aKK:(List eJ)->Option (List eJ)
 | x5=>aKJ x5
def EB(l:List bM):Option (List eJ):=
 (loop (yG l) (([]:List eJ),0)).bind (aKK)
def zO(x1:Bool):Option Bool:=
 some x1
def jM(h:Int):Option Bool:=
 (bX h 32 223).bind fun x2=>(if x2 then zO (decide ((Int.tmod h 32)<24)) else zO false)
def gI(h:Int):Option Int:=
 (jM h).bind fun x1=>(if !x1 then some (-1) else some (Int.tmod h 32))
def aG1:Option Bool:=
 some true
def vF(x5:List Int)(x6 x8:Int)(x9:Bool):Option (Step ((List Int)×Int) (Out Unit Bool)):=
 (if x9 then some (.stop (Out.ret false)) else need (x5.length+([x8]).length<=1073741824) (some (.next (x5++([x8]),bB (x6+1)))))
def vG(x1:(List eJ)):((List Int)×Int)->Option (Step ((List Int)×Int) (Out Unit Bool))
 | (x5,x6)=>(if decide (x6<(x1.length:Int)) then(idx x1 x6).bind fun x7=>(gI x7.Handle).bind fun x8=>(if decide (x8<0) then vF x5 x6 x8 true else(bX x7.aQ 0 100000).bind fun x10=>(if !x10 then vF x5 x6 x8 true else(H8 x5 x8).bind fun x11=>vF x5 x6 x8 x11)) else some (.stop (Out.brk ())))
def aG2:(Out Unit Bool)->Option Bool
 | .brk ()=>aG1
 | .ret r=>some r
def C1(x1:(List eJ))(x2:Bool):Option Bool:=
 (if x2 then some false else(loop (vG x1) (([]:List Int),0)).bind (aG2))
def ML(l:List bM):Option Bool:=
 (EB l).bind fun x1=>(if(l.length:Int) != 3 then C1 x1 true else C1 x1 (decide (24<(x1.length:Int))))
def aAC(z:List Int):Option Bool:=
 some ((z.length:Int) == 3)
def JC(x2:Int)(x3:Bool):Option (Step Int (Out Unit Bool)):=
 (if x3 then some (.stop (Out.ret false)) else some (.next (bB (x2+1))))
def BS(z:List Int):Int->Option (Step Int (Out Unit Bool))
 | x2=>(if decide (x2<(z.length:Int)) then(idx z x2).bind fun x4=>(if x4 != 0 then(idx z x2).bind fun x5=>(jM x5).bind fun x6=>JC x2 (!x6) else JC x2 false) else some (.stop (Out.brk ())))
def aAD(z:List Int):(Out Unit Bool)->Option Bool
 | .brk ()=>aAC z
 | .ret r=>some r
def H9(z:List Int):Option Bool:=
 (loop (BS z) 0).bind (aAD z)
def P7(l:aB)(slot:Int):Option Bool:=
 (NW l).bind fun x1=>(H8 x1 slot).bind fun x2=>some x2
def GJ(m:Mem)(slot:Int):Option Int:=
 (nY m.Heap slot).bind fun x1=>(if decide (x1<0) then some 0 else(P7 m.aB slot).bind fun x2=>(if x2 then some 1 else(yE m.Heap slot).bind fun x3=>(if decide (6<x3) then some 2 else some 3)))
def GK(h:Int):Option Int:=
 (jM h).bind fun x1=>(if !x1 then some 0 else some (bB (Int.tdiv h 32)))
def vH(x1:Bool):Option Bool:=
 some x1
def zP(m:Mem)(h:Int):Option Bool:=
 (jM h).bind fun x2=>(if x2 then(gI h).bind fun x3=>(GJ m x3).bind fun x4=>(if x4 == 3 then(gI h).bind fun x5=>(yE m.Heap x5).bind fun x6=>(GK h).bind fun x7=>vH (x6 == x7) else vH false) else vH false)
def aKL:Option Bool:=
 some true
def GL(x4:Int)(x5:Bool):Option (Step Int (Out Unit Bool)):=
 (if x5 then some (.stop (Out.ret false)) else some (.next (bB (x4+1))))
def yH(b:aA)(x2:(List eJ)):Int->Option (Step Int (Out Unit Bool))
 | x4=>(if decide (x4<(x2.length:Int)) then(idx x2 x4).bind fun x6=>(zP b.Mem x6.Handle).bind fun x7=>(if !x7 then GL x4 true else GL x4 (decide (b.aG.aQ<x6.aQ))) else some (.stop (Out.brk ())))
def aKM:(Out Unit Bool)->Option Bool
 | .brk ()=>aKL
 | .ret r=>some r
def sM(b:aA)(x1:Bool):Option Bool:=
 (if x1 then some false else(EB b.bH).bind fun x2=>(loop (yH b x2) 0).bind (aKM))
def P8(b:aA):Option Bool:=
 (NX b.Mem).bind fun x8=>(if !x8 then sM b true else(qL b.aG).bind fun x9=>(if !x9 then sM b true else(ML b.bH).bind fun x10=>(if !x10 then sM b true else(H9 b.qZ).bind fun x11=>sM b (!x11))))
def aG3:Option Bool:=
 some false
def vI(x3:Int)(x4:Bool):Option (Step Int (Out Unit Bool)):=
 (if x4 then some (.stop (Out.ret true)) else some (.next (bB (x3+1))))
def pT(slot:Int)(x1:(List eJ)):Int->Option (Step Int (Out Unit Bool))
 | x3=>(if decide (x3<(x1.length:Int)) then(idx x1 x3).bind fun x5=>(jM x5.Handle).bind fun x6=>(if x6 then(gI x5.Handle).bind fun x7=>vI x3 (x7 == slot) else vI x3 false) else some (.stop (Out.brk ())))
def aG4:(Out Unit Bool)->Option Bool
 | .brk ()=>aG3
 | .ret r=>some r
def GM(l:List bM)(slot:Int):Option Bool:=
 (EB l).bind fun x1=>(loop (pT slot x1) 0).bind (aG4)
def zQ(x1:Int)(x2:Bool):Option Int:=
 (if x2 then some 4 else some x1)
def JD(b:aA)(slot:Int):Option Int:=
 (GJ b.Mem slot).bind fun x1=>(if x1 == 3 then(GM b.bH slot).bind fun x3=>zQ x1 (!x3) else zQ x1 false)
def aNP(x6:List Int):Option (List Int):=
 some x6
def BT(b:aA)(x4:List Int)(x5:Int)(x7:Bool):Option (Step ((List Int)×Int) (List Int)):=
 (if x7 then(JD b x5).bind fun x8=>(idx x4 x8).bind fun x9=>some (.next (x4.set x8.toNat (bB (x9+1)),bB (x5+1))) else some (.stop (x4)))
def BU(b:aA)(x1:Bool):((List Int)×Int)->Option (Step ((List Int)×Int) (List Int))
 | (x4,x5)=>(if decide (x5<24) then BT b x4 x5 x1 else BT b x4 x5 false)
def aNQ:(List Int)->Option (List Int)
 | x6=>aNP x6
def IA(b:aA):Option (List Int):=
 need (0<=(5:Int)/\(5:Int)<=4294967296) ((P8 b).bind fun x1=>(loop (BU b x1) (List.replicate ((5:Int).toNat) 0,0)).bind (aNQ))
def aCZ(x5:Int):Option Int:=
 some x5
def wR(x4 x6:Int):Option (Step (Int×Int) Int):=
 some (.next (x6,bB (x4+1)))
def qM(h:Heap):(Int×Int)->Option (Step (Int×Int) Int)
 | (x3,x4)=>(if decide (x4<(h.Class.length:Int)) then(idx h.Class x4).bind fun x7=>(if x7 == (-1) then wR x4 (bB (x3+1)) else wR x4 x3) else some (.stop (x3)))
def aC0:Int->Option Int
 | x5=>aCZ x5
def yI(h:Heap):Option Int:=
 (loop (qM h) (0,0)).bind (aC0)
def lV(x44:Bool):Option Bool:=
 some x44
def IB(x40 x41:aE)(x42 x43:Table):Option Bool:=
 (if decide (x40.aA.aG.aQ<=x41.aA.aG.aQ) then(idx x42.dP 0).bind fun x45=>(idx x43.dP 0).bind fun x46=>(if decide (x45.hJ<=x46.hJ) then(idx x42.dP 1).bind fun x47=>(idx x43.dP 1).bind fun x48=>(if decide (x47.hJ<=x48.hJ) then(IA x40.aA).bind fun x49=>(idx x49 2).bind fun x50=>(IA x41.aA).bind fun x51=>(idx x51 2).bind fun x52=>(if decide (x50<=x52) then(yI x40.aA.Mem.Heap).bind fun x53=>(yI x41.aA.Mem.Heap).bind fun x54=>lV (decide (x54<=x53)) else lV false) else lV false) else lV false) else lV false)
def sN(x35:Int)(x91:Bool)(x92 x93:aE)(x94 x95:Table):Option (Step (Int×aE×aE×Table×Table) (Out (aE×aE×Table×Table) Bool)):=
 (if x91 then some (.stop (Out.ret false)) else some (.next (bB (x35+1),x92,x93,x94,x95)))
def sO:(Int×aE×aE×Table×Table)->Option (Step (Int×aE×aE×Table×Table) (Out (aE×aE×Table×Table) Bool))
 | (x35,x36,x37,x38,x39)=>(if decide (x35<(x38.Log.length:Int)) then(idx x38.Log x35).bind fun x96=>(idx x39.Log x35).bind fun x97=>(if x96.Kind != x97.Kind then sN x35 true x36 x37 x38 x39 else(if x96.aI != x97.aI then sN x35 true x36 x37 x38 x39 else sN x35 (x96.Code != x97.Code) x36 x37 x38 x39)) else some (.stop (Out.brk (x36,x37,x38,x39))))
def aE7:(Out (aE×aE×Table×Table) Bool)->Option Bool
 | .brk (x40,x41,x42,x43)=>IB x40 x41 x42 x43
 | .ret r=>some r
def S7(x26 x27:aE)(x28 x29:Table):Option Bool:=
 (loop (sO) (0,x26,x27,x28,x29)).bind (aE7)
def IC(x21:Int)(x98:Bool)(x99 x100:aE)(x101 x102:Table):Option (Step (Int×aE×aE×Table×Table) (Out (aE×aE×Table×Table) Bool)):=
 (if x98 then some (.stop (Out.ret false)) else some (.next (bB (x21+1),x99,x100,x101,x102)))
def sP:(Int×aE×aE×Table×Table)->Option (Step (Int×aE×aE×Table×Table) (Out (aE×aE×Table×Table) Bool))
 | (x21,x22,x23,x24,x25)=>(if decide (x21<(x22.Log.length:Int)) then(idx x22.Log x21).bind fun x103=>(idx x23.Log x21).bind fun x104=>IC x21 (!(decide (x103=x104))) x22 x23 x24 x25 else some (.stop (Out.brk (x22,x23,x24,x25))))
def S8:(Out (aE×aE×Table×Table) Bool)->Option Bool
 | .brk (x26,x27,x28,x29)=>S7 x26 x27 x28 x29
 | .ret r=>some r
def lW(x11:Bool)(x12 x13:aE)(x14 x15:Table):Option Bool:=
 (if x11 then some false else(loop (sP) (0,x12,x13,x14,x15)).bind (S8))
def ID(x3:jP)(x7 x8:aE)(x9:Table):Option Bool:=
 (xX x3).bind fun x10=>(if decide ((x8.Log.length:Int)<(x7.Log.length:Int)) then lW true x7 x8 x9 x10 else(if decide ((x10.Log.length:Int)<(x9.Log.length:Int)) then lW true x7 x8 x9 x10 else(if(x9.dP.length:Int) != 2 then lW true x7 x8 x9 x10 else(if(x10.dP.length:Int) != 2 then lW true x7 x8 x9 x10 else lW ((x7.aH.length:Int) != 3) x7 x8 x9 x10))))
def IE(code:List UInt8)(x2:nQ)(x3:jP)(x5:aE):Option Bool:=
 (xR x2).bind fun x6=>(NR code 1 (x3.a8.length:Int)).bind fun x105=>need (0<=(if x105<(x3.a8.length:Int) then x105 else(x3.a8.length:Int):Int)/\(if x105<(x3.a8.length:Int) then x105 else(x3.a8.length:Int):Int)<=(x3.a8.length:Int))<|(xX (⟨x3.cC,(x3.a8.take ((if x105<(x3.a8.length:Int) then x105 else(x3.a8.length:Int)).toNat)).drop 0⟩:jP)).bind fun x106=>ID x3 x5 x6 x106
def zR(code:List UInt8)(x2:nQ)(x3:jP)(x4:Bool):Option Bool:=
 (if x4 then some true else(NR code 0 (x2.a8.length:Int)).bind fun x107=>need (0<=(if x107<(x2.a8.length:Int) then x107 else(x2.a8.length:Int):Int)/\(if x107<(x2.a8.length:Int) then x107 else(x2.a8.length:Int):Int)<=(x2.a8.length:Int))<|(xR (⟨x2.cC,(x2.a8.take ((if x107<(x2.a8.length:Int) then x107 else(x2.a8.length:Int)).toNat)).drop 0⟩:nQ)).bind fun x108=>IE code x2 x3 x108)
def Q5(code:List UInt8):Option Bool:=
 (aJ6 code).bind fun x1=>(if x1 then some true else(tO code).bind fun x2=>(tP code).bind fun x3=>(UE x2).bind fun x109=>(if !x109 then zR code x2 x3 true else(PR x3).bind fun x110=>zR code x2 x3 (!x110)))
def aG5:Option Int:=
 some (-1)
def gJ(size:Int):Int->Option (Step Int (Out Unit Int))
 | x2=>(if decide (x2<3) then(qK x2).bind fun x3=>(bX size 1 x3).bind fun x4=>(if x4 then some (.stop (Out.ret x2)) else some (.next (bB (x2+1)))) else some (.stop (Out.brk ())))
def aG6:(Out Unit Int)->Option Int
 | .brk ()=>aG5
 | .ret r=>some r
def GN(size:Int):Option Int:=
 (loop (gJ size) 0).bind (aG6)
def MM(slot c:Int):Option Int:=
 (yA slot c).bind fun x1=>(if decide (x1<0) then some (-1) else some (bB (x1+4)))
def yJ(b:List Int):Option (List Int):=
 need (([]:List Int).length+b.length<=1073741824) (some (([]:List Int)++b))
def XU(h:Heap):Option Heap:=
 (yJ h.Bytes).bind fun x1=>(yJ h.Class).bind fun x2=>some (⟨x1,x2⟩:Heap)
def aKN(x5:List aY):Option (List aY):=
 some x5
def NY(l:List aY):((List aY)×Int)->Option (Step ((List aY)×Int) (List aY))
 | (x3,x4)=>(if decide (x4<(l.length:Int)) then(idx l x4).bind fun x6=>(yJ x6.aW).bind fun x7=>need (x3.length+([(⟨x7⟩:aY)]).length<=1073741824) (some (.next (x3++([(⟨x7⟩:aY)]),bB (x4+1)))) else some (.stop (x3)))
def aKO:(List aY)->Option (List aY)
 | x5=>aKN x5
def P9(l:List aY):Option (List aY):=
 (loop (NY l) (([]:List aY),0)).bind (aKO)
def XV(l:aB):Option aB:=
 (P9 l.Global).bind fun x1=>(P9 l.Own).bind fun x2=>some (⟨x1,x2⟩:aB)
def XW(m:Mem):Option Mem:=
 (XU m.Heap).bind fun x1=>(XV m.aB).bind fun x2=>some (⟨x1,x2⟩:Mem)
def Q6(s:aY)(x1:Int):Option (aY×Int):=
 some ((⟨(s.aW.take ((bB ((s.aW.length:Int) - 1)).toNat)).drop 0⟩:aY),x1)
def uH(s:aY):Option (aY×Int):=
 (if(s.aW.length:Int) == 0 then some (s,(-1)) else need (0<=(bB ((s.aW.length:Int) - 1):Int)/\(bB ((s.aW.length:Int) - 1):Int)<=(s.aW.length:Int)) ((idx s.aW (bB ((s.aW.length:Int) - 1))).bind fun x2=>Q6 s x2))
def aG7(x7:List Int):Option (List Int):=
 some x7
def C2(at_:Int):((List Int)×Int×Int)->Option (Step ((List Int)×Int×Int) (List Int))
 | (x4,x5,x6)=>(if decide (0<=x6) then(idx x4 (bB (at_+x6))).bind fun x8=>some (.next (x4.set ((bB (at_+x6)).toNat) (Int.tmod x5 256),bB (Int.tdiv x5 256),bB (x6 - 1))) else some (.stop (x4)))
def aG8:(List Int)->Option (List Int)
 | x7=>aG7 x7
def zT(b:List Int)(at_ width n:Int):Option (List Int):=
 (loop (C2 at_) (b,n,bB (width - 1))).bind (aG8)
def aG9(h:Heap):Option (Heap×(List Int)):=
 some (h,([]:List Int))
def KZ(x2:Int):Option (Step Int (Out Unit (Heap×(List Int)))):=
 some (.next (bB (x2+1)))
def aHA(h:Heap)(c x2:Int)(x14 x15:List Int):Option (Step Int (Out Unit (Heap×(List Int)))):=
 some (.stop (Out.ret ((⟨x15,h.Class.set x2.toNat c⟩:Heap),x14)))
def WC(x2:Int)(x11:List Int)(x12:Int)(x17:List Int):Option (Step ((List Int)×Int×(List Int)) ((List Int)×(List Int))):=
 (tI x2 x12).bind fun x18=>need (x11.length+([x18]).length<=1073741824) (some (.next (x11++([x18]),bB (x12+1),x17)))
def C3(c x2:Int):((List Int)×Int×(List Int))->Option (Step ((List Int)×Int×(List Int)) ((List Int)×(List Int)))
 | (x11,x12,x13)=>(nX c).bind fun x16=>(if decide (x12<x16) then(tI x2 x12).bind fun x19=>(yA x19 c).bind fun x20=>(zT x13 x20 4 1).bind fun x21=>WC x2 x11 x12 x21 else some (.stop ((x11,x13))))
def aHB(h:Heap)(c x2:Int):((List Int)×(List Int))->Option (Step Int (Out Unit (Heap×(List Int))))
 | (x14,x15)=>aHA h c x2 x14 x15
def fL(h:Heap)(c:Int):Int->Option (Step Int (Out Unit (Heap×(List Int))))
 | x2=>(if decide (x2<6) then(idx h.Class x2).bind fun x3=>(if x3 != (-1) then KZ x2 else(idx h.Bytes (bB (x2*64))).bind fun x4=>(idx (h.Bytes.set ((bB (x2*64)).toNat) 171) (bB ((bB (x2*64))+1))).bind fun x5=>(nX c).bind fun x6=>(idx ((h.Bytes.set ((bB (x2*64)).toNat) 171).set ((bB ((bB (x2*64))+1)).toNat) c) (bB ((bB (x2*64))+2))).bind fun x7=>(loop (C3 c x2) (([]:List Int),0,((h.Bytes.set ((bB (x2*64)).toNat) 171).set ((bB ((bB (x2*64))+1)).toNat) c).set ((bB ((bB (x2*64))+2)).toNat) x6)).bind (aHB h c x2)) else some (.stop (Out.brk ())))
def aHC(h:Heap):(Out Unit (Heap×(List Int)))->Option (Heap×(List Int))
 | .brk ()=>aG9 h
 | .ret r=>some r
def uI(h:Heap)(c:Int):Option (Heap×(List Int)):=
 (loop (fL h c) 0).bind (aHC h)
def K0(m:Mem)(c:Int)(x1:Heap×(List Int))(x2:aY)(x3:Int):Option (Mem×Int):=
 some ((⟨x1.1,(⟨m.aB.Global.set c.toNat (⟨x2.aW++((x1.2.take x1.2.length).drop ((1:Int).toNat))⟩:aY),m.aB.Own⟩:aB)⟩:Mem),x3)
def GO(m:Mem)(c:Int):Option (Mem×Int):=
 (uI m.Heap c).bind fun x1=>(if(x1.2.length:Int) == 0 then some ((⟨x1.1,m.aB⟩:Mem),(-1)) else(idx m.aB.Global c).bind fun x2=>need (0<=(1:Int)/\(1:Int)<=(x1.2.length:Int)) (need (x2.aW.length+((x1.2.take x1.2.length).drop ((1:Int).toNat)).length<=1073741824) ((idx x1.2 0).bind fun x4=>K0 m c x1 x2 x4)))
def zU(slot gen:Int)(x1:Bool):Option Int:=
 (if x1 then some 0 else some (bB ((bB (gen*32))+slot)))
def Q7(slot gen:Int):Option Int:=
 (bX slot 0 23).bind fun x2=>(if !x2 then zU slot gen true else(bX gen 1 6).bind fun x3=>zU slot gen (!x3))
def BV(m:Mem)(slot:Int):Option Int:=
 (yE m.Heap slot).bind fun x1=>(Q7 slot x1).bind fun x2=>some x2
def GP(at_ x3 x4:Int)(x5:Bool):Option (Int×Int):=
 (if x5 then some (0,2) else(MM x3 x4).bind fun x6=>some (bB (x6+at_),0))
def GQ(m:Mem)(h at_ width:Int)(x1:Bool):Option (Int×Int):=
 (if x1 then some (0,1) else(zP m h).bind fun x2=>(if !x2 then some (0,4) else(gI h).bind fun x3=>(nY m.Heap x3).bind fun x4=>(qK x4).bind fun x7=>(bX at_ 0 (bB (x7 - 1))).bind fun x8=>(if !x8 then GP at_ x3 x4 true else(qK x4).bind fun x9=>GP at_ x3 x4 (decide ((bB (x9 - at_))<width)))))
def XX(m:Mem)(h at_ width:Int):Option (Int×Int):=
 (NX m).bind fun x10=>(if !x10 then GQ m h at_ width true else(bX width 1 7).bind fun x11=>GQ m h at_ width (!x11))
def aAE(x8:Int)(x9:List UInt8):Option (List UInt8):=
 (if decide (0<x8) then some ([]) else some x9)
def JE(width:Int):(Int×(List UInt8)×Int)->Option (Step (Int×(List UInt8)×Int) (Int×(List UInt8)))
 | (x5,x6,x7)=>(if decide (x7<width) then need (([u8 (Int.tmod x5 256)]).length+x6.length<=9223372036854775807) (some (.next (bB (Int.tdiv x5 256),([u8 (Int.tmod x5 256)])++x6,bB (x7+1)))) else some (.stop ((x5,x6))))
def aAF:(Int×(List UInt8))->Option (List UInt8)
 | (x8,x9)=>aAE x8 x9
def Q8(n width:Int)(x1:Bool):Option (List UInt8):=
 (if x1 then some ([]) else(loop (JE width) (n,[],0)).bind (aAF))
def UO(n width:Int):Option (List UInt8):=
 (bX width 1 7).bind fun x10=>(if !x10 then Q8 n width true else Q8 n width (decide (n<0)))
def GR(m:Mem)(h at_ width n:Int):Option (Mem×Int):=
 (XW m).bind fun x1=>(XX m h at_ width).bind fun x2=>(if x2.2 != 0 then some (x1,x2.2) else(UO n width).bind fun x3=>(if x3 == ([]) then some (x1,1) else(zT x1.Heap.Bytes x2.1 width n).bind fun x4=>some ((⟨(⟨x4,x1.Heap.Class⟩:Heap),x1.aB⟩:Mem),0)))
def NZ(x2 x3:List aY):Option aB:=
 some (⟨x2,x3⟩:aB)
def XY(x:aB)(slot x1:Int)(x4:aY):Option aB:=
 NZ x.Global (x.Own.set x1.toNat (⟨x4.aW++([slot])⟩:aY))
def XZ(x:aB)(x5:List aY):Option aB:=
 NZ x5 x.Own
def X0(x:aB)(w_ c slot:Int):Option aB:=
 (yF w_ c).bind fun x1=>(idx x.Own x1).bind fun x4=>(if decide ((x4.aW.length:Int)<2) then need (x4.aW.length+([slot]).length<=1073741824)<|XY x slot x1 x4 else(idx x.Global c).bind fun x6=>need (x6.aW.length+([slot]).length<=1073741824)<|XZ x (x.Global.set c.toNat (⟨x6.aW++([slot])⟩:aY)))
def N0(x:Mem)(x3:List Int)(x4 x5:List aY):Option Mem:=
 some (⟨(⟨x3,x.Heap.Class⟩:Heap),(⟨x4,x5⟩:aB)⟩:Mem)
def N2(x:Mem)(w_ slot x1 x2:Int)(x3:List Int):Option Mem:=
 (if decide ((bB (x2+1))<=6) then(X0 x.aB w_ x1 slot).bind fun x6=>N0 x x3 x6.Global x6.Own else N0 x x3 x.aB.Global x.aB.Own)
def J2(x:Mem)(w_ slot:Int):Option Mem:=
 (nY x.Heap slot).bind fun x1=>(yE x.Heap slot).bind fun x2=>(yA slot x1).bind fun x7=>(zT x.Heap.Bytes x7 4 (bB (x2+1))).bind fun x8=>N2 x w_ slot x1 x2 x8
def zV(c:aG):Option aG:=
 need (([]:List wW).length+c.cW.length<=1073741824) (some (⟨c.aQ,([]:List wW)++c.cW⟩:aG))
def bQ(s:Sub)(code:Int):Option Sub:=
 some ({s with Code:=code,dB:=true}:Sub)
def UP(b:aA)(s:Sub)(slot pc:Int):Option Sub:=
 (if decide (0<=slot) then(BV b.Mem slot).bind fun x1=>(bQ ({s with Out:=x1}:Sub) 0).bind fun x2=>some x2 else some ({s with Pc:=pc}:Sub))
def zW(s:Sub)(x3:Int)(x5:Bool)(x6:aA):Option (aA×Sub):=
 (if x5 then(bQ s 3).bind fun x7=>some (x6,x7) else(UP x6 s x3 (bB (s.Pc+1))).bind fun x8=>some (x6,x8))
def j8(s:Sub)(x3:Int)(x4:aA):Option (aA×Sub):=
 (if decide (x3<0) then zW s x3 (s.Pc == 3) x4 else zW s x3 false x4)
def zX(b:aA)(s:Sub)(x1:Int)(x12:Bool):Option (aA×Sub):=
 (if x12 then(idx b.Mem.aB.Global x1).bind fun x13=>(uH x13).bind fun x14=>j8 s x14.2 ({b with Mem:=(⟨b.Mem.Heap,(⟨b.Mem.aB.Global.set x1.toNat x14.1,b.Mem.aB.Own⟩:aB)⟩:Mem)}:aA) else(if s.Pc == 2 then(GO b.Mem x1).bind fun x15=>j8 s x15.2 ({b with Mem:=x15.1}:aA) else(bQ s 1).bind fun x16=>some (b,x16)))
def BW(b:aA)(w_:Int)(s:Sub):Option (aA×Sub):=
 (GN s.A).bind fun x1=>(if decide (x1<0) then(bQ s 2).bind fun x2=>some (b,x2) else(if s.Pc == 0 then(yF w_ x1).bind fun x9=>(idx b.Mem.aB.Own x9).bind fun x10=>(uH x10).bind fun x11=>j8 s x11.2 ({b with Mem:=(⟨b.Mem.Heap,(⟨b.Mem.aB.Global,b.Mem.aB.Own.set x9.toNat x11.1⟩:aB)⟩:Mem)}:aA) else(if s.Pc == 1 then zX b s x1 true else zX b s x1 (s.Pc == 3))))
def GS(b:aA)(s:Sub)(x5:List bM):Option (aA×Sub):=
 (bQ s 0).bind fun x6=>some (({b with bH:=x5}:aA),x6)
def wS(b:aA)(w_:Int)(s:Sub)(x3:Bool):Option (aA×Sub):=
 (if x3 then(bQ s 4).bind fun x4=>some (b,x4) else(idx b.bH w_).bind fun x7=>need (x7.Rows.length+([(⟨s.A,s.E⟩:eJ)]).length<=1073741824)<|GS b s (b.bH.set w_.toNat (⟨x7.Rows++([(⟨s.A,s.E⟩:eJ)])⟩:bM)))
def yK(b:aA)(w_:Int)(s:Sub):Option (aA×Sub):=
 (if s.Pc == 0 then some (b,({s with Pc:=1,E:=b.aG.aQ}:Sub)) else(if s.Pc == 1 then(bX s.E 0 b.aG.aQ).bind fun x1=>(if !x1 then(bQ s 1).bind fun x2=>some (b,x2) else(zP b.Mem s.A).bind fun x8=>(if !x8 then wS b w_ s true else(gI s.A).bind fun x9=>(GM b.bH x9).bind fun x10=>wS b w_ s x10)) else(bQ s 1).bind fun x11=>some (b,x11)))
def sQ(w_:Int)(x1:aG)(x3:wW)(x4:Bool):Option (aG×Bool):=
 (if x4 then some (x1,true) else(if x3.Seen == 2 then(idx x1.cW w_).bind fun x5=>some ((⟨x1.aQ,x1.cW.set w_.toNat ({x5 with fB:=true,Seen:=0}:wW)⟩:aG),true) else(idx x1.cW w_).bind fun x6=>some ((⟨x1.aQ,x1.cW.set w_.toNat ({x6 with Seen:=bB (x3.Seen+1)}:wW)⟩:aG),false)))
def GU(c:aG)(w_ e_:Int)(x1:aG)(x2:Bool):Option (aG×Bool):=
 (if x2 then some (x1,false) else(idx c.cW w_).bind fun x3=>(if !x3.On then sQ w_ x1 x3 true else(if x3.fB then sQ w_ x1 x3 true else sQ w_ x1 x3 (x3.aQ == e_))))
def J3(c:aG)(w_ e_:Int):Option (aG×Bool):=
 (zV c).bind fun x1=>(qL c).bind fun x7=>(if !x7 then GU c w_ e_ x1 true else(bX w_ 0 2).bind fun x8=>GU c w_ e_ x1 (!x8))
def GV(e_:Int)(x1:aG)(x2:Bool):Option (aG×Bool):=
 (if x2 then some (x1,false) else some ((⟨bB (e_+1),x1.cW⟩:aG),true))
def S9(c:aG)(e_:Int):Option (aG×Bool):=
 (zV c).bind fun x1=>(qL c).bind fun x3=>(if !x3 then GV e_ x1 true else(if c.aQ != e_ then GV e_ x1 true else GV e_ x1 (e_ == 100000)))
def uJ(b:aA)(s:Sub)(x3:aG×Bool)(x5:Int):Option (aA×Sub):=
 some (({b with aG:=x3.1}:aA),({s with Pc:=x5,B:=bB (s.B+1)}:Sub))
def uK(b:aA)(s:Sub)(x6:aG×Bool)(x7:Int):Option (aA×Sub):=
 (bQ ({s with Out:=x7}:Sub) 0).bind fun x8=>some (({b with aG:=x6.1}:aA),x8)
def vJ(b:aA)(s:Sub):Option (aA×Sub):=
 (if s.Pc == 0 then some (b,({s with Pc:=1,E:=b.aG.aQ,B:=0}:Sub)) else(if s.Pc == 1 then(bX s.B 0 2).bind fun x1=>(if !x1 then(bQ s 1).bind fun x2=>some (b,x2) else(J3 b.aG s.B s.E).bind fun x3=>(if !x3.2 then(bQ s 8).bind fun x4=>some (({b with aG:=x3.1}:aA),x4) else(if(bB (s.B+1)) == 3 then uJ b s x3 2 else uJ b s x3 s.Pc))) else(if s.Pc == 2 then(S9 b.aG s.E).bind fun x6=>(if x6.2 then uK b s x6 1 else uK b s x6 s.Out) else(bQ s 1).bind fun x9=>some (b,x9))))
def MN(x1:Bool):Option Bool:=
 some x1
def MZ(r_:eJ)(e_:Int):Option Bool:=
 (if decide (2<=e_) then MN (decide (r_.aQ<=(bB (e_ - 2)))) else MN false)
def aHD:Option Int:=
 some (-1)
def fM(l:List eJ)(e_:Int):Int->Option (Step Int (Out Unit Int))
 | x2=>(if decide (x2<(l.length:Int)) then(idx l x2).bind fun x3=>(MZ x3 e_).bind fun x4=>(if x4 then some (.stop (Out.ret x2)) else some (.next (bB (x2+1)))) else some (.stop (Out.brk ())))
def aHE:(Out Unit Int)->Option Int
 | .brk ()=>aHD
 | .ret r=>some r
def zY(l:List eJ)(from_ e_:Int):Option Int:=
 (loop (fM l e_) (if 0<from_ then from_ else 0)).bind (aHE)
def uL(b:aA)(s:Sub)(x8:Int):Option (aA×Sub):=
 some (b,({s with Pc:=x8,B:=bB (s.B+1)}:Sub))
def fX(b:aA)(s:Sub)(x5:Bool):Option (aA×Sub):=
 (if x5 then(bQ s 1).bind fun x6=>some (b,x6) else(idx b.qZ s.B).bind fun x7=>(if x7 == s.H then some (b,({s with Pc:=1,Row:=bB (s.Row+1)}:Sub)) else(if(bB (s.B+1)) == 3 then uL b s 3 else uL b s s.Pc)))
def DU(s:Sub)(x14:aA):Option (aA×Sub):=
 some (x14,({s with Pc:=1,Out:=bB (s.Out+1)}:Sub))
def fY(b:aA)(w_:Int)(s:Sub)(x1:bM)(x12:Bool):Option (aA×Sub):=
 (if x12 then(bQ s 1).bind fun x13=>some (b,x13) else need (0<=(s.Row:Int)/\(s.Row:Int)<=(x1.Rows.length:Int)) (need (0<=(bB (s.Row+1):Int)/\(bB (s.Row+1):Int)<=(x1.Rows.length:Int)) (need (s.Row.toNat<=(bB (s.Row+1)).toNat) ((gI s.H).bind fun x15=>(J2 b.Mem w_ x15).bind fun x16=>DU s ({b with Mem:=x16,bH:=b.bH.set w_.toNat (⟨((dC x1.Rows s.Row.toNat (x1.Rows.drop ((bB (s.Row+1)).toNat))).take (s.Row.toNat+(x1.Rows.length - ((bB (s.Row+1)).toNat)))).drop 0⟩:bM)}:aA)))))
def vK(b:aA)(w_:Int)(s:Sub):Option (aA×Sub):=
 (idx b.bH w_).bind fun x1=>(if s.Pc == 0 then some (b,({s with Pc:=1,E:=b.aG.aQ,Row:=0}:Sub)) else(if s.Pc == 1 then(zY x1.Rows s.Row s.E).bind fun x2=>(if decide (x2<0) then(bQ s 0).bind fun x3=>some (b,x3) else(idx x1.Rows x2).bind fun x4=>some (b,({s with Pc:=2,Row:=x2,B:=0,H:=x4.Handle}:Sub))) else(if s.Pc == 2 then(bX s.B 0 2).bind fun x9=>(if !x9 then fX b s true else(bX s.Row 0 (bB ((x1.Rows.length:Int) - 1))).bind fun x10=>(if !x10 then fX b s true else(idx x1.Rows s.Row).bind fun x11=>fX b s (x11.Handle != s.H))) else(if s.Pc == 3 then(bX s.Row 0 (bB ((x1.Rows.length:Int) - 1))).bind fun x17=>(if !x17 then fY b w_ s x1 true else(idx x1.Rows s.Row).bind fun x18=>(if x18.Handle != s.H then fY b w_ s x1 true else(MZ x18 s.E).bind fun x19=>fY b w_ s x1 (!x19))) else(bQ s 1).bind fun x20=>some (b,x20)))))
def BX(w_ e_:Int)(x1:aG)(x2:Bool):Option (aG×Bool):=
 (if x2 then some (x1,false) else(idx x1.cW w_).bind fun x3=>some ((⟨x1.aQ,x1.cW.set w_.toNat (⟨true,e_,false,0⟩:wW)⟩:aG),true))
def N3(c:aG)(w_ e_:Int):Option (aG×Bool):=
 (zV c).bind fun x1=>(qL c).bind fun x4=>(if !x4 then BX w_ e_ x1 true else(bX w_ 0 2).bind fun x5=>(if !x5 then BX w_ e_ x1 true else(bX e_ 0 c.aQ).bind fun x6=>BX w_ e_ x1 (!x6)))
def J4(b:aA)(w_:Int)(s:Sub):Option (aA×Sub):=
 (if s.Pc == 0 then some (b,({s with Pc:=1,E:=b.aG.aQ}:Sub)) else(if s.Pc == 1 then(N3 b.aG w_ s.E).bind fun x1=>(if !x1.2 then(bQ s 1).bind fun x2=>some (({b with aG:=x1.1}:aA),x2) else some (({b with aG:=x1.1}:aA),({s with Pc:=2}:Sub))) else(if s.Pc == 2 then(if b.aG.aQ == s.E then(bQ s 0).bind fun x3=>some (b,x3) else some (b,({s with Pc:=0}:Sub))) else(bQ s 1).bind fun x4=>some (b,x4))))
def yL(b:aA)(w_:Int)(s:Sub):Option (aA×Sub):=
 (if s.dB then some (b,s) else(if s.Kind == 1 then(BW b w_ s).bind fun x1=>some (x1.1,x1.2) else(if s.Kind == 2 then(yK b w_ s).bind fun x2=>some (x2.1,x2.2) else(if s.Kind == 3 then(vJ b s).bind fun x3=>some (x3.1,x3.2) else(if s.Kind == 4 then(vK b w_ s).bind fun x4=>some (x4.1,x4.2) else(if s.Kind == 5 then(J4 b w_ s).bind fun x5=>some (x5.1,x5.2) else(bQ s 1).bind fun x6=>some (b,x6)))))))
def iU(kind a_:Int):Option Sub:=
 some (⟨kind,a_,0,0,0,0,0,0,0,false⟩:Sub)
def BY(w_:Int)(x1:aG)(x2:Bool):Option (aG×Bool):=
 (if x2 then some (x1,false) else(idx x1.cW w_).bind fun x3=>some ((⟨x1.aQ,x1.cW.set w_.toNat (⟨false,0,false,0⟩:wW)⟩:aG),true))
def IF(c:aG)(w_:Int):Option (aG×Bool):=
 (zV c).bind fun x1=>(qL c).bind fun x4=>(if !x4 then BY w_ x1 true else(bX w_ 0 2).bind fun x5=>(if !x5 then BY w_ x1 true else(idx c.cW w_).bind fun x6=>BY w_ x1 (!x6.On)))
def vL(w_ h:Int)(x1:(List Int))(x2:Bool):Option ((List Int)×Bool):=
 (if x2 then some (x1,false) else(idx x1 w_).bind fun x3=>some (x1.set w_.toNat h,true))
def GW(z:List Int)(w_ h:Int):Option ((List Int)×Bool):=
 (yJ z).bind fun x1=>(H9 z).bind fun x4=>(if !x4 then vL w_ h x1 true else(bX w_ 0 2).bind fun x5=>(if !x5 then vL w_ h x1 true else(jM h).bind fun x6=>vL w_ h x1 (!x6)))
def BZ(w_:Int)(x1:(List Int))(x2:Bool):Option ((List Int)×Bool):=
 (if x2 then some (x1,false) else(idx x1 w_).bind fun x3=>some (x1.set w_.toNat 0,true))
def N4(z:List Int)(w_:Int):Option ((List Int)×Bool):=
 (yJ z).bind fun x1=>(H9 z).bind fun x4=>(if !x4 then BZ w_ x1 true else(bX w_ 0 2).bind fun x5=>(if !x5 then BZ w_ x1 true else(idx z w_).bind fun x6=>BZ w_ x1 (x6 == 0)))
def fN(s:aE)(w_:Int)(x2:Queue)(x3:kE)(x4:fU):Option aE:=
 (idx s.aH w_).bind fun x5=>need (s.Log.length+([(⟨1,w_,bB (s.aI+1),x3.Cell,0,0,0⟩:Ev)]).length<=1073741824) (some (⟨s.aA,s.Cells,s.aH.set w_.toNat x4,s.cC.set w_.toNat (⟨(x2.lX.take x2.lX.length).drop ((1:Int).toNat)⟩:Queue),s.Log++([(⟨1,w_,bB (s.aI+1),x3.Cell,0,0,0⟩:Ev)]),bB (s.aI+1)⟩:aE))
def j9(s:aE)(w_:Int)(x2:Queue)(x3:kE)(x7:Bool):Option aE:=
 (if x7 then(iU 5 0).bind fun x8=>(idx s.aA.aG.cW w_).bind fun x9=>(if x9.On then fN s w_ x2 x3 (⟨true,x3,bB (s.aI+1),9,x8,0,0,0,1⟩:fU) else fN s w_ x2 x3 (⟨true,x3,bB (s.aI+1),0,x8,0,0,0,0⟩:fU)) else(if x3.Kind == 4 then(iU 3 0).bind fun x10=>fN s w_ x2 x3 (⟨true,x3,bB (s.aI+1),0,x10,0,0,0,0⟩:fU) else fN s w_ x2 x3 (⟨true,x3,bB (s.aI+1),0,(⟨0,0,0,0,0,0,0,0,0,false⟩:Sub),0,0,0,0⟩:fU)))
def zZ(s:aE)(w_:Int)(x1:Bool):Option aE:=
 (if x1 then some s else(idx s.cC w_).bind fun x2=>(idx x2.lX 0).bind fun x3=>need (0<=(1:Int)/\(1:Int)<=(x2.lX.length:Int)) ((if x3.Kind == 1 then(iU 1 x3.lY).bind fun x6=>fN s w_ x2 x3 (⟨true,x3,bB (s.aI+1),0,x6,0,0,0,0⟩:fU) else(if x3.Kind == 2 then j9 s w_ x2 x3 true else j9 s w_ x2 x3 (x3.Kind == 5)))))
def B3(s:aE)(w_:Int):Option aE:=
 (idx s.cC w_).bind fun x11=>(if(x11.lX.length:Int) == 0 then zZ s w_ true else zZ s w_ (s.aI == 1000000))
def bI(j:fU)(pc code:Int):Option fU:=
 some ({j with Pc:=pc,Code:=code}:fU)
def J5(s:aE)(w_:Int)(j:fU):Option (aE×fU):=
 (if j.Pc == 0 then(yL s.aA w_ j.Sub).bind fun x1=>(if !x1.2.dB then some (({s with aA:=x1.1}:aE),({j with Sub:=x1.2}:fU)) else(if x1.2.Code != 0 then(bI ({j with Sub:=x1.2}:fU) 9 x1.2.Code).bind fun x2=>some (({s with aA:=x1.1}:aE),x2) else(jM x1.2.Out).bind fun x3=>(if !x3 then(bI ({j with Sub:=x1.2}:fU) 9 1).bind fun x4=>some (({s with aA:=x1.1}:aE),x4) else(bI ({j with Sub:=x1.2,H:=x1.2.Out}:fU) 1 0).bind fun x5=>some (({s with aA:=x1.1}:aE),x5)))) else(if j.Pc == 1 then(GR s.aA.Mem j.H 0 4 j.Op.cK).bind fun x6=>(if x6.2 != 0 then(bI j 9 x6.2).bind fun x7=>some (({s with aA:=(⟨x6.1,s.aA.aG,s.aA.bH,s.aA.qZ⟩:aA)}:aE),x7) else(bI j 2 0).bind fun x8=>some (({s with aA:=(⟨x6.1,s.aA.aG,s.aA.bH,s.aA.qZ⟩:aA)}:aE),x8)) else(if j.Pc == 2 then(idx s.Cells j.Op.Cell).bind fun x9=>need (s.Log.length+([(⟨2,w_,j.aI,j.Op.Cell,j.H,j.Op.cK,0⟩:Ev)]).length<=1073741824) ((if x9 == 0 then(bI ({j with Old:=x9}:fU) 9 0).bind fun x10=>some (({s with Cells:=s.Cells.set j.Op.Cell.toNat j.H,Log:=s.Log++([(⟨2,w_,j.aI,j.Op.Cell,j.H,j.Op.cK,0⟩:Ev)])}:aE),x10) else(iU 2 x9).bind fun x11=>(bI ({j with Sub:=x11,Old:=x9}:fU) 3 0).bind fun x12=>some (({s with Cells:=s.Cells.set j.Op.Cell.toNat j.H,Log:=s.Log++([(⟨2,w_,j.aI,j.Op.Cell,j.H,j.Op.cK,0⟩:Ev)])}:aE),x12))) else(if j.Pc == 3 then(yL s.aA w_ j.Sub).bind fun x13=>(if !x13.2.dB then some (({s with aA:=x13.1}:aE),({j with Sub:=x13.2}:fU)) else(bI ({j with Sub:=x13.2}:fU) 9 x13.2.Code).bind fun x14=>some (({s with aA:=x13.1}:aE),x14)) else(bI j 9 1).bind fun x15=>some (s,x15)))))
def kS(s:aE)(w_:Int)(j:fU):Option aE:=
 need (s.Log.length+([(⟨3,w_,j.aI,j.Op.Cell,j.H,0,0⟩:Ev)]).length<=1073741824) (some ({s with Log:=s.Log++([(⟨3,w_,j.aI,j.Op.Cell,j.H,0,0⟩:Ev)])}:aE))
def oX(h:Heap)(x at_ width x3:Int)(x4:Bool):Option (Int×Bool):=
 (if x4 then some (0,false) else(gI x).bind fun x5=>(MM x5 x3).bind fun x6=>(xZ h.Bytes (bB (x6+at_)) width).bind fun x7=>some (x7,true))
def GX(h:Heap)(x at_ width:Int)(x1:Bool):Option (Int×Bool):=
 (if x1 then some (0,false) else(gI x).bind fun x2=>(nY h x2).bind fun x3=>(if decide (x3<0) then oX h x at_ width x3 true else(qK x3).bind fun x8=>(bX at_ 0 (bB (x8 - 1))).bind fun x9=>(if !x9 then oX h x at_ width x3 true else(qK x3).bind fun x10=>oX h x at_ width x3 (decide ((bB (x10 - at_))<width)))))
def QA(h:Heap)(x at_ width:Int):Option (Int×Bool):=
 (jM x).bind fun x11=>(if !x11 then GX h x at_ width true else(bX width 1 7).bind fun x12=>GX h x at_ width (!x12))
def qN(s:aE)(j:fU):Option Int:=
 (QA s.aA.Mem.Heap j.H 0 4).bind fun x1=>some x1.1
def oK(j:fU)(pc:Int)(x2:Bool):Option fU:=
 (if x2 then(bI j pc 0).bind fun x3=>some x3 else(bI ({j with cK:=0}:fU) pc 6).bind fun x4=>some x4)
def v7(s:aE)(w_:Int)(j:fU)(pc:Int):Option fU:=
 (idx s.aA.aG.cW w_).bind fun x1=>(if x1.On then oK j pc (!x1.fB) else oK j pc false)
def J6(s:aE)(w_:Int)(j:fU):Option (aE×fU):=
 (if j.Pc == 0 then(yL s.aA w_ j.Sub).bind fun x1=>(if !x1.2.dB then some (({s with aA:=x1.1}:aE),({j with Sub:=x1.2}:fU)) else(bI ({j with Sub:=x1.2}:fU) 1 0).bind fun x2=>some (({s with aA:=x1.1}:aE),x2)) else(if j.Pc == 1 then(idx s.Cells j.Op.Cell).bind fun x3=>(kS s w_ ({j with H:=x3}:fU)).bind fun x4=>(if x3 == 0 then(bI ({j with H:=x3}:fU) 4 8).bind fun x5=>some (x4,x5) else(bI ({j with H:=x3}:fU) 2 0).bind fun x6=>some (x4,x6)) else(if j.Pc == 2 then(qN s j).bind fun x7=>(bI ({j with cK:=x7}:fU) 3 0).bind fun x8=>some (s,x8) else(if j.Pc == 3 then(v7 s w_ j 4).bind fun x9=>some (s,x9) else(if j.Pc == 4 then(IF s.aA.aG w_).bind fun x10=>(bI j 9 j.Code).bind fun x11=>some (({s with aA:=(⟨s.aA.Mem,x10.1,s.aA.bH,s.aA.qZ⟩:aA)}:aE),x11) else(bI j 9 1).bind fun x12=>some (s,x12))))))
def J7(s:aE)(w_:Int)(j:fU):Option (aE×fU):=
 (if j.Pc == 0 then(idx s.Cells j.Op.Cell).bind fun x1=>(if x1 == 0 then(kS s w_ ({j with H:=x1}:fU)).bind fun x2=>(bI ({j with H:=x1}:fU) 4 8).bind fun x3=>some (x2,x3) else(bI ({j with H:=x1}:fU) 1 0).bind fun x4=>some (s,x4)) else(if j.Pc == 1 then(GW s.aA.qZ w_ j.H).bind fun x5=>(bI j 2 0).bind fun x6=>some (({s with aA:=(⟨s.aA.Mem,s.aA.aG,s.aA.bH,x5.1⟩:aA)}:aE),x6) else(if j.Pc == 2 then(idx s.Cells j.Op.Cell).bind fun x7=>(if x7 != j.H then(bI j 0 0).bind fun x8=>some (s,x8) else(kS s w_ j).bind fun x9=>(bI j 3 0).bind fun x10=>some (x9,x10)) else(if j.Pc == 3 then(qN s j).bind fun x11=>(bI ({j with cK:=x11}:fU) 4 0).bind fun x12=>some (s,x12) else(if j.Pc == 4 then(N4 s.aA.qZ w_).bind fun x13=>(bI j 9 j.Code).bind fun x14=>some (({s with aA:=(⟨s.aA.Mem,s.aA.aG,s.aA.bH,x13.1⟩:aA)}:aE),x14) else(bI j 9 1).bind fun x15=>some (s,x15))))))
def GY(s:aE)(w_:Int)(j:fU):Option (aE×fU):=
 (idx s.aA.aG.cW w_).bind fun x1=>(if j.Pc == 0 then(if !x1.On then(bI j 9 5).bind fun x2=>some (s,x2) else(if x1.fB then(bI j 9 6).bind fun x3=>some (s,x3) else(idx s.Cells j.Op.Cell).bind fun x4=>(kS s w_ ({j with H:=x4}:fU)).bind fun x5=>(if x4 == 0 then(bI ({j with H:=x4}:fU) 9 8).bind fun x6=>some (x5,x6) else(bI ({j with H:=x4}:fU) 1 0).bind fun x7=>some (x5,x7)))) else(if j.Pc == 1 then(qN s j).bind fun x8=>(bI ({j with cK:=x8}:fU) 2 0).bind fun x9=>some (s,x9) else(if j.Pc == 2 then(v7 s w_ j 9).bind fun x10=>some (s,x10) else(bI j 9 1).bind fun x11=>some (s,x11))))
def i7(s:aE)(w_:Int)(j:fU)(x5:Bool):Option (aE×fU):=
 (if x5 then(bI j 9 1).bind fun x6=>some (s,x6) else(yL s.aA w_ j.Sub).bind fun x7=>(if !x7.2.dB then some (({s with aA:=x7.1}:aE),({j with Sub:=x7.2}:fU)) else(if j.Op.Kind == 5 then(bI ({j with Sub:=x7.2}:fU) 9 x7.2.Code).bind fun x8=>some (({s with aA:=x7.1}:aE),x8) else(if j.Pc == 0 then(iU 4 0).bind fun x9=>(bI ({j with Sub:=x9}:fU) 1 0).bind fun x10=>some (({s with aA:=x7.1}:aE),x10) else(bI ({j with Sub:=x7.2,cK:=x7.2.Out}:fU) 9 x7.2.Code).bind fun x11=>some (({s with aA:=x7.1}:aE),x11)))))
def z5(s:aE)(w_:Int)(j:fU)(x1:Bool):Option (aE×fU):=
 (if x1 then(IF s.aA.aG w_).bind fun x2=>(if !x2.2 then(bI j 9 5).bind fun x3=>some (({s with aA:=(⟨s.aA.Mem,x2.1,s.aA.bH,s.aA.qZ⟩:aA)}:aE),x3) else(bI j 9 0).bind fun x4=>some (({s with aA:=(⟨s.aA.Mem,x2.1,s.aA.bH,s.aA.qZ⟩:aA)}:aE),x4)) else(if j.Op.Kind == 6 then i7 s w_ j true else(if j.Pc != 0 then(if j.Pc != 1 then i7 s w_ j true else i7 s w_ j (j.Op.Kind == 5)) else i7 s w_ j false)))
def B4(s:aE)(w_:Int)(j:fU):Option (aE×fU):=
 (if j.Op.Kind == 6 then z5 s w_ j (j.Pc == 0) else z5 s w_ j false)
def dA(w_:Int)(x3:aE)(x4:fU):Option aE:=
 (idx x3.aH w_).bind fun x5=>some ({x3 with aH:=x3.aH.set w_.toNat x4}:aE)
def UQ(s:aE)(w_:Int):Option aE:=
 (idx s.aH w_).bind fun x1=>(if !x1.iI then(B3 s w_).bind fun x2=>some x2 else(if x1.Pc == 9 then need (s.Log.length+([(⟨4,w_,x1.aI,x1.Op.Cell,x1.H,x1.cK,x1.Code⟩:Ev)]).length<=1073741824) (some ({s with aH:=s.aH.set w_.toNat (⟨false,(⟨0,0,0,0⟩:kE),0,0,(⟨0,0,0,0,0,0,0,0,0,false⟩:Sub),0,0,0,0⟩:fU),Log:=s.Log++([(⟨4,w_,x1.aI,x1.Op.Cell,x1.H,x1.cK,x1.Code⟩:Ev)])}:aE)) else(if x1.Op.Kind == 1 then(J5 s w_ x1).bind fun x6=>dA w_ x6.1 x6.2 else(if x1.Op.Kind == 2 then(J6 s w_ x1).bind fun x7=>dA w_ x7.1 x7.2 else(if x1.Op.Kind == 3 then(J7 s w_ x1).bind fun x8=>dA w_ x8.1 x8.2 else(if x1.Op.Kind == 7 then(GY s w_ x1).bind fun x9=>dA w_ x9.1 x9.2 else(B4 s w_ x1).bind fun x10=>dA w_ x10.1 x10.2))))))
end
end Go.Gv
end
