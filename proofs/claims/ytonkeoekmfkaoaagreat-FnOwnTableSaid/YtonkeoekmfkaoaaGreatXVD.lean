import Derived.Test.YtonkeoekmfkaoaaGreatXVC
import Derived.Test.YtonkeoekmfkaoaaGreatProg
set_option linter.unusedVariables false
set_option linter.unusedSimpArgs false
set_option linter.unusedSectionVars false
set_option linter.constructorNameAsVariable false
set_option linter.unnecessarySimpa false
noncomputable section
namespace Go.Gv
section
def aMN(code:List UInt8):=
 some (decide (1048576<(code.length:Int)))
def aQE(x5:Int):Option (Int×Int):=
 some (0,x5)
def J4(code:List UInt8)(x3 x4:Int)(x6:Bool):Option (Step (Int×Int) Int):=
 (if x6 then(idx code x4).bind λx7=>some (.next (iE .and .i64 (bA ((bA ((bA (x3*131))+(x7.toNat:Int)))+7)) 1073741823,bA (x4+1))) else some (.stop (x3)))
def aBO(code:List UInt8):(Int×Int)->Option (Step (Int×Int) Int)
 |(x3,x4)=>(if decide (x4<(code.length:Int)) then J4 code x3 x4 (decide (x4<4000)) else J4 code x3 x4 false)
def aQF:Int->Option (Int×Int)
 |x5=>aQE x5
def VM(code:List UInt8):=
 (loop (aBO code) (bA (10101+(code.length:Int)),0)).bind (aQF)
def GD(c:dM)(x1 x2:Int):=
 some (x1,(x2,bA ((bA (c.h*6364136223846793005))+1442695040888963407)))
def uD(c:dM):=
 (if decide (c.i<(c.b.length:Int)) then(idx c.b c.i).bind λx3=>GD c (iE .and .i64 (bA ((iE .and .i64 (iE .xor .i64 (pN .i64 (bA ((bA (c.h*6364136223846793005))+1442695040888963407)) 33) (pN .i64 (bA ((bA (c.h*6364136223846793005))+1442695040888963407)) 45)) 255)+(x3.toNat:Int))) 255) (bA (c.i+1)) else GD c (iE .and .i64 (iE .xor .i64 (pN .i64 (bA ((bA (c.h*6364136223846793005))+1442695040888963407)) 33) (pN .i64 (bA ((bA (c.h*6364136223846793005))+1442695040888963407)) 45)) 255) c.i)
def gA(c:dM)(n:Int):=
 (if decide (n<=0) then some (0,(c.i,c.h)) else(if decide (n<=256) then(uD c).bind λx1=>need (n≠0) (some (Int.tmod x1.1 n,(x1.2.1,x1.2.2))) else(uD c).bind λx2=>(uD (⟨c.b,x2.2.1,x2.2.2⟩:dM)).bind λx3=>(uD (⟨c.b,x3.2.1,x3.2.2⟩:dM)).bind λx4=>(uD (⟨c.b,x4.2.1,x4.2.2⟩:dM)).bind λx5=>need (n≠0) (some (Int.tmod (bA ((bA ((bA ((bA (x2.1*16777216))+(bA (x3.1*65536))))+(bA (x4.1*256))))+x5.1)) n,(x5.2.1,x5.2.2)))))
def YO(c:dM)(n:Int):=
 (gA c n).bind λx1=>some (x1.1 == 0,(x1.2.1,x1.2.2))
def nL(c:dM)(list:List Int):=
 (gA c (list.length:Int)).bind λx1=>(idx list x1.1).bind λx2=>some (x2,(x1.2.1,x1.2.2))
def GF(x1 x2:Int×(Int×Int))(x3 x4 x5:Int):=
 some ((⟨x1.1,x2.1,x5⟩:kG),(x3,x4))
def GG(c:dM)(x1 x2:Int×(Int×Int))(x6:Bool):=
 (if x6 then(gA (⟨c.b,x2.2.1,x2.2.2⟩:dM) 60000).bind λx7=>(nL (⟨c.b,x7.2.1,x7.2.2⟩:dM) ([1,65535,x7.1]:List Int)).bind λx8=>GF x1 x2 x8.2.1 x8.2.2 x8.1 else GF x1 x2 x2.2.1 x2.2.2 0)
def LC(c:dM):=
 (nL c ([1,1,2,2,3,4,4]:List Int)).bind λx1=>(gA (⟨c.b,x1.2.1,x1.2.2⟩:dM) 6).bind λx2=>(if x1.1 == 2 then GG c x1 x2 true else GG c x1 x2 (x1.1 == 4))
def aIJ(x11 x12:Int)(x13:List kG):=
 some ((⟨false,x13⟩:Batch),(x11,x12))
def L5(x7 x14 x15:Int)(x16:List kG):Option (Step (Int×Int×Int×(List kG)) (Int×Int×(List kG))):=
 some (.next (bA (x7-1),x14,x15,x16))
def WW(c:dM):(Int×Int×Int×(List kG))->Option (Step (Int×Int×Int×(List kG)) (Int×Int×(List kG)))
 |(x7,x8,x9,x10)=>(if decide (0<x7) then(LC (⟨c.b,x8,x9⟩:dM)).bind λx17=>need (x10.length+([x17.1]).length<=1073741824)<|L5 x7 x17.2.1 x17.2.2 (x10++([x17.1])) else some (.stop ((x8,x9,x10))))
def aIK:(Int×Int×(List kG))->Option (Batch×(Int×Int))
 |(x11,x12,x13)=>aIJ x11 x12 x13
def NJ(c:dM):=
 (YO c 4).bind λx1=>(if x1.1 then some ((⟨true,[]⟩:Batch),(x1.2.1,x1.2.2)) else(gA (⟨c.b,x1.2.1,x1.2.2⟩:dM) 3).bind λx2=>(loop (WW c) (bA (1+x2.1),x2.2.1,x2.2.2,[])).bind (aIK))
def aD7(x9:List aN)(x10 x11:Int):=
 some (x9,(x10,x11))
def QY(x5:List aN)(x6 x21 x22:Int)(x23:List Batch):Option (Step ((List aN)×Int×Int×Int) ((List aN)×Int×Int)):=
 need (x5.length+([(⟨x23⟩:aN)]).length<=1073741824) (some (.next (x5++([(⟨x23⟩:aN)]),bA (x6+1),x21,x22)))
def GH(x17 x24 x25:Int)(x26:List Batch):Option (Step (Int×Int×Int×(List Batch)) (Int×Int×(List Batch))):=
 some (.next (bA (x17-1),x24,x25,x26))
def QZ(c:dM):(Int×Int×Int×(List Batch))->Option (Step (Int×Int×Int×(List Batch)) (Int×Int×(List Batch)))
 |(x17,x18,x19,x20)=>(if decide (0<x17) then(NJ (⟨c.b,x18,x19⟩:dM)).bind λx27=>need (x20.length+([x27.1]).length<=1073741824)<|GH x17 x27.2.1 x27.2.2 (x20++([x27.1])) else some (.stop ((x18,x19,x20))))
def Q0(x5:List aN)(x6:Int):(Int×Int×(List Batch))->Option (Step ((List aN)×Int×Int×Int) ((List aN)×Int×Int))
 |(x21,x22,x23)=>QY x5 x6 x21 x22 x23
def Q1(c:dM)(most:Int):((List aN)×Int×Int×Int)->Option (Step ((List aN)×Int×Int×Int) ((List aN)×Int×Int))
 |(x5,x6,x7,x8)=>(if decide (x6<3) then(gA (⟨c.b,x7,x8⟩:dM) (bA (most+1))).bind λx12=>(loop (QZ c) (x12.1,x12.2.1,x12.2.2,[])).bind (Q0 x5 x6) else some (.stop ((x5,x7,x8))))
def aD8:((List aN)×Int×Int)->Option ((List aN)×(Int×Int))
 |(x9,x10,x11)=>aD7 x9 x10 x11
def yL(c:dM)(most:Int):=
 (loop (Q1 c most) (([]:List aN),0,c.i,c.h)).bind (aD8)
def aGD(x10:List Int)(x11 x12:Int):=
 some (x10,(x11,x12))
def UD(x7:Int)(x14:Int×(Int×Int))(x19:List Int):Option (Step ((List Int)×Int×Int×Int) ((List Int)×Int×Int)):=
 some (.next (x19,bA (x7-1),x14.2.1,x14.2.2))
def UE(x13:Int×(Int×Int)):((List Int)×Int)->Option (Step ((List Int)×Int) (List Int))
 |(x17,x18)=>(if decide (0<x18) then need (x17.length+([x13.1]).length<=1073741824) (some (.next (x17++([x13.1]),bA (x18-1)))) else some (.stop (x17)))
def UF(x7:Int)(x14:Int×(Int×Int)):(List Int)->Option (Step ((List Int)×Int×Int×Int) ((List Int)×Int×Int))
 |x19=>UD x7 x14 x19
def UG(c:dM):((List Int)×Int×Int×Int)->Option (Step ((List Int)×Int×Int×Int) ((List Int)×Int×Int))
 |(x6,x7,x8,x9)=>(if decide (0<x7) then(gA (⟨c.b,x8,x9⟩:dM) 3).bind λx13=>(gA (⟨c.b,x13.2.1,x13.2.2⟩:dM) 8).bind λx14=>(loop (UE x13) (x6,bA (1+x14.1))).bind (UF x7 x14) else some (.stop ((x6,x8,x9))))
def aGE:((List Int)×Int×Int)->Option ((List Int)×(Int×Int))
 |(x10,x11,x12)=>aGD x10 x11 x12
def J5(c:dM)(most:Int):=
 (gA c most).bind λx1=>(loop (UG c) (([]:List Int),x1.1,x1.2.1,x1.2.2)).bind (aGE)
def rZ(x2 x3 x4 x5 x6:Int):=
 some ((⟨x4,x5,x6⟩:kG),(x2,x3))
def RB(c:dM):=
 (LC c).bind λx1=>(gA (⟨c.b,x1.2.1,x1.2.2⟩:dM) 14).bind λx7=>(if x7.1 == 0 then(nL (⟨c.b,x7.2.1,x7.2.2⟩:dM) ([0,5]:List Int)).bind λx8=>rZ x8.2.1 x8.2.2 x8.1 x1.1.Key x1.1.eN else(if x7.1 == 1 then(nL (⟨c.b,x7.2.1,x7.2.2⟩:dM) ([(-1),99,100]:List Int)).bind λx9=>rZ x9.2.1 x9.2.2 x1.1.Kind x9.1 x1.1.eN else(if x7.1 == 2 then(nL (⟨c.b,x7.2.1,x7.2.2⟩:dM) ([(-1),65536,1,0]:List Int)).bind λx10=>rZ x10.2.1 x10.2.2 x1.1.Kind x1.1.Key x10.1 else rZ x7.2.1 x7.2.2 x1.1.Kind x1.1.Key x1.1.eN)))
def kO(x2:List aN)(x3 x4:Int):=
 some (x2,(x3,x4))
def O5(x13:List aN)(x14 x15:Int):=
 kO x13 x14 x15
def ER(x10:List aN)(x16:Bool)(x17 x18:Int):Option (Step ((List aN)×Int×Int) ((List aN)×Int×Int)):=
 (if x16 then(idx x10 1).bind λx19=>need (x19.List.length+([(⟨true,[]⟩:Batch)]).length<=1073741824) (some (.next (x10.set ((1:Int).toNat) (⟨x19.List++([(⟨true,[]⟩:Batch)])⟩:aN),x17,x18))) else some (.stop ((x10,x17,x18))))
def O6(c:dM):((List aN)×Int×Int)->Option (Step ((List aN)×Int×Int) ((List aN)×Int×Int))
 |(x10,x11,x12)=>(idx x10 1).bind λx20=>(gA (⟨c.b,x11,x12⟩:dM) 2).bind λx21=>ER x10 (decide ((x20.List.length:Int)<(bA (12+x21.1)))) x21.2.1 x21.2.2
def aCS:((List aN)×Int×Int)->Option ((List aN)×(Int×Int))
 |(x13,x14,x15)=>O5 x13 x14 x15
def ES(x22:List aN)(x23 x24:Int):=
 kO x22 x23 x24
def DN(c:dM):=
 (yL c 5).bind λx1=>(gA (⟨c.b,x1.2.1,x1.2.2⟩:dM) 20).bind λx5=>(if x5.1 == 0 then need (0<=(2:Int)/\(2:Int)<=(x1.1.length:Int)) (some ((x1.1.take ((2:Int).toNat)).drop 0,(x5.2.1,x5.2.2))) else(if x5.1 == 1 then(idx x1.1 0).bind λx6=>need (x6.List.length+([(⟨false,[]⟩:Batch)]).length<=1073741824) (kO (x1.1.set ((0:Int).toNat) (⟨x6.List++([(⟨false,[]⟩:Batch)])⟩:aN)) x5.2.1 x5.2.2) else(if x5.1 == 2 then(loop (O6 c) (x1.1,x5.2.1,x5.2.2)).bind (aCS) else(if x5.1 == 3 then(idx x1.1 2).bind λx25=>(RB (⟨c.b,x5.2.1,x5.2.2⟩:dM)).bind λx26=>need (x25.List.length+([(⟨false,[x26.1]⟩:Batch)]).length<=1073741824)<|ES (x1.1.set ((2:Int).toNat) (⟨x25.List++([(⟨false,[x26.1]⟩:Batch)])⟩:aN)) x26.2.1 x26.2.2 else kO x1.1 x5.2.1 x5.2.2))))
def kJ(x4:List aN)(x5:List Int):=
 some (⟨x4,x5⟩:pR)
def uM(code:List UInt8):=
 (VM code).bind λx1=>(yL (⟨code,x1.1,x1.2⟩:dM) 6).bind λx2=>(J5 (⟨code,x2.2.1,x2.2.2⟩:dM) 60).bind λx3=>(gA (⟨code,x3.2.1,x3.2.2⟩:dM) 16).bind λx6=>(if x6.1 == 0 then(DN (⟨code,x6.2.1,x6.2.2⟩:dM)).bind λx7=>kJ x7.1 x3.1 else(if x6.1 == 1 then need (x3.1.length+([(-1),3,1]:List Int).length<=1073741824) (kJ x2.1 (x3.1++([(-1),3,1]:List Int))) else kJ x2.1 x3.1))
def NL(x1:Bool):=
 some x1
def bX(x low high:Int):=
 (if decide (low<=x) then NL (decide (x<=high)) else NL false)
def J6(c:kG)(x2:Bool):=
 (if x2 then(bX c.eN 0 65535).bind λx3=>some x3 else some (c.eN == 0))
def J7(c:kG)(x1:Bool):=
 (if x1 then some false else(if c.Kind == 2 then J6 c true else J6 c (c.Kind == 4)))
def VN(c:kG):=
 (bX c.Kind 1 4).bind λx4=>(if !x4 then J7 c true else(bX c.Key 0 99).bind λx5=>J7 c (!x5))
def WX(b:Batch):=
 (bX (b.bD.length:Int) 1 6).bind λx3=>some x3
def oZ(b:Batch):Int->Option (Step Int (Out Unit Bool))
 |x2=>(if decide (x2<(b.bD.length:Int)) then(idx b.bD x2).bind λx4=>(VN x4).bind λx5=>(if !x5 then some (.stop (Out.ret false)) else some (.next (bA (x2+1)))) else some (.stop (Out.brk ())))
def WY(b:Batch):(Out Unit Bool)->Option Bool
 |.brk ()=>WX b
 |.ret r=>some r
def GI(b:Batch):=
 (if b.Collect then some ((b.bD.length:Int) == 0) else(loop (oZ b) 0).bind (WY b))
def WZ(todo:List aN):=
 some ((todo.length:Int) == 3)
def W0(x2:Int):Option (Step Int (Out Unit Bool)):=
 some (.next (bA (x2+1)))
def o4(todo:List aN)(x2:Int):Int->Option (Step Int (Out Unit Bool))
 |x5=>(idx todo x2).bind λx6=>(if decide (x5<(x6.List.length:Int)) then(idx todo x2).bind λx7=>(idx x7.List x5).bind λx8=>(GI x8).bind λx9=>(if !x9 then some (.stop (Out.ret false)) else some (.next (bA (x5+1)))) else some (.stop (Out.brk ())))
def W2(x2:Int):(Out Unit Bool)->Option (Step Int (Out Unit Bool))
 |.brk ()=>W0 x2
 |.ret r=>some (.stop (Out.ret r))
def o5(todo:List aN):Int->Option (Step Int (Out Unit Bool))
 |x2=>(if decide (x2<(todo.length:Int)) then(idx todo x2).bind λx3=>(if decide (12<(x3.List.length:Int)) then some (.stop (Out.ret false)) else(loop (o4 todo x2) 0).bind (W2 x2)) else some (.stop (Out.brk ())))
def W3(todo:List aN):(Out Unit Bool)->Option Bool
 |.brk ()=>WZ todo
 |.ret r=>some r
def GJ(todo:List aN):=
 (loop (o5 todo) 0).bind (W3 todo)
def aIL(x5:List Int):=
 some (⟨List.replicate ((384:Int).toNat) 0,x5⟩:Heap)
def vL:(Int×(List Int))->Option (Step (Int×(List Int)) (List Int))
 |(x3,x4)=>(if decide (x3<6) then need (x4.length+([(-1)]).length<=1073741824) (some (.next (bA (x3+1),x4++([(-1)])))) else some (.stop (x4)))
def aIM:(List Int)->Option Heap
 |x5=>aIL x5
def NM:=
 need (0<=(384:Int)/\(384:Int)<=4294967296) ((loop (vL) (0,[])).bind (aIM))
def UH:=
 some (⟨List.replicate ((3:Int).toNat) (⟨[]⟩:aZ),List.replicate ((9:Int).toNat) (⟨[]⟩:aZ)⟩:aD)
def SK:=
 need (0<=(3:Int)/\(3:Int)<=4294967296)<|need (0<=(9:Int)/\(9:Int)<=4294967296)<|UH
def YP:=
 (NM).bind λx1=>(SK).bind λx2=>some (⟨x1,x2⟩:Mem)
def SL:=
 need (0<=(3:Int)/\(3:Int)<=4294967296) (some (⟨0,List.replicate ((3:Int).toNat) (⟨false,0,false,0⟩:yK)⟩:aJ))
def SM:=
 need (0<=(3:Int)/\(3:Int)<=4294967296) (some (List.replicate ((3:Int).toNat) (⟨[]⟩:bM)))
def YQ:Option (List Int):=
 need (0<=(3:Int)/\(3:Int)<=4294967296) (some (List.replicate ((3:Int).toNat) 0))
def NN:Option aA:=
 (YP).bind λx1=>(SL).bind λx2=>(SM).bind λx3=>(YQ).bind λx4=>some (⟨x1,x2,x3,x4⟩:aA)
def pS(l:List kG):=
 need (([]:List kG).length+l.length<=1073741824) (some (([]:List kG)++l))
def qU(b:Batch):=
 (pS b.bD).bind λx1=>some (⟨b.Collect,x1⟩:Batch)
def aD9(x5:List aN):=
 some x5
def RC(x3:List aN)(x4:Int)(x10:List Batch):Option (Step ((List aN)×Int) (List aN)):=
 need (x3.length+([(⟨x10⟩:aN)]).length<=1073741824) (some (.next (x3++([(⟨x10⟩:aN)]),bA (x4+1))))
def GK(x8:Int)(x12:List Batch):Option (Step (Int×(List Batch)) (List Batch)):=
 some (.next (bA (x8+1),x12))
def GL(l:List aN)(x4:Int):(Int×(List Batch))->Option (Step (Int×(List Batch)) (List Batch))
 |(x8,x9)=>(idx l x4).bind λx11=>(if decide (x8<(x11.List.length:Int)) then(idx l x4).bind λx13=>(idx x13.List x8).bind λx14=>(qU x14).bind λx15=>need (x9.length+([x15]).length<=1073741824)<|GK x8 (x9++([x15])) else some (.stop (x9)))
def RD(x3:List aN)(x4:Int):(List Batch)->Option (Step ((List aN)×Int) (List aN))
 |x10=>RC x3 x4 x10
def GM(l:List aN):((List aN)×Int)->Option (Step ((List aN)×Int) (List aN))
 |(x3,x4)=>(if decide (x4<(l.length:Int)) then(loop (GL l x4) (0,[])).bind (RD x3 x4) else some (.stop (x3)))
def aEA:(List aN)->Option (List aN)
 |x5=>aD9 x5
def yN(l:List aN):=
 (loop (GM l) (([]:List aN),0)).bind (aEA)
def UI(x2:Table):=
 some ({x2 with Log:=[]}:Table)
def CL(todo:List aN):=
 (GJ todo).bind λx1=>(if !x1 then some (⟨(⟨(⟨(⟨[],[]⟩:Heap),(⟨[],[]⟩:aD)⟩:Mem),(⟨0,[]⟩:aJ),[],[]⟩:aA),[],[],[],[],0⟩:Table) else(NN).bind λx3=>need (0<=(2:Int)/\(2:Int)<=4294967296)<|need (0<=(3:Int)/\(3:Int)<=4294967296)<|(yN todo).bind λx4=>UI (⟨x3,List.replicate ((2:Int).toNat) (⟨0,0,0⟩:bZ),List.replicate ((3:Int).toNat) (⟨false,(⟨false,[]⟩:Batch),0,0,0,0,0,0,0,0,(⟨0,0,0⟩:eD),false,0,(⟨0,0,0,0,0,0,0,0,0,false⟩:Sub),[],[],[],[],[],[]⟩:aG),x4,[],0⟩:Table))
def RE(x:pR):=
 (CL x.bK).bind λx1=>some ((x1.aK.length:Int) == 3)
def m4(kind a_:Int):=
 some (⟨kind,a_,0,0,0,0,0,0,0,false⟩:Sub)
def JG(t:Table)(w_:Int)(x2:aN)(x5:aG)(x7:List lG):=
 some (⟨t.aA,t.aR,t.aK.set w_.toNat ({x5 with Reads:=[],aE:=[],cJ:=[],cT:=[],aS:=[],bE:=[]}:aG),t.bK.set w_.toNat (⟨(x2.List.take x2.List.length).drop (1:Int).toNat⟩:aN),x7,bA (t.aI+1)⟩:Table)
def sA(t:Table)(w_:Int)(x2:aN)(x3:Batch)(x5:aG):=
 (idx t.aK w_).bind λx6=>(pS x3.bD).bind λx8=>need (t.Log.length+([(⟨1,w_,bA (t.aI+1),0,x8,[]⟩:lG)]).length<=1073741824)<|JG t w_ x2 x5 (t.Log++([(⟨1,w_,bA (t.aI+1),0,x8,[]⟩:lG)]))
def JH(t:Table)(w_:Int)(x2:aN)(x3:Batch)(x4:aG):=
 (if x3.Collect then(m4 3 0).bind λx9=>sA t w_ x2 x3 ({x4 with Pc:=20,Sub:=x9,Reads:=[],aE:=[],cJ:=[],cT:=[],aS:=[],bE:=[]}:aG) else sA t w_ x2 x3 ({x4 with Reads:=[],aE:=[],cJ:=[],cT:=[],aS:=[],bE:=[]}:aG))
def sB(t:Table)(w_:Int)(x1:Bool):=
 (if x1 then some t else(idx t.bK w_).bind λx2=>(idx x2.List 0).bind λx3=>need (0<=(1:Int)/\(1:Int)<=(x2.List.length:Int)) ((qU x3).bind λx10=>(m4 5 0).bind λx11=>JH t w_ x2 x3 (⟨true,x10,bA (t.aI+1),0,0,0,0,0,0,0,(⟨0,0,0⟩:eD),false,0,x11,[],[],[],[],[],[]⟩:aG)))
def J8(t:Table)(w_:Int):=
 (idx t.bK w_).bind λx12=>(if(x12.List.length:Int) == 0 then sB t w_ true else sB t w_ (t.aI == 1000000))
def CM(w_ c:Int)(x1:Bool):=
 (if x1 then some (-1) else some (bA ((bA (w_*3))+c)))
def yO(w_ c:Int):=
 (bX w_ 0 2).bind λx2=>(if !x2 then CM w_ c true else(bX c 0 2).bind λx3=>CM w_ c (!x3))
def bS(s:Sub)(code:Int):=
 some ({s with Code:=code,jA:=true}:Sub)
def FG(c:Int):Option Int:=
 (if c == 0 then some 8 else(if c == 1 then some 16 else(if c == 2 then some 40 else some 0)))
def aIN:=
 some (-1)
def gC(size:Int):Int->Option (Step Int (Out Unit Int))
 |x2=>(if decide (x2<3) then(FG x2).bind λx3=>(bX size 1 x3).bind λx4=>(if x4 then some (.stop (Out.ret x2)) else some (.next (bA (x2+1)))) else some (.stop (Out.brk ())))
def aIO:(Out Unit Int)->Option Int
 |.brk ()=>aIN
 |.ret r=>some r
def AV(size:Int):=
 (loop (gC size) 0).bind (aIO)
def J9(s:aZ)(x1:Int):=
 some ((⟨(s.aU.take ((bA ((s.aU.length:Int)-1)).toNat)).drop 0⟩:aZ),x1)
def qV(s:aZ):=
 (if(s.aU.length:Int) == 0 then some (s,(-1)) else need (0<=(bA ((s.aU.length:Int)-1):Int)/\(bA ((s.aU.length:Int)-1):Int)<=(s.aU.length:Int)) ((idx s.aU (bA ((s.aU.length:Int)-1))).bind λx2=>J9 s x2))
def aIP(x7:List Int):=
 some x7
def mD(at_:Int):((List Int)×Int×Int)->Option (Step ((List Int)×Int×Int) (List Int))
 |(x4,x5,x6)=>(if decide (0<=x6) then(idx x4 (bA (at_+x6))).bind λx8=>some (.next (x4.set ((bA (at_+x6)).toNat) (Int.tmod x5 256),bA (Int.tdiv x5 256),bA (x6-1))) else some (.stop (x4)))
def aIQ:(List Int)->Option (List Int)
 |x7=>aIP x7
def iM(b:List Int)(at_ width n:Int):=
 (loop (mD at_) (b,n,bA (width-1))).bind (aIQ)
def CN(c:Int):=
 (bX c 0 2).bind λx1=>(if !x1 then some 0 else(FG c).bind λx2=>some (bA (4+x2)))
def mV(c:Int):=
 (bX c 0 2).bind λx1=>(if !x1 then some 0 else(CN c).bind λx2=>need (x2≠0) (some (bA (Int.tdiv 56 x2))))
def FH(slot:Int):=
 (bX slot 0 23).bind λx1=>(if !x1 then some (-1) else some (bA (Int.tdiv slot 4)))
def AW(slot:Int):=
 (bX slot 0 23).bind λx1=>(if !x1 then some (-1) else some (Int.tmod slot 4))
def KA(slot c:Int)(x1:Bool):=
 (if x1 then some (-1) else(FH slot).bind λx2=>(AW slot).bind λx3=>(CN c).bind λx4=>some (bA ((bA ((bA (x2*64))+8))+(bA (x3*x4)))))
def yP(slot c:Int):=
 (FH slot).bind λx5=>(if decide (x5<0) then KA slot c true else(AW slot).bind λx6=>(mV c).bind λx7=>(bX x6 0 (bA (x7-1))).bind λx8=>KA slot c (!x8))
def yQ(page index:Int)(x1:Bool):=
 (if x1 then some (-1) else some (bA ((bA (page*4))+index)))
def uE(page index:Int):=
 (bX page 0 5).bind λx2=>(if !x2 then yQ page index true else(bX index 0 3).bind λx3=>yQ page index (!x3))
def aIR(h:Heap):=
 some (h,([]:List Int))
def DO(x2:Int):Option (Step Int (Out Unit (Heap×(List Int)))):=
 some (.next (bA (x2+1)))
def aIS(h:Heap)(c x2:Int)(x14 x15:List Int):Option (Step Int (Out Unit (Heap×(List Int)))):=
 some (.stop (Out.ret ((⟨x15,h.Class.set x2.toNat c⟩:Heap),x14)))
def L6(x2:Int)(x11:List Int)(x12:Int)(x17:List Int):Option (Step ((List Int)×Int×(List Int)) ((List Int)×(List Int))):=
 (uE x2 x12).bind λx18=>need (x11.length+([x18]).length<=1073741824) (some (.next (x11++([x18]),bA (x12+1),x17)))
def DP(c x2:Int):((List Int)×Int×(List Int))->Option (Step ((List Int)×Int×(List Int)) ((List Int)×(List Int)))
 |(x11,x12,x13)=>(mV c).bind λx16=>(if decide (x12<x16) then(uE x2 x12).bind λx19=>(yP x19 c).bind λx20=>(iM x13 x20 4 1).bind λx21=>L6 x2 x11 x12 x21 else some (.stop ((x11,x13))))
def aIT(h:Heap)(c x2:Int):((List Int)×(List Int))->Option (Step Int (Out Unit (Heap×(List Int))))
 |(x14,x15)=>aIS h c x2 x14 x15
def fL(h:Heap)(c:Int):Int->Option (Step Int (Out Unit (Heap×(List Int))))
 |x2=>(if decide (x2<6) then(idx h.Class x2).bind λx3=>(if x3 != (-1) then DO x2 else(idx h.Bytes (bA (x2*64))).bind λx4=>(idx (h.Bytes.set ((bA (x2*64)).toNat) 171) (bA ((bA (x2*64))+1))).bind λx5=>(mV c).bind λx6=>(idx ((h.Bytes.set ((bA (x2*64)).toNat) 171).set ((bA ((bA (x2*64))+1)).toNat) c) (bA ((bA (x2*64))+2))).bind λx7=>(loop (DP c x2) (([]:List Int),0,((h.Bytes.set ((bA (x2*64)).toNat) 171).set ((bA ((bA (x2*64))+1)).toNat) c).set ((bA ((bA (x2*64))+2)).toNat) x6)).bind (aIT h c x2)) else some (.stop (Out.brk ())))
def aIU(h:Heap):(Out Unit (Heap×(List Int)))->Option (Heap×(List Int))
 |.brk ()=>aIR h
 |.ret r=>some r
def pT(h:Heap)(c:Int):=
 (loop (fL h c) 0).bind (aIU h)
def DQ(m:Mem)(c:Int)(x1:Heap×(List Int))(x2:aZ)(x3:Int):=
 some ((⟨x1.1,(⟨m.aD.Global.set c.toNat (⟨x2.aU++((x1.2.take x1.2.length).drop ((1:Int).toNat))⟩:aZ),m.aD.Own⟩:aD)⟩:Mem),x3)
def AX(m:Mem)(c:Int):=
 (pT m.Heap c).bind λx1=>(if(x1.2.length:Int) == 0 then some ((⟨x1.1,m.aD⟩:Mem),(-1)) else(idx m.aD.Global c).bind λx2=>need (0<=(1:Int)/\(1:Int)<=(x1.2.length:Int)) (need (x2.aU.length+((x1.2.take x1.2.length).drop ((1:Int).toNat)).length<=1073741824) ((idx x1.2 0).bind λx4=>DQ m c x1 x2 x4)))
def vM(h:Heap)(x1:Int)(x2:Bool):=
 (if x2 then some (-1) else(idx h.Class x1).bind λx3=>some x3)
def mW(h:Heap)(slot:Int):=
 (FH slot).bind λx1=>(if decide (x1<0) then vM h x1 true else(idx h.Class x1).bind λx4=>(if decide (x4<0) then vM h x1 true else(idx h.Class x1).bind λx5=>(AW slot).bind λx6=>(mV x5).bind λx7=>vM h x1 (decide (x7<=x6))))
def aMO(x5:Int):=
 some x5
def yR(b:List Int)(at_ width:Int):(Int×Int)->Option (Step (Int×Int) Int)
 |(x3,x4)=>(if decide (x4<width) then(idx b (bA (at_+x4))).bind λx6=>some (.next (bA ((bA (x3*256))+x6),bA (x4+1))) else some (.stop (x3)))
def aMP:Int->Option Int
 |x5=>aMO x5
def uF(b:List Int)(at_ width:Int):=
 (loop (yR b at_ width) (0,0)).bind (aMP)
def yS(h:Heap)(slot:Int):=
 (mW h slot).bind λx1=>(yP slot x1).bind λx2=>(uF h.Bytes x2 4).bind λx3=>some x3
def sC(slot gen:Int)(x1:Bool):=
 (if x1 then some 0 else some (bA ((bA (gen*32))+slot)))
def KB(slot gen:Int):=
 (bX slot 0 23).bind λx2=>(if !x2 then sC slot gen true else(bX gen 1 6).bind λx3=>sC slot gen (!x3))
def wS(m:Mem)(slot:Int):=
 (yS m.Heap slot).bind λx1=>(KB slot x1).bind λx2=>some x2
def NO(b:aA)(s:Sub)(slot pc:Int):=
 (if decide (0<=slot) then(wS b.Mem slot).bind λx1=>(bS ({s with Out:=x1}:Sub) 0).bind λx2=>some x2 else some ({s with Pc:=pc}:Sub))
def sD(s:Sub)(x3:Int)(x5:Bool)(x6:aA):=
 (if x5 then(bS s 3).bind λx7=>some (x6,x7) else(NO x6 s x3 (bA (s.Pc+1))).bind λx8=>some (x6,x8))
def iN(s:Sub)(x3:Int)(x4:aA):=
 (if decide (x3<0) then sD s x3 (s.Pc == 3) x4 else sD s x3 false x4)
def sE(b:aA)(s:Sub)(x1:Int)(x12:Bool):=
 (if x12 then(idx b.Mem.aD.Global x1).bind λx13=>(qV x13).bind λx14=>iN s x14.2 ({b with Mem:=(⟨b.Mem.Heap,(⟨b.Mem.aD.Global.set x1.toNat x14.1,b.Mem.aD.Own⟩:aD)⟩:Mem)}:aA) else(if s.Pc == 2 then(AX b.Mem x1).bind λx15=>iN s x15.2 ({b with Mem:=x15.1}:aA) else(bS s 1).bind λx16=>some (b,x16)))
def wU(b:aA)(w_:Int)(s:Sub):=
 (AV s.A).bind λx1=>(if decide (x1<0) then(bS s 2).bind λx2=>some (b,x2) else(if s.Pc == 0 then(yO w_ x1).bind λx9=>(idx b.Mem.aD.Own x9).bind λx10=>(qV x10).bind λx11=>iN s x11.2 ({b with Mem:=(⟨b.Mem.Heap,(⟨b.Mem.aD.Global,b.Mem.aD.Own.set x9.toNat x11.1⟩:aD)⟩:Mem)}:aA) else(if s.Pc == 1 then sE b s x1 true else sE b s x1 (s.Pc == 3))))
def AY(x1:Bool):=
 some x1
def gO(h:Int):=
 (bX h 32 223).bind λx2=>(if x2 then AY (decide ((Int.tmod h 32)<24)) else AY false)
def eO(h:Int):=
 (gO h).bind λx1=>(if !x1 then some (-1) else some (Int.tmod h 32))
def aQG:=
 some false
def wV(l:List Int)(x:Int):Int->Option (Step Int (Out Unit Bool))
 |x2=>(if decide (x2<(l.length:Int)) then(idx l x2).bind λx3=>(if x3 == x then some (.stop (Out.ret true)) else some (.next (bA (x2+1)))) else some (.stop (Out.brk ())))
def aQH:(Out Unit Bool)->Option Bool
 |.brk ()=>aQG
 |.ret r=>some r
def yT(l:List Int)(x:Int):=
 (loop (wV l x) 0).bind (aQH)
def aQI(x10:List Int):=
 some x10
def CP(l:aD):((List Int)×Int)->Option (Step ((List Int)×Int) (List Int))
 |(x8,x9)=>(if decide (x9<(l.Own.length:Int)) then(idx l.Own x9).bind λx11=>need (x8.length+x11.aU.length<=1073741824) (some (.next (x8++x11.aU,bA (x9+1)))) else some (.stop (x8)))
def aQJ:(List Int)->Option (List Int)
 |x10=>aQI x10
def aBP(l:aD)(x5:List Int):=
 (loop (CP l) (x5,0)).bind (aQJ)
def CQ(l:aD):((List Int)×Int)->Option (Step ((List Int)×Int) (List Int))
 |(x3,x4)=>(if decide (x4<(l.Global.length:Int)) then(idx l.Global x4).bind λx12=>need (x3.length+x12.aU.length<=1073741824) (some (.next (x3++x12.aU,bA (x4+1)))) else some (.stop (x3)))
def aBQ(l:aD):(List Int)->Option (List Int)
 |x5=>aBP l x5
def O7(l:aD):=
 (loop (CQ l) (([]:List Int),0)).bind (aBQ l)
def RF(l:aD)(slot:Int):=
 (O7 l).bind λx1=>(yT x1 slot).bind λx2=>some x2
def NP(m:Mem)(slot:Int):Option Int:=
 (mW m.Heap slot).bind λx1=>(if decide (x1<0) then some 0 else(RF m.aD slot).bind λx2=>(if x2 then some 1 else(yS m.Heap slot).bind λx3=>(if decide (6<x3) then some 2 else some 3)))
def GN(h:Int):=
 (gO h).bind λx1=>(if !x1 then some 0 else some (bA (Int.tdiv h 32)))
def vN(x1:Bool):=
 some x1
def pU(m:Mem)(h:Int):=
 (gO h).bind λx2=>(if x2 then(eO h).bind λx3=>(NP m x3).bind λx4=>(if x4 == 3 then(eO h).bind λx5=>(yS m.Heap x5).bind λx6=>(GN h).bind λx7=>vN (x6 == x7) else vN false) else vN false)
def aMQ(x5:List dW):=
 some x5
def yU(l:List bM):((List dW)×Int)->Option (Step ((List dW)×Int) (List dW))
 |(x3,x4)=>(if decide (x4<(l.length:Int)) then(idx l x4).bind λx6=>need (x3.length+x6.Rows.length<=1073741824) (some (.next (x3++x6.Rows,bA (x4+1)))) else some (.stop (x3)))
def aMR:(List dW)->Option (List dW)
 |x5=>aMQ x5
def FI(l:List bM):=
 (loop (yU l) (([]:List dW),0)).bind (aMR)
def aIV:=
 some false
def vO(x3:Int)(x4:Bool):Option (Step Int (Out Unit Bool)):=
 (if x4 then some (.stop (Out.ret true)) else some (.next (bA (x3+1))))
def o6(slot:Int)(x1:(List dW)):Int->Option (Step Int (Out Unit Bool))
 |x3=>(if decide (x3<(x1.length:Int)) then(idx x1 x3).bind λx5=>(gO x5.Handle).bind λx6=>(if x6 then(eO x5.Handle).bind λx7=>vO x3 (x7 == slot) else vO x3 false) else some (.stop (Out.brk ())))
def aIW:(Out Unit Bool)->Option Bool
 |.brk ()=>aIV
 |.ret r=>some r
def GO(l:List bM)(slot:Int):=
 (FI l).bind λx1=>(loop (o6 slot x1) 0).bind (aIW)
def xO(b:aA)(s:Sub)(x5:List bM):=
 (bS s 0).bind λx6=>some (({b with aV:=x5}:aA),x6)
def pW(b:aA)(w_:Int)(s:Sub)(x3:Bool):=
 (if x3 then(bS s 4).bind λx4=>some (b,x4) else(idx b.aV w_).bind λx7=>need (x7.Rows.length+([(⟨s.A,s.E⟩:dW)]).length<=1073741824)<|xO b s (b.aV.set w_.toNat (⟨x7.Rows++([(⟨s.A,s.E⟩:dW)])⟩:bM)))
def sG(b:aA)(w_:Int)(s:Sub):=
 (if s.Pc == 0 then some (b,({s with Pc:=1,E:=b.aJ.aP}:Sub)) else(if s.Pc == 1 then(bX s.E 0 b.aJ.aP).bind λx1=>(if !x1 then(bS s 1).bind λx2=>some (b,x2) else(pU b.Mem s.A).bind λx8=>(if !x8 then pW b w_ s true else(eO s.A).bind λx9=>(GO b.aV x9).bind λx10=>pW b w_ s x10)) else(bS s 1).bind λx11=>some (b,x11)))
def W4:=
 some true
def mE(x3:Int)(x5:Bool):Option (Step Int (Out Unit Bool)):=
 (if x5 then some (.stop (Out.ret false)) else some (.next (bA (x3+1))))
def vP(c:aJ):Int->Option (Step Int (Out Unit Bool))
 |x3=>(if decide (x3<3) then(idx c.b8 x3).bind λx4=>(if !x4.On then(if !(decide (x4=(⟨false,0,false,0⟩:yK))) then mE x3 true else(bX x4.aP 0 c.aP).bind λx6=>(if !x6 then mE x3 true else(bX x4.Seen 0 2).bind λx7=>mE x3 (!x7))) else(bX x4.aP 0 c.aP).bind λx8=>(if !x8 then mE x3 true else(bX x4.Seen 0 2).bind λx9=>mE x3 (!x9))) else some (.stop (Out.brk ())))
def L7:(Out Unit Bool)->Option Bool
 |.brk ()=>W4
 |.ret r=>some r
def o7(c:aJ)(x1:Bool):=
 (if x1 then some false else(loop (vP c) 0).bind (L7))
def pX(c:aJ):=
 (bX c.aP 0 100000).bind λx10=>(if !x10 then o7 c true else o7 c ((c.b8.length:Int) != 3))
def pY(c:aJ):=
 need (([]:List yK).length+c.b8.length<=1073741824) (some (⟨c.aP,([]:List yK)++c.b8⟩:aJ))
def nM(w_:Int)(x1:aJ)(x3:yK)(x4:Bool):=
 (if x4 then some (x1,true) else(if x3.Seen == 2 then(idx x1.b8 w_).bind λx5=>some ((⟨x1.aP,x1.b8.set w_.toNat ({x5 with iV:=true,Seen:=0}:yK)⟩:aJ),true) else(idx x1.b8 w_).bind λx6=>some ((⟨x1.aP,x1.b8.set w_.toNat ({x6 with Seen:=bA (x3.Seen+1)}:yK)⟩:aJ),false)))
def yV(c:aJ)(w_ e_:Int)(x1:aJ)(x2:Bool):=
 (if x2 then some (x1,false) else(idx c.b8 w_).bind λx3=>(if !x3.On then nM w_ x1 x3 true else(if x3.iV then nM w_ x1 x3 true else nM w_ x1 x3 (x3.aP == e_))))
def FJ(c:aJ)(w_ e_:Int):=
 (pY c).bind λx1=>(pX c).bind λx7=>(if !x7 then yV c w_ e_ x1 true else(bX w_ 0 2).bind λx8=>yV c w_ e_ x1 (!x8))
def AZ(e_:Int)(x1:aJ)(x2:Bool):=
 (if x2 then some (x1,false) else some ((⟨bA (e_+1),x1.b8⟩:aJ),true))
def OV(c:aJ)(e_:Int):=
 (pY c).bind λx1=>(pX c).bind λx3=>(if !x3 then AZ e_ x1 true else(if c.aP != e_ then AZ e_ x1 true else AZ e_ x1 (e_ == 100000)))
def nN(b:aA)(s:Sub)(x3:aJ×Bool)(x5:Int):=
 some (({b with aJ:=x3.1}:aA),({s with Pc:=x5,B:=bA (s.B+1)}:Sub))
def nO(b:aA)(s:Sub)(x6:aJ×Bool)(x7:Int):=
 (bS ({s with Out:=x7}:Sub) 0).bind λx8=>some (({b with aJ:=x6.1}:aA),x8)
def o8(b:aA)(s:Sub):=
 (if s.Pc == 0 then some (b,({s with Pc:=1,E:=b.aJ.aP,B:=0}:Sub)) else(if s.Pc == 1 then(bX s.B 0 2).bind λx1=>(if !x1 then(bS s 1).bind λx2=>some (b,x2) else(FJ b.aJ s.B s.E).bind λx3=>(if !x3.2 then(bS s 8).bind λx4=>some (({b with aJ:=x3.1}:aA),x4) else(if(bA (s.B+1)) == 3 then nN b s x3 2 else nN b s x3 s.Pc))) else(if s.Pc == 2 then(OV b.aJ s.E).bind λx6=>(if x6.2 then nO b s x6 1 else nO b s x6 s.Out) else(bS s 1).bind λx9=>some (b,x9))))
def GP(x2 x3:List aZ):=
 some (⟨x2,x3⟩:aD)
def O8(x:aD)(slot x1:Int)(x4:aZ):=
 GP x.Global (x.Own.set x1.toNat (⟨x4.aU++([slot])⟩:aZ))
def O9(x:aD)(x5:List aZ):=
 GP x5 x.Own
def RG(x:aD)(w_ c slot:Int):=
 (yO w_ c).bind λx1=>(idx x.Own x1).bind λx4=>(if decide ((x4.aU.length:Int)<2) then need (x4.aU.length+([slot]).length<=1073741824)<|O8 x slot x1 x4 else(idx x.Global c).bind λx6=>need (x6.aU.length+([slot]).length<=1073741824)<|O9 x (x.Global.set c.toNat (⟨x6.aU++([slot])⟩:aZ)))
def GQ(x:Mem)(x3:List Int)(x4 x5:List aZ):=
 some (⟨(⟨x3,x.Heap.Class⟩:Heap),(⟨x4,x5⟩:aD)⟩:Mem)
def GR(x:Mem)(w_ slot x1 x2:Int)(x3:List Int):=
 (if decide ((bA (x2+1))<=6) then(RG x.aD w_ x1 slot).bind λx6=>GQ x x3 x6.Global x6.Own else GQ x x3 x.aD.Global x.aD.Own)
def yW(x:Mem)(w_ slot:Int):=
 (mW x.Heap slot).bind λx1=>(yS x.Heap slot).bind λx2=>(yP slot x1).bind λx7=>(iM x.Heap.Bytes x7 4 (bA (x2+1))).bind λx8=>GR x w_ slot x1 x2 x8
def GS(x1:Bool):=
 some x1
def JI(r_:dW)(e_:Int):=
 (if decide (2<=e_) then GS (decide (r_.aP<=(bA (e_-2)))) else GS false)
def aIX:=
 some (-1)
def fM(l:List dW)(e_:Int):Int->Option (Step Int (Out Unit Int))
 |x2=>(if decide (x2<(l.length:Int)) then(idx l x2).bind λx3=>(JI x3 e_).bind λx4=>(if x4 then some (.stop (Out.ret x2)) else some (.next (bA (x2+1)))) else some (.stop (Out.brk ())))
def aIY:(Out Unit Int)->Option Int
 |.brk ()=>aIX
 |.ret r=>some r
def uN(l:List dW)(from_ e_:Int):=
 (loop (fM l e_) (if 0<from_ then from_ else 0)).bind (aIY)
def nP(b:aA)(s:Sub)(x8:Int):=
 some (b,({s with Pc:=x8,B:=bA (s.B+1)}:Sub))
def eS(b:aA)(s:Sub)(x5:Bool):=
 (if x5 then(bS s 1).bind λx6=>some (b,x6) else(idx b.jJ s.B).bind λx7=>(if x7 == s.H then some (b,({s with Pc:=1,Row:=bA (s.Row+1)}:Sub)) else(if(bA (s.B+1)) == 3 then nP b s 3 else nP b s s.Pc)))
def uO(s:Sub)(x14:aA):=
 some (x14,({s with Pc:=1,Out:=bA (s.Out+1)}:Sub))
def eT(b:aA)(w_:Int)(s:Sub)(x1:bM)(x12:Bool):=
 (if x12 then(bS s 1).bind λx13=>some (b,x13) else need (0<=(s.Row:Int)/\(s.Row:Int)<=(x1.Rows.length:Int)) (need (0<=(bA (s.Row+1):Int)/\(bA (s.Row+1):Int)<=(x1.Rows.length:Int)) (need (s.Row.toNat<=(bA (s.Row+1)).toNat) ((eO s.H).bind λx15=>(yW b.Mem w_ x15).bind λx16=>uO s ({b with Mem:=x16,aV:=b.aV.set w_.toNat (⟨((dL x1.Rows s.Row.toNat (x1.Rows.drop ((bA (s.Row+1)).toNat))).take (s.Row.toNat+(x1.Rows.length-((bA (s.Row+1)).toNat)))).drop 0⟩:bM)}:aA)))))
def o9(b:aA)(w_:Int)(s:Sub):=
 (idx b.aV w_).bind λx1=>(if s.Pc == 0 then some (b,({s with Pc:=1,E:=b.aJ.aP,Row:=0}:Sub)) else(if s.Pc == 1 then(uN x1.Rows s.Row s.E).bind λx2=>(if decide (x2<0) then(bS s 0).bind λx3=>some (b,x3) else(idx x1.Rows x2).bind λx4=>some (b,({s with Pc:=2,Row:=x2,B:=0,H:=x4.Handle}:Sub))) else(if s.Pc == 2 then(bX s.B 0 2).bind λx9=>(if !x9 then eS b s true else(bX s.Row 0 (bA ((x1.Rows.length:Int)-1))).bind λx10=>(if !x10 then eS b s true else(idx x1.Rows s.Row).bind λx11=>eS b s (x11.Handle != s.H))) else(if s.Pc == 3 then(bX s.Row 0 (bA ((x1.Rows.length:Int)-1))).bind λx17=>(if !x17 then eT b w_ s x1 true else(idx x1.Rows s.Row).bind λx18=>(if x18.Handle != s.H then eT b w_ s x1 true else(JI x18 s.E).bind λx19=>eT b w_ s x1 (!x19))) else(bS s 1).bind λx20=>some (b,x20)))))
def wW(w_ e_:Int)(x1:aJ)(x2:Bool):=
 (if x2 then some (x1,false) else(idx x1.b8 w_).bind λx3=>some ((⟨x1.aP,x1.b8.set w_.toNat (⟨true,e_,false,0⟩:yK)⟩:aJ),true))
def JJ(c:aJ)(w_ e_:Int):=
 (pY c).bind λx1=>(pX c).bind λx4=>(if !x4 then wW w_ e_ x1 true else(bX w_ 0 2).bind λx5=>(if !x5 then wW w_ e_ x1 true else(bX e_ 0 c.aP).bind λx6=>wW w_ e_ x1 (!x6)))
def FK(b:aA)(w_:Int)(s:Sub):=
 (if s.Pc == 0 then some (b,({s with Pc:=1,E:=b.aJ.aP}:Sub)) else(if s.Pc == 1 then(JJ b.aJ w_ s.E).bind λx1=>(if !x1.2 then(bS s 1).bind λx2=>some (({b with aJ:=x1.1}:aA),x2) else some (({b with aJ:=x1.1}:aA),({s with Pc:=2}:Sub))) else(if s.Pc == 2 then(if b.aJ.aP == s.E then(bS s 0).bind λx3=>some (b,x3) else some (b,({s with Pc:=0}:Sub))) else(bS s 1).bind λx4=>some (b,x4))))
def JK(b:aA)(w_:Int)(s:Sub):=
 (if s.jA then some (b,s) else(if s.Kind == 1 then(wU b w_ s).bind λx1=>some (x1.1,x1.2) else(if s.Kind == 2 then(sG b w_ s).bind λx2=>some (x2.1,x2.2) else(if s.Kind == 3 then(o8 b s).bind λx3=>some (x3.1,x3.2) else(if s.Kind == 4 then(o9 b w_ s).bind λx4=>some (x4.1,x4.2) else(if s.Kind == 5 then(FK b w_ s).bind λx5=>some (x5.1,x5.2) else(bS s 1).bind λx6=>some (b,x6)))))))
def FL(t:Table)(w_:Int)(j:aG):=
 (JK t.aA w_ j.Sub).bind λx1=>some (({t with aA:=x1.1}:Table),({j with Sub:=x1.2}:aG),x1.2.jA)
def A0(t x2:Table)(x3:aG):=
 some (({x2 with aK:=t.aK,bK:=t.bK}:Table),x3)
def KC(t:Table)(w_:Int)(j:aG):=
 (FL t w_ j).bind λx1=>(if !x1.2.2 then some ((⟨x1.1.aA,x1.1.aR,t.aK,t.bK,x1.1.Log,x1.1.aI⟩:Table),x1.2.1) else(if x1.2.1.Pc == 0 then A0 t (⟨x1.1.aA,x1.1.aR,t.aK,t.bK,x1.1.Log,x1.1.aI⟩:Table) (⟨x1.2.1.kN,x1.2.1.Batch,x1.2.1.aI,1,x1.2.1.At,x1.2.1.K,x1.2.1.bZ,x1.2.1.dZ,x1.2.1.H,x1.2.1.gT,x1.2.1.Node,x1.2.1.Found,x1.2.1.Code,x1.2.1.Sub,x1.2.1.Reads,x1.2.1.aE,x1.2.1.cJ,x1.2.1.cT,x1.2.1.aS,x1.2.1.bE⟩:aG) else(if x1.2.1.Pc == 20 then(m4 4 0).bind λx4=>A0 t (⟨x1.1.aA,x1.1.aR,t.aK,t.bK,x1.1.Log,x1.1.aI⟩:Table) (⟨x1.2.1.kN,x1.2.1.Batch,x1.2.1.aI,21,x1.2.1.At,x1.2.1.K,x1.2.1.bZ,x1.2.1.dZ,x1.2.1.H,x1.2.1.gT,x1.2.1.Node,x1.2.1.Found,x1.2.1.Code,x4,x1.2.1.Reads,x1.2.1.aE,x1.2.1.cJ,x1.2.1.cT,x1.2.1.aS,x1.2.1.bE⟩:aG) else A0 t (⟨x1.1.aA,x1.1.aR,t.aK,t.bK,x1.1.Log,x1.1.aI⟩:Table) (⟨x1.2.1.kN,x1.2.1.Batch,x1.2.1.aI,19,x1.2.1.At,x1.2.1.K,x1.2.1.bZ,x1.2.1.dZ,x1.2.1.H,x1.2.1.gT,x1.2.1.Node,x1.2.1.Found,x1.2.1.Code,x1.2.1.Sub,x1.2.1.Reads,x1.2.1.aE,x1.2.1.cJ,x1.2.1.cT,x1.2.1.aS,x1.2.1.bE⟩:aG))))
def fP(j:aG)(code:Int):=
 some ({j with Pc:=16,Code:=code}:aG)
def sH(x9:List aQ):=
 some x9
def JL(w_:aQ)(x7:List aQ)(x8:Bool):=
 (if !x8 then need (x7.length+([w_]).length<=1073741824) (sH (x7++([w_]))) else sH x7)
def A1(x6:Int)(x10:List aQ)(x11:Bool):Option (Step ((List aQ)×Bool×Int) ((List aQ)×Bool)):=
 some (.next (x10,x11,bA (x6+1)))
def A2(l:List aQ)(x6:Int)(x13:List aQ)(x14:Bool):Option (Step ((List aQ)×Bool×Int) ((List aQ)×Bool)):=
 (idx l x6).bind λx15=>need (x13.length+([x15]).length<=1073741824) (A1 x6 (x13++([x15])) x14)
def A3(l:List aQ)(w_:aQ)(x4:List aQ)(x5:Bool)(x6:Int)(x16:Bool):Option (Step ((List aQ)×Bool×Int) ((List aQ)×Bool)):=
 (if x16 then need (x4.length+([w_]).length<=1073741824) (A2 l x6 (x4++([w_])) true) else A2 l x6 x4 x5)
def nB(l:List aQ)(w_:aQ):((List aQ)×Bool×Int)->Option (Step ((List aQ)×Bool×Int) ((List aQ)×Bool))
 |(x4,x5,x6)=>(if decide (x6<(l.length:Int)) then(idx l x6).bind λx12=>(if x12.Key == w_.Key then A1 x6 x4 x5 else(if !x5 then(idx l x6).bind λx17=>A3 l w_ x4 x5 x6 (decide (w_.Key<x17.Key)) else A3 l w_ x4 x5 x6 false)) else some (.stop ((x4,x5))))
def A4(w_:aQ):((List aQ)×Bool)->Option (List aQ)
 |(x7,x8)=>JL w_ x7 x8
def KD(l:List aQ)(w_:aQ):=
 (loop (nB l w_) (([]:List aQ),false,0)).bind (A4 w_)
def CR(j:aG)(x:aQ):=
 (KD j.aE x).bind λx1=>(if decide (6<(x1.length:Int)) then(fP j 1).bind λx2=>some x2 else some ({j with aE:=x1}:aG))
def aIZ:=
 some ((⟨0,false,0⟩:aQ),false)
def vQ(l:List aQ)(key:Int):Int->Option (Step Int (Out Unit (aQ×Bool)))
 |x2=>(if decide (x2<(l.length:Int)) then(idx l x2).bind λx3=>(if x3.Key == key then(idx l x2).bind λx4=>some (.stop (Out.ret (x4,true))) else some (.next (bA (x2+1)))) else some (.stop (Out.brk ())))
def aI0:(Out Unit (aQ×Bool))->Option (aQ×Bool)
 |.brk ()=>aIZ
 |.ret r=>some r
def NQ(l:List aQ)(key:Int):=
 (loop (vQ l key) 0).bind (aI0)
def RH(a_ b:Int):=
 some (Int.tmod (bA ((bA ((Int.tmod a_ 65536)+(Int.tmod b 65536)))+65536)) 65536)
def pZ(x3:aG)(x4:Bool)(x5:Int):=
 need (x3.cJ.length+([(⟨x4,x5⟩:cJ)]).length<=1073741824) (some ({x3 with Pc:=1,At:=bA (x3.At+1),cJ:=x3.cJ++([(⟨x4,x5⟩:cJ)])}:aG))
def p5(j:aG)(is:Bool)(x1:kG)(x2:Int):=
 (if x1.Kind == 4 then(RH x2 x1.eN).bind λx6=>(CR j (⟨x1.Key,false,x6⟩:aQ)).bind λx7=>(if x7.Pc == 16 then some x7 else pZ x7 true x6) else pZ j is x2)
def yX(j:aG)(is:Bool)(v:Int):=
 (idx j.Batch.bD j.At).bind λx1=>(if !is then p5 j is x1 0 else p5 j is x1 v)
def ET(key:Int):=
 (bX key 0 99).bind λx1=>(if !x1 then some (-1) else some (Int.tmod key 2))
def kP(j:aG)(x2:kG)(x3:Bool):=
 (if x3 then(CR j ({x2 with GC:=x2.Kind == 3}:aQ)).bind λx4=>(if x4.Pc == 16 then some x4 else need (x4.cJ.length+([(⟨false,0⟩:cJ)]).length<=1073741824) (some ({x4 with At:=bA (x4.At+1),cJ:=x4.cJ++([(⟨false,0⟩:cJ)])}:aG))) else(NQ j.aE x2.Key).bind λx5=>(if x5.2 then(yX j (!x5.1.GC) x5.1.eN).bind λx6=>some x6 else(ET x2.Key).bind λx7=>some ({j with Pc:=2,bZ:=x7}:aG)))
def DR(j:aG):=
 (if decide ((j.Batch.bD.length:Int)<=j.At) then(m4 1 16).bind λx1=>some ({j with Pc:=6,K:=0,Sub:=x1}:aG) else(idx j.Batch.bD j.At).bind λx2=>(if x2.Kind == 2 then kP j x2 true else kP j x2 (x2.Kind == 3)))
def NR(slot c:Int):=
 (yP slot c).bind λx1=>(if decide (x1<0) then some (-1) else some (bA (x1+4)))
def DS(m:Mem)(h:Int)(x1:Bool):Option (Int×Int):=
 (if x1 then some (0,4) else(eO h).bind λx2=>(mW m.Heap x2).bind λx3=>(FG x3).bind λx4=>(if decide (x4<10) then some (0,2) else(eO h).bind λx5=>(NR x5 x3).bind λx6=>some (x6,0)))
def A5(m:Mem)(h:Int):Option (Int×Int):=
 (gO h).bind λx7=>(if !x7 then DS m h true else(eO h).bind λx8=>(mW m.Heap x8).bind λx9=>DS m h (decide (x9<0)))
def VO(m:Mem)(at_:Int):=
 (uF m.Heap.Bytes at_ 2).bind λx1=>(uF m.Heap.Bytes (bA (at_+2)) 4).bind λx2=>(uF m.Heap.Bytes (bA (at_+6)) 4).bind λx3=>some (⟨x1,x2,x3⟩:eD)
def LD(m:Mem)(h:Int):=
 (A5 m h).bind λx1=>(if x1.2 != 0 then some (⟨0,0,0⟩:eD) else(VO m x1.1).bind λx2=>some x2)
def qA(n:eD):=
 (gO n.Next).bind λx1=>(if x1 then some n.Next else some 0)
def W5(l:List Seen)(b v:Int):=
 need ((([]:List Seen)++l).length+([(⟨b,v⟩:Seen)]).length<=1073741824) (some ((([]:List Seen)++l)++([(⟨b,v⟩:Seen)]),true))
def vR(l:List Seen)(b v:Int):Int->Option (Step Int (Out Unit ((List Seen)×Bool)))
 |x2=>(if decide (x2<(l.length:Int)) then(idx l x2).bind λx3=>(if x3.bZ == b then(idx l x2).bind λx4=>some (.stop (Out.ret (([]:List Seen)++l,x4.dZ == v))) else some (.next (bA (x2+1)))) else some (.stop (Out.brk ())))
def W6(l:List Seen)(b v:Int):(Out Unit ((List Seen)×Bool))->Option ((List Seen)×Bool)
 |.brk ()=>W5 l b v
 |.ret r=>some r
def NS(l:List Seen)(b v:Int):=
 need (([]:List Seen).length+l.length<=1073741824) ((loop (vR l b v) 0).bind (W6 l b v))
def mF(x3:aG):=
 some x3
def DT(j:aG)(x9:Bool)(x10:Int)(x11:Bool):=
 (if x11 then mF ({j with Pc:=5,H:=x10,Found:=x9}:aG) else mF ({j with Pc:=3,H:=x10,Found:=x9}:aG))
def L8(j:aG)(x9:Bool):=
 (qA j.Node).bind λx10=>(if x9 then DT j x9 x10 true else DT j x9 x10 (x10 == 0))
def pA(j:aG)(x6:Bool):=
 (if x6 then(fP j 6).bind λx7=>some x7 else(if decide ((j.Batch.bD.length:Int)<=j.At) then(fP j 1).bind λx8=>some x8 else(idx j.Batch.bD j.At).bind λx12=>L8 j (j.Node.Key == x12.Key)))
def vS(j:aG)(x13:Bool):=
 (if x13 then(fP j 7).bind λx14=>some x14 else(NS j.Reads j.bZ j.dZ).bind λx15=>(if !x15.2 then(fP ({j with Reads:=x15.1}:aG) 7).bind λx16=>some x16 else(if decide ((j.Batch.bD.length:Int)<=j.At) then(fP ({j with Reads:=x15.1}:aG) 1).bind λx17=>some x17 else(yX ({j with Reads:=x15.1}:aG) j.Found j.Node.eN).bind λx18=>some x18)))
def NT(t:Table)(w_:Int)(j:aG):=
 (idx t.aR j.bZ).bind λx1=>(idx t.aA.aJ.b8 w_).bind λx2=>(if j.Pc == 2 then(if x1.eA != 0 then(fP j 7).bind λx4=>some x4 else(if x1.Head == 0 then mF ({j with Pc:=5,dZ:=x1.dZ,H:=x1.Head,Node:=(⟨0,0,0⟩:eD),Found:=false}:aG) else mF ({j with Pc:=3,dZ:=x1.dZ,H:=x1.Head,Node:=(⟨0,0,0⟩:eD),Found:=false}:aG))) else(if j.Pc == 3 then(LD t.aA.Mem j.H).bind λx5=>mF ({j with Pc:=4,Node:=x5}:aG) else(if j.Pc == 4 then(if !x2.On then pA j true else pA j x2.iV) else(if x1.eA != 0 then vS j true else vS j (x1.dZ != j.dZ)))))
def aTX(x5:Int):=
 some x5
def NU(x4 x7:Int):Option (Step (Int×Int) Int):=
 some (.next (x7,bA (x4+1)))
def GU(l:List aQ)(x3 x4:Int)(x6:Bool):Option (Step (Int×Int) Int):=
 (if x6 then(idx l x4).bind λx8=>(if !x8.GC then NU x4 (bA (x3+1)) else NU x4 x3) else some (.stop (x3)))
def GV(l:List aQ)(n:Int):(Int×Int)->Option (Step (Int×Int) Int)
 |(x3,x4)=>(if decide (x4<(l.length:Int)) then GU l x3 x4 (decide (x4<n)) else GU l x3 x4 false)
def aTY:Int->Option Int
 |x5=>aTX x5
def UJ(l:List aQ)(n:Int):=
 (loop (GV l n) (0,0)).bind (aTY)
def nC(t:Table)(x3:Bool)(x4:Table)(x5:aG):=
 (if x3 then(fP x5 x5.Sub.Code).bind λx6=>some (({x4 with aK:=t.aK,bK:=t.bK}:Table),x6) else need (x5.cT.length+([x5.Sub.Out]).length<=1073741824) ((m4 1 16).bind λx7=>some (({x4 with aK:=t.aK,bK:=t.bK}:Table),({x5 with K:=bA (x5.K+1),Sub:=x7,cT:=x5.cT++([x5.Sub.Out])}:aG))))
def KE(t:Table)(w_:Int)(j:aG):=
 (UJ j.aE (j.aE.length:Int)).bind λx1=>(if decide (x1<=j.K) then some (t,({j with Pc:=7,K:=0}:aG)) else(FL t w_ j).bind λx2=>(if !x2.2.2 then some ((⟨x2.1.aA,x2.1.aR,t.aK,t.bK,x2.1.Log,x2.1.aI⟩:Table),x2.2.1) else(if x2.2.1.Sub.Code != 0 then nC t true (⟨x2.1.aA,x2.1.aR,t.aK,t.bK,x2.1.Log,x2.1.aI⟩:Table) x2.2.1 else(gO x2.2.1.Sub.Out).bind λx8=>(if !x8 then nC t true (⟨x2.1.aA,x2.1.aR,t.aK,t.bK,x2.1.Log,x2.1.aI⟩:Table) x2.2.1 else nC t (decide (6<=(x2.2.1.cT.length:Int))) (⟨x2.1.aA,x2.1.aR,t.aK,t.bK,x2.1.Log,x2.1.aI⟩:Table) x2.2.1))))
def yY(x9:List Int):=
 some x9
def PA(x:Int)(x7:List Int)(x8:Bool):=
 (if !x8 then need (x7.length+([x]).length<=1073741824) (yY (x7++([x]))) else yY x7)
def sI(l:List Int)(x6:Int)(x11:List Int)(x12:Bool):Option (Step ((List Int)×Bool×Int) (Out ((List Int)×Bool) (List Int))):=
 (idx l x6).bind λx13=>need (x11.length+([x13]).length<=1073741824) (some (.next (x11++([x13]),x12,bA (x6+1))))
def sJ(l:List Int)(x:Int)(x4:List Int)(x5:Bool)(x6:Int)(x14:Bool):Option (Step ((List Int)×Bool×Int) (Out ((List Int)×Bool) (List Int))):=
 (if x14 then need (x4.length+([x]).length<=1073741824) (sI l x6 (x4++([x])) true) else sI l x6 x4 x5)
def jV(l:List Int)(x:Int):((List Int)×Bool×Int)->Option (Step ((List Int)×Bool×Int) (Out ((List Int)×Bool) (List Int)))
 |(x4,x5,x6)=>(if decide (x6<(l.length:Int)) then(idx l x6).bind λx10=>(if x10 == x then some (.stop (Out.ret l)) else(if !x5 then sJ l x x4 x5 x6 (decide (x<x10)) else sJ l x x4 x5 x6 false)) else some (.stop (Out.brk (x4,x5))))
def yZ(x:Int):(Out ((List Int)×Bool) (List Int))->Option (List Int)
 |.brk (x7,x8)=>PA x x7 x8
 |.ret r=>some r
def RI(l:List Int)(x:Int):=
 (loop (jV l x) (([]:List Int),false,0)).bind (yZ x)
def aI1(x5:List Int):=
 some x5
def DU(x4:Int)(x6:List Int):Option (Step ((List Int)×Int) (List Int)):=
 some (.next (x6,bA (x4+1)))
def vT(l:List aQ):((List Int)×Int)->Option (Step ((List Int)×Int) (List Int))
 |(x3,x4)=>(if decide (x4<(l.length:Int)) then(idx l x4).bind λx7=>(ET x7.Key).bind λx8=>(if decide (0<=x8) then(idx l x4).bind λx9=>(ET x9.Key).bind λx10=>(RI x3 x10).bind λx11=>DU x4 x11 else DU x4 x3) else some (.stop (x3)))
def aI2:(List Int)->Option (List Int)
 |x5=>aI1 x5
def NV(l:List aQ):=
 (loop (vT l) (([]:List Int),0)).bind (aI2)
def CS(t:Table)(w_:Int)(j:aG):=
 need (t.Log.length+([(⟨2,w_,j.aI,0,[],[]⟩:lG)]).length<=1073741824) (some (({t with Log:=t.Log++([(⟨2,w_,j.aI,0,[],[]⟩:lG)])}:Table),({j with Pc:=8,K:=0}:aG)))
def vU(t:Table)(w_:Int)(j:aG)(x1:(List Int))(x3:Int)(x8:bZ)(x10:List Int):=
 (if(bA (j.K+1)) == (x1.length:Int) then(CS ({t with aR:=t.aR.set x3.toNat ({x8 with eA:=bA (w_+1)}:bZ)}:Table) w_ ({j with K:=bA (j.K+1),aS:=x10}:aG)).bind λx11=>some ((⟨x11.1.aA,x11.1.aR,t.aK,t.bK,x11.1.Log,x11.1.aI⟩:Table),x11.2) else some (({t with aR:=t.aR.set x3.toNat ({x8 with eA:=bA (w_+1)}:bZ)}:Table),({j with K:=bA (j.K+1),aS:=x10}:aG)))
def W7(t:Table)(w_:Int)(j:aG)(x1:(List Int))(x3:Int):=
 (idx t.aR x3).bind λx8=>(if x8.dZ == 1000000 then(fP j 3).bind λx9=>some (t,x9) else(yT j.aS x3).bind λx12=>(if !x12 then need (j.aS.length+([x3]).length<=1073741824) (vU t w_ j x1 x3 x8 (j.aS++([x3]))) else vU t w_ j x1 x3 x8 j.aS))
def vV(t:Table)(j:aG)(x7:Int)(x13:Bool):Option (Step Int (Out Unit (Table×aG))):=
 (if x13 then(fP j 7).bind λx14=>some (.stop (Out.ret (t,x14))) else some (.next (bA (x7+1))))
def pB(t:Table)(j:aG)(x3:Int):Int->Option (Step Int (Out Unit (Table×aG)))
 |x7=>(if decide (x7<(j.Reads.length:Int)) then(idx j.Reads x7).bind λx15=>(if x15.bZ == x3 then(idx t.aR x3).bind λx16=>vV t j x7 (x15.dZ != x16.dZ) else vV t j x7 false) else some (.stop (Out.brk ())))
def L9(t:Table)(w_:Int)(j:aG)(x1:(List Int))(x3:Int):(Out Unit (Table×aG))->Option (Table×aG)
 |.brk ()=>W7 t w_ j x1 x3
 |.ret r=>some r
def NW(t:Table)(w_:Int)(j:aG):=
 (NV j.aE).bind λx1=>(if decide ((x1.length:Int)<=j.K) then(CS t w_ j).bind λx2=>some ((⟨x2.1.aA,x2.1.aR,t.aK,t.bK,x2.1.Log,x2.1.aI⟩:Table),x2.2) else(idx x1 j.K).bind λx3=>(idx t.aR x3).bind λx4=>(if x4.eA != 0 then(fP j 7).bind λx5=>some (t,x5) else(loop (pB t j x3) 0).bind (L9 t w_ j x1 x3)))
def kQ(j:aG)(x3:Bool):=
 (if x3 then(fP j 7).bind λx4=>some x4 else some ({j with K:=bA (j.K+1)}:aG))
def KF(t:Table)(w_:Int)(j:aG):=
 (if decide ((j.Reads.length:Int)<=j.K) then some ({j with Pc:=9,K:=0}:aG) else(idx j.Reads j.K).bind λx1=>(idx t.aR x1.bZ).bind λx2=>(if x2.eA != 0 then(if x2.eA != (bA (w_+1)) then kQ j true else kQ j (x2.dZ != x1.dZ)) else kQ j (x2.dZ != x1.dZ)))
def qW(j:aG):=
 (idx j.aE j.K).bind λx1=>(if x1.GC then some ({j with Pc:=9,K:=bA (j.K+1)}:aG) else some ({j with Pc:=12}:aG))
def W8(b:List Int):=
 some (decide ((b.length:Int)<=1000))
def pC(b:List Int):Int->Option (Step Int (Out Unit Bool))
 |x2=>(if decide (x2<(b.length:Int)) then(idx b x2).bind λx3=>(bX x3 0 255).bind λx4=>(if !x4 then some (.stop (Out.ret false)) else some (.next (bA (x2+1)))) else some (.stop (Out.brk ())))
def MA(b:List Int):(Out Unit Bool)->Option Bool
 |.brk ()=>W8 b
 |.ret r=>some r
def NX(b:List Int):=
 (loop (pC b) 0).bind (MA b)
def aI3:=
 some true
def pD(h:Heap):Int->Option (Step Int (Out Unit Bool))
 |x3=>(if decide (x3<6) then(idx h.Class x3).bind λx4=>(bX x4 (-1) 2).bind λx5=>(if !x5 then some (.stop (Out.ret false)) else some (.next (bA (x3+1)))) else some (.stop (Out.brk ())))
def aI4:(Out Unit Bool)->Option Bool
 |.brk ()=>aI3
 |.ret r=>some r
def vW(h:Heap)(x1:Bool):=
 (if x1 then some false else(loop (pD h) 0).bind (aI4))
def NY(h:Heap):=
 (if(h.Bytes.length:Int) != 384 then vW h true else(if(h.Class.length:Int) != 6 then vW h true else(NX h.Bytes).bind λx6=>vW h (!x6)))
def aMS:=
 some true
def sK(h:Heap)(p:Int):Int->Option (Step Int (Out Unit Bool))
 |x3=>(if decide (x3<(bA ((bA (p*64))+64))) then(idx h.Bytes x3).bind λx4=>(if x4 != 0 then some (.stop (Out.ret false)) else some (.next (bA (x3+1)))) else some (.stop (Out.brk ())))
def aMT:(Out Unit Bool)->Option Bool
 |.brk ()=>aMS
 |.ret r=>some r
def aMU:=
 some true
def sL(h:Heap)(p x1:Int):Int->Option (Step Int (Out Unit Bool))
 |x9=>(mV x1).bind λx10=>(if decide (x9<x10) then(uE p x9).bind λx11=>(yP x11 x1).bind λx12=>(uF h.Bytes x12 4).bind λx13=>(bX x13 1 7).bind λx14=>(if !x14 then some (.stop (Out.ret false)) else some (.next (bA (x9+1)))) else some (.stop (Out.brk ())))
def aMV:(Out Unit Bool)->Option Bool
 |.brk ()=>aMU
 |.ret r=>some r
def YR(h:Heap)(p x1:Int):=
 (loop (sL h p x1) 0).bind (aMV)
def sM(h:Heap)(p:Int):Int->Option (Step Int (Out Unit Bool))
 |x7=>(if decide (x7<(bA ((bA (p*64))+8))) then(idx h.Bytes x7).bind λx15=>(if x15 != 0 then some (.stop (Out.ret false)) else some (.next (bA (x7+1)))) else some (.stop (Out.brk ())))
def YS(h:Heap)(p x1:Int):(Out Unit Bool)->Option Bool
 |.brk ()=>YR h p x1
 |.ret r=>some r
def lJ(h:Heap)(p x1:Int)(x5:Bool):=
 (if x5 then some false else(loop (sM h p) (bA ((bA (p*64))+3))).bind (YS h p x1))
def RJ(h:Heap)(p:Int):=
 (idx h.Class p).bind λx1=>(if decide (x1<0) then(loop (sK h p) (bA (p*64))).bind (aMT) else(idx h.Bytes (bA (p*64))).bind λx16=>(if x16 != 171 then lJ h p x1 true else(idx h.Bytes (bA ((bA (p*64))+1))).bind λx17=>(if x17 != x1 then lJ h p x1 true else(idx h.Bytes (bA ((bA (p*64))+2))).bind λx18=>(mV x1).bind λx19=>lJ h p x1 (x18 != x19))))
def aMW:=
 some true
def y5(h:Heap):Int->Option (Step Int (Out Unit Bool))
 |x3=>(if decide (x3<6) then(RJ h x3).bind λx4=>(if !x4 then some (.stop (Out.ret false)) else some (.next (bA (x3+1)))) else some (.stop (Out.brk ())))
def aMX:(Out Unit Bool)->Option Bool
 |.brk ()=>aMW
 |.ret r=>some r
def RK(h:Heap):=
 (NY h).bind λx1=>(if !x1 then some false else(loop (y5 h) 0).bind (aMX))
def aI5:=
 some true
def DV(x6:Int)(x7:Bool):Option (Step Int (Out Unit Bool)):=
 (if x7 then some (.stop (Out.ret false)) else some (.next (bA (x6+1))))
def pE(x4:(List Int)):Int->Option (Step Int (Out Unit Bool))
 |x6=>(if decide (x6<(x4.length:Int)) then(idx x4 x6).bind λx8=>(bX x8 0 23).bind λx9=>(if !x9 then DV x6 true else need (0<=(x6:Int)/\(x6:Int)<=(x4.length:Int)) ((yT ((x4.take x6.toNat).drop 0) x8).bind λx10=>DV x6 x10)) else some (.stop (Out.brk ())))
def aI6:(Out Unit Bool)->Option Bool
 |.brk ()=>aI5
 |.ret r=>some r
def W9(l:aD):=
 (O7 l).bind λx4=>(loop (pE x4) 0).bind (aI6)
def pG(l:aD):Int->Option (Step Int (Out Unit Bool))
 |x3=>(if decide (x3<(l.Own.length:Int)) then(idx l.Own x3).bind λx11=>(if decide (2<(x11.aU.length:Int)) then some (.stop (Out.ret false)) else some (.next (bA (x3+1)))) else some (.stop (Out.brk ())))
def XA(l:aD):(Out Unit Bool)->Option Bool
 |.brk ()=>W9 l
 |.ret r=>some r
def DW(l:aD)(x1:Bool):=
 (if x1 then some false else(loop (pG l) 0).bind (XA l))
def NZ(l:aD):=
 (if(l.Global.length:Int) != 3 then DW l true else DW l ((l.Own.length:Int) != 9))
def aGF:=
 some true
def A6(x2:Int)(x3:Bool):Option (Step Int (Out Unit Bool)):=
 (if x3 then some (.stop (Out.ret false)) else some (.next (bA (x2+1))))
def nD(h:Heap)(l:List Int)(c:Int):Int->Option (Step Int (Out Unit Bool))
 |x2=>(if decide (x2<(l.length:Int)) then(idx l x2).bind λx4=>(mW h x4).bind λx5=>(if x5 != c then A6 x2 true else(idx l x2).bind λx6=>(yS h x6).bind λx7=>A6 x2 (decide (6<x7))) else some (.stop (Out.brk ())))
def aGG:(Out Unit Bool)->Option Bool
 |.brk ()=>aGF
 |.ret r=>some r
def CT(h:Heap)(l:List Int)(c:Int):=
 (loop (nD h l c) 0).bind (aGG)
def aQK:=
 some true
def aBR(x3:Int):Option (Step Int (Out Unit Bool)):=
 some (.next (bA (x3+1)))
def CU(m:Mem)(x3:Int):Int->Option (Step Int (Out Unit Bool))
 |x7=>(if decide (x7<3) then(yO x7 x3).bind λx8=>(idx m.aD.Own x8).bind λx9=>(CT m.Heap x9.aU x3).bind λx10=>(if !x10 then some (.stop (Out.ret false)) else some (.next (bA (x7+1)))) else some (.stop (Out.brk ())))
def aBS(x3:Int):(Out Unit Bool)->Option (Step Int (Out Unit Bool))
 |.brk ()=>aBR x3
 |.ret r=>some (.stop (Out.ret r))
def CV(m:Mem):Int->Option (Step Int (Out Unit Bool))
 |x3=>(if decide (x3<3) then(idx m.aD.Global x3).bind λx4=>(CT m.Heap x4.aU x3).bind λx5=>(if !x5 then some (.stop (Out.ret false)) else(loop (CU m x3) 0).bind (aBS x3)) else some (.stop (Out.brk ())))
def aQL:(Out Unit Bool)->Option Bool
 |.brk ()=>aQK
 |.ret r=>some r
def KG(m:Mem)(x1:Bool):=
 (if x1 then some false else(loop (CV m) 0).bind (aQL))
def EU(m:Mem):=
 (RK m.Heap).bind λx11=>(if !x11 then KG m true else(NZ m.aD).bind λx12=>KG m (!x12))
def DX(x1:Bool):=
 some x1
def qB(h:Int):=
 (if h == 0 then DX true else(gO h).bind λx2=>DX x2)
def j5(b:List Int):=
 need (([]:List Int).length+b.length<=1073741824) (some (([]:List Int)++b))
def RL(h:Heap):=
 (j5 h.Bytes).bind λx1=>(j5 h.Class).bind λx2=>some (⟨x1,x2⟩:Heap)
def aMY(x5:List aZ):=
 some x5
def PB(l:List aZ):((List aZ)×Int)->Option (Step ((List aZ)×Int) (List aZ))
 |(x3,x4)=>(if decide (x4<(l.length:Int)) then(idx l x4).bind λx6=>(j5 x6.aU).bind λx7=>need (x3.length+([(⟨x7⟩:aZ)]).length<=1073741824) (some (.next (x3++([(⟨x7⟩:aZ)]),bA (x4+1)))) else some (.stop (x3)))
def aMZ:(List aZ)->Option (List aZ)
 |x5=>aMY x5
def LF(l:List aZ):=
 (loop (PB l) (([]:List aZ),0)).bind (aMZ)
def RM(l:aD):=
 (LF l.Global).bind λx1=>(LF l.Own).bind λx2=>some (⟨x1,x2⟩:aD)
def y6(m:Mem):=
 (RL m.Heap).bind λx1=>(RM m.aD).bind λx2=>some (⟨x1,x2⟩:Mem)
def GW(m:Mem)(h next_:Int)(x2:Bool)(x3:Mem):Option (Mem×Int):=
 (if x2 then some (x3,1) else(pU m h).bind λx4=>(if !x4 then some (x3,4) else(A5 m h).bind λx5=>(if x5.2 != 0 then some (x3,x5.2) else(iM x3.Heap.Bytes (bA (x5.1+6)) 4 next_).bind λx6=>some ((⟨(⟨x6,x3.Heap.Class⟩:Heap),x3.aD⟩:Mem),0))))
def RN(m:Mem)(h next_:Int):Option (Mem×Int):=
 (y6 m).bind λx1=>(EU m).bind λx7=>(if !x7 then GW m h next_ true x1 else(qB next_).bind λx8=>GW m h next_ (!x8) x1)
def y7(x1:Bool):=
 some x1
def RO(n:eD):=
 (bX n.Key 0 99).bind λx2=>(if x2 then(bX n.eN 0 65535).bind λx3=>(if x3 then(qB n.Next).bind λx4=>y7 x4 else y7 false) else y7 false)
def YT(m:Mem)(at_:Int)(n:eD):=
 (iM m.Heap.Bytes at_ 2 n.Key).bind λx1=>(iM x1 (bA (at_+2)) 4 n.eN).bind λx2=>(iM x2 (bA (at_+6)) 4 n.Next).bind λx3=>some (⟨(⟨x3,m.Heap.Class⟩:Heap),m.aD⟩:Mem)
def DY(m:Mem)(h:Int)(n:eD)(x2:Bool)(x3:Mem):Option (Mem×Int):=
 (if x2 then some (x3,1) else(pU m h).bind λx4=>(if !x4 then some (x3,4) else(A5 m h).bind λx5=>(if x5.2 != 0 then some (x3,x5.2) else(YT x3 x5.1 n).bind λx6=>some (x6,0))))
def N0(m:Mem)(h:Int)(n:eD):Option (Mem×Int):=
 (y6 m).bind λx1=>(EU m).bind λx7=>(if !x7 then DY m h n true x1 else(RO n).bind λx8=>DY m h n (!x8) x1)
def nQ(t:Table)(x3:List bZ)(x4:aG):=
 some (({t with aR:=x3}:Table),x4)
def nR(t:Table)(j:aG)(x12:Table)(x13:List Int):=
 (qW ({j with bE:=x13}:aG)).bind λx14=>some (({x12 with aK:=t.aK,bK:=t.bK}:Table),x14)
def uP(t:Table)(j:aG)(x15:Bool)(x16:Table):=
 (if x15 then need (j.bE.length+([j.H]).length<=1073741824) (nR t j ({x16 with aK:=t.aK,bK:=t.bK}:Table) (j.bE++([j.H]))) else nR t j ({x16 with aK:=t.aK,bK:=t.bK}:Table) j.bE)
def nS(t:Table)(j:aG)(x11:Table):=
 (if decide ((j.bE.length:Int)<6) then(gO j.H).bind λx17=>uP t j x17 ({x11 with aK:=t.aK,bK:=t.bK}:Table) else uP t j false ({x11 with aK:=t.aK,bK:=t.bK}:Table))
def EV(t:Table)(j:aG)(x20:Table):=
 nS t j ({x20 with aK:=t.aK,bK:=t.bK}:Table)
def PC(t:Table)(j:aG)(x25:Table):=
 some (({x25 with aK:=t.aK,bK:=t.bK}:Table),({j with Pc:=13}:aG))
def DZ(t:Table)(j:aG):=
 (if decide ((j.aE.length:Int)<=j.K) then some (t,({j with Pc:=14}:aG)) else(idx j.aE j.K).bind λx1=>(ET x1.Key).bind λx2=>(if j.Pc == 9 then(idx t.aR x2).bind λx5=>(if x5.Head == 0 then(qW ({j with H:=x5.Head,gT:=0}:aG)).bind λx6=>some (t,x6) else nQ t t.aR ({j with Pc:=10,H:=x5.Head,gT:=0}:aG)) else(if j.Pc == 10 then(LD t.aA.Mem j.H).bind λx7=>(if x7.Key == x1.Key then nQ t t.aR ({j with Pc:=11,Node:=x7}:aG) else(qA x7).bind λx8=>(if x8 == 0 then(qW ({j with Node:=x7}:aG)).bind λx9=>some (t,x9) else(qA x7).bind λx10=>nQ t t.aR ({j with H:=x10,gT:=j.H,Node:=x7}:aG))) else(if j.Pc == 11 then(if j.gT == 0 then(qA j.Node).bind λx18=>(idx t.aR x2).bind λx19=>nS t j ({t with aR:=t.aR.set x2.toNat ({x19 with Head:=x18}:bZ)}:Table) else(qA j.Node).bind λx21=>(RN t.aA.Mem j.gT x21).bind λx22=>EV t j ({t with aA:=(⟨x22.1,t.aA.aJ,t.aA.aV,t.aA.jJ⟩:aA)}:Table)) else(UJ j.aE j.K).bind λx23=>(if decide ((j.cT.length:Int)<=x23) then(fP j 1).bind λx24=>some (t,x24) else(if j.Pc == 12 then(idx j.cT x23).bind λx26=>(idx t.aR x2).bind λx27=>(N0 t.aA.Mem x26 ({x1 with Next:=x27.Head}:eD)).bind λx28=>PC t j ({t with aA:=(⟨x28.1,t.aA.aJ,t.aA.aV,t.aA.jJ⟩:aA)}:Table) else(idx j.cT x23).bind λx29=>(idx t.aR x2).bind λx30=>nQ t (t.aR.set x2.toNat ({x30 with Head:=x29}:bZ)) ({j with Pc:=9,K:=bA (j.K+1)}:aG)))))))
def GX(t:Table)(x1:aG):=
 some (t,x1)
def xP(t:Table)(j:aG)(x5:(List Int))(x7:List bZ):=
 some (({t with aR:=x7}:Table),({j with aS:=x5}:aG))
def GY(t:Table)(j:aG):=
 (if(j.aS.length:Int) == 0 then(if j.Pc == 16 then some (t,({j with Pc:=17}:aG)) else(if decide (0<(j.bE.length:Int)) then(idx j.bE 0).bind λx2=>(m4 2 x2).bind λx3=>GX t ({j with Pc:=15,K:=0,Sub:=x3}:aG) else GX t ({j with Pc:=15,K:=0}:aG))) else(idx j.aS 0).bind λx4=>need (0<=(1:Int)/\(1:Int)<=(j.aS.length:Int)) ((j5 ((j.aS.take j.aS.length).drop (1:Int).toNat)).bind λx5=>(idx t.aR x4).bind λx6=>(if j.Pc == 14 then(idx (t.aR.set x4.toNat ({x6 with eA:=0}:bZ)) x4).bind λx8=>xP t j x5 ((t.aR.set x4.toNat ({x6 with eA:=0}:bZ)).set x4.toNat ({x8 with dZ:=if 1000000<(bA (x8.dZ+1)) then 1000000 else(bA (x8.dZ+1))}:bZ)) else xP t j x5 (t.aR.set x4.toNat ({x6 with eA:=0}:bZ)))))
def xQ(t x2:Table)(x3:aG):=
 some (({x2 with aK:=t.aK,bK:=t.bK}:Table),x3)
def GZ(t:Table)(w_:Int)(j:aG):=
 (if decide ((j.bE.length:Int)<=j.K) then some (t,({j with Pc:=18}:aG)) else(FL t w_ j).bind λx1=>(if x1.2.2 then(if decide ((bA (x1.2.1.K+1))<(x1.2.1.bE.length:Int)) then(idx x1.2.1.bE (bA (x1.2.1.K+1))).bind λx4=>(m4 2 x4).bind λx5=>xQ t (⟨x1.1.aA,x1.1.aR,t.aK,t.bK,x1.1.Log,x1.1.aI⟩:Table) (⟨x1.2.1.kN,x1.2.1.Batch,x1.2.1.aI,x1.2.1.Pc,x1.2.1.At,bA (x1.2.1.K+1),x1.2.1.bZ,x1.2.1.dZ,x1.2.1.H,x1.2.1.gT,x1.2.1.Node,x1.2.1.Found,x1.2.1.Code,x5,x1.2.1.Reads,x1.2.1.aE,x1.2.1.cJ,x1.2.1.cT,x1.2.1.aS,x1.2.1.bE⟩:aG) else xQ t (⟨x1.1.aA,x1.1.aR,t.aK,t.bK,x1.1.Log,x1.1.aI⟩:Table) (⟨x1.2.1.kN,x1.2.1.Batch,x1.2.1.aI,x1.2.1.Pc,x1.2.1.At,bA (x1.2.1.K+1),x1.2.1.bZ,x1.2.1.dZ,x1.2.1.H,x1.2.1.gT,x1.2.1.Node,x1.2.1.Found,x1.2.1.Code,x1.2.1.Sub,x1.2.1.Reads,x1.2.1.aE,x1.2.1.cJ,x1.2.1.cT,x1.2.1.aS,x1.2.1.bE⟩:aG)) else xQ t (⟨x1.1.aA,x1.1.aR,t.aK,t.bK,x1.1.Log,x1.1.aI⟩:Table) x1.2.1))
def D0(m:Mem)(w_ h:Int)(x2:Bool)(x3:Mem):Option (Mem×Int):=
 (if x2 then some (x3,1) else(pU m h).bind λx4=>(if !x4 then some (x3,4) else(eO h).bind λx5=>(yW x3 w_ x5).bind λx6=>some (x6,0)))
def N2(m:Mem)(w_ h:Int):Option (Mem×Int):=
 (y6 m).bind λx1=>(EU m).bind λx7=>(if !x7 then D0 m w_ h true x1 else(bX w_ 0 2).bind λx8=>D0 m w_ h (!x8) x1)
def VQ(b:aA)(w_ h:Int):Option (Mem×Int):=
 (eO h).bind λx1=>(GO b.aV x1).bind λx2=>(if x2 then some (b.Mem,4) else(N2 b.Mem w_ h).bind λx3=>some (x3.1,x3.2))
def wX(w_:Int)(x1:aJ)(x2:Bool):=
 (if x2 then some (x1,false) else(idx x1.b8 w_).bind λx3=>some ((⟨x1.aP,x1.b8.set w_.toNat (⟨false,0,false,0⟩:yK)⟩:aJ),true))
def JM(c:aJ)(w_:Int):=
 (pY c).bind λx1=>(pX c).bind λx4=>(if !x4 then wX w_ x1 true else(bX w_ 0 2).bind λx5=>(if !x5 then wX w_ x1 true else(idx c.b8 w_).bind λx6=>wX w_ x1 (!x6.On)))
def y8(l:List cJ):=
 need (([]:List cJ).length+l.length<=1073741824) (some (([]:List cJ)++l))
def G0(t:Table)(j:aG)(x1:Table)(x2:Int)(x3:List Int):=
 some (({x1 with aK:=t.aK,bK:=t.bK}:Table),({j with Pc:=x2,cT:=x3}:aG))
def G3(t:Table)(j:aG)(x4:Table):=
 need (0<=(1:Int)/\(1:Int)<=(j.cT.length:Int)) ((j5 ((j.cT.take j.cT.length).drop ((1:Int).toNat))).bind λx5=>G0 t j ({x4 with aK:=t.aK,bK:=t.bK}:Table) j.Pc x5)
def y9(t:Table)(w_:Int)(j:aG)(x9:List cJ):=
 need (t.Log.length+([(⟨3,w_,j.aI,j.Code,[],x9⟩:lG)]).length<=1073741824) (some (({t with Log:=t.Log++([(⟨3,w_,j.aI,j.Code,[],x9⟩:lG)])}:Table),(⟨false,(⟨false,[]⟩:Batch),0,0,0,0,0,0,0,0,(⟨0,0,0⟩:eD),false,0,(⟨0,0,0,0,0,0,0,0,0,false⟩:Sub),[],[],[],[],[],[]⟩:aG)))
def uG(t:Table)(w_:Int)(j:aG):=
 (if j.Pc == 17 then(if(j.cT.length:Int) == 0 then some (t,({j with Pc:=18}:aG)) else(idx j.cT 0).bind λx6=>(VQ t.aA w_ x6).bind λx7=>G3 t j ({t with aA:=(⟨x7.1,t.aA.aJ,t.aA.aV,t.aA.jJ⟩:aA)}:Table)) else(if j.Pc == 18 then(JM t.aA.aJ w_).bind λx8=>G0 t j ({t with aA:=(⟨t.aA.Mem,x8.1,t.aA.aV,t.aA.jJ⟩:aA)}:Table) 19 j.cT else(if j.Code == 0 then(y8 j.cJ).bind λx10=>y9 t w_ j x10 else y9 t w_ j ([]))))
def gP(t:Table)(w_:Int)(x3:Table)(x4:aG):=
 some ({x3 with aK:=t.aK.set w_.toNat x4,bK:=t.bK}:Table)
def m5(t:Table)(w_:Int)(x1:aG)(x22:Bool)(x23:aG):=
 (if x22 then(uG t w_ ({x23 with Batch:=(⟨x23.Batch.Collect,x1.Batch.bD⟩:Batch),Reads:=x1.Reads,aE:=x1.aE,cJ:=x1.cJ,cT:=x1.cT,aS:=x1.aS,bE:=x1.bE}:aG)).bind λx24=>gP t w_ (⟨x24.1.aA,x24.1.aR,t.aK,t.bK,x24.1.Log,x24.1.aI⟩:Table) x24.2 else(fP ({x23 with Batch:=(⟨x23.Batch.Collect,x1.Batch.bD⟩:Batch),Reads:=x1.Reads,aE:=x1.aE,cJ:=x1.cJ,cT:=x1.cT,aS:=x1.aS,bE:=x1.bE}:aG) 1).bind λx25=>gP t w_ t x25)
def wY(t:Table)(w_:Int)(x1:aG)(x18:Bool)(x19:aG):=
 (if x18 then(GY t ({x19 with Batch:=(⟨x19.Batch.Collect,x1.Batch.bD⟩:Batch),Reads:=x1.Reads,aE:=x1.aE,cJ:=x1.cJ,cT:=x1.cT,aS:=x1.aS,bE:=x1.bE}:aG)).bind λx20=>gP t w_ (⟨x20.1.aA,x20.1.aR,t.aK,t.bK,x20.1.Log,x20.1.aI⟩:Table) x20.2 else(if x1.Pc == 15 then(GZ t w_ ({x19 with Batch:=(⟨x19.Batch.Collect,x1.Batch.bD⟩:Batch),Reads:=x1.Reads,aE:=x1.aE,cJ:=x1.cJ,cT:=x1.cT,aS:=x1.aS,bE:=x1.bE}:aG)).bind λx21=>gP t w_ (⟨x21.1.aA,x21.1.aR,t.aK,t.bK,x21.1.Log,x21.1.aI⟩:Table) x21.2 else(if x1.Pc == 17 then m5 t w_ x1 true ({x19 with Batch:=(⟨x19.Batch.Collect,x1.Batch.bD⟩:Batch),Reads:=x1.Reads,aE:=x1.aE,cJ:=x1.cJ,cT:=x1.cT,aS:=x1.aS,bE:=x1.bE}:aG) else(if x1.Pc == 18 then m5 t w_ x1 true ({x19 with Batch:=(⟨x19.Batch.Collect,x1.Batch.bD⟩:Batch),Reads:=x1.Reads,aE:=x1.aE,cJ:=x1.cJ,cT:=x1.cT,aS:=x1.aS,bE:=x1.bE}:aG) else m5 t w_ x1 (x1.Pc == 19) ({x19 with Batch:=(⟨x19.Batch.Collect,x1.Batch.bD⟩:Batch),Reads:=x1.Reads,aE:=x1.aE,cJ:=x1.cJ,cT:=x1.cT,aS:=x1.aS,bE:=x1.bE}:aG)))))
def lA(t:Table)(w_:Int)(x1:aG)(x15:Bool)(x16:aG):=
 (if x15 then(DZ t ({x16 with Batch:=(⟨x16.Batch.Collect,x1.Batch.bD⟩:Batch),Reads:=x1.Reads,aE:=x1.aE,cJ:=x1.cJ,cT:=x1.cT,aS:=x1.aS,bE:=x1.bE}:aG)).bind λx17=>gP t w_ (⟨x17.1.aA,x17.1.aR,t.aK,t.bK,x17.1.Log,x17.1.aI⟩:Table) x17.2 else(if x1.Pc == 14 then wY t w_ x1 true ({x16 with Batch:=(⟨x16.Batch.Collect,x1.Batch.bD⟩:Batch),Reads:=x1.Reads,aE:=x1.aE,cJ:=x1.cJ,cT:=x1.cT,aS:=x1.aS,bE:=x1.bE}:aG) else wY t w_ x1 (x1.Pc == 16) ({x16 with Batch:=(⟨x16.Batch.Collect,x1.Batch.bD⟩:Batch),Reads:=x1.Reads,aE:=x1.aE,cJ:=x1.cJ,cT:=x1.cT,aS:=x1.aS,bE:=x1.bE}:aG)))
def m6(t:Table)(w_:Int)(x1:aG)(x9:Bool)(x10:aG):=
 (if x9 then(NT t w_ ({x10 with Batch:=(⟨x10.Batch.Collect,x1.Batch.bD⟩:Batch),Reads:=x1.Reads,aE:=x1.aE,cJ:=x1.cJ,cT:=x1.cT,aS:=x1.aS,bE:=x1.bE}:aG)).bind λx11=>gP t w_ t x11 else(if x1.Pc == 6 then(KE t w_ ({x10 with Batch:=(⟨x10.Batch.Collect,x1.Batch.bD⟩:Batch),Reads:=x1.Reads,aE:=x1.aE,cJ:=x1.cJ,cT:=x1.cT,aS:=x1.aS,bE:=x1.bE}:aG)).bind λx12=>gP t w_ (⟨x12.1.aA,x12.1.aR,t.aK,t.bK,x12.1.Log,x12.1.aI⟩:Table) x12.2 else(if x1.Pc == 7 then(NW t w_ ({x10 with Batch:=(⟨x10.Batch.Collect,x1.Batch.bD⟩:Batch),Reads:=x1.Reads,aE:=x1.aE,cJ:=x1.cJ,cT:=x1.cT,aS:=x1.aS,bE:=x1.bE}:aG)).bind λx13=>gP t w_ (⟨x13.1.aA,x13.1.aR,t.aK,t.bK,x13.1.Log,x13.1.aI⟩:Table) x13.2 else(if x1.Pc == 8 then(KF t w_ ({x10 with Batch:=(⟨x10.Batch.Collect,x1.Batch.bD⟩:Batch),Reads:=x1.Reads,aE:=x1.aE,cJ:=x1.cJ,cT:=x1.cT,aS:=x1.aS,bE:=x1.bE}:aG)).bind λx14=>gP t w_ t x14 else(if x1.Pc == 9 then lA t w_ x1 true ({x10 with Batch:=(⟨x10.Batch.Collect,x1.Batch.bD⟩:Batch),Reads:=x1.Reads,aE:=x1.aE,cJ:=x1.cJ,cT:=x1.cT,aS:=x1.aS,bE:=x1.bE}:aG) else(if x1.Pc == 10 then lA t w_ x1 true ({x10 with Batch:=(⟨x10.Batch.Collect,x1.Batch.bD⟩:Batch),Reads:=x1.Reads,aE:=x1.aE,cJ:=x1.cJ,cT:=x1.cT,aS:=x1.aS,bE:=x1.bE}:aG) else(if x1.Pc == 11 then lA t w_ x1 true ({x10 with Batch:=(⟨x10.Batch.Collect,x1.Batch.bD⟩:Batch),Reads:=x1.Reads,aE:=x1.aE,cJ:=x1.cJ,cT:=x1.cT,aS:=x1.aS,bE:=x1.bE}:aG) else(if x1.Pc == 12 then lA t w_ x1 true ({x10 with Batch:=(⟨x10.Batch.Collect,x1.Batch.bD⟩:Batch),Reads:=x1.Reads,aE:=x1.aE,cJ:=x1.cJ,cT:=x1.cT,aS:=x1.aS,bE:=x1.bE}:aG) else lA t w_ x1 (x1.Pc == 13) ({x10 with Batch:=(⟨x10.Batch.Collect,x1.Batch.bD⟩:Batch),Reads:=x1.Reads,aE:=x1.aE,cJ:=x1.cJ,cT:=x1.cT,aS:=x1.aS,bE:=x1.bE}:aG)))))))))
def qX(t:Table)(w_:Int)(x1:aG)(x5:Bool)(x6:aG):=
 (if x5 then(KC t w_ ({x6 with Batch:=(⟨x6.Batch.Collect,x1.Batch.bD⟩:Batch),Reads:=x1.Reads,aE:=x1.aE,cJ:=x1.cJ,cT:=x1.cT,aS:=x1.aS,bE:=x1.bE}:aG)).bind λx7=>gP t w_ (⟨x7.1.aA,x7.1.aR,t.aK,t.bK,x7.1.Log,x7.1.aI⟩:Table) x7.2 else(if x1.Pc == 1 then(DR ({x6 with Batch:=(⟨x6.Batch.Collect,x1.Batch.bD⟩:Batch),Reads:=x1.Reads,aE:=x1.aE,cJ:=x1.cJ,cT:=x1.cT,aS:=x1.aS,bE:=x1.bE}:aG)).bind λx8=>gP t w_ t x8 else(if x1.Pc == 2 then m6 t w_ x1 true ({x6 with Batch:=(⟨x6.Batch.Collect,x1.Batch.bD⟩:Batch),Reads:=x1.Reads,aE:=x1.aE,cJ:=x1.cJ,cT:=x1.cT,aS:=x1.aS,bE:=x1.bE}:aG) else(if x1.Pc == 3 then m6 t w_ x1 true ({x6 with Batch:=(⟨x6.Batch.Collect,x1.Batch.bD⟩:Batch),Reads:=x1.Reads,aE:=x1.aE,cJ:=x1.cJ,cT:=x1.cT,aS:=x1.aS,bE:=x1.bE}:aG) else(if x1.Pc == 4 then m6 t w_ x1 true ({x6 with Batch:=(⟨x6.Batch.Collect,x1.Batch.bD⟩:Batch),Reads:=x1.Reads,aE:=x1.aE,cJ:=x1.cJ,cT:=x1.cT,aS:=x1.aS,bE:=x1.bE}:aG) else m6 t w_ x1 (x1.Pc == 5) ({x6 with Batch:=(⟨x6.Batch.Collect,x1.Batch.bD⟩:Batch),Reads:=x1.Reads,aE:=x1.aE,cJ:=x1.cJ,cT:=x1.cT,aS:=x1.aS,bE:=x1.bE}:aG))))))
def VR(t:Table)(w_:Int):=
 (idx t.aK w_).bind λx1=>(if !x1.kN then(J8 t w_).bind λx2=>some x2 else(if x1.Pc == 0 then qX t w_ x1 true x1 else(if x1.Pc == 20 then qX t w_ x1 true x1 else qX t w_ x1 (x1.Pc == 21) x1)))
def aI7(x5:List bM):=
 some x5
def MB(l:List bM):((List bM)×Int)->Option (Step ((List bM)×Int) (List bM))
 |(x3,x4)=>(if decide (x4<(l.length:Int)) then(idx l x4).bind λx6=>need (([]:List dW).length+x6.Rows.length<=1073741824) (need (x3.length+([(⟨([]:List dW)++x6.Rows⟩:bM)]).length<=1073741824) (some (.next (x3++([(⟨([]:List dW)++x6.Rows⟩:bM)]),bA (x4+1))))) else some (.stop (x3)))
def aI8:(List bM)->Option (List bM)
 |x5=>aI7 x5
def N3(l:List bM):=
 (loop (MB l) (([]:List bM),0)).bind (aI8)
def N4(b:aA):=
 (y6 b.Mem).bind λx1=>(pY b.aJ).bind λx2=>(N3 b.aV).bind λx3=>(j5 b.jJ).bind λx4=>some (⟨x1,x2,x3,x4⟩:aA)
def aM0(x5:List lG):=
 some x5
def PD(l:List lG):((List lG)×Int)->Option (Step ((List lG)×Int) (List lG))
 |(x3,x4)=>(if decide (x4<(l.length:Int)) then(idx l x4).bind λx6=>(pS x6.bD).bind λx7=>(y8 x6.cJ).bind λx8=>need (x3.length+([({x6 with bD:=x7,cJ:=x8}:lG)]).length<=1073741824) (some (.next (x3++([({x6 with bD:=x7,cJ:=x8}:lG)]),bA (x4+1)))) else some (.stop (x3)))
def aM1:(List lG)->Option (List lG)
 |x5=>aM0 x5
def RP(l:List lG):=
 (loop (PD l) (([]:List lG),0)).bind (aM1)
def RQ(j:aG):=
 (qU j.Batch).bind λx1=>need (([]:List Seen).length+j.Reads.length<=1073741824) (need (([]:List aQ).length+j.aE.length<=1073741824) ((y8 j.cJ).bind λx2=>(j5 j.cT).bind λx3=>(j5 j.aS).bind λx4=>(j5 j.bE).bind λx5=>some ({j with Batch:=x1,Reads:=([]:List Seen)++j.Reads,aE:=([]:List aQ)++j.aE,cJ:=x2,cT:=x3,aS:=x4,bE:=x5}:aG)))
def aI9(x6:Table):=
 some x6
def MC(x4:Int)(x7:Table):Option (Step (Int×Table) Table):=
 some (.next (bA (x4+1),x7))
def pH(t:Table):(Int×Table)->Option (Step (Int×Table) Table)
 |(x4,x5)=>(if decide (x4<(t.aK.length:Int)) then(idx t.aK x4).bind λx8=>(RQ x8).bind λx9=>need (x5.aK.length+([x9]).length<=1073741824)<|MC x4 ({x5 with aK:=x5.aK++([x9])}:Table) else some (.stop (x5)))
def aJA:Table->Option Table
 |x6=>aI9 x6
def MD(t x1:Table):=
 (loop (pH t) (0,({x1 with aK:=[]}:Table))).bind (aJA)
def N5(t:Table):=
 (N4 t.aA).bind λx10=>need (([]:List bZ).length+t.aR.length<=1073741824)<|(yN t.bK).bind λx11=>(RP t.Log).bind λx12=>MD t (⟨x10,([]:List bZ)++t.aR,[],x11,x12,t.aI⟩:Table)
def RR(x6:Table):=
 (N5 x6).bind λx7=>some x7
def xR(x4:Int)(x10:Table):Option (Step (Int×Table) Table):=
 some (.next (bA (x4+1),x10))
def qC(x:pR)(x4:Int)(x8:Bool)(x9:Table):Option (Step (Int×Table) Table):=
 (if x8 then(idx x.gN x4).bind λx11=>(bX x11 0 2).bind λx12=>(if x12 then(idx x.gN x4).bind λx13=>(VR x9 x13).bind λx14=>xR x4 x14 else xR x4 x9) else some (.stop (x9)))
def qD(x:pR):(Int×Table)->Option (Step (Int×Table) Table)
 |(x4,x5)=>(if decide (x4<(x.gN.length:Int)) then qC x x4 (decide (x4<400)) x5 else qC x x4 false x5)
def RS:Table->Option Table
 |x6=>RR x6
def zA(x:pR):=
 (CL x.bK).bind λx1=>(if(x1.aK.length:Int) == 0 then some x1 else(loop (qD x) (0,x1)).bind (RS))
def aLC(code:List UInt8)(i:Int):=
 (if decide (i<(code.length:Int)) then(idx code i).bind λx1=>some (x1.toNat:Int) else some (Int.tmod (bA ((bA (i*37))+(bA ((code.length:Int)*11)))) 256))
def G4(x1:Bool):=
 some x1
def b7(n low high:Int):=
 (if decide (low<=n) then G4 (decide (n<=high)) else G4 false)
def gQ(w_:Int):=
 (b7 w_ 0 2).bind λx1=>some x1
def M0(s:List Batch)(i j:Int):=
 need (0<=i/\i<=j/\j<=(s.length:Int)) (some (s.take i.toNat++s.drop j.toNat))
def lK(kind a_:Int):=
 some (⟨kind,a_,0,0,0,0,0,0,0,false⟩:Sub)
def kR(s:List kG):=
 need (([]:List kG).length+s.length<=1073741824) (some (([]:List kG)++s))
def B3(t:Table)(w_:Int)(x2:aN)(x3:Batch)(x6:aG)(x8:List lG):=
 some (⟨t.aA,t.aR,t.aK.set w_.toNat ({x6 with Batch:=(⟨x6.Batch.Collect,x3.bD⟩:Batch),Reads:=[],aE:=[],cJ:=[],cT:=[],aS:=[],bE:=[]}:aG),t.bK.set w_.toNat (⟨x2.List.drop 1⟩:aN),x8,bA (t.aI+1)⟩:Table)
def mO(t:Table)(w_:Int)(x2:aN)(x3:Batch)(x6:aG):=
 (idx t.aK w_).bind λx7=>(kR x3.bD).bind λx9=>need (t.Log.length+([(⟨1,w_,x6.aI,0,x9,[]⟩:lG)]).length<=1073741824)<|B3 t w_ x2 x3 x6 (t.Log++([(⟨1,w_,x6.aI,0,x9,[]⟩:lG)]))
def B4(t:Table)(w_:Int)(x2:aN)(x3:Batch)(x5:aG):=
 (if x3.Collect then(lK 3 0).bind λx10=>mO t w_ x2 x3 ({x5 with Batch:=(⟨x5.Batch.Collect,x3.bD⟩:Batch),Pc:=20,Sub:=x10,Reads:=[],aE:=[],cJ:=[],cT:=[],aS:=[],bE:=[]}:aG) else mO t w_ x2 x3 ({x5 with Batch:=(⟨x5.Batch.Collect,x3.bD⟩:Batch),Reads:=[],aE:=[],cJ:=[],cT:=[],aS:=[],bE:=[]}:aG))
def mP(t:Table)(w_:Int)(x1:Bool):=
 (if x1 then some t else(idx t.bK w_).bind λx2=>(idx x2.List 0).bind λx3=>(M0 x2.List 0 1).bind λx4=>(lK 5 0).bind λx11=>B4 t w_ x2 x3 (⟨true,x3,bA (t.aI+1),0,0,0,0,0,0,0,(⟨0,0,0⟩:eD),false,0,x11,[],[],[],[],[],[]⟩:aG))
def A7(t:Table)(w_:Int):=
 (idx t.bK w_).bind λx12=>(if(x12.List.length:Int) == 0 then mP t w_ true else mP t w_ (t.aI == 1000000))
def bQ(s:Sub)(code:Int):=
 some ({s with Code:=code,jA:=true}:Sub)
def lB(c:Int):=
 (b7 c 0 2).bind λx1=>some x1
def FM(c:Int):=
 (lB c).bind λx1=>(if !x1 then some 0 else(idx ([8,16,40]:List Int) c).bind λx2=>some x2)
def aJB:=
 some (-1)
def D1(x2:Int)(x3:Bool):Option (Step Int (Out Unit Int)):=
 (if x3 then some (.stop (Out.ret x2)) else some (.next (bA (x2+1))))
def j6(size:Int):Int->Option (Step Int (Out Unit Int))
 |x2=>(if decide (x2<3) then(if decide (1<=size) then(FM x2).bind λx4=>D1 x2 (decide (size<=x4)) else D1 x2 false) else some (.stop (Out.brk ())))
def aJC:(Out Unit Int)->Option Int
 |.brk ()=>aJB
 |.ret r=>some r
def N6(size:Int):=
 (loop (j6 size) 0).bind (aJC)
def gE(s:List Int):=
 need (([]:List Int).length+s.length<=1073741824) (some (([]:List Int)++s))
def aEB(x5 x10:List aZ):=
 some (⟨x5,x10⟩:aD)
def G5(x8:Int)(x12:List aZ):Option (Step (Int×(List aZ)) (List aZ)):=
 some (.next (bA (x8+1),x12))
def G6(l:aD):(Int×(List aZ))->Option (Step (Int×(List aZ)) (List aZ))
 |(x8,x9)=>(if decide (x8<(l.Own.length:Int)) then(idx l.Own x8).bind λx11=>(gE x11.aU).bind λx13=>need (x9.length+([(⟨x13⟩:aZ)]).length<=1073741824)<|G5 x8 (x9++([(⟨x13⟩:aZ)])) else some (.stop (x9)))
def aEC(x5:List aZ):(List aZ)->Option aD
 |x10=>aEB x5 x10
def RT(l:aD)(x5:List aZ):=
 (loop (G6 l) (0,[])).bind (aEC x5)
def G7(x3:Int)(x15:List aZ):Option (Step (Int×(List aZ)) (List aZ)):=
 some (.next (bA (x3+1),x15))
def G8(l:aD):(Int×(List aZ))->Option (Step (Int×(List aZ)) (List aZ))
 |(x3,x4)=>(if decide (x3<(l.Global.length:Int)) then(idx l.Global x3).bind λx14=>(gE x14.aU).bind λx16=>need (x4.length+([(⟨x16⟩:aZ)]).length<=1073741824)<|G7 x3 (x4++([(⟨x16⟩:aZ)])) else some (.stop (x4)))
def RU(l:aD):(List aZ)->Option aD
 |x5=>RT l x5
def iX(l:aD):=
 (loop (G8 l) (0,[])).bind (RU l)
def uH(slot:Int):=
 (b7 slot 0 23).bind λx1=>some x1
def VT(x11:List Raw):=
 some x11
def mX(slices:List (List Raw)):((List Raw)×Int)->Option (Step ((List Raw)×Int) (List Raw))
 |(x9,x10)=>(if decide (x10<(slices.length:Int)) then(idx slices x10).bind λx12=>need (x9.length+x12.length<=1073741824) (some (.next (x9++x12,bA (x10+1)))) else some (.stop (x9)))
def VU:(List Raw)->Option (List Raw)
 |x11=>VT x11
def G9(slices:List (List Raw))(x5:Int):=
 (a0G Raw x5).bind λx6=>(loop (mX slices) (x6,0)).bind (VU)
def jW(slices:List (List Raw)):(Int×Int)->Option (Step (Int×Int) Int)
 |(x3,x4)=>(if decide (x4<(slices.length:Int)) then(idx slices x4).bind λx13=>(if decide ((bA (x3+(x13.length:Int)))<0) then none else some (.next (bA (x3+(x13.length:Int)),bA (x4+1)))) else some (.stop (x3)))
def HA(slices:List (List Raw)):Int->Option (List Raw)
 |x5=>G9 slices x5
def B5(slices:List (List Raw)):=
 (loop (jW slices) (0,0)).bind (HA slices)
def aJD:=
 some true
def XB(x4:Int)(x12:List Bool):Option (Step (Int×(List Bool)) (Out Unit Bool)):=
 some (.next (bA (x4+1),x12))
def vX(x10:Int)(x11:List Bool)(x13:Int)(x14:Bool):Option (Step (Int×(List Bool)) (Out (List Bool) Bool)):=
 (if x14 then some (.stop (Out.ret false)) else need (0<=(x13:Int)/\(x13:Int)<24) ((idx (x11:List Bool) x13).bind λx15=>some (.next (bA (x10+1),x11.set (x13.toNat) true))))
def vY(x6:aZ):(Int×(List Bool))->Option (Step (Int×(List Bool)) (Out (List Bool) Bool))
 |(x10,x11)=>(if decide (x10<(x6.aU.length:Int)) then(idx x6.aU x10).bind λx13=>(uH x13).bind λx16=>(if !x16 then vX x10 x11 x13 true else need (0<=(x13:Int)/\(x13:Int)<24) ((idx (x11:List Bool) x13).bind λx17=>vX x10 x11 x13 x17)) else some (.stop (Out.brk x11)))
def XC(x4:Int):(Out (List Bool) Bool)->Option (Step (Int×(List Bool)) (Out Unit Bool))
 |.brk x12=>XB x4 x12
 |.ret r=>some (.stop (Out.ret r))
def pI(x4:Int)(x5:List Bool)(x6:aZ)(x7:Bool):=
 (if x7 then some (.stop (Out.ret false)) else(loop (vY x6) (0,x5)).bind (XC x4))
def vZ(l:aD):(Int×(List Bool))->Option (Step (Int×(List Bool)) (Out Unit Bool))
 |(x4,x5)=>(if decide (x4<((l.Own++l.Global).length:Int)) then(idx (l.Own++l.Global) x4).bind λx6=>(if decide (x4<(l.Own.length:Int)) then pI x4 x5 x6 (decide (2<(x6.aU.length:Int))) else pI x4 x5 x6 false) else some (.stop (Out.brk ())))
def aJE:(Out Unit Bool)->Option Bool
 |.brk ()=>aJD
 |.ret r=>some r
def D2(l:aD)(x1:Bool):=
 (if x1 then some false else need (l.Own.length+l.Global.length<=1073741824) ((loop (vZ l) (0,List.replicate 24 false)).bind (aJE)))
def qE(l:aD):=
 (if(l.Global.length:Int) != 3 then D2 l true else D2 l ((l.Own.length:Int) != 9))
def KH(w_ c:Int)(x1:Bool):=
 (if x1 then some (-1) else some (bA ((bA (w_*3))+c)))
def PE(w_ c:Int):=
 (gQ w_).bind λx2=>(if !x2 then KH w_ c true else(lB c).bind λx3=>KH w_ c (!x3))
def zC(s:aZ):=
 (if decide ((bA ((s.aU.length:Int)-1))<0) then some ((-1),s) else(idx s.aU (bA ((s.aU.length:Int)-1))).bind λx1=>need (0<=(bA ((s.aU.length:Int)-1):Int)/\(bA ((s.aU.length:Int)-1):Int)<=(bA ((s.aU.length:Int)-1):Int)/\(bA ((s.aU.length:Int)-1):Int)<=(s.aU.length:Int)) (some (x1,(⟨(s.aU.take ((bA ((s.aU.length:Int)-1)).toNat)).drop 0⟩:aZ))))
def D3(x1:aD)(x2:Int)(x3:Bool):=
 (if x3 then some (x1,(-1)) else(idx x1.Own x2).bind λx4=>(zC x4).bind λx5=>some ((⟨x1.Global,x1.Own.set x2.toNat x5.2⟩:aD),x5.1))
def N7(l:aD)(w_ c:Int):=
 (iX l).bind λx1=>(PE w_ c).bind λx2=>(qE l).bind λx6=>(if !x6 then D3 x1 x2 true else D3 x1 x2 (decide (x2<0)))
def uQ(c:Int)(x1:aD)(x2:Bool):=
 (if x2 then some (x1,(-1)) else(idx x1.Global c).bind λx3=>(zC x3).bind λx4=>some ((⟨x1.Global.set c.toNat x4.2,x1.Own⟩:aD),x4.1))
def D4(l:aD)(c:Int):=
 (iX l).bind λx1=>(qE l).bind λx5=>(if !x5 then uQ c x1 true else(lB c).bind λx6=>uQ c x1 (!x6))
def M1:=
 some (-1)
def fC(s:List Int)(v:Int):Int->Option (Step Int (Out Unit Int))
 |x2=>(if decide (x2<(s.length:Int)) then(idx s x2).bind λx3=>(if v == x3 then some (.stop (Out.ret x2)) else some (.next (bA (x2+1)))) else some (.stop (Out.brk ())))
def B6:(Out Unit Int)->Option Int
 |.brk ()=>M1
 |.ret r=>some r
def nE(s:List Int)(v:Int):=
 (loop (fC s v) 0).bind (B6)
def PF(b x5:List Int):=
 need (x5.length=b.length) (some x5)
def lL(b:List Int)(at_:Int)(text:List UInt8):((List Int)×Int)->Option (Step ((List Int)×Int) (List Int))
 |(x3,x4)=>need (x3.length=b.length) ((if decide (x4<(text.length:Int)) then(idx text x4).bind λx6=>(idx x3 (bA (at_+x4))).bind λx7=>some (.next (x3.set ((bA (at_+x4)).toNat) (x6.toNat:Int),bA (x4+1))) else some (.stop (x3))))
def PG(b:List Int):(List Int)->Option (List Int)
 |x5=>PF b x5
def m7(b:List Int)(at_:Int)(text:List UInt8):=
 (loop (lL b at_ text) (b,0)).bind (PG b)
def A8(width:Int):=
 (b7 width 1 7).bind λx1=>some x1
def aQM(x8:List UInt8):=
 some x8
def qY:(Int×(List UInt8)×Int)->Option (Step (Int×(List UInt8)×Int) (List UInt8))
 |(x5,x6,x7)=>(if decide (0<=x7) then(idx x6 x7).bind λx9=>some (.next (pN .i64 x5 8,x6.set x7.toNat (u8 x5),bA (x7-1))) else some (.stop (x6)))
def aQN:(List UInt8)->Option (List UInt8)
 |x8=>aQM x8
def wZ(n width:Int)(x1:Bool):=
 (if x1 then some ([]) else need (0<=(width:Int)/\(width:Int)<=4294967296) ((loop (qY) (n,List.replicate (width.toNat) 0,bA (width-1))).bind (aQN)))
def mG(n width:Int):=
 (A8 width).bind λx10=>(if !x10 then wZ n width true else(if decide (n<0) then wZ n width true else need (0<=(IntKind.u64.wrap (bA (8*width)):Int)) (wZ n width (decide ((aLZ .i64 1 (IntKind.u64.wrap (bA (8*width))))<=n)))))
def xA(h:Heap):=
 (gE h.Bytes).bind λx1=>(gE h.Class).bind λx2=>some (⟨x1,x2⟩:Heap)
def FN:=
 some (-1)
def jK(s:List Int)(f:(Int->Option Bool)):Int->Option (Step Int (Out Unit Int))
 |x2=>(if decide (x2<(s.length:Int)) then(idx s x2).bind λx3=>(f x3).bind λx4=>(if x4 then some (.stop (Out.ret x2)) else some (.next (bA (x2+1)))) else some (.stop (Out.brk ())))
def sN:(Out Unit Int)->Option Int
 |.brk ()=>FN
 |.ret r=>some r
def zD(s:List Int)(f:(Int->Option Bool)):=
 (loop (jK s f) 0).bind (sN)
def eZ(s:List Int)(f:(Int->Option Bool)):=
 (zD s f).bind λx1=>some (decide (0<=x1))
def YU(x:Int):=
 (b7 x 0 255).bind λx1=>some x1
def HB(x:Int):=
 (YU x).bind λx1=>some (!x1)
def D5(x1:Bool):=
 some x1
def N8(b:List Int):=
 (if decide ((b.length:Int)<=1000) then(eZ b (λy0=>HB y0)).bind λx2=>D5 (!x2) else D5 false)
def KI(c:Int):=
 (b7 c (-1) 2).bind λx1=>some (!x1)
def sO(x1:Bool):=
 some x1
def LG(h:Heap):=
 (if(h.Bytes.length:Int) == 384 then(N8 h.Bytes).bind λx2=>(if x2 then(if(h.Class.length:Int) == 6 then(eZ h.Class (λy0=>KI y0)).bind λx3=>sO (!x3) else sO false) else sO false) else sO false)
def aJF(x5:Int):=
 some x5
def v7(b:List Int)(at_ width:Int):(Int×Int)->Option (Step (Int×Int) Int)
 |(x3,x4)=>(if decide (x4<(((b.take ((bA (at_+width)).toNat)).drop at_.toNat).length:Int)) then(idx ((b.take ((bA (at_+width)).toNat)).drop at_.toNat) x4).bind λx6=>some (.next (bA ((bA (256*x3))+x6),bA (x4+1))) else some (.stop (x3)))
def aJG:Int->Option Int
 |x5=>aJF x5
def qF(b:List Int)(at_ width:Int):=
 need (0<=(at_:Int)/\(at_:Int)<=(bA (at_+width):Int)/\(bA (at_+width):Int)<=(b.length:Int)) ((loop (v7 b at_ width) (0,0)).bind (aJG))
def xB(c:Int):=
 (lB c).bind λx1=>(if !x1 then some 0 else(FM c).bind λx2=>some (bA (4+x2)))
def qG(c:Int):=
 (lB c).bind λx1=>(if !x1 then some 0 else(xB c).bind λx2=>need (x2≠0) (some (bA (Int.tdiv 56 x2))))
def KJ(x:Int):=
 some (x != 0)
def LH(b:List Int):=
 (eZ b (λy0=>KJ y0)).bind λx1=>some (!x1)
def aM2:=
 some true
def sP(h:Heap)(page x1 x4:Int):Int->Option (Step Int (Out Unit Bool))
 |x6=>(if decide (x6<x4) then(xB x1).bind λx7=>(qF ((h.Bytes.take ((bA ((bA (page+1))*64)).toNat)).drop ((bA (page*64)).toNat)) (bA (8+(bA (x6*x7)))) 4).bind λx8=>(b7 x8 1 7).bind λx9=>(if !x9 then some (.stop (Out.ret false)) else some (.next (bA (x6+1)))) else some (.stop (Out.brk ())))
def aM3:(Out Unit Bool)->Option Bool
 |.brk ()=>aM2
 |.ret r=>some r
def jX(h:Heap)(page x1:Int)(x3:Bool):=
 (if x3 then some false else(qG x1).bind λx4=>(loop (sP h page x1 x4) 0).bind (aM3))
def RV(h:Heap)(page:Int):=
 (idx h.Class page).bind λx1=>need (0<=(bA (page*64):Int)/\(bA (page*64):Int)<=(bA ((bA (page+1))*64):Int)/\(bA ((bA (page+1))*64):Int)<=(h.Bytes.length:Int)) ((if decide (x1<0) then(LH ((h.Bytes.take ((bA ((bA (page+1))*64)).toNat)).drop ((bA (page*64)).toNat))).bind λx2=>some x2 else(idx ((h.Bytes.take ((bA ((bA (page+1))*64)).toNat)).drop ((bA (page*64)).toNat)) 0).bind λx10=>(if x10 != 171 then jX h page x1 true else(idx ((h.Bytes.take ((bA ((bA (page+1))*64)).toNat)).drop ((bA (page*64)).toNat)) 1).bind λx11=>(if x11 != x1 then jX h page x1 true else(idx ((h.Bytes.take ((bA ((bA (page+1))*64)).toNat)).drop ((bA (page*64)).toNat)) 2).bind λx12=>(qG x1).bind λx13=>(if x12 != x13 then jX h page x1 true else need (0<=(3:Int)/\(3:Int)<=(8:Int)/\(8:Int)<=(((h.Bytes.take ((bA ((bA (page+1))*64)).toNat)).drop ((bA (page*64)).toNat)).length:Int)) ((LH ((((h.Bytes.take ((bA ((bA (page+1))*64)).toNat)).drop ((bA (page*64)).toNat)).take ((8:Int).toNat)).drop ((3:Int).toNat))).bind λx14=>jX h page x1 (!x14)))))))
def aM4:=
 some true
def zE(h:Heap):Int->Option (Step Int (Out Unit Bool))
 |x3=>(if decide (x3<6) then(RV h x3).bind λx4=>(if !x4 then some (.stop (Out.ret false)) else some (.next (bA (x3+1)))) else some (.stop (Out.brk ())))
def aM5:(Out Unit Bool)->Option Bool
 |.brk ()=>aM4
 |.ret r=>some r
def LI(h:Heap):=
 (LG h).bind λx1=>(if !x1 then some false else(loop (zE h) 0).bind (aM5))
def CX(slot c:Int)(x1:Bool):=
 (if x1 then some (-1) else(xB c).bind λx2=>some (bA ((bA ((bA ((bA (Int.tdiv slot 4))*64))+8))+(bA ((Int.tmod slot 4)*x2)))))
def zF(slot c:Int):=
 (uH slot).bind λx3=>(if !x3 then CX slot c true else(lB c).bind λx4=>(if !x4 then CX slot c true else(qG c).bind λx5=>CX slot c (decide (x5<=(Int.tmod slot 4)))))
def HC(page index:Int)(x1:Bool):=
 (if x1 then some (-1) else some (bA ((bA (page*4))+index)))
def RW(page index:Int):=
 (b7 page 0 5).bind λx2=>(if !x2 then HC page index true else(b7 index 0 3).bind λx3=>HC page index (!x3))
def aQO(c:Int)(x1:Heap)(x2:Int)(x13 x14:List Int):=
 some ((⟨x14,x1.Class.set x2.toNat c⟩:Heap),x13)
def SN(x10:List Int)(x11 x15:Int)(x16:List Int):Option (Step ((List Int)×Int×(List Int)) ((List Int)×(List Int))):=
 need (x10.length+([x15]).length<=1073741824) (some (.next (x10++([x15]),bA (x11+1),x16)))
def KK(c x2 x6:Int):((List Int)×Int×(List Int))->Option (Step ((List Int)×Int×(List Int)) ((List Int)×(List Int)))
 |(x10,x11,x12)=>(if decide (x11<x6) then(RW x2 x11).bind λx15=>(zF x15 c).bind λx17=>(mG 1 4).bind λx18=>(m7 x12 x17 x18).bind λx19=>SN x10 x11 x15 x19 else some (.stop ((x10,x12))))
def aQP(c:Int)(x1:Heap)(x2:Int):((List Int)×(List Int))->Option (Heap×(List Int))
 |(x13,x14)=>aQO c x1 x2 x13 x14
def SO(c:Int)(x1:Heap)(x2:Int)(x5:List Int):=
 (qG c).bind λx6=>(loop (KK c x2 x6) (([]:List Int),0,x5)).bind (aQP c x1 x2)
def CY(c:Int)(x1:Heap)(x2:Int)(x3:Bool):=
 (if x3 then some (x1,([]:List Int)) else(idx x1.Class x2).bind λx4=>need (0<=(bA (x2*64):Int)/\(bA (x2*64):Int)<=(x1.Bytes.length:Int))<|(qG c).bind λx20=>SO c x1 x2 (dL x1.Bytes ((bA (x2*64)).toNat) ([171,c,x20]:List Int)))
def JN(h:Heap)(c:Int):=
 (xA h).bind λx1=>(nE h.Class (-1)).bind λx2=>(LI h).bind λx21=>(if !x21 then CY c x1 x2 true else(lB c).bind λx22=>(if !x22 then CY c x1 x2 true else CY c x1 x2 (decide (x2<0))))
def ME(x4:Int)(x5:Mem):=
 some (x5,x4)
def MF(c:Int)(x1:Heap×(List Int))(x2:Mem):=
 (if(x1.2.length:Int) == 0 then some (x2,(-1)) else(idx x2.aD.Global c).bind λx3=>need (0<=(1:Int)/\(1:Int)<=(x1.2.length:Int)) (need (x3.aU.length+((x1.2.take x1.2.length).drop ((1:Int).toNat)).length<=1073741824) ((idx x1.2 0).bind λx6=>ME x6 (⟨x2.Heap,(⟨x2.aD.Global.set c.toNat (⟨x3.aU++((x1.2.take x1.2.length).drop ((1:Int).toNat))⟩:aZ),x2.aD.Own⟩:aD)⟩:Mem))))
def N9(m:Mem)(c:Int):=
 (JN m.Heap c).bind λx1=>(iX m.aD).bind λx7=>MF c x1 (⟨x1.1,x7⟩:Mem)
def D6(h:Heap)(slot:Int)(x1:Bool):=
 (if x1 then some (-1) else(idx h.Class (bA (Int.tdiv slot 4))).bind λx2=>some x2)
def lC(h:Heap)(slot:Int):=
 (uH slot).bind λx3=>(if !x3 then D6 h slot true else(idx h.Class (bA (Int.tdiv slot 4))).bind λx4=>(zF slot x4).bind λx5=>D6 h slot (decide (x5<0)))
def HD(h:Heap)(slot:Int):=
 (LG h).bind λx1=>(if !x1 then some (-1) else(lC h slot).bind λx2=>some x2)
def EW(h:Heap)(slot:Int):=
 (HD h slot).bind λx1=>(if decide (x1<0) then some 0 else(zF slot x1).bind λx2=>(qF h.Bytes x2 4).bind λx3=>some x3)
def A9(slot gen:Int)(x1:Bool):=
 (if x1 then some 0 else some (bA ((bA (gen*32))+slot)))
def SP(slot gen:Int):=
 (uH slot).bind λx2=>(if !x2 then A9 slot gen true else(b7 gen 1 6).bind λx3=>A9 slot gen (!x3))
def KL(m:Mem)(slot:Int):=
 (EW m.Heap slot).bind λx1=>(SP slot x1).bind λx2=>some x2
def iW(s:Sub)(x3:Int)(x4:aA):=
 (if decide (0<=x3) then(KL x4.Mem x3).bind λx5=>(bQ ({s with Out:=x5}:Sub) 0).bind λx6=>some (x6,x4) else(if s.Pc == 3 then(bQ s 3).bind λx7=>some (x7,x4) else some (({s with Pc:=bA (s.Pc+1)}:Sub),x4)))
def oL(s:Sub)(b:aA)(x1:Int)(x9:Bool):=
 (if x9 then(D4 b.Mem.aD x1).bind λx10=>iW s x10.2 ({b with Mem:=(⟨b.Mem.Heap,x10.1⟩:Mem)}:aA) else(if s.Pc == 2 then(N9 b.Mem x1).bind λx11=>iW s x11.2 ({b with Mem:=x11.1}:aA) else(bQ s 1).bind λx12=>some (x12,b)))
def uR(s:Sub)(b:aA)(w_:Int):=
 (N6 s.A).bind λx1=>(if decide (x1<0) then(bQ s 2).bind λx2=>some (x2,b) else(if s.Pc == 0 then(N7 b.Mem.aD w_ x1).bind λx8=>iW s x8.2 ({b with Mem:=(⟨b.Mem.Heap,x8.1⟩:Mem)}:aA) else(if s.Pc == 1 then oL s b x1 true else oL s b x1 (s.Pc == 3))))
def BT:=
 some (-1)
def kH(s:List bM)(f:(bM->Option Bool)):Int->Option (Step Int (Out Unit Int))
 |x2=>(if decide (x2<(s.length:Int)) then(idx s x2).bind λx3=>(f x3).bind λx4=>(if x4 then some (.stop (Out.ret x2)) else some (.next (bA (x2+1)))) else some (.stop (Out.brk ())))
def BU:(Out Unit Int)->Option Int
 |.brk ()=>BT
 |.ret r=>some r
def uS(s:List bM)(f:(bM->Option Bool)):=
 (loop (kH s f) 0).bind (BU)
def iP(s:List bM)(f:(bM->Option Bool)):=
 (uS s f).bind λx1=>some (decide (0<=x1))
def CZ:=
 some (-1)
def lD(s:List dW)(f:(dW->Option Bool)):Int->Option (Step Int (Out Unit Int))
 |x2=>(if decide (x2<(s.length:Int)) then(idx s x2).bind λx3=>(f x3).bind λx4=>(if x4 then some (.stop (Out.ret x2)) else some (.next (bA (x2+1)))) else some (.stop (Out.brk ())))
def C0:(Out Unit Int)->Option Int
 |.brk ()=>CZ
 |.ret r=>some r
def xI(s:List dW)(f:(dW->Option Bool)):=
 (loop (lD s f) 0).bind (C0)
def iY(s:List dW)(f:(dW->Option Bool)):=
 (xI s f).bind λx1=>some (decide (0<=x1))
def BA(x1:Bool):=
 some x1
def iJ(h:Int):=
 (b7 h 32 223).bind λx2=>(if x2 then BA (decide ((Int.tmod h 32)<24)) else BA false)
def rN(x1:Bool):=
 some x1
def sQ(r_:dW)(k0:Int):=
 (iJ r_.Handle).bind λx2=>(if x2 then rN ((Int.tmod r_.Handle 32) == k0) else rN false)
def HE(own:bM)(k0:Int):=
 (iY own.Rows (λy0=>sQ y0 k0)).bind λx1=>some x1
def HF(l:List bM)(slot:Int):=
 (iP l (λy0=>HE y0 slot)).bind λx1=>some x1
def j3(s:List Int)(v:Int):=
 (nE s v).bind λx1=>some (decide (0<=x1))
def qZ(s:aZ)(k0:Int):=
 (j3 s.aU k0).bind λx1=>some x1
def BV:=
 some (-1)
def kI(s:List aZ)(f:(aZ->Option Bool)):Int->Option (Step Int (Out Unit Int))
 |x2=>(if decide (x2<(s.length:Int)) then(idx s x2).bind λx3=>(f x3).bind λx4=>(if x4 then some (.stop (Out.ret x2)) else some (.next (bA (x2+1)))) else some (.stop (Out.brk ())))
def BW:(Out Unit Int)->Option Int
 |.brk ()=>BV
 |.ret r=>some r
def uU(s:List aZ)(f:(aZ->Option Bool)):=
 (loop (kI s f) 0).bind (BW)
def iQ(s:List aZ)(f:(aZ->Option Bool)):=
 (uU s f).bind λx1=>some (decide (0<=x1))
def HH(x1:Bool):=
 some x1
def LJ(l:aD)(slot:Int):=
 (iQ l.Global (λy0=>qZ y0 slot)).bind λx2=>(if x2 then HH true else(iQ l.Own (λy0=>qZ y0 slot)).bind λx3=>HH x3)
def OA(m:Mem)(slot:Int):Option Int:=
 (lC m.Heap slot).bind λx1=>(if decide (x1<0) then some 0 else(LJ m.aD slot).bind λx2=>(if x2 then some 1 else(EW m.Heap slot).bind λx3=>(if decide (6<x3) then some 2 else some 3)))
def zG(x1:Bool):=
 some x1
def zH(m:Mem)(h:Int):=
 (iJ h).bind λx2=>(if x2 then(OA m (Int.tmod h 32)).bind λx3=>(if x3 == 3 then(EW m.Heap (Int.tmod h 32)).bind λx4=>zG (x4 == (bA (Int.tdiv h 32))) else zG false) else zG false)
def xS(s:List dW):=
 need (([]:List dW).length+s.length<=1073741824) (some (([]:List dW)++s))
def aED(x5:List bM):=
 some x5
def HI(l:List bM):((List bM)×Int)->Option (Step ((List bM)×Int) (List bM))
 |(x3,x4)=>(if decide (x4<(l.length:Int)) then(idx l x4).bind λx6=>(xS x6.Rows).bind λx7=>need (x3.length+([(⟨x7⟩:bM)]).length<=1073741824) (some (.next (x3++([(⟨x7⟩:bM)]),bA (x4+1)))) else some (.stop (x3)))
def aEE:(List bM)->Option (List bM)
 |x5=>aED x5
def lM(l:List bM):=
 (loop (HI l) (([]:List bM),0)).bind (aEE)
def aEF(x5:Int):=
 some x5
def qH(l:List bM):(Int×Int)->Option (Step (Int×Int) Int)
 |(x3,x4)=>(if decide (x4<(l.length:Int)) then(idx l x4).bind λx6=>some (.next (bA (x3+(x6.Rows.length:Int)),bA (x4+1))) else some (.stop (x3)))
def aEG:Int->Option Int
 |x5=>aEF x5
def HJ(l:List bM):=
 (loop (qH l) (0,0)).bind (aEG)
def XD(l:List bM):=
 (HJ l).bind λx5=>some (decide (x5<=24))
def XE(x3:Int)(x11:List Bool):Option (Step (Int×(List Bool)) (Out Unit Bool)):=
 some (.next (bA (x3+1),x11))
def mH(x9:Int)(x10:List Bool)(x12:dW)(x13:Bool):Option (Step (Int×(List Bool)) (Out (List Bool) Bool)):=
 (if x13 then some (.stop (Out.ret false)) else need (0<=(Int.tmod x12.Handle 32:Int)/\(Int.tmod x12.Handle 32:Int)<24) ((idx (x10:List Bool) (Int.tmod x12.Handle 32)).bind λx14=>some (.next (bA (x9+1),x10.set ((Int.tmod x12.Handle 32).toNat) true))))
def v8(x6:bM):(Int×(List Bool))->Option (Step (Int×(List Bool)) (Out (List Bool) Bool))
 |(x9,x10)=>(if decide (x9<(x6.Rows.length:Int)) then(idx x6.Rows x9).bind λx12=>(iJ x12.Handle).bind λx15=>(if !x15 then mH x9 x10 x12 true else(b7 x12.aP 0 100000).bind λx16=>(if !x16 then mH x9 x10 x12 true else need (0<=(Int.tmod x12.Handle 32:Int)/\(Int.tmod x12.Handle 32:Int)<24) ((idx (x10:List Bool) (Int.tmod x12.Handle 32)).bind λx17=>mH x9 x10 x12 x17))) else some (.stop (Out.brk x10)))
def XF(x3:Int):(Out (List Bool) Bool)->Option (Step (Int×(List Bool)) (Out Unit Bool))
 |.brk x11=>XE x3 x11
 |.ret r=>some (.stop (Out.ret r))
def wA(l:List bM):(Int×(List Bool))->Option (Step (Int×(List Bool)) (Out Unit Bool))
 |(x3,x4)=>(if decide (x3<(l.length:Int)) then(idx l x3).bind λx6=>(loop (v8 x6) (0,x4)).bind (XF x3) else some (.stop (Out.brk ())))
def XG(l:List bM):(Out Unit Bool)->Option Bool
 |.brk ()=>XD l
 |.ret r=>some r
def uV(l:List bM):=
 (if(l.length:Int) != 3 then some false else(loop (wA l) (0,List.replicate 24 false)).bind (XG l))
def BC(l:List bM)(w_ h e_:Int)(x1:Bool):=
 (if x1 then(lM l).bind λx2=>some (x2,false) else(lM l).bind λx3=>(idx x3 w_).bind λx4=>need (x4.Rows.length+([(⟨h,e_⟩:dW)]).length<=1073741824) ((uV (x3.set w_.toNat (⟨x4.Rows++([(⟨h,e_⟩:dW)])⟩:bM))).bind λx5=>(if !x5 then(lM l).bind λx6=>some (x6,false) else some (x3.set w_.toNat (⟨x4.Rows++([(⟨h,e_⟩:dW)])⟩:bM),true))))
def KM(l:List bM)(w_ h e_:Int):=
 (uV l).bind λx7=>(if !x7 then BC l w_ h e_ true else(gQ w_).bind λx8=>BC l w_ h e_ (!x8))
def mY(s:Sub)(b:aA)(w_:Int)(x3:Bool):=
 (if x3 then(bQ s 4).bind λx4=>some (x4,b) else(KM b.aV w_ s.A s.E).bind λx5=>(bQ s 0).bind λx6=>some (x6,({b with aV:=x5.1}:aA)))
def mZ(s:Sub)(b:aA)(w_:Int)(x1:Bool):=
 (if x1 then(bQ s 1).bind λx2=>some (x2,b) else(zH b.Mem s.A).bind λx7=>(if !x7 then mY s b w_ true else(HF b.aV (Int.tmod s.A 32)).bind λx8=>mY s b w_ x8))
def rO(s:Sub)(b:aA)(w_:Int):=
 (if s.Pc == 0 then some (({s with Pc:=1,E:=b.aJ.aP}:Sub),b) else(if s.Pc != 1 then mZ s b w_ true else(b7 s.E 0 b.aJ.aP).bind λx9=>mZ s b w_ (!x9)))
def BD(s:List yK):=
 need (([]:List yK).length+s.length<=1073741824) (some (([]:List yK)++s))
def lN(c:aJ):=
 (BD c.b8).bind λx1=>some (⟨c.aP,x1⟩:aJ)
def FO:=
 some (-1)
def jL(s:List yK)(f:(yK->Option Bool)):Int->Option (Step Int (Out Unit Int))
 |x2=>(if decide (x2<(s.length:Int)) then(idx s x2).bind λx3=>(f x3).bind λx4=>(if x4 then some (.stop (Out.ret x2)) else some (.next (bA (x2+1)))) else some (.stop (Out.brk ())))
def sS:(Out Unit Int)->Option Int
 |.brk ()=>FO
 |.ret r=>some r
def zI(s:List yK)(f:(yK->Option Bool)):=
 (loop (jL s f) 0).bind (sS)
def l5(s:List yK)(f:(yK->Option Bool)):=
 (zI s f).bind λx1=>some (decide (0<=x1))
def l6(x1:Bool):=
 some x1
def zJ(p:yK)(k0:aJ):=
 (b7 p.aP 0 k0.aP).bind λx2=>(if !x2 then l6 true else(b7 p.Seen 0 2).bind λx3=>(if !x3 then l6 true else(if !p.On then l6 (!(decide (p=(⟨false,0,false,0⟩:yK)))) else l6 false)))
def wB(x1:Bool):=
 some x1
def qI(c:aJ):=
 (b7 c.aP 0 100000).bind λx2=>(if x2 then(if(c.b8.length:Int) == 3 then(l5 c.b8 (λy0=>zJ y0 c)).bind λx3=>wB (!x3) else wB false) else wB false)
def sU(w_:Int)(x1:aJ)(x4:Bool):=
 (if x4 then some (x1,true) else(idx x1.b8 w_).bind λx5=>(if decide (x5.Seen<2) then some ((⟨x1.aP,x1.b8.set w_.toNat ({x5 with Seen:=bA (x5.Seen+1)}:yK)⟩:aJ),false) else some ((⟨x1.aP,x1.b8.set w_.toNat ({x5 with iV:=true,Seen:=0}:yK)⟩:aJ),true)))
def HK(w_ e_:Int)(x1:aJ)(x2:Bool):=
 (if x2 then some (x1,false) else(idx x1.b8 w_).bind λx3=>(if !x3.On then sU w_ x1 true else(if x3.iV then sU w_ x1 true else sU w_ x1 (x3.aP == e_))))
def RX(c:aJ)(w_ e_:Int):=
 (lN c).bind λx1=>(qI c).bind λx6=>(if !x6 then HK w_ e_ x1 true else(gQ w_).bind λx7=>HK w_ e_ x1 (!x7))
def HL(x1:aJ)(x2:Bool):=
 (if x2 then some (x1,false) else some ((⟨bA (x1.aP+1),x1.b8⟩:aJ),true))
def aAH(c:aJ)(e_:Int):=
 (lN c).bind λx1=>(qI c).bind λx3=>(if !x3 then HL x1 true else(if c.aP != e_ then HL x1 true else HL x1 (c.aP == 100000)))
def l7(s:Sub)(b:aA)(x4:aJ×Bool)(x5:Int):=
 (bQ ({s with Out:=x5}:Sub) 0).bind λx6=>some (x6,({b with aJ:=x4.1}:aA))
def l8(s:Sub)(b:aA)(x1:Bool):=
 (if x1 then(RX b.aJ s.B s.E).bind λx2=>(if !x2.2 then(bQ s 8).bind λx3=>some (x3,({b with aJ:=x2.1}:aA)) else(if(bA (s.B+1)) == 3 then some (({s with Pc:=2,B:=bA (s.B+1)}:Sub),({b with aJ:=x2.1}:aA)) else some (({s with B:=bA (s.B+1)}:Sub),({b with aJ:=x2.1}:aA)))) else(if s.Pc == 2 then(aAH b.aJ s.E).bind λx4=>(if x4.2 then l7 s b x4 1 else l7 s b x4 s.Out) else(bQ s 1).bind λx7=>some (x7,b)))
def qJ(s:Sub)(b:aA):=
 (if s.Pc == 0 then some (({s with Pc:=1,E:=b.aJ.aP,B:=0}:Sub),b) else(if s.Pc == 1 then(gQ s.B).bind λx8=>l8 s b x8 else l8 s b false))
def PH(x3 x5:List Int):=
 some ((⟨x5,x3⟩:Heap),true)
def HM(slot gen x1:Int)(x2 x3:List Int)(x4:Bool):=
 (if x4 then some ((⟨x2,x3⟩:Heap),false) else(zF slot x1).bind λx6=>(mG gen 4).bind λx7=>(m7 x2 x6 x7).bind λx8=>PH x3 x8)
def PI(slot gen x1:Int)(x2 x3:List Int):=
 (if decide (x1<0) then HM slot gen x1 x2 x3 true else(b7 gen 1 7).bind λx9=>HM slot gen x1 x2 x3 (!x9))
def YV(h:Heap)(slot gen:Int):=
 (xA h).bind λx10=>(HD h slot).bind λx11=>PI slot gen x11 x10.Bytes x10.Class
def BE(c slot:Int)(x1:aD)(x2:Int)(x3:Bool):=
 (if x3 then some (x1,false) else(idx x1.Own x2).bind λx4=>(if decide (2<=(x4.aU.length:Int)) then(idx x1.Global c).bind λx5=>need (x5.aU.length+([slot]).length<=1073741824) (some ((⟨x1.Global.set c.toNat (⟨x5.aU++([slot])⟩:aZ),x1.Own⟩:aD),true)) else need (x4.aU.length+([slot]).length<=1073741824) (some ((⟨x1.Global,x1.Own.set x2.toNat (⟨x4.aU++([slot])⟩:aZ)⟩:aD),true))))
def aGH(l:aD)(w_ c slot:Int):=
 (iX l).bind λx1=>(PE w_ c).bind λx2=>(qE l).bind λx6=>(if !x6 then BE c slot x1 x2 true else(if decide (x2<0) then BE c slot x1 x2 true else(uH slot).bind λx7=>(if !x7 then BE c slot x1 x2 true else(LJ l slot).bind λx8=>BE c slot x1 x2 x8)))
def SQ(x3:Mem):=
 some x3
def SR(m:Mem)(w_ h:Int)(x2:Mem):=
 (if decide ((bA ((bA (Int.tdiv h 32))+1))<=6) then(lC m.Heap (Int.tmod h 32)).bind λx4=>(aGH m.aD w_ x4 (Int.tmod h 32)).bind λx5=>SQ (⟨x2.Heap,x5.1⟩:Mem) else SQ x2)
def PJ(m:Mem)(w_ h:Int):=
 (YV m.Heap (Int.tmod h 32) (bA ((bA (Int.tdiv h 32))+1))).bind λx1=>(iX m.aD).bind λx6=>SR m w_ h (⟨x1.1,x6⟩:Mem)
def HN(x1:Bool):=
 some x1
def LK(l:List bM)(w_ i:Int):=
 (gQ w_).bind λx2=>(if x2 then(idx l w_).bind λx3=>(b7 i 0 (bA ((x3.Rows.length:Int)-1))).bind λx4=>HN x4 else HN false)
def OB(x1:Bool):=
 some x1
def UK(r_:dW)(e_:Int):=
 (if decide (2<=e_) then OB (decide (r_.aP<=(bA (e_-2)))) else OB false)
def LL(s:Sub)(b:aA):=
 (bQ s 0).bind λx3=>some (x3,b)
def fQ(s:Sub)(b:aA)(w_:Int):Int->Option (Step Int (Out Unit (Sub×aA)))
 |x2=>(idx b.aV w_).bind λx4=>(if decide (x2<(x4.Rows.length:Int)) then(idx x4.Rows x2).bind λx5=>(UK x5 s.E).bind λx6=>(if x6 then some (.stop (Out.ret (({s with Pc:=2,Row:=x2,B:=0,H:=x5.Handle}:Sub),b))) else some (.next (bA (x2+1)))) else some (.stop (Out.brk ())))
def YW(s:Sub)(b:aA):(Out Unit (Sub×aA))->Option (Sub×aA)
 |.brk ()=>LL s b
 |.ret r=>some r
def qK(s:Sub)(b:aA)(w_:Int):=
 (loop (fQ s b w_) (if s.Row<0 then 0 else s.Row)).bind (YW s b)
def EX(s:List dW)(i j:Int):=
 need (0<=(i:Int)/\(i:Int)<=(j:Int)/\(j:Int)<=((s.length:Int):Int)/\((s.length:Int):Int)<=(s.length:Int)) ((if i == j then some s else need (0<=(i:Int)/\(i:Int)<=(s.length:Int)) (need (0<=(j:Int)/\(j:Int)<=(s.length:Int)) (need (i.toNat<=j.toNat) (need (0<=(((((dL s i.toNat (s.drop j.toNat)).take (i.toNat+(s.length-j.toNat))).drop 0).length:Int):Int)/\(((((dL s i.toNat (s.drop j.toNat)).take (i.toNat+(s.length-j.toNat))).drop 0).length:Int):Int)<=((s.length:Int):Int)/\((s.length:Int):Int)<=((dL s i.toNat (s.drop j.toNat)).length:Int)) (some (((dL s i.toNat (s.drop j.toNat)).take (i.toNat+(s.length-j.toNat))).drop 0)))))))
def D7(w_ i:Int)(x1:(List bM))(x2:Bool):=
 (if x2 then some (x1,false) else(idx x1 w_).bind λx3=>(EX x3.Rows i (bA (i+1))).bind λx4=>some (x1.set w_.toNat (⟨x4⟩:bM),true))
def OC(l:List bM)(w_ i:Int):=
 (lM l).bind λx1=>(uV l).bind λx5=>(if !x5 then D7 w_ i x1 true else(LK l w_ i).bind λx6=>D7 w_ i x1 (!x6))
def dR(s:Sub)(b:aA)(w_:Int)(x5:Bool):=
 (if x5 then(OC b.aV w_ s.Row).bind λx6=>(PJ b.Mem w_ s.H).bind λx7=>some (({s with Pc:=1,Out:=bA (s.Out+1)}:Sub),({b with Mem:=x7,aV:=x6.1}:aA)) else(bQ s 1).bind λx8=>some (x8,b))
def fA(s:Sub)(b:aA)(w_:Int)(x1 x3:Bool):=
 (if x3 then(idx b.jJ s.B).bind λx4=>(if x4 == s.H then some (({s with Pc:=1,Row:=bA (s.Row+1)}:Sub),b) else(if(bA (s.B+1)) == 3 then some (({s with Pc:=3,B:=bA (s.B+1)}:Sub),b) else some (({s with B:=bA (s.B+1)}:Sub),b))) else(if s.Pc == 3 then(if x1 then(idx b.aV w_).bind λx9=>(idx x9.Rows s.Row).bind λx10=>(UK x10 s.E).bind λx11=>dR s b w_ x11 else dR s b w_ false) else dR s b w_ false))
def gG(s:Sub)(b:aA)(w_:Int)(x1:Bool):=
 (if s.Pc == 0 then some (({s with Pc:=1,E:=b.aJ.aP,Row:=0}:Sub),b) else(if s.Pc == 1 then(qK s b w_).bind λx2=>some (x2.1,x2.2) else(if s.Pc == 2 then(gQ s.B).bind λx12=>(if x12 then fA s b w_ x1 x1 else fA s b w_ x1 false) else fA s b w_ x1 false)))
def qL(s:Sub)(b:aA)(w_:Int):=
 (LK b.aV w_ s.Row).bind λx13=>(if x13 then(idx b.aV w_).bind λx14=>(idx x14.Rows s.Row).bind λx15=>gG s b w_ (x15.Handle == s.H) else gG s b w_ false)
def C1(w_ e_:Int)(x1:aJ)(x2:Bool):=
 (if x2 then some (x1,false) else(idx x1.b8 w_).bind λx3=>some ((⟨x1.aP,x1.b8.set w_.toNat (⟨true,e_,false,0⟩:yK)⟩:aJ),true))
def VV(c:aJ)(w_ e_:Int):=
 (lN c).bind λx1=>(qI c).bind λx4=>(if !x4 then C1 w_ e_ x1 true else(gQ w_).bind λx5=>(if !x5 then C1 w_ e_ x1 true else(b7 e_ 0 c.aP).bind λx6=>C1 w_ e_ x1 (!x6)))
def B7(s:Sub)(b:aA)(x1:Bool)(x2:Int)(x3:List yK):=
 (if !x1 then(bQ s 1).bind λx4=>some (x4,b) else some (({s with Pc:=2}:Sub),({b with aJ:=(⟨x2,x3⟩:aJ)}:aA)))
def BF(s:Sub)(b:aA)(w_:Int):=
 (if s.Pc == 0 then some (({s with Pc:=1,E:=b.aJ.aP}:Sub),b) else(if s.Pc == 1 then(VV b.aJ w_ s.E).bind λx5=>B7 s b x5.2 x5.1.aP x5.1.b8 else(if s.Pc == 2 then(if b.aJ.aP == s.E then(bQ s 0).bind λx6=>some (x6,b) else some (({s with Pc:=0}:Sub),b)) else(bQ s 1).bind λx7=>some (x7,b))))
def rA(s:Sub)(b:aA)(w_:Int):=
 (if s.jA then some (s,b) else(if s.Kind == 1 then(uR s b w_).bind λx1=>some (x1.1,x1.2) else(if s.Kind == 2 then(rO s b w_).bind λx2=>some (x2.1,x2.2) else(if s.Kind == 3 then(qJ s b).bind λx3=>some (x3.1,x3.2) else(if s.Kind == 4 then(qL s b w_).bind λx4=>some (x4.1,x4.2) else(if s.Kind == 5 then(BF s b w_).bind λx5=>some (x5.1,x5.2) else(bQ s 1).bind λx6=>some (x6,b)))))))
def uW(t:Table)(w_:Int):=
 (idx t.aK w_).bind λx1=>(rA x1.Sub t.aA w_).bind λx2=>(if !x2.1.jA then some ({t with aA:=x2.2,aK:=t.aK.set w_.toNat ({x1 with Sub:=x2.1}:aG)}:Table) else(if x1.Pc == 0 then some ({t with aA:=x2.2,aK:=t.aK.set w_.toNat ({x1 with Pc:=1,Sub:=x2.1}:aG)}:Table) else(if x1.Pc == 20 then(lK 4 0).bind λx3=>some ({t with aA:=x2.2,aK:=t.aK.set w_.toNat ({x1 with Pc:=21,Sub:=x3}:aG)}:Table) else some ({t with aA:=x2.2,aK:=t.aK.set w_.toNat ({x1 with Pc:=19,Sub:=x2.1}:aG)}:Table))))
def qM(j:aG):=
 (b7 j.At 0 (bA ((j.Batch.bD.length:Int)-1))).bind λx1=>(if !x1 then some ((⟨0,0,0⟩:kG),false,j) else(idx j.Batch.bD j.At).bind λx2=>some (x2,true,j))
def cW(j:aG)(code:Int):=
 some ({j with Pc:=16,Code:=code}:aG)
def nT(s:List aQ):=
 need (([]:List aQ).length+s.length<=1073741824) (some (([]:List aQ)++s))
def QE:=
 some (-1)
def oS(s:List aQ)(f:(aQ->Option Bool)):Int->Option (Step Int (Out Unit Int))
 |x2=>(if decide (x2<(s.length:Int)) then(idx s x2).bind λx3=>(f x3).bind λx4=>(if x4 then some (.stop (Out.ret x2)) else some (.next (bA (x2+1)))) else some (.stop (Out.brk ())))
def QF:(Out Unit Int)->Option Int
 |.brk ()=>QE
 |.ret r=>some r
def dB(s:List aQ)(f:(aQ->Option Bool)):=
 (loop (oS s f) 0).bind (QF)
def zK(x8:List aQ)(x9:Int):=
 need (0<=(x9:Int)/\(x9:Int)<=(x8.length:Int)) (need (0<=(x9:Int)/\(x9:Int)<=((dL x8 x9.toNat (List.replicate (x8.length-x9.toNat) (⟨0,false,0⟩:aQ))).length:Int)) (some (((dL x8 x9.toNat (List.replicate (x8.length-x9.toNat) (⟨0,false,0⟩:aQ))).take x9.toNat).drop 0)))
def iF(x7:Int)(x10:List aQ)(x11:Int):Option (Step ((List aQ)×Int×Int) ((List aQ)×Int)):=
 some (.next (x10,x11,bA (x7+1)))
def jY(del:(aQ->Option Bool)):((List aQ)×Int×Int)->Option (Step ((List aQ)×Int×Int) ((List aQ)×Int))
 |(x5,x6,x7)=>(if decide (x7<(x5.length:Int)) then(idx x5 x7).bind λx12=>(del x12).bind λx13=>(if !x13 then(idx x5 x6).bind λx14=>iF x7 (x5.set x6.toNat x12) (bA (x6+1)) else iF x7 x5 x6) else some (.stop ((x5,x6))))
def zL:((List aQ)×Int)->Option (List aQ)
 |(x8,x9)=>zK x8 x9
def jM(s:List aQ)(del:(aQ->Option Bool)):=
 (dB s del).bind λx1=>(if x1 == (-1) then some s else(loop (jY del) (s,x1,bA (x1+1))).bind (zL))
def MG(x k0:aQ):=
 some (x.Key == k0.Key)
def D8(x k0:aQ):=
 some (decide (k0.Key<x.Key))
def rP(s:List aQ)(i:Int)(v:List aQ):=
 need (0<=i/\i<=(s.length:Int)/\s.length+v.length<=1073741824) (some (s.take i.toNat++v++s.drop i.toNat))
def sV(w_:aQ)(x2:(List aQ))(x4:Int):=
 (rP x2 x4 ([w_])).bind λx5=>some x5
def KN(l:List aQ)(w_:aQ):=
 (nT l).bind λx1=>(jM x1 (λy0=>MG y0 w_)).bind λx2=>(dB x2 (λy0=>D8 y0 w_)).bind λx3=>(if decide (x3<0) then sV w_ x2 (x2.length:Int) else sV w_ x2 x3)
def sW(j:aG)(x:aQ):=
 (KN j.aE x).bind λx1=>(if decide (6<(x1.length:Int)) then(cW j 1).bind λx2=>some (false,x2) else some (true,({j with aE:=x1}:aG)))
def HO(x:aQ)(k0:Int):=
 some (x.Key == k0)
def OD(l:List aQ)(key:Int):=
 (dB l (λy0=>HO y0 key)).bind λx1=>(if decide (x1<0) then some ((⟨0,false,0⟩:aQ),false) else(idx l x1).bind λx2=>some (x2,true))
def aCT(a_ b:Int):=
 some (Int.tmod (bA (a_+b)) 65536)
def rQ(x5:aG):=
 some ({x5 with Pc:=1,At:=bA (x5.At+1)}:aG)
def mQ(x2:aG)(x3:Bool)(x4:Int):=
 need (x2.cJ.length+([(⟨x3,x4⟩:cJ)]).length<=1073741824)<|rQ ({x2 with cJ:=x2.cJ++([(⟨x3,x4⟩:cJ)])}:aG)
def mR(j:aG)(c:kG)(is:Bool)(x1:Int):=
 (if c.Kind == 4 then(aCT x1 c.eN).bind λx6=>(sW j (⟨c.Key,false,x6⟩:aQ)).bind λx7=>(if !x7.1 then some x7.2 else mQ x7.2 true x6) else mQ j is x1)
def sY(j:aG)(c:kG)(val:Int)(is:Bool):=
 (if !is then mR j c is 0 else mR j c is val)
def JO(key:Int):=
 (b7 key 0 99).bind λx1=>(if !x1 then some (-1) else some (Int.tmod key 2))
def HP(x1:kG×Bool×aG)(x6:Bool)(x7:aG)(x8:Int)(x9:Bool)(x10:Int):=
 (if x6 then(sY x7 x1.1 x10 (!x9)).bind λx11=>some x11 else(JO x1.1.Key).bind λx12=>some ({x7 with Pc:=2,bZ:=x12}:aG))
def jZ(x1:kG×Bool×aG)(x3:Bool)(x4:aG):=
 (if x3 then(sW x4 (⟨x1.1.Key,x1.1.Kind == 3,x1.1.eN⟩:aQ)).bind λx5=>(if x5.1 then need (x5.2.cJ.length+([(⟨false,0⟩:cJ)]).length<=1073741824) (some (⟨x5.2.kN,x5.2.Batch,x5.2.aI,x5.2.Pc,bA (x5.2.At+1),x5.2.K,x5.2.bZ,x5.2.dZ,x5.2.H,x5.2.gT,x5.2.Node,x5.2.Found,x5.2.Code,x5.2.Sub,x5.2.Reads,x5.2.aE,x5.2.cJ++([(⟨false,0⟩:cJ)]),x5.2.cT,x5.2.aS,x5.2.bE⟩:aG)) else some x5.2) else(OD x4.aE x1.1.Key).bind λx13=>HP x1 x13.2 x4 x13.1.Key x13.1.GC x13.1.eN)
def HQ(j:aG):=
 (qM j).bind λx1=>(if !x1.2.1 then(lK 1 16).bind λx2=>some (⟨x1.2.2.kN,x1.2.2.Batch,x1.2.2.aI,6,x1.2.2.At,0,x1.2.2.bZ,x1.2.2.dZ,x1.2.2.H,x1.2.2.gT,x1.2.2.Node,x1.2.2.Found,x1.2.2.Code,x2,x1.2.2.Reads,x1.2.2.aE,x1.2.2.cJ,x1.2.2.cT,x1.2.2.aS,x1.2.2.bE⟩:aG) else(if x1.1.Kind == 2 then jZ x1 true x1.2.2 else jZ x1 (x1.1.Kind == 3) x1.2.2))
def HR(h:Heap)(slot:Int):=
 (lC h slot).bind λx1=>(FM x1).bind λx2=>some (decide (10<=x2))
def OE(slot c:Int):=
 (zF slot c).bind λx1=>(if decide (x1<0) then some (-1) else some (bA (x1+4)))
def BG(h:Heap)(slot:Int):=
 (lC h slot).bind λx1=>(OE slot x1).bind λx2=>some x2
def RY(h:Heap)(slot:Int):=
 (BG h slot).bind λx1=>(qF h.Bytes x1 2).bind λx2=>(qF h.Bytes (bA (x1+2)) 4).bind λx3=>(qF h.Bytes (bA (x1+6)) 4).bind λx4=>some (⟨x2,x3,x4⟩:eD)
def HT(m:Mem)(h:Int)(x1:Bool):Option (eD×Int):=
 (if x1 then some ((⟨0,0,0⟩:eD),4) else(HR m.Heap (Int.tmod h 32)).bind λx2=>(if !x2 then some ((⟨0,0,0⟩:eD),2) else(RY m.Heap (Int.tmod h 32)).bind λx3=>some (x3,0)))
def LM(m:Mem)(h:Int):Option (eD×Int):=
 (iJ h).bind λx4=>(if !x4 then HT m h true else(lC m.Heap (Int.tmod h 32)).bind λx5=>HT m h (decide (x5<0)))
def oN(x1:Bool):=
 some x1
def EY(p:yK):=
 (if p.On then oN (!p.iV) else oN false)
def g9(n:eD):=
 (iJ n.Next).bind λx1=>(if !x1 then some 0 else some n.Next)
def qN(s:List Seen):=
 need (([]:List Seen).length+s.length<=1073741824) (some (([]:List Seen)++s))
def SS:=
 some (-1)
def iZ(s:List Seen)(f:(Seen->Option Bool)):Int->Option (Step Int (Out Unit Int))
 |x2=>(if decide (x2<(s.length:Int)) then(idx s x2).bind λx3=>(f x3).bind λx4=>(if x4 then some (.stop (Out.ret x2)) else some (.next (bA (x2+1)))) else some (.stop (Out.brk ())))
def C2:(Out Unit Int)->Option Int
 |.brk ()=>SS
 |.ret r=>some r
def eX(s:List Seen)(f:(Seen->Option Bool)):=
 (loop (iZ s f) 0).bind (C2)
def HU(s:Seen)(k0:Int):=
 some (s.bZ == k0)
def OF(l:List Seen)(b v:Int):=
 (qN l).bind λx1=>(eX l (λy0=>HU y0 b)).bind λx2=>(if decide (x2<0) then need (x1.length+([(⟨b,v⟩:Seen)]).length<=1073741824) (some (x1++([(⟨b,v⟩:Seen)]),true)) else(idx l x2).bind λx3=>some (x1,x3.dZ == v))
def uX(t:Table)(w_:Int)(x13:List aG)(x14:Bool):=
 (if x14 then(idx x13 w_).bind λx15=>some ({t with aK:=x13.set w_.toNat ({x15 with Pc:=5}:aG)}:Table) else some ({t with aK:=x13}:Table))
def EZ(t:Table)(w_:Int)(x13:List aG):=
 (idx x13 w_).bind λx16=>(if x16.Found then uX t w_ x13 true else uX t w_ x13 (x16.H == 0))
def PK(t:Table)(x26:List aG):=
 some ({t with aK:=x26}:Table)
def E0(t:Table)(w_:Int)(x6:kG×Bool×aG)(x21:List Seen)(x22:Bool):=
 (idx (t.aK.set w_.toNat x6.2.2) w_).bind λx23=>(if !x22 then(cW ({x23 with Reads:=x21}:aG) 7).bind λx24=>some ({t with aK:=(t.aK.set w_.toNat x6.2.2).set w_.toNat x24}:Table) else(if !x6.2.1 then(cW ({x23 with Reads:=x21}:aG) 1).bind λx25=>some ({t with aK:=(t.aK.set w_.toNat x6.2.2).set w_.toNat x25}:Table) else(sY ({x23 with Reads:=x21}:aG) x6.1 x23.Node.eN x23.Found).bind λx27=>PK t ((t.aK.set w_.toNat x6.2.2).set w_.toNat x27)))
def jB(t:Table)(w_:Int)(x6:kG×Bool×aG)(x18:Bool):=
 (if x18 then(idx (t.aK.set w_.toNat x6.2.2) w_).bind λx19=>(cW x19 7).bind λx20=>some ({t with aK:=(t.aK.set w_.toNat x6.2.2).set w_.toNat x20}:Table) else(idx (t.aK.set w_.toNat x6.2.2) w_).bind λx28=>(OF x28.Reads x28.bZ x28.dZ).bind λx29=>E0 t w_ x6 x29.1 x29.2)
def E1(t:Table)(w_ x2 x3 x4:Int):=
 (idx t.aK w_).bind λx5=>(qM x5).bind λx6=>(if x6.2.2.Pc == 2 then(if x4 != 0 then(cW x6.2.2 7).bind λx7=>some ({t with aK:=t.aK.set w_.toNat x7}:Table) else(if x2 == 0 then some ({t with aK:=t.aK.set w_.toNat (⟨x6.2.2.kN,x6.2.2.Batch,x6.2.2.aI,5,x6.2.2.At,x6.2.2.K,x6.2.2.bZ,x3,x2,x6.2.2.gT,(⟨0,0,0⟩:eD),false,x6.2.2.Code,x6.2.2.Sub,x6.2.2.Reads,x6.2.2.aE,x6.2.2.cJ,x6.2.2.cT,x6.2.2.aS,x6.2.2.bE⟩:aG)}:Table) else some ({t with aK:=t.aK.set w_.toNat (⟨x6.2.2.kN,x6.2.2.Batch,x6.2.2.aI,3,x6.2.2.At,x6.2.2.K,x6.2.2.bZ,x3,x2,x6.2.2.gT,(⟨0,0,0⟩:eD),false,x6.2.2.Code,x6.2.2.Sub,x6.2.2.Reads,x6.2.2.aE,x6.2.2.cJ,x6.2.2.cT,x6.2.2.aS,x6.2.2.bE⟩:aG)}:Table))) else(if x6.2.2.Pc == 3 then(LM t.aA.Mem x6.2.2.H).bind λx8=>some ({t with aK:=t.aK.set w_.toNat (⟨x6.2.2.kN,x6.2.2.Batch,x6.2.2.aI,4,x6.2.2.At,x6.2.2.K,x6.2.2.bZ,x6.2.2.dZ,x6.2.2.H,x6.2.2.gT,x8.1,x6.2.2.Found,x6.2.2.Code,x6.2.2.Sub,x6.2.2.Reads,x6.2.2.aE,x6.2.2.cJ,x6.2.2.cT,x6.2.2.aS,x6.2.2.bE⟩:aG)}:Table) else(if x6.2.2.Pc == 4 then(idx t.aA.aJ.b8 w_).bind λx9=>(EY x9).bind λx10=>(if !x10 then(cW x6.2.2 6).bind λx11=>some ({t with aK:=t.aK.set w_.toNat x11}:Table) else(if !x6.2.1 then(cW x6.2.2 1).bind λx12=>some ({t with aK:=t.aK.set w_.toNat x12}:Table) else(g9 x6.2.2.Node).bind λx17=>EZ t w_ (t.aK.set w_.toNat (⟨x6.2.2.kN,x6.2.2.Batch,x6.2.2.aI,3,x6.2.2.At,x6.2.2.K,x6.2.2.bZ,x6.2.2.dZ,x17,x6.2.2.gT,x6.2.2.Node,x6.2.2.Node.Key == x6.1.Key,x6.2.2.Code,x6.2.2.Sub,x6.2.2.Reads,x6.2.2.aE,x6.2.2.cJ,x6.2.2.cT,x6.2.2.aS,x6.2.2.bE⟩:aG)))) else(if x4 != 0 then jB t w_ x6 true else jB t w_ x6 (x3 != x6.2.2.dZ)))))
def D9(t:Table)(w_:Int):=
 (idx t.aK w_).bind λx1=>(idx t.aR x1.bZ).bind λx30=>E1 t w_ x30.Head x30.dZ x30.eA
def aTZ(x5:Int):=
 some x5
def HV(x4 x6:Int):Option (Step (Int×Int) Int):=
 some (.next (x6,bA (x4+1)))
def VW(l:List aQ)(n:Int):(Int×Int)->Option (Step (Int×Int) Int)
 |(x3,x4)=>(if decide (x4<(((l.take ((if(if(l.length:Int)<n then(l.length:Int) else n)<0 then 0 else(if(l.length:Int)<n then(l.length:Int) else n)).toNat)).drop 0).length:Int)) then(idx ((l.take ((if(if(l.length:Int)<n then(l.length:Int) else n)<0 then 0 else(if(l.length:Int)<n then(l.length:Int) else n)).toNat)).drop 0) x4).bind λx7=>(if !x7.GC then HV x4 (bA (x3+1)) else HV x4 x3) else some (.stop (x3)))
def aT0:Int->Option Int
 |x5=>aTZ x5
def UL(l:List aQ)(n:Int):=
 need (0<=(if(if(l.length:Int)<n then(l.length:Int) else n)<0 then 0 else(if(l.length:Int)<n then(l.length:Int) else n):Int)/\(if(if(l.length:Int)<n then(l.length:Int) else n)<0 then 0 else(if(l.length:Int)<n then(l.length:Int) else n):Int)<=(l.length:Int)) ((loop (VW l n) (0,0)).bind (aT0))
def B8(x11:Table):=
 some x11
def B9(w_:Int)(x10:Table):=
 (idx x10.aK w_).bind λx12=>(lK 1 16).bind λx13=>B8 ({x10 with aK:=x10.aK.set w_.toNat ({x12 with K:=bA (x12.K+1),Sub:=x13}:aG)}:Table)
def hJ(w_:Int)(x6:Bool)(x7:Table):=
 (if x6 then(idx x7.aK w_).bind λx8=>(cW x8 x8.Sub.Code).bind λx9=>some ({x7 with aK:=x7.aK.set w_.toNat x9}:Table) else(idx x7.aK w_).bind λx14=>need (x14.cT.length+([x14.Sub.Out]).length<=1073741824)<|B9 w_ ({x7 with aK:=x7.aK.set w_.toNat ({x14 with cT:=x14.cT++([x14.Sub.Out])}:aG)}:Table))
def CA(t:Table)(w_:Int)(x2:Bool):=
 (if x2 then(idx t.aK w_).bind λx3=>some ({t with aK:=t.aK.set w_.toNat ({x3 with Pc:=7,K:=0}:aG)}:Table) else(idx t.aK w_).bind λx4=>(rA x4.Sub t.aA w_).bind λx5=>(if !x5.1.jA then some ({t with aA:=x5.2,aK:=t.aK.set w_.toNat ({x4 with Sub:=x5.1}:aG)}:Table) else(if x5.1.Code != 0 then hJ w_ true ({t with aA:=x5.2,aK:=t.aK.set w_.toNat ({x4 with Sub:=x5.1}:aG)}:Table) else(iJ x5.1.Out).bind λx15=>(if !x15 then hJ w_ true ({t with aA:=x5.2,aK:=t.aK.set w_.toNat ({x4 with Sub:=x5.1}:aG)}:Table) else hJ w_ (decide (6<=(x4.cT.length:Int))) ({t with aA:=x5.2,aK:=t.aK.set w_.toNat ({x4 with Sub:=x5.1}:aG)}:Table)))))
def BH(t:Table)(w_:Int):=
 (idx t.aK w_).bind λx1=>(UL x1.aE (x1.aE.length:Int)).bind λx16=>CA t w_ (decide (x16<=x1.K))
def cmp_isNaN_int(x:Int):=
 some (x != x)
def wC(x1:Bool):=
 some x1
def cmp_Less_int(x y:Int):=
 (cmp_isNaN_int x).bind λx2=>(if x2 then(cmp_isNaN_int y).bind λx3=>(if !x3 then wC true else wC (decide (x<y))) else wC (decide (x<y)))
def jC(data x5:List Int):=
 need (x5.length=data.length) (some x5)
def nU(data:List Int)(x4:Int)(x10:List Int):Option (Step ((List Int)×Int) (List Int)):=
 need (x10.length=data.length) (some (.next (x10,bA (x4+1))))
def jD(data:List Int)(x9:Int)(x12:List Int):Option (Step ((List Int)×Int) (List Int)):=
 need (x12.length=data.length) (some (.next (x12,bA (x9-1))))
def dX(data x8:List Int)(x9:Int)(x11:Bool):Option (Step ((List Int)×Int) (List Int)):=
 need (x8.length=data.length) ((if x11 then(idx x8 (bA (x9-1))).bind λx13=>(idx x8 x9).bind λx14=>(idx (x8.set x9.toNat x13) (bA (x9-1))).bind λx15=>jD data x9 ((x8.set x9.toNat x13).set ((bA (x9-1)).toNat) x14) else some (.stop (x8))))
def dY(data:List Int)(a_:Int):((List Int)×Int)->Option (Step ((List Int)×Int) (List Int))
 |(x8,x9)=>need (x8.length=data.length) ((if decide (a_<x9) then(idx x8 x9).bind λx16=>(idx x8 (bA (x9-1))).bind λx17=>(cmp_Less_int x16 x17).bind λx18=>dX data x8 x9 x18 else dX data x8 x9 false))
def nV(data:List Int)(x4:Int):(List Int)->Option (Step ((List Int)×Int) (List Int))
 |x10=>nU data x4 x10
def dD(data:List Int)(a_ b:Int):((List Int)×Int)->Option (Step ((List Int)×Int) (List Int))
 |(x3,x4)=>need (x3.length=data.length) ((if decide (x4<b) then(loop (dY data a_) (x3,x4)).bind (nV data x4) else some (.stop (x3))))
def jE(data:List Int):(List Int)->Option (List Int)
 |x5=>jC data x5
def iC(data:List Int)(a_ b:Int):=
 (loop (dD data a_ b) (data,bA (a_+1))).bind (jE data)
def wD(data:List Int)(a_ b limit:Int):Unit->Option (Step Unit (List Int))
 |()=>(if decide ((bA (b-a_))<=12) then(iC data a_ b).bind λx1=>some (.stop (x1)) else(if limit == 0 then none else none))
def MH:(List Int)->Option (List Int)
 |r=>some r
def oT(data:List Int)(a_ b limit:Int):=
 (loop (wD data a_ b limit) ()).bind (MH)
def E2(x5 x6:Int):=
 (idx ([0,1,2,2,3,3,3,3,4,4,4,4,4,4,4,4,5,5,5,5,5,5,5,5,5,5,5,5,5,5,5,5,6,6,6,6,6,6,6,6,6,6,6,6,6,6,6,6,6,6,6,6,6,6,6,6,6,6,6,6,6,6,6,6,7,7,7,7,7,7,7,7,7,7,7,7,7,7,7,7,7,7,7,7,7,7,7,7,7,7,7,7,7,7,7,7,7,7,7,7,7,7,7,7,7,7,7,7,7,7,7,7,7,7,7,7,7,7,7,7,7,7,7,7,7,7,7,7,8,8,8,8,8,8,8,8,8,8,8,8,8,8,8,8,8,8,8,8,8,8,8,8,8,8,8,8,8,8,8,8,8,8,8,8,8,8,8,8,8,8,8,8,8,8,8,8,8,8,8,8,8,8,8,8,8,8,8,8,8,8,8,8,8,8,8,8,8,8,8,8,8,8,8,8,8,8,8,8,8,8,8,8,8,8,8,8,8,8,8,8,8,8,8,8,8,8,8,8,8,8,8,8,8,8,8,8,8,8,8,8,8,8,8,8,8,8,8,8,8,8,8,8,8,8,8,8]:List UInt8) ((u8 x5).toNat:Int)).bind λx7=>some (bA (x6+(x7.toNat:Int)))
def E3(x3 x4:Int):=
 (if decide (256<=x3) then E2 (pN .u64 x3 8) (bA (x4+8)) else E2 x3 x4)
def E4(x1 x2:Int):=
 (if decide (65536<=x1) then E3 (pN .u64 x1 16) (bA (x2+16)) else E3 x1 x2)
def XH(x:Int):=
 (if decide (4294967296<=x) then E4 (pN .u64 x 32) 32 else E4 x 0)
def C3(x:Int):=
 (XH x).bind λx1=>some x1
def EA(x:List Int):=
 (C3 (IntKind.u64.wrap (x.length:Int))).bind λx1=>(oT x 0 (x.length:Int) x1).bind λx2=>some x2
def MI(x5:List Int):=
 (EA x5).bind λx6=>(slices_Compact_int x6).bind λx7=>some x7
def EB(x4:Int)(x8:List Int):Option (Step ((List Int)×Int) (List Int)):=
 some (.next (x8,bA (x4+1)))
def MJ(l:List aQ):((List Int)×Int)->Option (Step ((List Int)×Int) (List Int))
 |(x3,x4)=>(if decide (x4<(l.length:Int)) then(idx l x4).bind λx9=>(JO x9.Key).bind λx10=>(if decide (0<=x10) then need (x3.length+([x10]).length<=1073741824) (EB x4 (x3++([x10]))) else EB x4 x3) else some (.stop (x3)))
def XI:(List Int)->Option (List Int)
 |x5=>MI x5
def OG(l:List aQ):=
 (loop (MJ l) (([]:List Int),0)).bind (XI)
def fZ(s:List Seen)(f:(Seen->Option Bool)):=
 (eX s f).bind λx1=>some (decide (0<=x1))
def qO(x1:Bool):=
 some x1
def xT(s:Seen)(k0:Int)(k1:bZ):=
 (if s.bZ == k0 then qO (s.dZ != k1.dZ) else qO false)
def uY(t:Table)(w_:Int)(x3:List bZ)(x4:List aG)(x5:aG):=
 (idx x4 w_).bind λx6=>some ({t with aR:=x3,aK:=x4.set w_.toNat ({x6 with Pc:=8,K:=0}:aG),Log:=t.Log++([(⟨2,w_,x5.aI,0,[],[]⟩:lG)])}:Table)
def nW(t:Table)(w_:Int)(x2:(List Int))(x3:List bZ)(x4:List aG):=
 (idx x4 w_).bind λx5=>(if decide ((x2.length:Int)<=x5.K) then need (t.Log.length+([(⟨2,w_,x5.aI,0,[],[]⟩:lG)]).length<=1073741824)<|uY t w_ x3 x4 x5 else some ({t with aR:=x3,aK:=x4}:Table))
def nX(t:Table)(w_:Int)(x2:(List Int))(x7:Int)(x12:bZ)(x15:List aG):=
 (idx x15 w_).bind λx16=>nW t w_ x2 (t.aR.set x7.toNat ({x12 with eA:=bA (w_+1)}:bZ)) (x15.set w_.toNat ({x16 with K:=bA (x16.K+1)}:aG))
def E5(t:Table)(w_:Int)(x2:(List Int))(x7:Int)(x12:bZ)(x17:aG):=
 nX t w_ x2 x7 x12 (t.aK.set w_.toNat ({x17 with aS:=x17.aS++([x7])}:aG))
def iG(t:Table)(w_:Int)(x2:(List Int))(x7:Int)(x9:Bool):=
 (if x9 then(idx t.aK w_).bind λx10=>(cW x10 7).bind λx11=>some ({t with aK:=t.aK.set w_.toNat x11}:Table) else(idx t.aR x7).bind λx12=>(if x12.dZ == 1000000 then(idx t.aK w_).bind λx13=>(cW x13 3).bind λx14=>some ({t with aK:=t.aK.set w_.toNat x14}:Table) else(idx t.aK w_).bind λx17=>(j3 x17.aS x7).bind λx18=>(if !x18 then need (x17.aS.length+([x7]).length<=1073741824)<|E5 t w_ x2 x7 x12 x17 else nX t w_ x2 x7 x12 t.aK)))
def EC(t:Table)(w_:Int):=
 (idx t.aK w_).bind λx1=>(OG x1.aE).bind λx2=>(if decide (x1.K<(x2.length:Int)) then(idx x2 x1.K).bind λx7=>(idx t.aR x7).bind λx8=>(if x8.eA != 0 then iG t w_ x2 x7 true else(fZ x1.Reads (λy0=>xT y0 x7 x8)).bind λx19=>iG t w_ x2 x7 x19) else nW t w_ x2 t.aR t.aK)
def fS(t:Table)(w_:Int)(x8:Bool):=
 (if x8 then(idx t.aK w_).bind λx9=>(cW x9 7).bind λx10=>some ({t with aK:=t.aK.set w_.toNat x10}:Table) else(idx t.aK w_).bind λx11=>some ({t with aK:=t.aK.set w_.toNat ({x11 with K:=bA (x11.K+1)}:aG)}:Table))
def uZ(t:Table)(w_ x4 x5 x6 x7:Int):=
 (if x7 != 0 then(if x7 != (bA (w_+1)) then fS t w_ true else fS t w_ (x6 != x4)) else fS t w_ (x6 != x4))
def vA(t:Table)(w_ x3 x4:Int):=
 (idx t.aR x3).bind λx12=>uZ t w_ x4 x12.Head x12.dZ x12.eA
def vB(t:Table)(w_:Int)(x1:aG):=
 (if decide ((x1.Reads.length:Int)<=x1.K) then(idx t.aK w_).bind λx2=>some ({t with aK:=t.aK.set w_.toNat ({x2 with Pc:=9,K:=0}:aG)}:Table) else(idx t.aK w_).bind λx13=>(idx x13.Reads x13.K).bind λx14=>vA t w_ x14.bZ x14.dZ)
def rR(t:Table)(w_:Int):=
 (idx t.aK w_).bind λx1=>vB t w_ x1
def pJ(j:aG)(x:aQ):=
 (if x.GC then some ({j with Pc:=9,K:=bA (j.K+1)}:aG) else some ({j with Pc:=12}:aG))
def qP(m:Mem):=
 (xA m.Heap).bind λx1=>(iX m.aD).bind λx2=>some (⟨x1,x2⟩:Mem)
def aGI:=
 some true
def BI(x2:Int)(x4:Bool):Option (Step Int (Out Unit Bool)):=
 (if x4 then some (.stop (Out.ret false)) else some (.next (bA (x2+1))))
def nF(h:Heap)(s:aZ)(c:Int):Int->Option (Step Int (Out Unit Bool))
 |x2=>(if decide (x2<(s.aU.length:Int)) then(idx s.aU x2).bind λx3=>(lC h x3).bind λx5=>(if x5 != c then BI x2 true else(EW h x3).bind λx6=>BI x2 (decide (6<x6))) else some (.stop (Out.brk ())))
def aGJ:(Out Unit Bool)->Option Bool
 |.brk ()=>aGI
 |.ret r=>some r
def C4(h:Heap)(s:aZ)(c:Int):=
 (loop (nF h s c) 0).bind (aGJ)
def aQQ:=
 some true
def xC(m:Mem):Int->Option (Step Int (Out Unit Bool))
 |x5=>(if decide (x5<(m.aD.Own.length:Int)) then(idx m.aD.Own x5).bind λx6=>(C4 m.Heap x6 (Int.tmod x5 3)).bind λx7=>(if !x7 then some (.stop (Out.ret false)) else some (.next (bA (x5+1)))) else some (.stop (Out.brk ())))
def aQR:(Out Unit Bool)->Option Bool
 |.brk ()=>aQQ
 |.ret r=>some r
def aBT(m:Mem):=
 (loop (xC m) 0).bind (aQR)
def xD(m:Mem):Int->Option (Step Int (Out Unit Bool))
 |x3=>(if decide (x3<(m.aD.Global.length:Int)) then(idx m.aD.Global x3).bind λx8=>(C4 m.Heap x8 x3).bind λx9=>(if !x9 then some (.stop (Out.ret false)) else some (.next (bA (x3+1)))) else some (.stop (Out.brk ())))
def aBU(m:Mem):(Out Unit Bool)->Option Bool
 |.brk ()=>aBT m
 |.ret r=>some r
def KO(m:Mem)(x1:Bool):=
 (if x1 then some false else(loop (xD m) 0).bind (aBU m))
def E6(m:Mem):=
 (LI m.Heap).bind λx10=>(if !x10 then KO m true else(qE m.aD).bind λx11=>KO m (!x11))
def zN(x1:Bool):=
 some x1
def m8(h:Int):=
 (if h == 0 then zN true else(iJ h).bind λx2=>zN x2)
def C5(m:Mem)(h:Int):Option Int:=
 (zH m h).bind λx1=>(if !x1 then some 4 else(HR m.Heap (Int.tmod h 32)).bind λx2=>(if !x2 then some 2 else some 0))
def PL(x4:Int)(x5:Mem):=
 some (x5,x4)
def YX(x4:Int)(x6:Mem):=
 PL x4 x6
def HW(m:Mem)(h next_:Int)(x2:Bool)(x3:Mem):=
 (if x2 then some (x3,1) else(C5 m h).bind λx4=>(if x4 == 0 then(BG m.Heap (Int.tmod h 32)).bind λx7=>(mG next_ 4).bind λx8=>(m7 x3.Heap.Bytes (bA (x7+6)) x8).bind λx9=>YX x4 (⟨(⟨x9,x3.Heap.Class⟩:Heap),x3.aD⟩:Mem) else PL x4 x3))
def RZ(m:Mem)(h next_:Int):=
 (qP m).bind λx1=>(E6 m).bind λx10=>(if !x10 then HW m h next_ true x1 else(m8 next_).bind λx11=>HW m h next_ (!x11) x1)
def zO(x1:Bool):=
 some x1
def R0(n:eD):=
 (b7 n.Key 0 99).bind λx2=>(if x2 then(b7 n.eN 0 65535).bind λx3=>(if x3 then(m8 n.Next).bind λx4=>zO x4 else zO false) else zO false)
def MK(x4:Int)(x5:Mem):=
 some (x5,x4)
def XJ(x4:Int)(x6:Mem):=
 MK x4 x6
def ED(m:Mem)(h:Int)(n:eD)(x2:Bool)(x3:Mem):=
 (if x2 then some (x3,1) else(C5 m h).bind λx4=>(if x4 == 0 then(BG m.Heap (Int.tmod h 32)).bind λx7=>(mG n.Key 2).bind λx8=>(mG n.eN 4).bind λx9=>need (x8.length+x9.length<=9223372036854775807)<|(mG n.Next 4).bind λx10=>need ((x8++x9).length+x10.length<=9223372036854775807)<|(m7 x3.Heap.Bytes x7 ((x8++x9)++x10)).bind λx11=>XJ x4 (⟨(⟨x11,x3.Heap.Class⟩:Heap),x3.aD⟩:Mem) else MK x4 x3))
def OH(m:Mem)(h:Int)(n:eD):=
 (qP m).bind λx1=>(E6 m).bind λx12=>(if !x12 then ED m h n true x1 else(R0 n).bind λx13=>ED m h n (!x13) x1)
def E7(t:Table)(j:aG)(b:bZ)(x3:Table):=
 some (({x3 with aR:=t.aR,aK:=t.aK}:Table),({j with Pc:=13}:aG),b)
def ML(t:Table)(j:aG)(x:aQ)(b:bZ):=
 (UL j.aE j.K).bind λx1=>(if decide ((j.cT.length:Int)<=x1) then(cW j 1).bind λx2=>some (t,x2,b) else(if j.Pc == 12 then(idx j.cT x1).bind λx4=>(OH t.aA.Mem x4 ({x with Next:=b.Head}:eD)).bind λx5=>E7 t j b ({t with aA:=(⟨x5.1,t.aA.aJ,t.aA.aV,t.aA.jJ⟩:aA)}:Table) else(idx j.cT x1).bind λx6=>some (t,({j with Pc:=9,K:=bA (j.K+1)}:aG),({b with Head:=x6}:bZ))))
def CB(t:Table)(x13:List aG):=
 some ({t with aK:=x13}:Table)
def mS(w_ x3:Int)(x4:Bool)(x5:Int)(x16:Table):=
 (idx x16.aK w_).bind λx17=>(pJ x17 (⟨x3,x4,x5⟩:aQ)).bind λx18=>some ({x16 with aK:=x16.aK.set w_.toNat x18}:Table)
def CC(w_ x3:Int)(x4:Bool)(x5:Int)(x21:Table):=
 mS w_ x3 x4 x5 x21
def rS(w_ x3:Int)(x4:Bool)(x5:Int)(x19:Bool)(x20:Table):=
 (if x19 then(idx x20.aK w_).bind λx22=>need (x22.bE.length+([x22.H]).length<=1073741824)<|CC w_ x3 x4 x5 ({x20 with aK:=x20.aK.set w_.toNat ({x22 with bE:=x22.bE++([x22.H])}:aG)}:Table) else mS w_ x3 x4 x5 x20)
def mT(w_ x3:Int)(x4:Bool)(x5:Int)(x15:Table):=
 (idx x15.aK w_).bind λx23=>(iJ x23.H).bind λx24=>(if x24 then rS w_ x3 x4 x5 (decide ((x23.bE.length:Int)<6)) x15 else rS w_ x3 x4 x5 false x15)
def CD(w_ x3:Int)(x4:Bool)(x5:Int)(x26:Table):=
 mT w_ x3 x4 x5 x26
def CE(t:Table)(w_ x3:Int)(x4:Bool)(x5:Int):=
 (JO x3).bind λx6=>(idx t.aR x6).bind λx7=>(idx t.aK w_).bind λx8=>(if x8.Pc == 9 then(if x7.Head == 0 then(pJ ({x8 with Pc:=10,H:=x7.Head,gT:=0}:aG) (⟨x3,x4,x5⟩:aQ)).bind λx9=>some ({t with aK:=t.aK.set w_.toNat x9}:Table) else some ({t with aK:=t.aK.set w_.toNat ({x8 with Pc:=10,H:=x7.Head,gT:=0}:aG)}:Table)) else(if x8.Pc == 10 then(LM t.aA.Mem x8.H).bind λx10=>(if x10.1.Key == x3 then some ({t with aK:=t.aK.set w_.toNat ({x8 with Pc:=11,Node:=x10.1}:aG)}:Table) else(g9 x10.1).bind λx11=>(if x11 == 0 then(pJ ({x8 with Node:=x10.1}:aG) (⟨x3,x4,x5⟩:aQ)).bind λx12=>some ({t with aK:=t.aK.set w_.toNat x12}:Table) else(g9 x10.1).bind λx14=>CB t (t.aK.set w_.toNat ({x8 with H:=x14,gT:=x8.H,Node:=x10.1}:aG)))) else(if x8.Pc == 11 then(if x8.gT == 0 then(g9 x8.Node).bind λx25=>mT w_ x3 x4 x5 ({t with aR:=t.aR.set x6.toNat ({x7 with Head:=x25}:bZ)}:Table) else(g9 x8.Node).bind λx27=>(RZ t.aA.Mem x8.gT x27).bind λx28=>CD w_ x3 x4 x5 ({t with aA:=(⟨x28.1,t.aA.aJ,t.aA.aV,t.aA.jJ⟩:aA)}:Table)) else(ML t x8 (⟨x3,x4,x5⟩:aQ) x7).bind λx29=>some (⟨x29.1.aA,t.aR.set x6.toNat x29.2.2,t.aK.set w_.toNat x29.2.1,x29.1.bK,x29.1.Log,x29.1.aI⟩:Table))))
def CF(t:Table)(w_:Int)(x1:aG):=
 (if decide ((x1.aE.length:Int)<=x1.K) then(idx t.aK w_).bind λx2=>some ({t with aK:=t.aK.set w_.toNat ({x2 with Pc:=14}:aG)}:Table) else(idx t.aK w_).bind λx30=>(idx x30.aE x30.K).bind λx31=>CE t w_ x31.Key x31.GC x31.eN)
def BJ(t:Table)(w_:Int):=
 (idx t.aK w_).bind λx1=>CF t w_ x1
def qQ(s:List Int)(i j:Int):=
 need (0<=(i:Int)/\(i:Int)<=(j:Int)/\(j:Int)<=((s.length:Int):Int)/\((s.length:Int):Int)<=(s.length:Int)) ((if i == j then some s else need (0<=(i:Int)/\(i:Int)<=(s.length:Int)) (need (0<=(j:Int)/\(j:Int)<=(s.length:Int)) (need (i.toNat<=j.toNat) (need (0<=(((((dL s i.toNat (s.drop j.toNat)).take (i.toNat+(s.length-j.toNat))).drop 0).length:Int):Int)/\(((((dL s i.toNat (s.drop j.toNat)).take (i.toNat+(s.length-j.toNat))).drop 0).length:Int):Int)<=((s.length:Int):Int)/\((s.length:Int):Int)<=((dL s i.toNat (s.drop j.toNat)).length:Int)) (some (((dL s i.toNat (s.drop j.toNat)).take (i.toNat+(s.length-j.toNat))).drop 0)))))))
def sZ(x1:aG):=
 some x1
def lO(j:aG):=
 (if decide (j.K<(j.bE.length:Int)) then(idx j.bE j.K).bind λx2=>(lK 2 x2).bind λx3=>sZ ({j with Sub:=x3}:aG) else some j)
def lP(t:Table)(w_:Int)(x4:List bZ):=
 (idx t.aK w_).bind λx5=>(qQ x5.aS 0 1).bind λx6=>some ({t with aR:=x4,aK:=t.aK.set w_.toNat ({x5 with aS:=x6}:aG)}:Table)
def xU(t:Table)(w_:Int):=
 (idx t.aK w_).bind λx1=>(if decide (0<(x1.aS.length:Int)) then(idx x1.aS 0).bind λx2=>(idx t.aR x2).bind λx3=>(if x1.Pc == 14 then lP t w_ (t.aR.set x2.toNat (⟨x3.Head,if 1000000<(bA (x3.dZ+1)) then 1000000 else(bA (x3.dZ+1)),0⟩:bZ)) else lP t w_ (t.aR.set x2.toNat ({x3 with eA:=0}:bZ))) else(if x1.Pc == 16 then some ({t with aK:=t.aK.set w_.toNat ({x1 with Pc:=17}:aG)}:Table) else(lO ({x1 with Pc:=15,K:=0}:aG)).bind λx7=>some ({t with aK:=t.aK.set w_.toNat x7}:Table)))
def zP(t:Table)(w_:Int)(x1:aG):=
 (if decide ((x1.bE.length:Int)<=x1.K) then(idx t.aK w_).bind λx2=>some ({t with aK:=t.aK.set w_.toNat ({x2 with Pc:=18}:aG)}:Table) else(idx t.aK w_).bind λx3=>(rA x3.Sub t.aA w_).bind λx4=>(if x4.1.jA then(lO ({x3 with K:=bA (x3.K+1),Sub:=x4.1}:aG)).bind λx5=>some ({t with aA:=x4.2,aK:=t.aK.set w_.toNat x5}:Table) else some ({t with aA:=x4.2,aK:=t.aK.set w_.toNat ({x3 with Sub:=x4.1}:aG)}:Table)))
def xV(t:Table)(w_:Int):=
 (idx t.aK w_).bind λx1=>zP t w_ x1
def EE(m:Mem)(w_ h:Int)(x1:Bool):Option (Mem×Int):=
 (if x1 then(qP m).bind λx2=>some (x2,1) else(zH m h).bind λx3=>(if !x3 then(qP m).bind λx4=>some (x4,4) else(PJ m w_ h).bind λx5=>some (x5,0)))
def OI(m:Mem)(w_ h:Int):Option (Mem×Int):=
 (E6 m).bind λx6=>(if !x6 then EE m w_ h true else(gQ w_).bind λx7=>EE m w_ h (!x7))
def EF(t:Table)(w_:Int):=
 (idx t.aK w_).bind λx1=>(if(x1.cT.length:Int) == 0 then some ({t with aK:=t.aK.set w_.toNat ({x1 with Pc:=18}:aG)}:Table) else(idx x1.cT 0).bind λx2=>(qQ x1.cT 0 1).bind λx3=>(HF t.aA.aV (Int.tmod x2 32)).bind λx4=>(if !x4 then(OI t.aA.Mem w_ x2).bind λx5=>some ({t with aA:=(⟨x5.1,t.aA.aJ,t.aA.aV,t.aA.jJ⟩:aA),aK:=t.aK.set w_.toNat ({x1 with cT:=x3}:aG)}:Table) else some ({t with aK:=t.aK.set w_.toNat ({x1 with cT:=x3}:aG)}:Table)))
def C6(w_:Int)(x1:aJ)(x2:Bool):=
 (if x2 then some (x1,false) else(idx x1.b8 w_).bind λx3=>some ((⟨x1.aP,x1.b8.set w_.toNat (⟨false,0,false,0⟩:yK)⟩:aJ),true))
def VX(c:aJ)(w_:Int):=
 (lN c).bind λx1=>(qI c).bind λx4=>(if !x4 then C6 w_ x1 true else(gQ w_).bind λx5=>(if !x5 then C6 w_ x1 true else(idx c.b8 w_).bind λx6=>C6 w_ x1 (!x6.On)))
def EG(b:aA)(w_:Int):=
 (VX b.aJ w_).bind λx1=>some (x1.2,({b with aJ:=x1.1}:aA))
def I8(t:Table)(w_:Int)(x1:aG):=
 some ({t with aK:=t.aK.set w_.toNat (⟨false,(⟨false,[]⟩:Batch),0,0,0,0,0,0,0,0,(⟨0,0,0⟩:eD),false,0,(⟨0,0,0,0,0,0,0,0,0,false⟩:Sub),[],[],[],[],[],[]⟩:aG),Log:=t.Log++([({x1 with Kind:=3,Who:=w_,bD:=[]}:lG)])}:Table)
def I9(t:Table)(w_:Int)(x1:aG):=
 some ({t with aK:=t.aK.set w_.toNat (⟨false,(⟨false,[]⟩:Batch),0,0,0,0,0,0,0,0,(⟨0,0,0⟩:eD),false,0,(⟨0,0,0,0,0,0,0,0,0,false⟩:Sub),[],[],[],[],[],[]⟩:aG),Log:=t.Log++([(⟨3,w_,x1.aI,x1.Code,[],[]⟩:lG)])}:Table)
def vC(t:Table)(w_:Int):=
 (idx t.aK w_).bind λx1=>(if x1.Code == 0 then need (t.Log.length+([({x1 with Kind:=3,Who:=w_,bD:=[]}:lG)]).length<=1073741824)<|I8 t w_ x1 else need (t.Log.length+([(⟨3,w_,x1.aI,x1.Code,[],[]⟩:lG)]).length<=1073741824)<|I9 t w_ x1)
def kS(t:Table)(w_:Int)(x1:aG)(x14:Bool):=
 (if x14 then(xU t w_).bind λx15=>some x15 else(if x1.Pc == 15 then(xV t w_).bind λx16=>some x16 else(if x1.Pc == 17 then(EF t w_).bind λx17=>some x17 else(if x1.Pc == 18 then(EG t.aA w_).bind λx18=>(idx t.aK w_).bind λx19=>some ({t with aA:=x18.2,aK:=t.aK.set w_.toNat ({x19 with Pc:=19}:aG)}:Table) else(if x1.Pc == 19 then(vC t w_).bind λx20=>some x20 else(idx t.aK w_).bind λx21=>(cW x21 1).bind λx22=>some ({t with aK:=t.aK.set w_.toNat x22}:Table))))))
def jF(t:Table)(w_:Int)(x1:aG)(x3:Bool):=
 (if x3 then(uW t w_).bind λx4=>some x4 else(if x1.Pc == 1 then(idx t.aK w_).bind λx5=>(HQ x5).bind λx6=>some ({t with aK:=t.aK.set w_.toNat x6}:Table) else(b7 x1.Pc 2 5).bind λx7=>(if x7 then(D9 t w_).bind λx8=>some x8 else(if x1.Pc == 6 then(BH t w_).bind λx9=>some x9 else(if x1.Pc == 7 then(EC t w_).bind λx10=>some x10 else(if x1.Pc == 8 then(rR t w_).bind λx11=>some x11 else(b7 x1.Pc 9 13).bind λx12=>(if x12 then(BJ t w_).bind λx13=>some x13 else(if x1.Pc == 14 then kS t w_ x1 true else kS t w_ x1 (x1.Pc == 16)))))))))
def wE(t:Table)(w_:Int):=
 (idx t.aK w_).bind λx1=>(if !x1.kN then(A7 t w_).bind λx2=>some x2 else(if x1.Pc == 0 then jF t w_ x1 true else(if x1.Pc == 20 then jF t w_ x1 true else jF t w_ x1 (x1.Pc == 21))))
def zQ(b:Batch):=
 (kR b.bD).bind λx1=>some (⟨b.Collect,x1⟩:Batch)
def aEH(x5:List aN):=
 some x5
def R1(x3:List aN)(x4:Int)(x11:List Batch):Option (Step ((List aN)×Int) (List aN)):=
 need (x3.length+([(⟨x11⟩:aN)]).length<=1073741824) (some (.next (x3++([(⟨x11⟩:aN)]),bA (x4+1))))
def HX(x9:Int)(x13:List Batch):Option (Step (Int×(List Batch)) (List Batch)):=
 some (.next (bA (x9+1),x13))
def HY(x6:aN):(Int×(List Batch))->Option (Step (Int×(List Batch)) (List Batch))
 |(x9,x10)=>(if decide (x9<(x6.List.length:Int)) then(idx x6.List x9).bind λx12=>(zQ x12).bind λx14=>need (x10.length+([x14]).length<=1073741824)<|HX x9 (x10++([x14])) else some (.stop (x10)))
def R3(x3:List aN)(x4:Int):(List Batch)->Option (Step ((List aN)×Int) (List aN))
 |x11=>R1 x3 x4 x11
def HZ(todo:List aN):((List aN)×Int)->Option (Step ((List aN)×Int) (List aN))
 |(x3,x4)=>(if decide (x4<(todo.length:Int)) then(idx todo x4).bind λx6=>(loop (HY x6) (0,[])).bind (R3 x3 x4) else some (.stop (x3)))
def aEI:(List aN)->Option (List aN)
 |x5=>aEH x5
def zR(todo:List aN):=
 (loop (HZ todo) (([]:List aN),0)).bind (aEI)
def KP(b:aA):=
 (qP b.Mem).bind λx1=>(lN b.aJ).bind λx2=>(lM b.aV).bind λx3=>(gE b.jJ).bind λx4=>some (⟨x1,x2,x3,x4⟩:aA)
def JQ(s:List bZ):=
 need (([]:List bZ).length+s.length<=1073741824) (some (([]:List bZ)++s))
def tC(s:List cJ):=
 need (([]:List cJ).length+s.length<=1073741824) (some (([]:List cJ)++s))
def UM(x3:aG):=
 some x3
def JR(j x2:aG):=
 (gE j.cT).bind λx4=>(gE j.aS).bind λx5=>(gE j.bE).bind λx6=>UM ({x2 with cT:=x4,aS:=x5,bE:=x6}:aG)
def KQ(j:aG):=
 (zQ j.Batch).bind λx1=>(qN j.Reads).bind λx7=>(nT j.aE).bind λx8=>(tC j.cJ).bind λx9=>JR j ({j with Batch:=x1,Reads:=x7,aE:=x8,cJ:=x9}:aG)
def MM(e_:lG)(x1:List kG)(x2:List cJ):=
 some ({e_ with bD:=x1,cJ:=x2}:lG)
def OJ(e_:lG):=
 (kR e_.bD).bind λx3=>(tC e_.cJ).bind λx4=>MM e_ x3 x4
def aEJ(x11:Table):=
 some x11
def H0(x9:Int)(x13:Table):Option (Step (Int×Table) Table):=
 some (.next (bA (x9+1),x13))
def l9(t:Table):(Int×Table)->Option (Step (Int×Table) Table)
 |(x9,x10)=>(if decide (x9<(t.Log.length:Int)) then(idx t.Log x9).bind λx12=>(OJ x12).bind λx14=>need (x10.Log.length+([x14]).length<=1073741824)<|H0 x9 ({x10 with Log:=x10.Log++([x14])}:Table) else some (.stop (x10)))
def aEK:Table->Option Table
 |x11=>aEJ x11
def aEL(t x6:Table):=
 (loop (l9 t) (0,({x6 with Log:=[]}:Table))).bind (aEK)
def H3(x4:Int)(x16:Table):Option (Step (Int×Table) Table):=
 some (.next (bA (x4+1),({x16 with Log:=[]}:Table)))
def mA(t:Table):(Int×Table)->Option (Step (Int×Table) Table)
 |(x4,x5)=>(if decide (x4<(t.aK.length:Int)) then(idx t.aK x4).bind λx15=>(KQ x15).bind λx17=>need (x5.aK.length+([x17]).length<=1073741824)<|H3 x4 ({x5 with aK:=x5.aK++([x17]),Log:=[]}:Table) else some (.stop (({x5 with Log:=[]}:Table))))
def aEM(t:Table):Table->Option Table
 |x6=>aEL t x6
def H4(t x1:Table):=
 (loop (mA t) (0,({x1 with aK:=[],Log:=[]}:Table))).bind (aEM t)
def H5(t:Table):=
 (KP t.aA).bind λx18=>(JQ t.aR).bind λx19=>(zR t.bK).bind λx20=>H4 t (⟨x18,x19,[],x20,[],t.aI⟩:Table)
def PM:=
 some (-1)
def nY(s:List aN)(f:(aN->Option Bool)):Int->Option (Step Int (Out Unit Int))
 |x2=>(if decide (x2<(s.length:Int)) then(idx s x2).bind λx3=>(f x3).bind λx4=>(if x4 then some (.stop (Out.ret x2)) else some (.next (bA (x2+1)))) else some (.stop (Out.brk ())))
def zS:(Out Unit Int)->Option Int
 |.brk ()=>PM
 |.ret r=>some r
def FP(s:List aN)(f:(aN->Option Bool)):=
 (loop (nY s f) 0).bind (zS)
def nZ(s:List aN)(f:(aN->Option Bool)):=
 (FP s f).bind λx1=>some (decide (0<=x1))
def QG:=
 some (-1)
def oV(s:List Batch)(f:(Batch->Option Bool)):Int->Option (Step Int (Out Unit Int))
 |x2=>(if decide (x2<(s.length:Int)) then(idx s x2).bind λx3=>(f x3).bind λx4=>(if x4 then some (.stop (Out.ret x2)) else some (.next (bA (x2+1)))) else some (.stop (Out.brk ())))
def BX:(Out Unit Int)->Option Int
 |.brk ()=>QG
 |.ret r=>some r
def H6(s:List Batch)(f:(Batch->Option Bool)):=
 (loop (oV s f) 0).bind (BX)
def oW(s:List Batch)(f:(Batch->Option Bool)):=
 (H6 s f).bind λx1=>some (decide (0<=x1))
def UN:=
 some (-1)
def tD(s:List kG)(f:(kG->Option Bool)):Int->Option (Step Int (Out Unit Int))
 |x2=>(if decide (x2<(s.length:Int)) then(idx s x2).bind λx3=>(f x3).bind λx4=>(if x4 then some (.stop (Out.ret x2)) else some (.next (bA (x2+1)))) else some (.stop (Out.brk ())))
def FQ:(Out Unit Int)->Option Int
 |.brk ()=>UN
 |.ret r=>some r
def LN(s:List kG)(f:(kG->Option Bool)):=
 (loop (tD s f) 0).bind (FQ)
def tE(s:List kG)(f:(kG->Option Bool)):=
 (LN s f).bind λx1=>some (decide (0<=x1))
def rB(x2:Bool):=
 some x2
def xE(c:kG)(x1:Bool):=
 (b7 c.Kind 1 4).bind λx3=>(if x3 then(b7 c.Key 0 99).bind λx4=>(if x4 then(if x1 then(b7 c.eN 0 65535).bind λx5=>(if x5 then rB true else rB (c.eN == 0)) else rB (c.eN == 0)) else rB false) else rB false)
def VY(c:kG):=
 (if c.Kind == 2 then xE c true else xE c (c.Kind == 4))
def PN(c:kG):=
 (VY c).bind λx1=>some (!x1)
def wF(x1:Bool):=
 some x1
def H7(b:Batch):=
 (if b.Collect then some ((b.bD.length:Int) == 0) else(b7 (b.bD.length:Int) 1 6).bind λx2=>(if x2 then(tE b.bD (λy0=>PN y0)).bind λx3=>wF (!x3) else wF false))
def JS(b:Batch):=
 (H7 b).bind λx1=>some (!x1)
def xW(x1:Bool):=
 some x1
def H8(q:aN):=
 (if decide (12<(q.List.length:Int)) then xW true else(oW q.List (λy0=>JS y0)).bind λx2=>xW x2)
def EH(x1:Bool):=
 some x1
def H9(todo:List aN):=
 (if(todo.length:Int) == 3 then(nZ todo (λy0=>H8 y0)).bind λx2=>EH (!x2) else EH false)
def OK(h:Int):=
 (m8 h).bind λx1=>some (!x1)
def KR(x1:Bool):=
 some x1
def VZ(z:List Int):=
 (if(z.length:Int) == 3 then(eZ z (λy0=>OK y0)).bind λx2=>KR (!x2) else KR false)
def vD(x1:Bool):=
 some x1
def EI(r_:dW)(k0:aA):=
 (zH k0.Mem r_.Handle).bind λx2=>(if !x2 then vD true else vD (decide (k0.aJ.aP<r_.aP)))
def KS(l:bM)(k0:aA):=
 (iY l.Rows (λy0=>EI y0 k0)).bind λx1=>some x1
def tF(b:aA)(x1:Bool):=
 (if x1 then some false else(iP b.aV (λy0=>KS y0 b)).bind λx2=>some (!x2))
def R4(b:aA):=
 (E6 b.Mem).bind λx3=>(if !x3 then tF b true else(qI b.aJ).bind λx4=>(if !x4 then tF b true else(uV b.aV).bind λx5=>(if !x5 then tF b true else(VZ b.jJ).bind λx6=>tF b (!x6))))
def UO:=
 some (-1)
def tG(s:List bZ)(f:(bZ->Option Bool)):Int->Option (Step Int (Out Unit Int))
 |x2=>(if decide (x2<(s.length:Int)) then(idx s x2).bind λx3=>(f x3).bind λx4=>(if x4 then some (.stop (Out.ret x2)) else some (.next (bA (x2+1)))) else some (.stop (Out.brk ())))
def FR:(Out Unit Int)->Option Int
 |.brk ()=>UO
 |.ret r=>some r
def LO(s:List bZ)(f:(bZ->Option Bool)):=
 (loop (tG s f) 0).bind (FR)
def tH(s:List bZ)(f:(bZ->Option Bool)):=
 (LO s f).bind λx1=>some (decide (0<=x1))
def KT(x1:Bool):=
 some x1
def aCU(b:bZ):=
 (m8 b.Head).bind λx2=>(if x2 then(b7 b.dZ 0 1000000).bind λx3=>(if x3 then(b7 b.eA 0 3).bind λx4=>KT x4 else KT false) else KT false)
def PO(b:bZ):=
 (aCU b).bind λx1=>some (!x1)
def SU:=
 some (-1)
def rC(s:List aG)(f:(aG->Option Bool)):Int->Option (Step Int (Out Unit Int))
 |x2=>(if decide (x2<(s.length:Int)) then(idx s x2).bind λx3=>(f x3).bind λx4=>(if x4 then some (.stop (Out.ret x2)) else some (.next (bA (x2+1)))) else some (.stop (Out.brk ())))
def C7:(Out Unit Int)->Option Int
 |.brk ()=>SU
 |.ret r=>some r
def JA(s:List aG)(f:(aG->Option Bool)):=
 (loop (rC s f) 0).bind (C7)
def rD(s:List aG)(f:(aG->Option Bool)):=
 (JA s f).bind λx1=>some (decide (0<=x1))
def aAW:=
 some true
def M3(s1 s2:List kG):Int->Option (Step Int (Out Unit Bool))
 |x2=>(if decide (x2<(s1.length:Int)) then(idx s1 x2).bind λx3=>(idx s2 x2).bind λx4=>(if !(decide (x3=x4)) then some (.stop (Out.ret false)) else some (.next (bA (x2+1)))) else some (.stop (Out.brk ())))
def aAX:(Out Unit Bool)->Option Bool
 |.brk ()=>aAW
 |.ret r=>some r
def JT(s1 s2:List kG):=
 (if(s1.length:Int) != (s2.length:Int) then some false else(loop (M3 s1 s2) 0).bind (aAX))
def IA(x1:Bool):=
 some x1
def IB(a_ b:Batch):=
 (if a_.Collect == b.Collect then(JT a_.bD b.bD).bind λx2=>IA x2 else IA false)
def YY:=
 some true
def LP(s1 s2:List Seen):Int->Option (Step Int (Out Unit Bool))
 |x2=>(if decide (x2<(s1.length:Int)) then(idx s1 x2).bind λx3=>(idx s2 x2).bind λx4=>(if !(decide (x3=x4)) then some (.stop (Out.ret false)) else some (.next (bA (x2+1)))) else some (.stop (Out.brk ())))
def YZ:(Out Unit Bool)->Option Bool
 |.brk ()=>YY
 |.ret r=>some r
def xX(s1 s2:List Seen):=
 (if(s1.length:Int) != (s2.length:Int) then some false else(loop (LP s1 s2) 0).bind (YZ))
def X8:=
 some true
def JC(s1 s2:List aQ):Int->Option (Step Int (Out Unit Bool))
 |x2=>(if decide (x2<(s1.length:Int)) then(idx s1 x2).bind λx3=>(idx s2 x2).bind λx4=>(if !(decide (x3=x4)) then some (.stop (Out.ret false)) else some (.next (bA (x2+1)))) else some (.stop (Out.brk ())))
def X9:(Out Unit Bool)->Option Bool
 |.brk ()=>X8
 |.ret r=>some r
def vF(s1 s2:List aQ):=
 (if(s1.length:Int) != (s2.length:Int) then some false else(loop (JC s1 s2) 0).bind (X9))
def aAY:=
 some true
def M4(s1 s2:List cJ):Int->Option (Step Int (Out Unit Bool))
 |x2=>(if decide (x2<(s1.length:Int)) then(idx s1 x2).bind λx3=>(idx s2 x2).bind λx4=>(if !(decide (x3=x4)) then some (.stop (Out.ret false)) else some (.next (bA (x2+1)))) else some (.stop (Out.brk ())))
def aAZ:(Out Unit Bool)->Option Bool
 |.brk ()=>aAY
 |.ret r=>some r
def BK(s1 s2:List cJ):=
 (if(s1.length:Int) != (s2.length:Int) then some false else(loop (M4 s1 s2) 0).bind (aAZ))
def aA0:=
 some true
def M5(s1 s2:List Int):Int->Option (Step Int (Out Unit Bool))
 |x2=>(if decide (x2<(s1.length:Int)) then(idx s1 x2).bind λx3=>(idx s2 x2).bind λx4=>(if x3 != x4 then some (.stop (Out.ret false)) else some (.next (bA (x2+1)))) else some (.stop (Out.brk ())))
def aA1:(Out Unit Bool)->Option Bool
 |.brk ()=>aA0
 |.ret r=>some r
def nG(s1 s2:List Int):=
 (if(s1.length:Int) != (s2.length:Int) then some false else(loop (M5 s1 s2) 0).bind (aA1))
def cG(x1:Bool):=
 some x1
def KU(a_ b:aG):=
 (if a_.kN == b.kN then(IB a_.Batch b.Batch).bind λx2=>(if x2 then(if a_.aI == b.aI then(if a_.Pc == b.Pc then(if a_.At == b.At then(if a_.K == b.K then(if a_.bZ == b.bZ then(if a_.dZ == b.dZ then(if a_.H == b.H then(if a_.gT == b.gT then(if decide (a_.Node=b.Node) then(if a_.Found == b.Found then(if a_.Code == b.Code then(if decide (a_.Sub=b.Sub) then(xX a_.Reads b.Reads).bind λx3=>(if x3 then(vF a_.aE b.aE).bind λx4=>(if x4 then(BK a_.cJ b.cJ).bind λx5=>(if x5 then(nG a_.cT b.cT).bind λx6=>(if x6 then(nG a_.aS b.aS).bind λx7=>(if x7 then(nG a_.bE b.bE).bind λx8=>cG x8 else cG false) else cG false) else cG false) else cG false) else cG false) else cG false) else cG false) else cG false) else cG false) else cG false) else cG false) else cG false) else cG false) else cG false) else cG false) else cG false) else cG false) else cG false) else cG false)
def JU(b:Int):=
 (b7 b 0 1).bind λx1=>some x1
def xY(h:Int):=
 (iJ h).bind λx1=>some (!x1)
def E8(x1:Bool):=
 some x1
def wG(list:List Int):=
 (if decide ((list.length:Int)<=6) then(eZ list (λy0=>xY y0)).bind λx2=>E8 (!x2) else E8 false)
def SW(s:Seen):=
 (JU s.bZ).bind λx1=>some (!x1)
def UP(list:List aQ):=
 some (decide ((list.length:Int)<=6))
def kU(x2:Int)(x4:Bool):Option (Step Int (Out Unit Bool)):=
 (if x4 then some (.stop (Out.ret false)) else some (.next (bA (x2+1))))
def tI(list:List aQ):Int->Option (Step Int (Out Unit Bool))
 |x2=>(if decide (x2<(list.length:Int)) then(idx list x2).bind λx3=>(b7 x3.Key 0 99).bind λx5=>(if !x5 then kU x2 true else(b7 x3.eN 0 65535).bind λx6=>(if !x6 then kU x2 true else(if decide (0<x2) then(idx list (bA (x2-1))).bind λx7=>kU x2 (decide (x3.Key<=x7.Key)) else kU x2 false))) else some (.stop (Out.brk ())))
def UQ(list:List aQ):(Out Unit Bool)->Option Bool
 |.brk ()=>UP list
 |.ret r=>some r
def KV(list:List aQ):=
 (loop (tI list) 0).bind (UQ list)
def iH(x4:Bool):=
 some x4
def Y0(j:aG):=
 (H7 j.Batch).bind λx5=>(if x5 then(m8 j.H).bind λx6=>(if x6 then(m8 j.gT).bind λx7=>(if x7 then(JU j.bZ).bind λx8=>(if x8 then(b7 j.At 0 (j.Batch.bD.length:Int)).bind λx9=>(if x9 then(b7 j.K 0 100).bind λx10=>(if x10 then(wG j.cT).bind λx11=>(if x11 then(wG j.bE).bind λx12=>(if x12 then(fZ j.Reads (λy0=>SW y0)).bind λx13=>(if !x13 then(KV j.aE).bind λx14=>iH x14 else iH false) else iH false) else iH false) else iH false) else iH false) else iH false) else iH false) else iH false) else iH false)
def IC(x3:Int)(x16:Bool):Option (Step Int (Out Unit Bool)):=
 (if x16 then some (.stop (Out.ret false)) else some (.next (bA (x3+1))))
def zT(j:aG):Int->Option (Step Int (Out Unit Bool))
 |x3=>(if decide (x3<(j.aS.length:Int)) then(idx j.aS x3).bind λx15=>(JU x15).bind λx17=>(if !x17 then IC x3 true else need (0<=(x3:Int)/\(x3:Int)<=(j.aS.length:Int)) ((j3 ((j.aS.take x3.toNat).drop 0) x15).bind λx18=>IC x3 x18)) else some (.stop (Out.brk ())))
def Y1(j:aG):(Out Unit Bool)->Option Bool
 |.brk ()=>Y0 j
 |.ret r=>some r
def zU(j:aG):=
 (if !j.kN then(KU j (⟨false,(⟨false,[]⟩:Batch),0,0,0,0,0,0,0,0,(⟨0,0,0⟩:eD),false,0,(⟨0,0,0,0,0,0,0,0,0,false⟩:Sub),[],[],[],[],[],[]⟩:aG)).bind λx1=>some x1 else(loop (zT j) 0).bind (Y1 j))
def PQ(j:aG):=
 (zU j).bind λx1=>some (!x1)
def j7(x1:Bool):=
 some x1
def OL(t:Table):=
 (R4 t.aA).bind λx2=>(if x2 then(if(t.aR.length:Int) == 2 then(tH t.aR (λy0=>PO y0)).bind λx3=>(if !x3 then(if(t.aK.length:Int) == 3 then(rD t.aK (λy0=>PQ y0)).bind λx4=>(if !x4 then(H9 t.bK).bind λx5=>(if x5 then(b7 t.aI 0 1000000).bind λx6=>j7 x6 else j7 false) else j7 false) else j7 false) else j7 false) else j7 false) else j7 false)
def ID(x2:Table):=
 some x2
def xZ(w_:Int)(x3:Bool)(x4:Table):=
 (if x3 then(wE x4 w_).bind λx5=>ID x5 else ID x4)
def IE(t:Table)(w_:Int):=
 (H5 t).bind λx1=>(OL t).bind λx6=>(if x6 then(gQ w_).bind λx7=>xZ w_ x7 x1 else xZ w_ false x1)
def aJH:=
 some true
def wH(x5:List Int)(x6 x8:Int)(x9:Bool):Option (Step ((List Int)×Int) (Out Unit Bool)):=
 (if x9 then some (.stop (Out.ret false)) else need (x5.length+([x8]).length<=1073741824) (some (.next (x5++([x8]),bA (x6+1)))))
def wI(x1:(List dW)):((List Int)×Int)->Option (Step ((List Int)×Int) (Out Unit Bool))
 |(x5,x6)=>(if decide (x6<(x1.length:Int)) then(idx x1 x6).bind λx7=>(eO x7.Handle).bind λx8=>(if decide (x8<0) then wH x5 x6 x8 true else(bX x7.aP 0 100000).bind λx10=>(if !x10 then wH x5 x6 x8 true else(yT x5 x8).bind λx11=>wH x5 x6 x8 x11)) else some (.stop (Out.brk ())))
def aJI:(Out Unit Bool)->Option Bool
 |.brk ()=>aJH
 |.ret r=>some r
def EJ(x1:(List dW))(x2:Bool):=
 (if x2 then some false else(loop (wI x1) (([]:List Int),0)).bind (aJI))
def OM(l:List bM):=
 (FI l).bind λx1=>(if(l.length:Int) != 3 then EJ x1 true else EJ x1 (decide (24<(x1.length:Int))))
def aBV(z:List Int):=
 some ((z.length:Int) == 3)
def KW(x2:Int)(x3:Bool):Option (Step Int (Out Unit Bool)):=
 (if x3 then some (.stop (Out.ret false)) else some (.next (bA (x2+1))))
def C8(z:List Int):Int->Option (Step Int (Out Unit Bool))
 |x2=>(if decide (x2<(z.length:Int)) then(idx z x2).bind λx4=>(if x4 != 0 then(idx z x2).bind λx5=>(gO x5).bind λx6=>KW x2 (!x6) else KW x2 false) else some (.stop (Out.brk ())))
def aBW(z:List Int):(Out Unit Bool)->Option Bool
 |.brk ()=>aBV z
 |.ret r=>some r
def V1(z:List Int):=
 (loop (C8 z) 0).bind (aBW z)
def aM6:=
 some true
def IF(x4:Int)(x5:Bool):Option (Step Int (Out Unit Bool)):=
 (if x5 then some (.stop (Out.ret false)) else some (.next (bA (x4+1))))
def zV(b:aA)(x2:(List dW)):Int->Option (Step Int (Out Unit Bool))
 |x4=>(if decide (x4<(x2.length:Int)) then(idx x2 x4).bind λx6=>(pU b.Mem x6.Handle).bind λx7=>(if !x7 then IF x4 true else IF x4 (decide (b.aJ.aP<x6.aP))) else some (.stop (Out.brk ())))
def aM7:(Out Unit Bool)->Option Bool
 |.brk ()=>aM6
 |.ret r=>some r
def tJ(b:aA)(x1:Bool):=
 (if x1 then some false else(FI b.aV).bind λx2=>(loop (zV b x2) 0).bind (aM7))
def R5(b:aA):=
 (EU b.Mem).bind λx8=>(if !x8 then tJ b true else(pX b.aJ).bind λx9=>(if !x9 then tJ b true else(OM b.aV).bind λx10=>(if !x10 then tJ b true else(V1 b.jJ).bind λx11=>tJ b (!x11))))
def C9(x1:Bool):=
 some x1
def V2(b:bZ):=
 (qB b.Head).bind λx2=>(if x2 then(bX b.dZ 0 1000000).bind λx3=>(if x3 then(bX b.eA 0 3).bind λx4=>C9 x4 else C9 false) else C9 false)
def PR(l:List Int):=
 some (decide ((l.length:Int)<=6))
def oA(l:List Int):Int->Option (Step Int (Out Unit Bool))
 |x2=>(if decide (x2<(l.length:Int)) then(idx l x2).bind λx3=>(gO x3).bind λx4=>(if !x4 then some (.stop (Out.ret false)) else some (.next (bA (x2+1)))) else some (.stop (Out.brk ())))
def PT(l:List Int):(Out Unit Bool)->Option Bool
 |.brk ()=>PR l
 |.ret r=>some r
def wJ(l:List Int):=
 (loop (oA l) 0).bind (PT l)
def aGK:=
 some true
def nH(x7:Int)(x8:Bool):Option (Step Int (Out Unit Bool)):=
 (if x8 then some (.stop (Out.ret false)) else some (.next (bA (x7+1))))
def tK(j:aG):Int->Option (Step Int (Out Unit Bool))
 |x7=>(if decide (x7<(j.aE.length:Int)) then(idx j.aE x7).bind λx9=>(bX x9.Key 0 99).bind λx10=>(if !x10 then nH x7 true else(idx j.aE x7).bind λx11=>(bX x11.eN 0 65535).bind λx12=>(if !x12 then nH x7 true else(if decide (0<x7) then(idx j.aE x7).bind λx13=>(idx j.aE (bA (x7-1))).bind λx14=>nH x7 (decide (x13.Key<=x14.Key)) else nH x7 false))) else some (.stop (Out.brk ())))
def aGL:(Out Unit Bool)->Option Bool
 |.brk ()=>aGK
 |.ret r=>some r
def JV(j:aG):=
 (loop (tK j) 0).bind (aGL)
def tL(j:aG):Int->Option (Step Int (Out Unit Bool))
 |x5=>(if decide (x5<(j.Reads.length:Int)) then(idx j.Reads x5).bind λx15=>(bX x15.bZ 0 1).bind λx16=>(if !x16 then some (.stop (Out.ret false)) else some (.next (bA (x5+1)))) else some (.stop (Out.brk ())))
def aGM(j:aG):(Out Unit Bool)->Option Bool
 |.brk ()=>JV j
 |.ret r=>some r
def JW(j:aG):=
 (loop (tL j) 0).bind (aGM j)
def BL(x3:Int)(x17:Bool):Option (Step Int (Out Unit Bool)):=
 (if x17 then some (.stop (Out.ret false)) else some (.next (bA (x3+1))))
def tM(j:aG):Int->Option (Step Int (Out Unit Bool))
 |x3=>(if decide (x3<(j.aS.length:Int)) then(idx j.aS x3).bind λx18=>(bX x18 0 1).bind λx19=>(if !x19 then BL x3 true else need (0<=(x3:Int)/\(x3:Int)<=(j.aS.length:Int)) ((idx j.aS x3).bind λx20=>(yT ((j.aS.take x3.toNat).drop 0) x20).bind λx21=>BL x3 x21)) else some (.stop (Out.brk ())))
def aGN(j:aG):(Out Unit Bool)->Option Bool
 |.brk ()=>JW j
 |.ret r=>some r
def fN(j:aG)(x1:Bool):=
 (if x1 then some false else(loop (tM j) 0).bind (aGN j))
def KX(j:aG):=
 (GI j.Batch).bind λx22=>(if !x22 then fN j true else(qB j.H).bind λx23=>(if !x23 then fN j true else(qB j.gT).bind λx24=>(if !x24 then fN j true else(bX j.bZ 0 1).bind λx25=>(if !x25 then fN j true else(bX j.At 0 (j.Batch.bD.length:Int)).bind λx26=>(if !x26 then fN j true else(bX j.K 0 100).bind λx27=>(if !x27 then fN j true else(wJ j.cT).bind λx28=>(if !x28 then fN j true else(wJ j.bE).bind λx29=>(if !x29 then fN j true else fN j (decide (6<(j.aE.length:Int)))))))))))
def aA2:=
 some true
def M6(a_ b:List kG):Int->Option (Step Int (Out Unit Bool))
 |x2=>(if decide (x2<(a_.length:Int)) then(idx a_ x2).bind λx3=>(idx b x2).bind λx4=>(if !(decide (x3=x4)) then some (.stop (Out.ret false)) else some (.next (bA (x2+1)))) else some (.stop (Out.brk ())))
def aA3:(Out Unit Bool)->Option Bool
 |.brk ()=>aA2
 |.ret r=>some r
def tN(a_ b:List kG):=
 (if(a_.length:Int) != (b.length:Int) then some false else(loop (M6 a_ b) 0).bind (aA3))
def zW(x1:Bool):=
 some x1
def yA(a_ b:Batch):=
 (if a_.Collect == b.Collect then(tN a_.bD b.bD).bind λx2=>zW x2 else zW false)
def aA4:=
 some true
def M7(a_ b:aG):Int->Option (Step Int (Out Unit Bool))
 |x5=>(if decide (x5<(a_.aE.length:Int)) then(idx a_.aE x5).bind λx6=>(idx b.aE x5).bind λx7=>(if !(decide (x6=x7)) then some (.stop (Out.ret false)) else some (.next (bA (x5+1)))) else some (.stop (Out.brk ())))
def aA5:(Out Unit Bool)->Option Bool
 |.brk ()=>aA4
 |.ret r=>some r
def M8(a_ b:aG):=
 (loop (M7 a_ b) 0).bind (aA5)
def M9(a_ b:aG):Int->Option (Step Int (Out Unit Bool))
 |x3=>(if decide (x3<(a_.Reads.length:Int)) then(idx a_.Reads x3).bind λx8=>(idx b.Reads x3).bind λx9=>(if !(decide (x8=x9)) then some (.stop (Out.ret false)) else some (.next (bA (x3+1)))) else some (.stop (Out.brk ())))
def NA(a_ b:aG):(Out Unit Bool)->Option Bool
 |.brk ()=>M8 a_ b
 |.ret r=>some r
def rT(a_ b:aG)(x1:Bool):=
 (if x1 then some false else(loop (M9 a_ b) 0).bind (NA a_ b))
def BM(a_ b:aG):=
 (if(a_.Reads.length:Int) != (b.Reads.length:Int) then rT a_ b true else rT a_ b ((a_.aE.length:Int) != (b.aE.length:Int)))
def aCV:=
 some true
def PU(a_ b:List cJ):Int->Option (Step Int (Out Unit Bool))
 |x2=>(if decide (x2<(a_.length:Int)) then(idx a_ x2).bind λx3=>(idx b x2).bind λx4=>(if !(decide (x3=x4)) then some (.stop (Out.ret false)) else some (.next (bA (x2+1)))) else some (.stop (Out.brk ())))
def aCW:(Out Unit Bool)->Option Bool
 |.brk ()=>aCV
 |.ret r=>some r
def EK(a_ b:List cJ):=
 (if(a_.length:Int) != (b.length:Int) then some false else(loop (PU a_ b) 0).bind (aCW))
def aEN:=
 some true
def R6(a_ b:List Int):Int->Option (Step Int (Out Unit Bool))
 |x2=>(if decide (x2<(a_.length:Int)) then(idx a_ x2).bind λx3=>(idx b x2).bind λx4=>(if x3 != x4 then some (.stop (Out.ret false)) else some (.next (bA (x2+1)))) else some (.stop (Out.brk ())))
def aEO:(Out Unit Bool)->Option Bool
 |.brk ()=>aEN
 |.ret r=>some r
def tO(a_ b:List Int):=
 (if(a_.length:Int) != (b.length:Int) then some false else(loop (R6 a_ b) 0).bind (aEO))
def b9(x1:Bool):=
 some x1
def pK(a_ b:aG):=
 (if a_.kN == b.kN then(yA a_.Batch b.Batch).bind λx2=>(if x2 then(if a_.aI == b.aI then(if a_.Pc == b.Pc then(if a_.At == b.At then(if a_.K == b.K then(if a_.bZ == b.bZ then(if a_.dZ == b.dZ then(if a_.H == b.H then(if a_.gT == b.gT then(if decide (a_.Node=b.Node) then(if a_.Found == b.Found then(if a_.Code == b.Code then(if decide (a_.Sub=b.Sub) then(BM a_ b).bind λx3=>(if x3 then(EK a_.cJ b.cJ).bind λx4=>(if x4 then(tO a_.cT b.cT).bind λx5=>(if x5 then(tO a_.aS b.aS).bind λx6=>(if x6 then(tO a_.bE b.bE).bind λx7=>b9 x7 else b9 false) else b9 false) else b9 false) else b9 false) else b9 false) else b9 false) else b9 false) else b9 false) else b9 false) else b9 false) else b9 false) else b9 false) else b9 false) else b9 false) else b9 false) else b9 false) else b9 false) else b9 false)
def aJJ:=
 some true
def mI(x5:Int)(x6:Bool):Option (Step Int (Out Unit Bool)):=
 (if x6 then some (.stop (Out.ret false)) else some (.next (bA (x5+1))))
def wK(t:Table):Int->Option (Step Int (Out Unit Bool))
 |x5=>(if decide (x5<3) then(idx t.aK x5).bind λx7=>(if x7.kN then(idx t.aK x5).bind λx8=>(KX x8).bind λx9=>(if !x9 then mI x5 true else(idx t.aK x5).bind λx10=>(if !x10.kN then(idx t.aK x5).bind λx11=>(pK x11 (⟨false,(⟨false,[]⟩:Batch),0,0,0,0,0,0,0,0,(⟨0,0,0⟩:eD),false,0,(⟨0,0,0,0,0,0,0,0,0,false⟩:Sub),[],[],[],[],[],[]⟩:aG)).bind λx12=>mI x5 (!x12) else mI x5 false)) else(idx t.aK x5).bind λx13=>(if !x13.kN then(idx t.aK x5).bind λx14=>(pK x14 (⟨false,(⟨false,[]⟩:Batch),0,0,0,0,0,0,0,0,(⟨0,0,0⟩:eD),false,0,(⟨0,0,0,0,0,0,0,0,0,false⟩:Sub),[],[],[],[],[],[]⟩:aG)).bind λx15=>mI x5 (!x15) else mI x5 false)) else some (.stop (Out.brk ())))
def aJK:(Out Unit Bool)->Option Bool
 |.brk ()=>aJJ
 |.ret r=>some r
def MN(t:Table):=
 (loop (wK t) 0).bind (aJK)
def wL(t:Table):Int->Option (Step Int (Out Unit Bool))
 |x3=>(if decide (x3<2) then(idx t.aR x3).bind λx16=>(V2 x16).bind λx17=>(if !x17 then some (.stop (Out.ret false)) else some (.next (bA (x3+1)))) else some (.stop (Out.brk ())))
def aJL(t:Table):(Out Unit Bool)->Option Bool
 |.brk ()=>MN t
 |.ret r=>some r
def j8(t:Table)(x1:Bool):=
 (if x1 then some false else(loop (wL t) 0).bind (aJL t))
def ON(t:Table):=
 (R5 t.aA).bind λx18=>(if !x18 then j8 t true else(if(t.aR.length:Int) != 2 then j8 t true else(if(t.aK.length:Int) != 3 then j8 t true else(GJ t.bK).bind λx19=>(if !x19 then j8 t true else(bX t.aI 0 1000000).bind λx20=>j8 t (!x20)))))
def aGO:=
 some true
def BN(a_ b:List Int):Int->Option (Step Int (Out Unit Bool))
 |x2=>(if decide (x2<(a_.length:Int)) then(idx a_ x2).bind λx3=>(idx b x2).bind λx4=>(if x3 != x4 then some (.stop (Out.ret false)) else some (.next (bA (x2+1)))) else some (.stop (Out.brk ())))
def aGP:(Out Unit Bool)->Option Bool
 |.brk ()=>aGO
 |.ret r=>some r
def KY(a_ b:List Int):=
 (if(a_.length:Int) != (b.length:Int) then some false else(loop (BN a_ b) 0).bind (aGP))
def aCX:=
 some true
def kV(x21:Int)(x24:Bool)(x25 x26:Table):Option (Step (Int×Table×Table) (Out Unit Bool)):=
 (if x24 then some (.stop (Out.ret false)) else some (.next (bA (x21+1),x25,x26)))
def oB(x5:Int):(Int×Table×Table)->Option (Step (Int×Table×Table) (Out Unit Bool))
 |(x21,x22,x23)=>(if decide (x21<2) then(idx x22.aR x21).bind λx27=>(if x27.eA != 0 then(if x27.eA != (bA ((Int.tmod x5 3)+1)) then(idx x23.aR x21).bind λx28=>(if !(decide (x28=x27)) then kV x21 true x22 x23 else kV x21 (decide (x28.dZ<x27.dZ)) x22 x23) else(idx x23.aR x21).bind λx29=>kV x21 (decide (x29.dZ<x27.dZ)) x22 x23) else(idx x23.aR x21).bind λx30=>kV x21 (decide (x30.dZ<x27.dZ)) x22 x23) else some (.stop (Out.brk ())))
def aCY:(Out Unit Bool)->Option Bool
 |.brk ()=>aCX
 |.ret r=>some r
def PW(x5:Int)(x16 x17:Table):=
 (loop (oB x5) (0,x16,x17)).bind (aCY)
def jG(x13:Int)(x31:Bool)(x32 x33:Table):Option (Step (Int×Table×Table) (Out (Table×Table) Bool)):=
 (if x31 then some (.stop (Out.ret false)) else some (.next (bA (x13+1),x32,x33)))
def oC(x5:Int):(Int×Table×Table)->Option (Step (Int×Table×Table) (Out (Table×Table) Bool))
 |(x13,x14,x15)=>(if decide (x13<3) then(if x13 != (Int.tmod x5 3) then(idx x15.aK x13).bind λx34=>(idx x14.aK x13).bind λx35=>(if x34.Pc != x35.Pc then jG x13 true x14 x15 else(if x34.aI != x35.aI then jG x13 true x14 x15 else(if x34.H != x35.H then jG x13 true x14 x15 else(KY x34.cT x35.cT).bind λx36=>jG x13 (!x36) x14 x15))) else jG x13 false x14 x15) else some (.stop (Out.brk (x14,x15))))
def PX(x5:Int):(Out (Table×Table) Bool)->Option Bool
 |.brk (x16,x17)=>PW x5 x16 x17
 |.ret r=>some r
def oD(x5:Int)(x7:Bool)(x8 x9:Table):=
 (if x7 then some false else(loop (oC x5) (0,x8,x9)).bind (PX x5))
def MO(code:List UInt8):=
 (aMN code).bind λx1=>(if x1 then some true else(uM code).bind λx2=>(RE x2).bind λx3=>(if !x3 then some true else(zA x2).bind λx4=>(aLC code 0).bind λx5=>(IE x4 (Int.tmod x5 3)).bind λx6=>(if(x6.aK.length:Int) != 3 then oD x5 true x4 x6 else(if(x6.aR.length:Int) != 2 then oD x5 true x4 x6 else(ON x6).bind λx44=>oD x5 (!x44) x4 x6))))
def aJM(x y:Int):=
 some (IntKind.u64.wrap ((IntKind.u64.wrap ((IntKind.u64.wrap ((pN .u64 x 32)*(pN .u64 y 32)))+(pN .u64 (IntKind.u64.wrap ((IntKind.u64.wrap ((pN .u64 x 32)*(iE .and .u64 y 4294967295)))+(pN .u64 (IntKind.u64.wrap ((iE .and .u64 x 4294967295)*(iE .and .u64 y 4294967295))) 32))) 32)))+(pN .u64 (IntKind.u64.wrap ((iE .and .u64 (IntKind.u64.wrap ((IntKind.u64.wrap ((pN .u64 x 32)*(iE .and .u64 y 4294967295)))+(pN .u64 (IntKind.u64.wrap ((iE .and .u64 x 4294967295)*(iE .and .u64 y 4294967295))) 32))) 4294967295)+(IntKind.u64.wrap ((iE .and .u64 x 4294967295)*(pN .u64 y 32))))) 32)),IntKind.u64.wrap (x*y))
def aBX(x y:Int):=
 (aJM x y).bind λx1=>some (x1.1,x1.2)
def Y2(x7:List Int):=
 some x7
def lQ:((List Int)×Int)->Option (Step ((List Int)×Int) (List Int))
 |(x5,x6)=>(if decide (x6<(x5.length:Int)) then need (0<=(x6:Int)/\(x6:Int)<=(x5.length:Int)) (need (0<=(x6:Int)/\(x6:Int)<=(x5.length:Int)) (some (.next (dL x5 x6.toNat ((x5.take x6.toNat).drop 0),bA (x6+((min ((x5.take x6.toNat).drop 0).length (x5.length-x6.toNat):Nat):Int)))))) else some (.stop (x5)))
def Y3:(List Int)->Option (List Int)
 |x7=>Y2 x7
def zX(x:List Int)(x1:Int×Int)(x2:Bool):=
 (if x2 then none else need (0<=(IntKind.i64.wrap x1.2:Int)/\(IntKind.i64.wrap x1.2:Int)<=4294967296) ((loop (lQ) (dL (List.replicate ((IntKind.i64.wrap x1.2).toNat) 0) 0 x,((min x.length ((List.replicate ((IntKind.i64.wrap x1.2).toNat) 0:List Int).length-0):Nat):Int))).bind (Y3)))
def IG(x:List Int)(count:Int):=
 (if decide (count<0) then none else(aBX (IntKind.u64.wrap (x.length:Int)) (IntKind.u64.wrap count)).bind λx1=>(if decide (0<x1.1) then zX x x1 true else zX x x1 (decide (9223372036854775807<x1.2))))
def aJN(x1:List Int):=
 some (⟨List.replicate ((384:Int).toNat) 0,x1⟩:Heap)
def V3:=
 need (0<=(384:Int)/\(384:Int)<=4294967296)<|(IG ([(-1)]) 6).bind λx2=>aJN x2
def aGQ:=
 some (⟨List.replicate ((3:Int).toNat) (⟨[]⟩:aZ),List.replicate ((9:Int).toNat) (⟨[]⟩:aZ)⟩:aD)
def aBY:=
 need (0<=(3:Int)/\(3:Int)<=4294967296)<|need (0<=(9:Int)/\(9:Int)<=4294967296)<|aGQ
def aH1:=
 (V3).bind λx1=>(aBY).bind λx2=>some (⟨x1,x2⟩:Mem)
def aBZ:=
 need (0<=(3:Int)/\(3:Int)<=4294967296) (some (⟨0,List.replicate ((3:Int).toNat) (⟨false,0,false,0⟩:yK)⟩:aJ))
def aB0:=
 need (0<=(3:Int)/\(3:Int)<=4294967296) (some (List.replicate ((3:Int).toNat) (⟨[]⟩:bM)))
def aH2:Option (List Int):=
 need (0<=(3:Int)/\(3:Int)<=4294967296) (some (List.replicate ((3:Int).toNat) 0))
def V4:Option aA:=
 (aH1).bind λx1=>(aBZ).bind λx2=>(aB0).bind λx3=>(aH2).bind λx4=>some (⟨x1,x2,x3,x4⟩:aA)
def aGR(x2:Table):=
 some ({x2 with Log:=[]}:Table)
def SX(todo:List aN):=
 (H9 todo).bind λx1=>(if !x1 then some (⟨(⟨(⟨(⟨[],[]⟩:Heap),(⟨[],[]⟩:aD)⟩:Mem),(⟨0,[]⟩:aJ),[],[]⟩:aA),[],[],[],[],0⟩:Table) else(V4).bind λx3=>need (0<=(2:Int)/\(2:Int)<=4294967296)<|need (0<=(3:Int)/\(3:Int)<=4294967296)<|(zR todo).bind λx4=>aGR (⟨x3,List.replicate ((2:Int).toNat) (⟨0,0,0⟩:bZ),List.replicate ((3:Int).toNat) (⟨false,(⟨false,[]⟩:Batch),0,0,0,0,0,0,0,0,(⟨0,0,0⟩:eD),false,0,(⟨0,0,0,0,0,0,0,0,0,false⟩:Sub),[],[],[],[],[],[]⟩:aG),x4,[],0⟩:Table))
def aEP(x6:Table):=
 some x6
def IH(x4:Int)(x7:Table):Option (Step (Int×Table) Table):=
 some (.next (bA (x4+1),x7))
def qR(x:pR):(Int×Table)->Option (Step (Int×Table) Table)
 |(x4,x5)=>(if decide (x4<(((x.gN.take ((if 400<(x.gN.length:Int) then 400 else(x.gN.length:Int)).toNat)).drop 0).length:Int)) then(idx ((x.gN.take ((if 400<(x.gN.length:Int) then 400 else(x.gN.length:Int)).toNat)).drop 0) x4).bind λx8=>(gQ x8).bind λx9=>(if x9 then(wE x5 x8).bind λx10=>IH x4 x10 else IH x4 x5) else some (.stop (x5)))
def aEQ:Table->Option Table
 |x6=>aEP x6
def II(x:pR):=
 (SX x.bK).bind λx1=>(if(x1.aK.length:Int) == 0 then some x1 else need (0<=(if 400<(x.gN.length:Int) then 400 else(x.gN.length:Int):Int)/\(if 400<(x.gN.length:Int) then 400 else(x.gN.length:Int):Int)<=(x.gN.length:Int)) ((loop (qR x) (0,x1)).bind (aEQ)))
end
end Go.Gv
end
noncomputable section
set_option maxHeartbeats 4000000
set_option maxRecDepth 100000
namespace Go.Proofs.YtonkeoekmfkaoaaGreat
open Go.Gv Tryz
theorem bC:YH prog 3 1 (.int .i64 0):=BY (b:=8) (by kernel_rfl) rfl
theorem lR:YH prog 137 3 (.agg #[.int .i64 0,.int .i64 0,.int .i64 0]):=BY (b:=24) (by kernel_rfl) rfl
theorem qS:YH prog 125 1 (.agg #[.slice none 0 0]):=BY (b:=24) (by kernel_rfl) rfl
theorem eU:YH prog 62 2 (.agg #[.bool false,.slice none 0 0]):=BY (b:=32) (by kernel_rfl) rfl
theorem jN:YH prog 248 1 (.agg #[.slice none 0 0]):=BY (b:=24) (by kernel_rfl) rfl
theorem LQ:YH prog 193 4 (.agg #[.bool false,.int .i64 0,.bool false,.int .i64 0]):=BY (b:=32) (by kernel_rfl) rfl
theorem zY:YH prog 130 1 (.agg #[.slice none 0 0]):=BY (b:=24) (by kernel_rfl) rfl
theorem zZ:YH prog 74 3 (.agg #[.int .i64 0,.int .i64 0,.int .i64 0]):=BY (b:=24) (by kernel_rfl) rfl
theorem PY:YH prog 71 32 (.agg #[.bool false,.bool false,.slice none 0 0,.int .i64 0,.int .i64 0,.int .i64 0,.int .i64 0,.int .i64 0,.int .i64 0,.int .i64 0,.int .i64 0,.int .i64 0,.int .i64 0,.int .i64 0,.bool false,.int .i64 0,.int .i64 0,.int .i64 0,.int .i64 0,.int .i64 0,.int .i64 0,.int .i64 0,.int .i64 0,.int .i64 0,.int .i64 0,.bool false,.slice none 0 0,.slice none 0 0,.slice none 0 0,.slice none 0 0,.slice none 0 0,.slice none 0 0]):=BY (b:=368) (by kernel_rfl) rfl
theorem dF:YH prog 143 6 (.agg #[.int .i64 0,.int .i64 0,.int .i64 0,.int .i64 0,.slice none 0 0,.slice none 0 0]):=BY (b:=80) (by kernel_rfl) rfl
theorem lS:YH prog 153 2 (.agg #[.int .i64 0,.int .i64 0]):=BY (b:=16) (by kernel_rfl) rfl
theorem hO:YH prog 159 3 (.agg #[.int .i64 0,.bool false,.int .i64 0]):=BY (b:=24) (by kernel_rfl) rfl
theorem j9:YH prog 187 2 (.agg #[.bool false,.int .i64 0]):=BY (b:=16) (by kernel_rfl) rfl
theorem m9:YH prog 157 2 (.agg #[.int .i64 0,.int .i64 0]):=BY (b:=16) (by kernel_rfl) rfl
theorem aYX:YH prog 40 1 (.slice none 0 0):=BY (b:=24) (by kernel_rfl) rfl
theorem a2V:YH prog 5 1 (.int .u8 0):=BY (b:=1) (by kernel_rfl) rfl
theorem aC:prog.follows .mixedOrders=true:=by kernel_rfl
theorem aH3(D:Nat)(d d':yK)(w:World):(Op.eqFields (D+2) #[.bool (d.On),.int .i64 (d.aP),.bool (d.iV),.int .i64 (d.Seen)] #[.bool (d'.On),.int .i64 (d'.aP),.bool (d'.iV),.int .i64 (d'.Seen)] (match prog.underlying 193 with|some (.struct fs)=>fs|_=>#[]).toList).run prog w=.ok (decide (d=d')) w:=by
 rw[underlying193];have h:(d.On == d'.On && (d.aP == d'.aP && (d.iV == d'.iV && (d.Seen == d'.Seen && true))))=decide (d=d'):=by cases d;cases d';rw[K7];simp
 rw[<-h];exact fF _ _ _ _ _ rfl (fI isAgg4 rfl) (fI isAgg4 rfl) (aDQ underlying4)<|
  fF _ _ _ _ _ rfl (fI isAgg3 rfl) (fI isAgg3 rfl) (mC underlying3)<|
  fF _ _ _ _ _ rfl (fI isAgg4 rfl) (fI isAgg4 rfl) (aDQ underlying4)<|
  fF _ _ _ _ _ rfl (fI isAgg3 rfl) (fI isAgg3 rfl) (mC underlying3)<|
  QQ _ _ _
theorem aH4(D:Nat)(d d':kG)(w:World):(Op.eqFields (D+2) #[.int .i64 (d.Kind),.int .i64 (d.Key),.int .i64 (d.eN)] #[.int .i64 (d'.Kind),.int .i64 (d'.Key),.int .i64 (d'.eN)] (match prog.underlying 137 with|some (.struct fs)=>fs|_=>#[]).toList).run prog w=.ok (decide (d=d')) w:=by
 rw[underlying137];have h:(d.Kind == d'.Kind && (d.Key == d'.Key && (d.eN == d'.eN && true)))=decide (d=d'):=by cases d;cases d';rw[K7];simp
 rw[<-h];exact fF _ _ _ _ _ rfl (fI isAgg3 rfl) (fI isAgg3 rfl) (mC underlying3)<|
  fF _ _ _ _ _ rfl (fI isAgg3 rfl) (fI isAgg3 rfl) (mC underlying3)<|
  fF _ _ _ _ _ rfl (fI isAgg3 rfl) (fI isAgg3 rfl) (mC underlying3)<|
  QQ _ _ _
theorem aH5(D:Nat)(d d':Seen)(w:World):(Op.eqFields (D+2) #[.int .i64 (d.bZ),.int .i64 (d.dZ)] #[.int .i64 (d'.bZ),.int .i64 (d'.dZ)] (match prog.underlying 157 with|some (.struct fs)=>fs|_=>#[]).toList).run prog w=.ok (decide (d=d')) w:=by
 rw[underlying157];have h:(d.bZ == d'.bZ && (d.dZ == d'.dZ && true))=decide (d=d'):=by cases d;cases d';rw[K7];simp
 rw[<-h];exact fF _ _ _ _ _ rfl (fI isAgg3 rfl) (fI isAgg3 rfl) (mC underlying3)<|
  fF _ _ _ _ _ rfl (fI isAgg3 rfl) (fI isAgg3 rfl) (mC underlying3)<|
  QQ _ _ _
theorem aH6(D:Nat)(d d':aQ)(w:World):(Op.eqFields (D+2) #[.int .i64 (d.Key),.bool (d.GC),.int .i64 (d.eN)] #[.int .i64 (d'.Key),.bool (d'.GC),.int .i64 (d'.eN)] (match prog.underlying 159 with|some (.struct fs)=>fs|_=>#[]).toList).run prog w=.ok (decide (d=d')) w:=by
 rw[underlying159];have h:(d.Key == d'.Key && (d.GC == d'.GC && (d.eN == d'.eN && true)))=decide (d=d'):=by cases d;cases d';rw[K7];simp
 rw[<-h];exact fF _ _ _ _ _ rfl (fI isAgg3 rfl) (fI isAgg3 rfl) (mC underlying3)<|
  fF _ _ _ _ _ rfl (fI isAgg4 rfl) (fI isAgg4 rfl) (aDQ underlying4)<|
  fF _ _ _ _ _ rfl (fI isAgg3 rfl) (fI isAgg3 rfl) (mC underlying3)<|
  QQ _ _ _
theorem aH7(D:Nat)(d d':cJ)(w:World):(Op.eqFields (D+2) #[.bool (d.Is),.int .i64 (d.eN)] #[.bool (d'.Is),.int .i64 (d'.eN)] (match prog.underlying 187 with|some (.struct fs)=>fs|_=>#[]).toList).run prog w=.ok (decide (d=d')) w:=by
 rw[underlying187];have h:(d.Is == d'.Is && (d.eN == d'.eN && true))=decide (d=d'):=by cases d;cases d';rw[K7];simp
 rw[<-h];exact fF _ _ _ _ _ rfl (fI isAgg4 rfl) (fI isAgg4 rfl) (aDQ underlying4)<|
  fF _ _ _ _ _ rfl (fI isAgg3 rfl) (fI isAgg3 rfl) (mC underlying3)<|
  QQ _ _ _
theorem aM8(D:Nat)(d d':eD)(w:World):(Op.eqFields (D+2) #[.int .i64 (d.Key),.int .i64 (d.eN),.int .i64 (d.Next)] #[.int .i64 (d'.Key),.int .i64 (d'.eN),.int .i64 (d'.Next)] (match prog.underlying 64 with|some (.struct fs)=>fs|_=>#[]).toList).run prog w=.ok (decide (d=d')) w:=by
 rw[underlying64];have h:(d.Key == d'.Key && (d.eN == d'.eN && (d.Next == d'.Next && true)))=decide (d=d'):=by cases d;cases d';rw[K7];simp
 rw[<-h];exact fF _ _ _ _ _ rfl (fI isAgg3 rfl) (fI isAgg3 rfl) (mC underlying3)<|
  fF _ _ _ _ _ rfl (fI isAgg3 rfl) (fI isAgg3 rfl) (mC underlying3)<|
  fF _ _ _ _ _ rfl (fI isAgg3 rfl) (fI isAgg3 rfl) (mC underlying3)<|
  QQ _ _ _
theorem aM9(D:Nat)(d d':Sub)(w:World):(Op.eqFields (D+2) #[.int .i64 (d.Kind),.int .i64 (d.A),.int .i64 (d.Pc),.int .i64 (d.E),.int .i64 (d.Row),.int .i64 (d.B),.int .i64 (d.H),.int .i64 (d.Out),.int .i64 (d.Code),.bool (d.jA)] #[.int .i64 (d'.Kind),.int .i64 (d'.A),.int .i64 (d'.Pc),.int .i64 (d'.E),.int .i64 (d'.Row),.int .i64 (d'.B),.int .i64 (d'.H),.int .i64 (d'.Out),.int .i64 (d'.Code),.bool (d'.jA)] (match prog.underlying 66 with|some (.struct fs)=>fs|_=>#[]).toList).run prog w=.ok (decide (d=d')) w:=by
 rw[underlying66];have h:(d.Kind == d'.Kind && (d.A == d'.A && (d.Pc == d'.Pc && (d.E == d'.E && (d.Row == d'.Row && (d.B == d'.B && (d.H == d'.H && (d.Out == d'.Out && (d.Code == d'.Code && (d.jA == d'.jA && true))))))))))=decide (d=d'):=by cases d;cases d';rw[K7];simp
 rw[<-h];exact fF _ _ _ _ _ rfl (fI isAgg3 rfl) (fI isAgg3 rfl) (mC underlying3)<|
  fF _ _ _ _ _ rfl (fI isAgg3 rfl) (fI isAgg3 rfl) (mC underlying3)<|
  fF _ _ _ _ _ rfl (fI isAgg3 rfl) (fI isAgg3 rfl) (mC underlying3)<|
  fF _ _ _ _ _ rfl (fI isAgg3 rfl) (fI isAgg3 rfl) (mC underlying3)<|
  fF _ _ _ _ _ rfl (fI isAgg3 rfl) (fI isAgg3 rfl) (mC underlying3)<|
  fF _ _ _ _ _ rfl (fI isAgg3 rfl) (fI isAgg3 rfl) (mC underlying3)<|
  fF _ _ _ _ _ rfl (fI isAgg3 rfl) (fI isAgg3 rfl) (mC underlying3)<|
  fF _ _ _ _ _ rfl (fI isAgg3 rfl) (fI isAgg3 rfl) (mC underlying3)<|
  fF _ _ _ _ _ rfl (fI isAgg3 rfl) (fI isAgg3 rfl) (mC underlying3)<|
  fF _ _ _ _ _ rfl (fI isAgg4 rfl) (fI isAgg4 rfl) (aDQ underlying4)<|
  QQ _ _ _
theorem aYY(D:Nat)(d d':bZ)(w:World):(Op.eqFields (D+2) #[.int .i64 (d.Head),.int .i64 (d.dZ),.int .i64 (d.eA)] #[.int .i64 (d'.Head),.int .i64 (d'.dZ),.int .i64 (d'.eA)] (match prog.underlying 74 with|some (.struct fs)=>fs|_=>#[]).toList).run prog w=.ok (decide (d=d')) w:=by
 rw[underlying74];have h:(d.Head == d'.Head && (d.dZ == d'.dZ && (d.eA == d'.eA && true)))=decide (d=d'):=by cases d;cases d';rw[K7];simp
 rw[<-h];exact fF _ _ _ _ _ rfl (fI isAgg3 rfl) (fI isAgg3 rfl) (mC underlying3)<|
  fF _ _ _ _ _ rfl (fI isAgg3 rfl) (fI isAgg3 rfl) (mC underlying3)<|
  fF _ _ _ _ _ rfl (fI isAgg3 rfl) (fI isAgg3 rfl) (mC underlying3)<|
  QQ _ _ _
section
open Go.RowKit Go.Shelf Go.Lib Go.Gv
set_option maxRecDepth 100000
set_option maxHeartbeats 4000000
theorem aWK(b off n c i vb:Nat)(cs vs:List Value)(w:World)(hi:i<n)(hroom:n+1<=c)(hc63:c<=9223372036854775807)(hvb:vb≠b)(hcl:cs.length=n*3)(hvl:vs.length=3)
  (hcs:bL w b off cs) (hsp:∀j,j<c*3->(w.cell? ⟨b,off+j,none⟩).isSome=true) (hfz:∀j,j<c*3->w.frozen? ⟨b,off+j,none⟩=false)
  (hvs:bL w vb 0 vs) (h1c:∀v∈cs,v.oneCell'=true) (h1v:∀v∈vs,v.oneCell'=true)
  (tA tB:TypeId) (kA kB:Nat) (hsa:w.shape? vb=some (tA,kA)) (hsb:w.shape? b=some (tB,kB)) (hkB:kB≠0) (hfa:w.frozen? ⟨vb,0,none⟩=false) (hfe:w.frozen? ⟨vb,kA,none⟩=false) :
  Calls prog 396 #[.slice (some ⟨b,off,none⟩) n c,.int .i64 i,.slice (some ⟨vb,0,none⟩) 1 1] w λe w'=>
   e=.returned (.slice (some ⟨b,off,none⟩) (n+1) c)/\w'=(w.drew.setCells b (off+(i+1)*3) (cs.drop (i*3))).setCells b (off+i*3) vs:=by
 have u0:=run_underlying underlying68;have hz2:¬((i:Int)=(n:Int)):=aa
 have hsz:(prog.info? 159).map (·.size)=some 3:=by kernel_rfl
 have hov:∀lb cb,(callFunc 443 #[.slice (some ⟨vb,0,none⟩) 1 1,.slice (some ⟨b,off+(i+1)*3,none⟩) lb cb]).run prog w=.ok (.value (.bool false)) w:=λlb cb=>by
  rw[run_callFunc_extern func443 (by kernel_rfl) (by kernel_rfl) (by kernel_rfl) (e:=Extern.SlicesOverlaps.overlaps #[68,68] #[4]) (by kernel_rfl),
   Lib.run_overlaps_apart w 68 4 159 underlying68 3 sizeOf159 ⟨vb,0,none⟩ ⟨b,off+(i+1)*3,none⟩ 1 1 lb cb hvb tA tB kA kB hsa hsb hkB hfa hfe]
  rfl
 have hdl:(cs.drop (i*3)).length=(n-i)*3:=by rw[aHT,hcl];omega
 have mixed:=aC;have hw1:IntKind.i64.wrap ((i:Int)+1)=(i:Int)+1:=by rw[IntKind.wrap_i64];omega
 have hw2:IntKind.i64.wrap ((n:Int)+1)=(n:Int)+1:=by rw[IntKind.wrap_i64];omega
 have hb1:(0:Int)<=(i:Int)+1:=aa
 have hin:i<=n:=aa
 have htn:((i:Int)+1).toNat=i+1:=aa
 have htm:((n:Int)+1).toNat=n+1:=aa
 have hb2:¬(c=i+1):=aa
 have hb3:(i:Int)<=(n:Int)+1:=aa
 have hb4:¬(c=i):=aa
 have hcp1:∀ty dc sc,(Builtin.copy_ #[68,68] ty #[.slice (some ⟨b,off+(i+1)*3,none⟩) (n-i) dc,.slice (some ⟨b,off+i*3,none⟩) (n+1-i) sc]).run prog w.drew=.ok (goInt (n-i:Nat)) (w.drew.setCells b (off+(i+1)*3) (cs.drop (i*3))):=λty dc sc=>
  VL w.drew _ _ ty 159 3 b (off+(i+1)*3) (n-i) dc ⟨b,off+i*3,none⟩ (n+1-i) sc (n-i) (cs.drop (i*3)) underlying68 hsz (by simp only[Nat.min_def];split<;>omega) hdl
   (λj v hj=>by rw[Addr.add_lit,YI];exact hcs (i*3+j) v (by rwa [List.getElem?_drop] at hj))
   (λj hj=>by rw[YI];exact hsp _ aa) (λj hj=>by rw[YI];exact hfz _ aa) (λv hv=>h1c v (aLW hv))
 obtain⟨W1,hW1⟩:∃W1,W1=w.drew.setCells b (off+(i+1)*3) (cs.drop (i*3)):=⟨_,rfl⟩;have hsp1:∀k,k<c*3->(W1.cell? ⟨b,off+k,none⟩).isSome=true:=λk hk=>by rw[hW1];exact isSome_setCells b _ _ _ (λj hj=>by rw[YI];exact hsp _ aa) _ (hsp k hk)
 have hcp2:∀(W:World),(∀x,W.cell? x=W1.cell? x)->(∀x,W.frozen? x=W1.frozen? x)->∀ty dc,(Builtin.copy_ #[68,68] ty #[.slice (some ⟨b,off+i*3,none⟩) (n+1-i) dc,.slice (some ⟨vb,0,none⟩) 1 1]).run prog W=.ok (goInt 1) (W.setCells b (off+i*3) vs):=λW hWc hWf ty dc=>
  VL W _ _ ty 159 3 b (off+i*3) (n+1-i) dc ⟨vb,0,none⟩ 1 1 1 vs underlying68 hsz (by simp only[Nat.min_def];split<;>omega) (by rw[hvl])
   (λj v hj=>by
    rw[Addr.add_lit,hWc,hW1,World.cell?_setCells_out b _ _ _ _ (λh _=>absurd h hvb)];exact hvs j v hj)
   (λj hj=>by rw[hWc,YI];exact hsp1 _ aa) (λj hj=>by rw[hWf,hW1,World.frozen?_setCells,YI];exact hfz _ aa) h1v
 rw[<-hW1] at hcp1
 go_enter func396,ntmps396
 go_wp2_with (simp only[hov])
 go_region_law_o (refine step_copy_runI rfl _ _ 68 68 rfl _ _ (by simp[Act.eval,Act.put]) (by simp[Act.eval,Act.put]) (hcp1 _ _ _) ?_)
 go_wp2_with (at_builtin;refine wpList_copy_runI _ rfl _ _ 68 68 rfl _ _ rfl rfl (hcp2 _ (λ_=>rfl) (λ_=>rfl) _ _) ?_)
 go_ret
 first|exact⟨rfl,rfl⟩|exact⟨rfl,by rw[hW1]⟩
end
section
open Go.RowKit Go.Shelf Go.Lib Go.Gv
set_option maxRecDepth 100000
set_option maxHeartbeats 4000000
theorem aYZ(b off n c vb:Nat)(vs:List Value)(w:World)(hroom:n+1<=c)(hc63:c<=9223372036854775807)(hvl:vs.length=3)
  (hsp:∀j,j<c*3->(w.cell? ⟨b,off+j,none⟩).isSome=true) (hfz:∀j,j<c*3->w.frozen? ⟨b,off+j,none⟩=false) (hvs:bL w vb 0 vs) (h1v:∀v∈vs,v.oneCell'=true) :
  Calls prog 396 #[.slice (some ⟨b,off,none⟩) n c,.int .i64 n,.slice (some ⟨vb,0,none⟩) 1 1] w λe w'=>
   e=.returned (.slice (some ⟨b,off,none⟩) (n+1) c)/\w'=w.setCells b (off+n*3) vs:=by
 have u0:=run_underlying underlying68;have mixed:=aC;obtain⟨i0,hi0,hz0,hzs,hzb⟩:=hO;have hsrc:Src prog i0.size 68 (.slice (some ⟨vb,0,none⟩) 1 1) 1 vs w:=by rw[hzs];exact Src.ofSlice w underlying68 ⟨vb,0,none⟩ 1 1 vs aa (λj u hj=>by rw[Addr.add_lit];exact hvs j u hj) h1v
 have hrun:=run_append_room_src w 68 68 68 159 i0 underlying68 hi0 b off n c (.slice (some ⟨vb,0,none⟩) 1 1) 1 vs hsrc hroom (by rw[hzs,hvl];exact λj hj=>by rw[YI];exact hsp _ aa) (by rw[hzs,hvl];exact λj hj=>by rw[YI];exact hfz _ aa);rw[hzs] at hrun
 go_enter func396,ntmps396
 go_wp2_with (at_builtin;refine Lib.wpList_append_run _ rfl _ _ _ _ rfl _ _ rfl rfl _ _ hrun ?_)
 go_ret
 exact⟨rfl,rfl⟩
theorem a2W(base:Option Addr)(n c vb:Nat)(cs vs:List Value)(w:World)(hnc:n<=c)(hroom:c<n+1)(hbig:n+1<=1073741824)(hcl:cs.length=n*3)(hvl:vs.length=3)(hnil:base=none->n=0)
  (hcs:∀a,base=some a->∀j v,cs[j]?=some v->w.cell? (a.add j)=some v) (hvs:bL w vb 0 vs) (h1v:∀v∈vs,v.oneCell'=true) :
  Calls prog 396 #[.slice base n c,.int .i64 n,.slice (some ⟨vb,0,none⟩) 1 1] w λe w'=>
   e=.returned (.slice (some ⟨w.heap.size,0,none⟩) (n+1) (grownCap w (n+1) c 159)) /\
   w'=w.drew.alloc (.cells ((cs++vs).toArray++Builtin.zeroCells (.agg #[.int .i64 0,.bool false,.int .i64 0]:Value).cells (grownCap w (n+1) c 159-(n+1))) 159):=by
 have u0:=run_underlying underlying68;have mixed:=aC;obtain⟨i0,hi0,hz0,hzs,hzb⟩:=hO;have hsrc:Src prog i0.size 68 (.slice (some ⟨vb,0,none⟩) 1 1) 1 vs w:=by rw[hzs];exact Src.ofSlice w underlying68 ⟨vb,0,none⟩ 1 1 vs aa (λj u hj=>by rw[Addr.add_lit];exact hvs j u hj) h1v
 have hold:(Builtin.firstCells i0.size n (.slice base n c)).run prog w.drew=.ok cs.toArray w.drew:=by
  rw[hzs];cases base with
  |none=>
   have h0:=hnil rfl;subst h0;rw[List.length_eq_zero_iff.1 (by omega:cs.length=0)];exact run_firstCells_none w.drew 3 0 0 c
  |some a=>exact run_firstCells_some w.drew 3 n a n c cs hcl (λj v hj=>hcs a rfl j v hj)
 have hfit:Builtin.nextslicecap (n+1) c*i0.bytes<=281474976710656:=growslice_fits hroom (xM (Nat.mul_le_mul hbig hzb) ai);have hrun:=run_append_grow_src w 68 68 68 159 i0 _ underlying68 hi0 hz0 base n c cs hold _ 1 vs hsrc hroom aa hfit
 go_enter func396,ntmps396
 cases base with
 |none=>
  have h0:=hnil rfl;subst h0
  go_wp2_with (at_builtin;refine Lib.wpList_append_run _ rfl _ _ _ _ rfl _ _ rfl rfl _ _ hrun ?_)
  go_ret
  exact⟨rfl,rfl⟩
 |some a=>
  obtain⟨ab,ao,asp⟩:=a
  go_wp2_with (at_builtin;refine Lib.wpList_append_run _ rfl _ _ _ _ rfl _ _ rfl rfl _ _ hrun ?_)
  all_goals (go_ret;exact⟨rfl,rfl⟩)
theorem aY0(b off n c i vb:Nat)(cs vs:List Value)(w:World)(hi:i<n)(hnc:n<=c)(hroom:c<n+1)(hbig:n+1<=1073741824)(hcl:cs.length=n*3)(hvl:vs.length=3)
  (hcs:bL w b off cs) (hvs:bL w vb 0 vs) (h1c:∀v∈cs,v.oneCell'=true) (h1v:∀v∈vs,v.oneCell'=true) :
  Calls prog 396 #[.slice (some ⟨b,off,none⟩) n c,.int .i64 i,.slice (some ⟨vb,0,none⟩) 1 1] w λe w'=>
   e=.returned (.slice (some ⟨w.heap.size,0,none⟩) (n+1) (grownCap w (n+1) c 159)) /\
   w'=(((w.alloc (.cells ((cs.take (i*3)).toArray++Builtin.zeroCells (.agg #[.int .i64 0,.bool false,.int .i64 0]:Value).cells (n+1-i)++Builtin.zeroCells (.agg #[.int .i64 0,.bool false,.int .i64 0]:Value).cells (grownCap w (n+1) c 159-(n+1))) 159)).drew.setCells w.heap.size (i*3) vs).drew).setCells w.heap.size ((i+1)*3) (cs.drop (i*3)):=by
 have u0:=run_underlying underlying68;have u3:=run_underlying underlying3;have mixed:=aC;obtain⟨i0,hi0,hz0,hzs,hzb⟩:=hO;have hz2:¬((i:Int)=(n:Int)):=aa
 have hz3:(c:Int)<(n:Int)+1:=aa
 have hsz:(prog.info? 159).map (·.size)=some 3:=by rw[hi0];simp[hzs]
 have hbw:b<w.heap.size:=block_lt_of_cell (hcs 0 _ (lH aa));have hvw:vb<w.heap.size:=block_lt_of_cell (hvs 0 _ (lH aa));have hkk:(n:Int)+1-(i:Int)=((n+1-i:Nat):Int):=aa
 have hik:i+(n+1-i)=n+1:=aa
 have htl:(cs.take (i*3)).length=i*3:=by rw[aDN];omega
 have hold:(Builtin.firstCells i0.size i (.slice (some ⟨b,off,none⟩) i c)).run prog w.drew=.ok (cs.take (i*3)).toArray w.drew:=by
  rw[hzs];exact run_firstCells_some w.drew 3 i ⟨b,off,none⟩ i c (cs.take (i*3)) htl (λj v hj=>by
   rw[Addr.add_lit];rw[aHS] at hj;split at hj
   ·exact hcs j v hj
   ·cases hj)
 have hfit:Builtin.nextslicecap (n+1) c*i0.bytes<=281474976710656:=growslice_fits hroom (xM (Nat.mul_le_mul hbig hzb) ai);have hrz:∀ty,(Builtin.append_ #[68,3] ty #[.slice (some ⟨b,off,none⟩) i c,.int .i64 ((n:Int)+1-(i:Int))]).run prog w =
   .ok (.slice (some ⟨w.heap.size,0,none⟩) (n+1) (grownCap w (n+1) c 159)) (w.drew.alloc (.cells ((cs.take (i*3)).toArray++Builtin.zeroCells (.agg #[.int .i64 0,.bool false,.int .i64 0]:Value).cells (n+1-i)++Builtin.zeroCells (.agg #[.int .i64 0,.bool false,.int .i64 0]:Value).cells (grownCap w (n+1) c 159-(n+1))) 159)):=λty=>by
  have h:=Lib.run_append_grow_zeros w 68 3 ty 159 i0 _ .i64 .i64 underlying68 underlying3 hi0 hz0 (some ⟨b,off,none⟩) i c (cs.take (i*3)) hold (n+1-i) aa aa aa aa (xM (Nat.mul_le_mul (show n+1-i<=1073741824 by omega) hzb) ai) (by rw[hik];exact hfit);rw[hik] at h;rw[hkk];exact h
 obtain⟨G,hG⟩:∃G,G=grownCap w (n+1) c 159:=⟨_,rfl⟩;obtain⟨ROW,hROW⟩:∃ROW:Array Value,ROW=(cs.take (i*3)).toArray++Builtin.zeroCells (.agg #[.int .i64 0,.bool false,.int .i64 0]:Value).cells (n+1-i)++Builtin.zeroCells (.agg #[.int .i64 0,.bool false,.int .i64 0]:Value).cells (G-(n+1)):=⟨_,rfl⟩;rw[<-hG] at hrz ⊢;rw[<-hROW] at hrz ⊢;have hRl:(n+1)*3<=ROW.size:=by rw[hROW];simp only[Array.size_append,List.size_toArray,htl,size_zeroCells];have:(.agg #[.int .i64 0,.bool false,.int .i64 0]:Value).cells.size=3:=rfl;rw[this];omega
 obtain⟨W1,hW1⟩:∃W1,W1=w.drew.alloc (.cells ROW 159):=⟨_,rfl⟩;rw[<-hW1] at hrz;have hN:∀j,j<(n+1)*3->(W1.cell? ⟨w.heap.size,j,none⟩).isSome=true:=λj hj=>by rw[hW1,World.cell?_alloc_at (w:=w.drew) ROW _ w.heap.size j rfl,Array.getElem?_eq_getElem aa];rfl
 have hNf:∀j,W1.frozen? ⟨w.heap.size,j,none⟩=false:=λj=>by rw[hW1];exact World.frozen?_alloc_at (w:=w.drew) ROW _ w.heap.size j rfl
 have hOb:∀j v,w.cell? ⟨b,j,none⟩=some v->W1.cell? ⟨b,j,none⟩=some v:=λj v h=>by rw[hW1,World.cell?_alloc_past (w:=w.drew) _ b j hbw];exact h
 have hOv:∀j v,w.cell? ⟨vb,j,none⟩=some v->W1.cell? ⟨vb,j,none⟩=some v:=λj v h=>by rw[hW1,World.cell?_alloc_past (w:=w.drew) _ vb j hvw];exact h
 have hcpA:∀(W:World),(∀x,W.cell? x=W1.cell? x)->(∀x,W.frozen? x=W1.frozen? x)->∀ty dc,(Builtin.copy_ #[68,68] ty #[.slice (some ⟨w.heap.size,i*3,none⟩) (n+1-i) dc,.slice (some ⟨vb,0,none⟩) 1 1]).run prog W=.ok (goInt 1) (W.setCells w.heap.size (i*3) vs):=λW hWc hWf ty dc=>
  VL W _ _ ty 159 3 w.heap.size (i*3) (n+1-i) dc ⟨vb,0,none⟩ 1 1 1 vs underlying68 hsz (by simp only[Nat.min_def];split<;>omega) (by rw[hvl])
   (λj v hj=>by rw[Addr.add_lit,hWc];exact hOv _ v (hvs j v hj))
   (λj hj=>by rw[hWc];exact hN _ aa) (λj hj=>by rw[hWf];exact hNf _) h1v
 have hGn:n+1<=G:=by rw[hG];exact grownCap_ge w _ _ _
 have hG63:G<=9223372036854775807:=by have:=grownCap_le_maxLen w (n+1) c 159 (by unfold maxLen;omega);rw[<-hG] at this;unfold maxLen at this;omega
 have hGi:¬(G=i):=aa
 have hGim:¬(G=i+1):=aa
 have hci:¬(c=i):=aa
 have hbN:b≠w.heap.size:=aa
 have hdl:(cs.drop (i*3)).length=(n-i)*3:=by rw[aHT,hcl];omega
 have hcpB:∀(W:World),(∀x,W.cell? x=(W1.setCells w.heap.size (i*3) vs).cell? x)->(∀x,W.frozen? x=(W1.setCells w.heap.size (i*3) vs).frozen? x)->∀ty dc sc,(Builtin.copy_ #[68,68] ty #[.slice (some ⟨w.heap.size,(i+1)*3,none⟩) (n-i) dc,.slice (some ⟨b,off+i*3,none⟩) (n-i) sc]).run prog W=.ok (goInt (n-i:Nat)) (W.setCells w.heap.size ((i+1)*3) (cs.drop (i*3))):=λW hWc hWf ty dc sc=>
  VL W _ _ ty 159 3 w.heap.size ((i+1)*3) (n-i) dc ⟨b,off+i*3,none⟩ (n-i) sc (n-i) (cs.drop (i*3)) underlying68 hsz (by simp only[Nat.min_def];split<;>omega) hdl
   (λj v hj=>by
    rw[Addr.add_lit,hWc,World.cell?_setCells_out _ _ _ _ _ (λh _=>absurd h hbN),YI];exact hOb _ v (hcs (i*3+j) v (by rwa [List.getElem?_drop] at hj)))
   (λj hj=>by rw[hWc];exact isSome_setCells _ _ _ _ (λt ht=>hN _ aa) _ (hN _ aa))
   (λj hj=>by rw[hWf,World.frozen?_setCells];exact hNf _) (λv hv=>h1c v (aLW hv))
 subst hW1;have hE1:∀x,((w.alloc (.cells ROW 159)).drew).cell? x=(w.drew.alloc (.cells ROW 159)).cell? x:=λx=>rfl;have hE2:∀x,((w.alloc (.cells ROW 159)).drew).frozen? x=(w.drew.alloc (.cells ROW 159)).frozen? x:=λx=>rfl;have hF1:∀x,(((w.alloc (.cells ROW 159)).drew.setCells w.heap.size (i*3) vs).drew).cell? x=((w.drew.alloc (.cells ROW 159)).setCells w.heap.size (i*3) vs).cell? x:=λx=>rfl;have hF2:∀x,(((w.alloc (.cells ROW 159)).drew.setCells w.heap.size (i*3) vs).drew).frozen? x=((w.drew.alloc (.cells ROW 159)).setCells w.heap.size (i*3) vs).frozen? x:=λx=>rfl;have hw1:IntKind.i64.wrap ((i:Int)+1)=(i:Int)+1:=by rw[IntKind.wrap_i64];omega
 have hw2:IntKind.i64.wrap ((n:Int)+1)=(n:Int)+1:=by rw[IntKind.wrap_i64];omega
 have hw3:IntKind.i64.wrap ((n:Int)+1-(i:Int))=(n:Int)+1-(i:Int):=by rw[IntKind.wrap_i64];omega
 have hb1:(0:Int)<=(i:Int)+1:=aa
 have hin:i<=n:=aa
 have htn:((i:Int)+1).toNat=i+1:=aa
 have hb3:(i:Int)<=(n:Int):=aa
 clear hkk hik hold hROW hG hRl htl
 go_enter func396,ntmps396
 go_wp2_with (first
  |(at_builtin;refine Lib.wpList_append_run _ rfl _ _ _ _ rfl _ _ rfl rfl _ _ (hrz _) ?_)
  |(at_builtin;refine wpList_copy_runI _ rfl _ _ 68 68 rfl _ _ rfl rfl (hcpA _ hE1 hE2 _ _) ?_)
  |(at_builtin;refine wpList_copy_runI _ rfl _ _ 68 68 rfl _ _ rfl rfl (hcpB _ (λ_=>rfl) (λ_=>rfl) _ _ _) ?_))
 go_region_law_o (refine step_copy_runI rfl _ _ 68 68 rfl (.slice (some ⟨w.heap.size,(i+1)*3,none⟩) (n-i) (G-(i+1))) (.slice (some ⟨b,off+i*3,none⟩) (n-i) (c-i)) (by simp[Act.eval,Act.put]) (by simp[Act.eval,Act.put]) (hcpB _ hF1 hF2 3 (G-(i+1)) (c-i)) ?_)
 go_wp2
 go_ret
 exact⟨rfl,rfl⟩
end
end Go.Proofs.YtonkeoekmfkaoaaGreat
end
