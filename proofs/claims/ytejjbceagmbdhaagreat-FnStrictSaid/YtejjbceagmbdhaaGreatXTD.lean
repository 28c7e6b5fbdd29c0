import Derived.Test.YtejjbceagmbdhaaGreatXTC
import Derived.Test.YtejjbceagmbdhaaGreatProg
set_option linter.unusedVariables false
set_option linter.unusedSimpArgs false
set_option linter.unusedSectionVars false
set_option linter.constructorNameAsVariable false
set_option linter.unnecessarySimpa false
noncomputable section
namespace Go.Gv
noncomputable section
def aAC(code:List UInt8):Option Bool:=
 some (decide (1048576 < (code.length:Int)))
def aCJ(x5:Int):Option (Int×Int):=
 some (0,x5)
def CD(code:List UInt8)(x3 x4:Int)(x6:Bool):Option (Step (Int×Int) Int):=
 (if x6 then (idx code x4).bind fun x7=>some (.next (fU .and .i64 (aZ ((aZ ((aZ (x3 * 131))+(x7.toNat:Int)))+7)) 1073741823,aZ (x4+1))) else some (.stop (x3)))
def RF(code:List UInt8):(Int×Int)->Option (Step (Int×Int) Int)
 | (x3,x4)=>(if decide (x4 < (code.length:Int)) then CD code x3 x4 (decide (x4 < 4000)) else CD code x3 x4 false)
def aCK:Int->Option (Int×Int)
 | x5=>aCJ x5
def L9(code:List UInt8):Option (Int×Int):=
 (loop (RF code) (aZ (10101+(code.length:Int)),0)).bind (aCK)
def zE(c:cL)(x1 x2:Int):Option (Int×(Int×Int)):=
 some (x1,(x2,aZ ((aZ (c.h * 6364136223846793005))+1442695040888963407)))
def oY(c:cL):Option (Int×(Int×Int)):=
 (if decide (c.i < (c.b.length:Int)) then (idx c.b c.i).bind fun x3=>zE c (fU .and .i64 (aZ ((fU .and .i64 (fU .xor .i64 (mN .i64 (aZ ((aZ (c.h * 6364136223846793005))+1442695040888963407)) 33) (mN .i64 (aZ ((aZ (c.h * 6364136223846793005))+1442695040888963407)) 45)) 255)+(x3.toNat:Int))) 255) (aZ (c.i+1)) else zE c (fU .and .i64 (fU .xor .i64 (mN .i64 (aZ ((aZ (c.h * 6364136223846793005))+1442695040888963407)) 33) (mN .i64 (aZ ((aZ (c.h * 6364136223846793005))+1442695040888963407)) 45)) 255) c.i)
def eO(c:cL)(n:Int):Option (Int×(Int×Int)):=
 (if decide (n<=0) then some (0,(c.i,c.h)) else (if decide (n<=256) then (oY c).bind fun x1=>need (n≠0) (some (Int.tmod x1.1 n,(x1.2.1,x1.2.2))) else (oY c).bind fun x2=>(oY (⟨c.b,x2.2.1,x2.2.2⟩:cL)).bind fun x3=>(oY (⟨c.b,x3.2.1,x3.2.2⟩:cL)).bind fun x4=>(oY (⟨c.b,x4.2.1,x4.2.2⟩:cL)).bind fun x5=>need (n≠0) (some (Int.tmod (aZ ((aZ ((aZ ((aZ (x2.1 * 16777216))+(aZ (x3.1 * 65536))))+(aZ (x4.1 * 256))))+x5.1)) n,(x5.2.1,x5.2.2)))))
def O0(c:cL)(n:Int):Option (Bool×(Int×Int)):=
 (eO c n).bind fun x1=>some (x1.1 == 0,(x1.2.1,x1.2.2))
def lK(c:cL)(list:List Int):Option (Int×(Int×Int)):=
 (eO c (list.length:Int)).bind fun x1=>(idx list x1.1).bind fun x2=>some (x2,(x1.2.1,x1.2.2))
def zF(x1 x2:Int×(Int×Int))(x3 x4 x5:Int):Option (iD×(Int×Int)):=
 some ((⟨x1.1,x2.1,x5⟩:iD),(x3,x4))
def zG(c:cL)(x1 x2:Int×(Int×Int))(x6:Bool):Option (iD×(Int×Int)):=
 (if x6 then (eO (⟨c.b,x2.2.1,x2.2.2⟩:cL) 60000).bind fun x7=>(lK (⟨c.b,x7.2.1,x7.2.2⟩:cL) ([1,65535,x7.1]:List Int)).bind fun x8=>zF x1 x2 x8.2.1 x8.2.2 x8.1 else zF x1 x2 x2.2.1 x2.2.2 0)
def DB(c:cL):Option (iD×(Int×Int)):=
 (lK c ([1,1,2,2,3,4,4]:List Int)).bind fun x1=>(eO (⟨c.b,x1.2.1,x1.2.2⟩:cL) 6).bind fun x2=>(if x1.1 == 2 then zG c x1 x2 true else zG c x1 x2 (x1.1 == 4))
def W5(x11 x12:Int)(x13:List iD):Option (Batch×(Int×Int)):=
 some ((⟨false,x13⟩:Batch),(x11,x12))
def D5(x7 x14 x15:Int)(x16:List iD):Option (Step (Int×Int×Int×(List iD)) (Int×Int×(List iD))):=
 some (.next (aZ (x7 - 1),x14,x15,x16))
def NG(c:cL):(Int×Int×Int×(List iD))->Option (Step (Int×Int×Int×(List iD)) (Int×Int×(List iD)))
 | (x7,x8,x9,x10)=>(if decide (0 < x7) then (DB (⟨c.b,x8,x9⟩:cL)).bind fun x17=>need (x10.length+([x17.1]).length<=1073741824)<|D5 x7 x17.2.1 x17.2.2 (x10++([x17.1])) else some (.stop ((x8,x9,x10))))
def W6:(Int×Int×(List iD))->Option (Batch×(Int×Int))
 | (x11,x12,x13)=>W5 x11 x12 x13
def E2(c:cL):Option (Batch×(Int×Int)):=
 (O0 c 4).bind fun x1=>(if x1.1 then some ((⟨true,[]⟩:Batch),(x1.2.1,x1.2.2)) else (eO (⟨c.b,x1.2.1,x1.2.2⟩:cL) 3).bind fun x2=>(loop (NG c) (aZ (1+x2.1),x2.2.1,x2.2.2,[])).bind (W6))
def TF(x9:List aI)(x10 x11:Int):Option ((List aI)×(Int×Int)):=
 some (x9,(x10,x11))
def IA(x5:List aI)(x6 x21 x22:Int)(x23:List Batch):Option (Step ((List aI)×Int×Int×Int) ((List aI)×Int×Int)):=
 need (x5.length+([(⟨x23⟩:aI)]).length<=1073741824) (some (.next (x5++([(⟨x23⟩:aI)]),aZ (x6+1),x21,x22)))
def zH(x17 x24 x25:Int)(x26:List Batch):Option (Step (Int×Int×Int×(List Batch)) (Int×Int×(List Batch))):=
 some (.next (aZ (x17 - 1),x24,x25,x26))
def IB(c:cL):(Int×Int×Int×(List Batch))->Option (Step (Int×Int×Int×(List Batch)) (Int×Int×(List Batch)))
 | (x17,x18,x19,x20)=>(if decide (0 < x17) then (E2 (⟨c.b,x18,x19⟩:cL)).bind fun x27=>need (x20.length+([x27.1]).length<=1073741824)<|zH x17 x27.2.1 x27.2.2 (x20++([x27.1])) else some (.stop ((x18,x19,x20))))
def IC(x5:List aI)(x6:Int):(Int×Int×(List Batch))->Option (Step ((List aI)×Int×Int×Int) ((List aI)×Int×Int))
 | (x21,x22,x23)=>IA x5 x6 x21 x22 x23
def ID(c:cL)(most:Int):((List aI)×Int×Int×Int)->Option (Step ((List aI)×Int×Int×Int) ((List aI)×Int×Int))
 | (x5,x6,x7,x8)=>(if decide (x6 < 3) then (eO (⟨c.b,x7,x8⟩:cL) (aZ (most+1))).bind fun x12=>(loop (IB c) (x12.1,x12.2.1,x12.2.2,[])).bind (IC x5 x6) else some (.stop ((x5,x7,x8))))
def TG:((List aI)×Int×Int)->Option ((List aI)×(Int×Int))
 | (x9,x10,x11)=>TF x9 x10 x11
def rT(c:cL)(most:Int):Option ((List aI)×(Int×Int)):=
 (loop (ID c most) (([]:List aI),0,c.i,c.h)).bind (TG)
def VE(x10:List Int)(x11 x12:Int):Option ((List Int)×(Int×Int)):=
 some (x10,(x11,x12))
def KX(x7:Int)(x14:Int×(Int×Int))(x19:List Int):Option (Step ((List Int)×Int×Int×Int) ((List Int)×Int×Int)):=
 some (.next (x19,aZ (x7 - 1),x14.2.1,x14.2.2))
def KY(x13:Int×(Int×Int)):((List Int)×Int)->Option (Step ((List Int)×Int) (List Int))
 | (x17,x18)=>(if decide (0 < x18) then need (x17.length+([x13.1]).length<=1073741824) (some (.next (x17++([x13.1]),aZ (x18 - 1)))) else some (.stop (x17)))
def KZ(x7:Int)(x14:Int×(Int×Int)):(List Int)->Option (Step ((List Int)×Int×Int×Int) ((List Int)×Int×Int))
 | x19=>KX x7 x14 x19
def K0(c:cL):((List Int)×Int×Int×Int)->Option (Step ((List Int)×Int×Int×Int) ((List Int)×Int×Int))
 | (x6,x7,x8,x9)=>(if decide (0 < x7) then (eO (⟨c.b,x8,x9⟩:cL) 3).bind fun x13=>(eO (⟨c.b,x13.2.1,x13.2.2⟩:cL) 8).bind fun x14=>(loop (KY x13) (x6,aZ (1+x14.1))).bind (KZ x7 x14) else some (.stop ((x6,x8,x9))))
def VF:((List Int)×Int×Int)->Option ((List Int)×(Int×Int))
 | (x10,x11,x12)=>VE x10 x11 x12
def CE(c:cL)(most:Int):Option ((List Int)×(Int×Int)):=
 (eO c most).bind fun x1=>(loop (K0 c) (([]:List Int),x1.1,x1.2.1,x1.2.2)).bind (VF)
def nU(x2 x3 x4 x5 x6:Int):Option (iD×(Int×Int)):=
 some ((⟨x4,x5,x6⟩:iD),(x2,x3))
def IE(c:cL):Option (iD×(Int×Int)):=
 (DB c).bind fun x1=>(eO (⟨c.b,x1.2.1,x1.2.2⟩:cL) 14).bind fun x7=>(if x7.1 == 0 then (lK (⟨c.b,x7.2.1,x7.2.2⟩:cL) ([0,5]:List Int)).bind fun x8=>nU x8.2.1 x8.2.2 x8.1 x1.1.Key x1.1.eH else (if x7.1 == 1 then (lK (⟨c.b,x7.2.1,x7.2.2⟩:cL) ([(-1),99,100]:List Int)).bind fun x9=>nU x9.2.1 x9.2.2 x1.1.Kind x9.1 x1.1.eH else (if x7.1 == 2 then (lK (⟨c.b,x7.2.1,x7.2.2⟩:cL) ([(-1),65536,1,0]:List Int)).bind fun x10=>nU x10.2.1 x10.2.2 x1.1.Kind x1.1.Key x10.1 else nU x7.2.1 x7.2.2 x1.1.Kind x1.1.Key x1.1.eH)))
def jC(x2:List aI)(x3 x4:Int):Option ((List aI)×(Int×Int)):=
 some (x2,(x3,x4))
def GC(x13:List aI)(x14 x15:Int):Option ((List aI)×(Int×Int)):=
 jC x13 x14 x15
def xR(x10:List aI)(x16:Bool)(x17 x18:Int):Option (Step ((List aI)×Int×Int) ((List aI)×Int×Int)):=
 (if x16 then (idx x10 1).bind fun x19=>need (x19.List.length+([(⟨true,[]⟩:Batch)]).length<=1073741824) (some (.next (x10.set ((1:Int).toNat) (⟨x19.List++([(⟨true,[]⟩:Batch)])⟩:aI),x17,x18))) else some (.stop ((x10,x17,x18))))
def GD(c:cL):((List aI)×Int×Int)->Option (Step ((List aI)×Int×Int) ((List aI)×Int×Int))
 | (x10,x11,x12)=>(idx x10 1).bind fun x20=>(eO (⟨c.b,x11,x12⟩:cL) 2).bind fun x21=>xR x10 (decide ((x20.List.length:Int) < (aZ (12+x21.1)))) x21.2.1 x21.2.2
def R9:((List aI)×Int×Int)->Option ((List aI)×(Int×Int))
 | (x13,x14,x15)=>GC x13 x14 x15
def xS(x22:List aI)(x23 x24:Int):Option ((List aI)×(Int×Int)):=
 jC x22 x23 x24
def wG(c:cL):Option ((List aI)×(Int×Int)):=
 (rT c 5).bind fun x1=>(eO (⟨c.b,x1.2.1,x1.2.2⟩:cL) 20).bind fun x5=>(if x5.1 == 0 then need (0<=(2:Int)/\(2:Int)<=(x1.1.length:Int)) (some ((x1.1.take ((2:Int).toNat)).drop 0,(x5.2.1,x5.2.2))) else (if x5.1 == 1 then (idx x1.1 0).bind fun x6=>need (x6.List.length+([(⟨false,[]⟩:Batch)]).length<=1073741824) (jC (x1.1.set ((0:Int).toNat) (⟨x6.List++([(⟨false,[]⟩:Batch)])⟩:aI)) x5.2.1 x5.2.2) else (if x5.1 == 2 then (loop (GD c) (x1.1,x5.2.1,x5.2.2)).bind (R9) else (if x5.1 == 3 then (idx x1.1 2).bind fun x25=>(IE (⟨c.b,x5.2.1,x5.2.2⟩:cL)).bind fun x26=>need (x25.List.length+([(⟨false,[x26.1]⟩:Batch)]).length<=1073741824)<|xS (x1.1.set ((2:Int).toNat) (⟨x25.List++([(⟨false,[x26.1]⟩:Batch)])⟩:aI)) x26.2.1 x26.2.2 else jC x1.1 x5.2.1 x5.2.2))))
def i6(x4:List aI)(x5:List Int):Option tI:=
 some (⟨x4,x5⟩:tI)
def o5(code:List UInt8):Option tI:=
 (L9 code).bind fun x1=>(rT (⟨code,x1.1,x1.2⟩:cL) 6).bind fun x2=>(CE (⟨code,x2.2.1,x2.2.2⟩:cL) 60).bind fun x3=>(eO (⟨code,x3.2.1,x3.2.2⟩:cL) 16).bind fun x6=>(if x6.1 == 0 then (wG (⟨code,x6.2.1,x6.2.2⟩:cL)).bind fun x7=>i6 x7.1 x3.1 else (if x6.1 == 1 then need (x3.1.length+([(-1),3,1]:List Int).length<=1073741824) (i6 x2.1 (x3.1++([(-1),3,1]:List Int))) else i6 x2.1 x3.1))
def E3(x1:Bool):Option Bool:=
 some x1
def cG(x low high:Int):Option Bool:=
 (if decide (low<=x) then E3 (decide (x<=high)) else E3 false)
def CF(c:iD)(x2:Bool):Option Bool:=
 (if x2 then (cG c.eH 0 65535).bind fun x3=>some x3 else some (c.eH == 0))
def CG(c:iD)(x1:Bool):Option Bool:=
 (if x1 then some false else (if c.Kind == 2 then CF c true else CF c (c.Kind == 4)))
def MA(c:iD):Option Bool:=
 (cG c.Kind 1 4).bind fun x4=>(if !x4 then CG c true else (cG c.Key 0 99).bind fun x5=>CG c (!x5))
def NH(b:Batch):Option Bool:=
 (cG (b.bK.length:Int) 1 6).bind fun x3=>some x3
def mD(b:Batch):Int->Option (Step Int (Out Unit Bool))
 | x2=>(if decide (x2 < (b.bK.length:Int)) then (idx b.bK x2).bind fun x4=>(MA x4).bind fun x5=>(if !x5 then some (.stop (Out.ret false)) else some (.next (aZ (x2+1)))) else some (.stop (Out.brk ())))
def NI(b:Batch):(Out Unit Bool)->Option Bool
 | .brk ()=>NH b
 | .ret r=>some r
def E4(b:Batch):Option Bool:=
 (if b.Collect then some ((b.bK.length:Int) == 0) else (loop (mD b) 0).bind (NI b))
def NJ(todo:List aI):Option Bool:=
 some ((todo.length:Int) == 3)
def NL(x2:Int):Option (Step Int (Out Unit Bool)):=
 some (.next (aZ (x2+1)))
def mE(todo:List aI)(x2:Int):Int->Option (Step Int (Out Unit Bool))
 | x5=>(idx todo x2).bind fun x6=>(if decide (x5 < (x6.List.length:Int)) then (idx todo x2).bind fun x7=>(idx x7.List x5).bind fun x8=>(E4 x8).bind fun x9=>(if !x9 then some (.stop (Out.ret false)) else some (.next (aZ (x5+1)))) else some (.stop (Out.brk ())))
def NM(x2:Int):(Out Unit Bool)->Option (Step Int (Out Unit Bool))
 | .brk ()=>NL x2
 | .ret r=>some (.stop (Out.ret r))
def mF(todo:List aI):Int->Option (Step Int (Out Unit Bool))
 | x2=>(if decide (x2 < (todo.length:Int)) then (idx todo x2).bind fun x3=>(if decide (12 < (x3.List.length:Int)) then some (.stop (Out.ret false)) else (loop (mE todo x2) 0).bind (NM x2)) else some (.stop (Out.brk ())))
def NN(todo:List aI):(Out Unit Bool)->Option Bool
 | .brk ()=>NJ todo
 | .ret r=>some r
def E5(todo:List aI):Option Bool:=
 (loop (mF todo) 0).bind (NN todo)
def W7(x5:List Int):Option Heap:=
 some (⟨List.replicate ((384:Int).toNat) 0,x5⟩:Heap)
def pT:(Int×(List Int))->Option (Step (Int×(List Int)) (List Int))
 | (x3,x4)=>(if decide (x3 < 6) then need (x4.length+([(-1)]).length<=1073741824) (some (.next (aZ (x3+1),x4++([(-1)])))) else some (.stop (x4)))
def W8:(List Int)->Option Heap
 | x5=>W7 x5
def E6:Option Heap:=
 need (0<=(384:Int)/\(384:Int)<=4294967296) ((loop (pT) (0,[])).bind (W8))
def K1:Option aA:=
 some (⟨List.replicate ((3:Int).toNat) (⟨[]⟩:aO),List.replicate ((9:Int).toNat) (⟨[]⟩:aO)⟩:aA)
def JD:Option aA:=
 need (0<=(3:Int)/\(3:Int)<=4294967296)<|need (0<=(9:Int)/\(9:Int)<=4294967296)<|K1
def O1:Option Mem:=
 (E6).bind fun x1=>(JD).bind fun x2=>some (⟨x1,x2⟩:Mem)
def JE:Option aJ:=
 need (0<=(3:Int)/\(3:Int)<=4294967296) (some (⟨0,List.replicate ((3:Int).toNat) (⟨false,0,false,0⟩:qT)⟩:aJ))
def JF:Option (List a8):=
 need (0<=(3:Int)/\(3:Int)<=4294967296) (some (List.replicate ((3:Int).toNat) (⟨[]⟩:a8)))
def O2:Option (List Int):=
 need (0<=(3:Int)/\(3:Int)<=4294967296) (some (List.replicate ((3:Int).toNat) 0))
def E7:Option aB:=
 (O1).bind fun x1=>(JE).bind fun x2=>(JF).bind fun x3=>(O2).bind fun x4=>some (⟨x1,x2,x3,x4⟩:aB)
def MB(l:List iD):Option (List iD):=
 need (([]:List iD).length+l.length<=1073741824) (some (([]:List iD)++l))
def CH(b:Batch):Option Batch:=
 (MB b.bK).bind fun x1=>some (⟨b.Collect,x1⟩:Batch)
def TH(x5:List aI):Option (List aI):=
 some x5
def IF(x3:List aI)(x4:Int)(x10:List Batch):Option (Step ((List aI)×Int) (List aI)):=
 need (x3.length+([(⟨x10⟩:aI)]).length<=1073741824) (some (.next (x3++([(⟨x10⟩:aI)]),aZ (x4+1))))
def zI(x8:Int)(x12:List Batch):Option (Step (Int×(List Batch)) (List Batch)):=
 some (.next (aZ (x8+1),x12))
def zJ(l:List aI)(x4:Int):(Int×(List Batch))->Option (Step (Int×(List Batch)) (List Batch))
 | (x8,x9)=>(idx l x4).bind fun x11=>(if decide (x8 < (x11.List.length:Int)) then (idx l x4).bind fun x13=>(idx x13.List x8).bind fun x14=>(CH x14).bind fun x15=>need (x9.length+([x15]).length<=1073741824)<|zI x8 (x9++([x15])) else some (.stop (x9)))
def IG(x3:List aI)(x4:Int):(List Batch)->Option (Step ((List aI)×Int) (List aI))
 | x10=>IF x3 x4 x10
def zK(l:List aI):((List aI)×Int)->Option (Step ((List aI)×Int) (List aI))
 | (x3,x4)=>(if decide (x4 < (l.length:Int)) then (loop (zJ l x4) (0,[])).bind (IG x3 x4) else some (.stop (x3)))
def TJ:(List aI)->Option (List aI)
 | x5=>TH x5
def zL(l:List aI):Option (List aI):=
 (loop (zK l) (([]:List aI),0)).bind (TJ)
def K2(x2:Table):Option Table:=
 some ({x2 with Log:=[]}:Table)
def CI(todo:List aI):Option Table:=
 (E5 todo).bind fun x1=>(if !x1 then some (⟨(⟨(⟨(⟨[],[]⟩:Heap),(⟨[],[]⟩:aA)⟩:Mem),(⟨0,[]⟩:aJ),[],[]⟩:aB),[],[],[],[],0⟩:Table) else (E7).bind fun x3=>need (0<=(2:Int)/\(2:Int)<=4294967296)<|need (0<=(3:Int)/\(3:Int)<=4294967296)<|(zL todo).bind fun x4=>K2 (⟨x3,List.replicate ((2:Int).toNat) (⟨0,0,0⟩:bV),List.replicate ((3:Int).toNat) (⟨false,(⟨false,[]⟩:Batch),0,0,0,0,0,0,0,0,(⟨0,0,0⟩:bN),false,0,(⟨0,0,0,0,0,0,0,0,0,false⟩:Sub),[],[],[],[],[],[]⟩:aG),x4,[],0⟩:Table))
def IH(x:tI):Option Bool:=
 (CI x.gL).bind fun x1=>some ((x1.aP.length:Int) == 3)
def GF:Option Int:=
 some (-1)
def lL(s:List aI)(f:(aI->Option Bool)):Int->Option (Step Int (Out Unit Int))
 | x2=>(if decide (x2 < (s.length:Int)) then (idx s x2).bind fun x3=>(f x3).bind fun x4=>(if x4 then some (.stop (Out.ret x2)) else some (.next (aZ (x2+1)))) else some (.stop (Out.brk ())))
def rU:(Out Unit Int)->Option Int
 | .brk ()=>GF
 | .ret r=>some r
def yT(s:List aI)(f:(aI->Option Bool)):Option Int:=
 (loop (lL s f) 0).bind (rU)
def lM(s:List aI)(f:(aI->Option Bool)):Option Bool:=
 (yT s f).bind fun x1=>some (decide (0<=x1))
def HN:Option Int:=
 some (-1)
def l7(s:List Batch)(f:(Batch->Option Bool)):Int->Option (Step Int (Out Unit Int))
 | x2=>(if decide (x2 < (s.length:Int)) then (idx s x2).bind fun x3=>(f x3).bind fun x4=>(if x4 then some (.stop (Out.ret x2)) else some (.next (aZ (x2+1)))) else some (.stop (Out.brk ())))
def uJ:(Out Unit Int)->Option Int
 | .brk ()=>HN
 | .ret r=>some r
def zN(s:List Batch)(f:(Batch->Option Bool)):Option Int:=
 (loop (l7 s f) 0).bind (uJ)
def l8(s:List Batch)(f:(Batch->Option Bool)):Option Bool:=
 (zN s f).bind fun x1=>some (decide (0<=x1))
def nV(x1:Bool):Option Bool:=
 some x1
def bQ(n low high:Int):Option Bool:=
 (if decide (low<=n) then nV (decide (n<=high)) else nV false)
def K3:Option Int:=
 some (-1)
def nW(s:List iD)(f:(iD->Option Bool)):Int->Option (Step Int (Out Unit Int))
 | x2=>(if decide (x2 < (s.length:Int)) then (idx s x2).bind fun x3=>(f x3).bind fun x4=>(if x4 then some (.stop (Out.ret x2)) else some (.next (aZ (x2+1)))) else some (.stop (Out.brk ())))
def yU:(Out Unit Int)->Option Int
 | .brk ()=>K3
 | .ret r=>some r
def DC(s:List iD)(f:(iD->Option Bool)):Option Int:=
 (loop (nW s f) 0).bind (yU)
def nX(s:List iD)(f:(iD->Option Bool)):Option Bool:=
 (DC s f).bind fun x1=>some (decide (0<=x1))
def m5(x2:Bool):Option Bool:=
 some x2
def qI(c:iD)(x1:Bool):Option Bool:=
 (bQ c.Kind 1 4).bind fun x3=>(if x3 then (bQ c.Key 0 99).bind fun x4=>(if x4 then (if x1 then (bQ c.eH 0 65535).bind fun x5=>(if x5 then m5 true else m5 (c.eH == 0)) else m5 (c.eH == 0)) else m5 false) else m5 false)
def MC(c:iD):Option Bool:=
 (if c.Kind == 2 then qI c true else qI c (c.Kind == 4))
def GG(c:iD):Option Bool:=
 (MC c).bind fun x1=>some (!x1)
def pU(x1:Bool):Option Bool:=
 some x1
def E8(b:Batch):Option Bool:=
 (if b.Collect then some ((b.bK.length:Int) == 0) else (bQ (b.bK.length:Int) 1 6).bind fun x2=>(if x2 then (nX b.bK (fun y0=>GG y0)).bind fun x3=>pU (!x3) else pU false))
def BX(b:Batch):Option Bool:=
 (E8 b).bind fun x1=>some (!x1)
def rD(x1:Bool):Option Bool:=
 some x1
def zO(q:aI):Option Bool:=
 (if decide (12 < (q.List.length:Int)) then rD true else (l8 q.List (fun y0=>BX y0)).bind fun x2=>rD x2)
def wH(x1:Bool):Option Bool:=
 some x1
def E9(todo:List aI):Option Bool:=
 (if (todo.length:Int) == 3 then (lM todo (fun y0=>zO y0)).bind fun x2=>wH (!x2) else wH false)
def NO(x y:Int):Option (Int×Int):=
 some (IntKind.u64.wrap ((IntKind.u64.wrap ((IntKind.u64.wrap ((mN .u64 x 32) * (mN .u64 y 32)))+(mN .u64 (IntKind.u64.wrap ((IntKind.u64.wrap ((mN .u64 x 32) * (fU .and .u64 y 4294967295)))+(mN .u64 (IntKind.u64.wrap ((fU .and .u64 x 4294967295) * (fU .and .u64 y 4294967295))) 32))) 32)))+(mN .u64 (IntKind.u64.wrap ((fU .and .u64 (IntKind.u64.wrap ((IntKind.u64.wrap ((mN .u64 x 32) * (fU .and .u64 y 4294967295)))+(mN .u64 (IntKind.u64.wrap ((fU .and .u64 x 4294967295) * (fU .and .u64 y 4294967295))) 32))) 4294967295)+(IntKind.u64.wrap ((fU .and .u64 x 4294967295) * (mN .u64 y 32))))) 32)),IntKind.u64.wrap (x * y))
def JG(x y:Int):Option (Int×Int):=
 (NO x y).bind fun x1=>some (x1.1,x1.2)
def O3(x7:List Int):Option (List Int):=
 some x7
def jT:((List Int)×Int)->Option (Step ((List Int)×Int) (List Int))
 | (x5,x6)=>(if decide (x6 < (x5.length:Int)) then need (0<=(x6:Int)/\(x6:Int)<=(x5.length:Int)) (need (0<=(x6:Int)/\(x6:Int)<=(x5.length:Int)) (some (.next (cA x5 x6.toNat ((x5.take x6.toNat).drop 0),aZ (x6+((min ((x5.take x6.toNat).drop 0).length (x5.length - x6.toNat):Nat):Int)))))) else some (.stop (x5)))
def O4:(List Int)->Option (List Int)
 | x7=>O3 x7
def mP(x:List Int)(x1:Int×Int)(x2:Bool):Option (List Int):=
 (if x2 then none else need (0<=(IntKind.i64.wrap x1.2:Int)/\(IntKind.i64.wrap x1.2:Int)<=4294967296) ((loop (jT) (cA (List.replicate ((IntKind.i64.wrap x1.2).toNat) 0) 0 x,((min x.length ((List.replicate ((IntKind.i64.wrap x1.2).toNat) 0:List Int).length - 0):Nat):Int))).bind (O4)))
def rE(x:List Int)(count:Int):Option (List Int):=
 (if decide (count < 0) then none else (JG (IntKind.u64.wrap (x.length:Int)) (IntKind.u64.wrap count)).bind fun x1=>(if decide (0 < x1.1) then mP x x1 true else mP x x1 (decide (9223372036854775807 < x1.2))))
def NP(x1:List Int):Option Heap:=
 some (⟨List.replicate ((384:Int).toNat) 0,x1⟩:Heap)
def FA:Option Heap:=
 need (0<=(384:Int)/\(384:Int)<=4294967296)<|(rE ([(-1)]) 6).bind fun x2=>NP x2
def K4:Option aA:=
 some (⟨List.replicate ((3:Int).toNat) (⟨[]⟩:aO),List.replicate ((9:Int).toNat) (⟨[]⟩:aO)⟩:aA)
def JH:Option aA:=
 need (0<=(3:Int)/\(3:Int)<=4294967296)<|need (0<=(9:Int)/\(9:Int)<=4294967296)<|K4
def O5:Option Mem:=
 (FA).bind fun x1=>(JH).bind fun x2=>some (⟨x1,x2⟩:Mem)
def JI:Option aJ:=
 need (0<=(3:Int)/\(3:Int)<=4294967296) (some (⟨0,List.replicate ((3:Int).toNat) (⟨false,0,false,0⟩:qT)⟩:aJ))
def JJ:Option (List a8):=
 need (0<=(3:Int)/\(3:Int)<=4294967296) (some (List.replicate ((3:Int).toNat) (⟨[]⟩:a8)))
def O6:Option (List Int):=
 need (0<=(3:Int)/\(3:Int)<=4294967296) (some (List.replicate ((3:Int).toNat) 0))
def FB:Option aB:=
 (O5).bind fun x1=>(JI).bind fun x2=>(JJ).bind fun x3=>(O6).bind fun x4=>some (⟨x1,x2,x3,x4⟩:aB)
def nY(s:List iD):Option (List iD):=
 need (([]:List iD).length+s.length<=1073741824) (some (([]:List iD)++s))
def zP(b:Batch):Option Batch:=
 (nY b.bK).bind fun x1=>some (⟨b.Collect,x1⟩:Batch)
def TL(x5:List aI):Option (List aI):=
 some x5
def II(x3:List aI)(x4:Int)(x11:List Batch):Option (Step ((List aI)×Int) (List aI)):=
 need (x3.length+([(⟨x11⟩:aI)]).length<=1073741824) (some (.next (x3++([(⟨x11⟩:aI)]),aZ (x4+1))))
def zQ(x9:Int)(x13:List Batch):Option (Step (Int×(List Batch)) (List Batch)):=
 some (.next (aZ (x9+1),x13))
def zR(x6:aI):(Int×(List Batch))->Option (Step (Int×(List Batch)) (List Batch))
 | (x9,x10)=>(if decide (x9 < (x6.List.length:Int)) then (idx x6.List x9).bind fun x12=>(zP x12).bind fun x14=>need (x10.length+([x14]).length<=1073741824)<|zQ x9 (x10++([x14])) else some (.stop (x10)))
def IJ(x3:List aI)(x4:Int):(List Batch)->Option (Step ((List aI)×Int) (List aI))
 | x11=>II x3 x4 x11
def zS(todo:List aI):((List aI)×Int)->Option (Step ((List aI)×Int) (List aI))
 | (x3,x4)=>(if decide (x4 < (todo.length:Int)) then (idx todo x4).bind fun x6=>(loop (zR x6) (0,[])).bind (IJ x3 x4) else some (.stop (x3)))
def TM:(List aI)->Option (List aI)
 | x5=>TL x5
def zT(todo:List aI):Option (List aI):=
 (loop (zS todo) (([]:List aI),0)).bind (TM)
def K5(x2:Table):Option Table:=
 some ({x2 with Log:=[]}:Table)
def CJ(todo:List aI):Option Table:=
 (E9 todo).bind fun x1=>(if !x1 then some (⟨(⟨(⟨(⟨[],[]⟩:Heap),(⟨[],[]⟩:aA)⟩:Mem),(⟨0,[]⟩:aJ),[],[]⟩:aB),[],[],[],[],0⟩:Table) else (FB).bind fun x3=>need (0<=(2:Int)/\(2:Int)<=4294967296)<|need (0<=(3:Int)/\(3:Int)<=4294967296)<|(zT todo).bind fun x4=>K5 (⟨x3,List.replicate ((2:Int).toNat) (⟨0,0,0⟩:bV),List.replicate ((3:Int).toNat) (⟨false,(⟨false,[]⟩:Batch),0,0,0,0,0,0,0,0,(⟨0,0,0⟩:bN),false,0,(⟨0,0,0,0,0,0,0,0,0,false⟩:Sub),[],[],[],[],[],[]⟩:aG),x4,[],0⟩:Table))
def fE(w_:Int):Option Bool:=
 (bQ w_ 0 2).bind fun x1=>some x1
def EV(s:List Batch)(i j:Int):Option (List Batch):=
 need (0<=i/\i<=j/\j<=(s.length:Int)) (some (s.take i.toNat++s.drop j.toNat))
def jU(kind a_:Int):Option Sub:=
 some (⟨kind,a_,0,0,0,0,0,0,0,false⟩:Sub)
def uS(t:Table)(w_:Int)(x2:aI)(x3:Batch)(x6:aG)(x8:List jS):Option Table:=
 some (⟨t.aB,t.cH,t.aP.set w_.toNat ({x6 with Batch:=(⟨x6.Batch.Collect,x3.bK⟩:Batch),Reads:=[],aL:=[],eN:=[],fQ:=[],bR:=[],cE:=[]}:aG),t.gL.set w_.toNat (⟨x2.List.drop 1⟩:aI),x8,aZ (t.aE+1)⟩:Table)
def kP(t:Table)(w_:Int)(x2:aI)(x3:Batch)(x6:aG):Option Table:=
 (idx t.aP w_).bind fun x7=>(nY x3.bK).bind fun x9=>need (t.Log.length+([(⟨1,w_,x6.aE,0,x9,[]⟩:jS)]).length<=1073741824)<|uS t w_ x2 x3 x6 (t.Log++([(⟨1,w_,x6.aE,0,x9,[]⟩:jS)]))
def uT(t:Table)(w_:Int)(x2:aI)(x3:Batch)(x5:aG):Option Table:=
 (if x3.Collect then (jU 3 0).bind fun x10=>kP t w_ x2 x3 ({x5 with Batch:=(⟨x5.Batch.Collect,x3.bK⟩:Batch),Pc:=20,Sub:=x10,Reads:=[],aL:=[],eN:=[],fQ:=[],bR:=[],cE:=[]}:aG) else kP t w_ x2 x3 ({x5 with Batch:=(⟨x5.Batch.Collect,x3.bK⟩:Batch),Reads:=[],aL:=[],eN:=[],fQ:=[],bR:=[],cE:=[]}:aG))
def kQ(t:Table)(w_:Int)(x1:Bool):Option Table:=
 (if x1 then some t else (idx t.gL w_).bind fun x2=>(idx x2.List 0).bind fun x3=>(EV x2.List 0 1).bind fun x4=>(jU 5 0).bind fun x11=>uT t w_ x2 x3 (⟨true,x3,aZ (t.aE+1),0,0,0,0,0,0,0,(⟨0,0,0⟩:bN),false,0,x11,[],[],[],[],[],[]⟩:aG))
def tJ(t:Table)(w_:Int):Option Table:=
 (idx t.gL w_).bind fun x12=>(if (x12.List.length:Int) == 0 then kQ t w_ true else kQ t w_ (t.aE == 1000000))
def aX(s:Sub)(code:Int):Option Sub:=
 some ({s with Code:=code,dS:=true}:Sub)
def jI(c:Int):Option Bool:=
 (bQ c 0 2).bind fun x1=>some x1
def yV(c:Int):Option Int:=
 (jI c).bind fun x1=>(if !x1 then some 0 else (idx ([8,16,40]:List Int) c).bind fun x2=>some x2)
def W9:Option Int:=
 some (-1)
def wI(x2:Int)(x3:Bool):Option (Step Int (Out Unit Int)):=
 (if x3 then some (.stop (Out.ret x2)) else some (.next (aZ (x2+1))))
def iP(size:Int):Int->Option (Step Int (Out Unit Int))
 | x2=>(if decide (x2 < 3) then (if decide (1<=size) then (yV x2).bind fun x4=>wI x2 (decide (size<=x4)) else wI x2 false) else some (.stop (Out.brk ())))
def XA:(Out Unit Int)->Option Int
 | .brk ()=>W9
 | .ret r=>some r
def FC(size:Int):Option Int:=
 (loop (iP size) 0).bind (XA)
def jD(s:List Int):Option (List Int):=
 need (([]:List Int).length+s.length<=1073741824) (some (([]:List Int)++s))
def TN(x5 x10:List aO):Option aA:=
 some (⟨x5,x10⟩:aA)
def zU(x8:Int)(x12:List aO):Option (Step (Int×(List aO)) (List aO)):=
 some (.next (aZ (x8+1),x12))
def zV(l:aA):(Int×(List aO))->Option (Step (Int×(List aO)) (List aO))
 | (x8,x9)=>(if decide (x8 < (l.Own.length:Int)) then (idx l.Own x8).bind fun x11=>(jD x11.aQ).bind fun x13=>need (x9.length+([(⟨x13⟩:aO)]).length<=1073741824)<|zU x8 (x9++([(⟨x13⟩:aO)])) else some (.stop (x9)))
def TO(x5:List aO):(List aO)->Option aA
 | x10=>TN x5 x10
def IK(l:aA)(x5:List aO):Option aA:=
 (loop (zV l) (0,[])).bind (TO x5)
def zW(x3:Int)(x15:List aO):Option (Step (Int×(List aO)) (List aO)):=
 some (.next (aZ (x3+1),x15))
def zX(l:aA):(Int×(List aO))->Option (Step (Int×(List aO)) (List aO))
 | (x3,x4)=>(if decide (x3 < (l.Global.length:Int)) then (idx l.Global x3).bind fun x14=>(jD x14.aQ).bind fun x16=>need (x4.length+([(⟨x16⟩:aO)]).length<=1073741824)<|zW x3 (x4++([(⟨x16⟩:aO)])) else some (.stop (x4)))
def IL(l:aA):(List aO)->Option aA
 | x5=>IK l x5
def gN(l:aA):Option aA:=
 (loop (zX l) (0,[])).bind (IL l)
def k9(slot:Int):Option Bool:=
 (bQ slot 0 23).bind fun x1=>some x1
def o6(x10:List Raw):Option (List Raw):=
 some x10
def gH(slices:List (List Raw)):((List Raw)×Int)->Option (Step ((List Raw)×Int) (List Raw))
 | (x8,x9)=>(if decide (x9 < (slices.length:Int)) then (idx slices x9).bind fun x11=>need (x8.length+x11.length<=1073741824) (some (.next (x8++x11,aZ (x9+1)))) else some (.stop (x8)))
def MD:(List Raw)->Option (List Raw)
 | x10=>o6 x10
def kW(slices:List (List Raw))(x5:Int):Option (List Raw):=
 need (0<=x5/\x5<=1073741824) ((loop (gH slices) ([],0)).bind (MD))
def fB(slices:List (List Raw)):(Int×Int)->Option (Step (Int×Int) Int)
 | (x3,x4)=>(if decide (x4 < (slices.length:Int)) then (idx slices x4).bind fun x12=>(if decide ((aZ (x3+(x12.length:Int))) < 0) then none else some (.next (aZ (x3+(x12.length:Int)),aZ (x4+1)))) else some (.stop (x3)))
def zY(slices:List (List Raw)):Int->Option (List Raw)
 | x5=>kW slices x5
def nI(slices:List (List Raw)):Option (List Raw):=
 (loop (fB slices) (0,0)).bind (zY slices)
theorem HO{u1 u2:List Raw}(h:u1.length+u2.length<=1073741824):loop (fB [u1,u2]) (0,0)=some ((u1.length+u2.length:Nat):Int):=by
 have e1:aZ (u1.length:Int)=u1.length:=GB (by omega)
 have e2:aZ ((u1.length:Int)+(u2.length:Int))=((u1.length+u2.length:Nat):Int):=by rw [GB (by omega)];rfl
 have e3:aZ (0+1)=1:=GB (by omega)
 have e4:aZ 2=2:=GB (by omega)
 have n1:¬(u1.length:Int) < 0:=by omega
 have n2:¬((u1.length+u2.length:Nat):Int) < 0:=by omega
 rw [bL (s':=((u1.length:Int),1)) ?_,bL (s':=(((u1.length+u2.length:Nat):Int),2)) ?_,bI (r:=((u1.length+u2.length:Nat):Int)) ?_]
 ·simp [fB]
 ·simp [fB,idx,e2,e4]
  omega
 ·simp [fB,idx,e1,n1]
  exact e3
theorem K6{u1 u2:List Raw}{n1 n2:Nat}(hl:u1.length=n1/\u2.length=n2)(h:n1+n2<=1073741824):nI [u1,u2]=some (u1++u2):=by
 obtain⟨rfl,rfl⟩:=hl
 have e3:aZ (0+1)=1:=GB (by omega)
 have e4:aZ 2=2:=GB (by omega)
 unfold nI
 rw [HO h]
 simp only [aH,zY,kW]
 rw [aK (by omega),bL (s':=(u1,1)) ?_,bL (s':=(u1++u2,2)) ?_,bI (r:=u1++u2) ?_]
 ·rfl
 ·simp [gH]
 ·simp [gH,idx,e4,aK h]
 ·have h1:u1.length<=1073741824:=by omega
  simp [gH,idx,aK h1]
  exact e3
def D6:Option Bool:=
 some true
def wJ(x4:Int)(x12:List Bool):Option (Step (Int×(List Bool)) (Out Unit Bool)):=
 some (.next (aZ (x4+1),x12))
def mG(x10:Int)(x11:List Bool)(x13:Int)(x14:Bool):Option (Step (Int×(List Bool)) (Out (List Bool) Bool)):=
 (if x14 then some (.stop (Out.ret false)) else need (0<=(x13:Int)/\(x13:Int) < 24) ((idx (x11:List Bool) x13).bind fun x15=>some (.next (aZ (x10+1),x11.set (x13.toNat) true))))
def kD(x6:aO):(Int×(List Bool))->Option (Step (Int×(List Bool)) (Out (List Bool) Bool))
 | (x10,x11)=>(if decide (x10 < (x6.aQ.length:Int)) then (idx x6.aQ x10).bind fun x13=>(k9 x13).bind fun x16=>(if !x16 then mG x10 x11 x13 true else need (0<=(x13:Int)/\(x13:Int) < 24) ((idx (x11:List Bool) x13).bind fun x17=>mG x10 x11 x13 x17)) else some (.stop (Out.brk x11)))
def NQ(x4:Int):(Out (List Bool) Bool)->Option (Step (Int×(List Bool)) (Out Unit Bool))
 | .brk x12=>wJ x4 x12
 | .ret r=>some (.stop (Out.ret r))
def kE(x4:Int)(x5:List Bool)(x6:aO)(x7:Bool):Option (Step (Int×(List Bool)) (Out Unit Bool)):=
 (if x7 then some (.stop (Out.ret false)) else (loop (kD x6) (0,x5)).bind (NQ x4))
def kG(l:aA):(Int×(List Bool))->Option (Step (Int×(List Bool)) (Out Unit Bool))
 | (x4,x5)=>(if decide (x4 < ((l.Own++l.Global).length:Int)) then (idx (l.Own++l.Global) x4).bind fun x6=>(if decide (x4 < (l.Own.length:Int)) then kE x4 x5 x6 (decide (2 < (x6.aQ.length:Int))) else kE x4 x5 x6 false) else some (.stop (Out.brk ())))
def XB:(Out Unit Bool)->Option Bool
 | .brk ()=>D6
 | .ret r=>some r
def pW(l:aA)(x1:Bool):Option Bool:=
 (if x1 then some false else need (l.Own.length+l.Global.length<=1073741824) ((loop (kG l) (0,[false,false,false,false,false,false,false,false,false,false,false,false,false,false,false,false,false,false,false,false,false,false,false,false])).bind (XB)))
def jJ(l:aA):Option Bool:=
 (if (l.Global.length:Int) != 3 then pW l true else pW l ((l.Own.length:Int) != 9))
def CK(w_ c:Int)(x1:Bool):Option Int:=
 (if x1 then some (-1) else some (aZ ((aZ (w_ * 3))+c)))
def GH(w_ c:Int):Option Int:=
 (fE w_).bind fun x2=>(if !x2 then CK w_ c true else (jI c).bind fun x3=>CK w_ c (!x3))
def rV(s:aO):Option (Int×aO):=
 (if decide ((aZ ((s.aQ.length:Int) - 1)) < 0) then some ((-1),s) else (idx s.aQ (aZ ((s.aQ.length:Int) - 1))).bind fun x1=>need (0<=(aZ ((s.aQ.length:Int) - 1):Int)/\(aZ ((s.aQ.length:Int) - 1):Int)<=(aZ ((s.aQ.length:Int) - 1):Int)/\(aZ ((s.aQ.length:Int) - 1):Int)<=(s.aQ.length:Int)) (some (x1,(⟨(s.aQ.take ((aZ ((s.aQ.length:Int) - 1)).toNat)).drop 0⟩:aO))))
def wK(x1:aA)(x2:Int)(x3:Bool):Option (aA×Int):=
 (if x3 then some (x1,(-1)) else (idx x1.Own x2).bind fun x4=>(rV x4).bind fun x5=>some ((⟨x1.Global,x1.Own.set x2.toNat x5.2⟩:aA),x5.1))
def FD(l:aA)(w_ c:Int):Option (aA×Int):=
 (gN l).bind fun x1=>(GH w_ c).bind fun x2=>(jJ l).bind fun x6=>(if !x6 then wK x1 x2 true else wK x1 x2 (decide (x2 < 0)))
def o7(c:Int)(x1:aA)(x2:Bool):Option (aA×Int):=
 (if x2 then some (x1,(-1)) else (idx x1.Global c).bind fun x3=>(rV x3).bind fun x4=>some ((⟨x1.Global.set c.toNat x4.2,x1.Own⟩:aA),x4.1))
def wL(l:aA)(c:Int):Option (aA×Int):=
 (gN l).bind fun x1=>(jJ l).bind fun x5=>(if !x5 then o7 c x1 true else (jI c).bind fun x6=>o7 c x1 (!x6))
def EW:Option Int:=
 some (-1)
def dQ(s:List Int)(v:Int):Int->Option (Step Int (Out Unit Int))
 | x2=>(if decide (x2 < (s.length:Int)) then (idx s x2).bind fun x3=>(if v == x3 then some (.stop (Out.ret x2)) else some (.next (aZ (x2+1)))) else some (.stop (Out.brk ())))
def uU:(Out Unit Int)->Option Int
 | .brk ()=>EW
 | .ret r=>some r
def lF(s:List Int)(v:Int):Option Int:=
 (loop (dQ s v) 0).bind (uU)
def GI(b x5:List Int):Option (List Int):=
 need (x5.length=b.length) (some x5)
def jV(b:List Int)(at_:Int)(text:List UInt8):((List Int)×Int)->Option (Step ((List Int)×Int) (List Int))
 | (x3,x4)=>need (x3.length=b.length) ((if decide (x4 < (text.length:Int)) then (idx text x4).bind fun x6=>(idx x3 (aZ (at_+x4))).bind fun x7=>some (.next (x3.set ((aZ (at_+x4)).toNat) (x6.toNat:Int),aZ (x4+1))) else some (.stop (x3))))
def GJ(b:List Int):(List Int)->Option (List Int)
 | x5=>GI b x5
def lA(b:List Int)(at_:Int)(text:List UInt8):Option (List Int):=
 (loop (jV b at_ text) (b,0)).bind (GJ b)
def tK(width:Int):Option Bool:=
 (bQ width 1 7).bind fun x1=>some x1
def aCL(x8:List UInt8):Option (List UInt8):=
 some x8
def m6:(Int×(List UInt8)×Int)->Option (Step (Int×(List UInt8)×Int) (List UInt8))
 | (x5,x6,x7)=>(if decide (0<=x7) then (idx x6 x7).bind fun x9=>some (.next (mN .i64 x5 8,x6.set x7.toNat (u8 x5),aZ (x7 - 1))) else some (.stop (x6)))
def aCM:(List UInt8)->Option (List UInt8)
 | x8=>aCL x8
def qJ(n width:Int)(x1:Bool):Option (List UInt8):=
 (if x1 then some ([]) else need (0<=(width:Int)/\(width:Int)<=4294967296) ((loop (m6) (n,List.replicate (width.toNat) 0,aZ (width - 1))).bind (aCM)))
def kH(n width:Int):Option (List UInt8):=
 (tK width).bind fun x10=>(if !x10 then qJ n width true else (if decide (n < 0) then qJ n width true else need (0<=(IntKind.u64.wrap (aZ (8 * width)):Int)) (qJ n width (decide ((ZN .i64 1 (IntKind.u64.wrap (aZ (8 * width))))<=n)))))
def qK(c:Int):Option Int:=
 (jI c).bind fun x1=>(if !x1 then some 0 else (yV c).bind fun x2=>some (aZ (4+x2)))
def mQ(c:Int):Option Int:=
 (jI c).bind fun x1=>(if !x1 then some 0 else (qK c).bind fun x2=>need (x2≠0) (some (aZ (Int.tdiv 56 x2))))
def vJ(slot c:Int)(x1:Bool):Option Int:=
 (if x1 then some (-1) else (qK c).bind fun x2=>some (aZ ((aZ ((aZ ((aZ (Int.tdiv slot 4)) * 64))+8))+(aZ ((Int.tmod slot 4) * x2)))))
def rW(slot c:Int):Option Int:=
 (k9 slot).bind fun x3=>(if !x3 then vJ slot c true else (jI c).bind fun x4=>(if !x4 then vJ slot c true else (mQ c).bind fun x5=>vJ slot c (decide (x5<=(Int.tmod slot 4)))))
def qL(h:Heap):Option Heap:=
 (jD h.Bytes).bind fun x1=>(jD h.Class).bind fun x2=>some (⟨x1,x2⟩:Heap)
def yW:Option Int:=
 some (-1)
def eS(s:List Int)(f:(Int->Option Bool)):Int->Option (Step Int (Out Unit Int))
 | x2=>(if decide (x2 < (s.length:Int)) then (idx s x2).bind fun x3=>(f x3).bind fun x4=>(if x4 then some (.stop (Out.ret x2)) else some (.next (aZ (x2+1)))) else some (.stop (Out.brk ())))
def nZ:(Out Unit Int)->Option Int
 | .brk ()=>yW
 | .ret r=>some r
def fY(s:List Int)(f:(Int->Option Bool)):Option Int:=
 (loop (eS s f) 0).bind (nZ)
def dA(s:List Int)(f:(Int->Option Bool)):Option Bool:=
 (fY s f).bind fun x1=>some (decide (0<=x1))
def O7(x:Int):Option Bool:=
 (bQ x 0 255).bind fun x1=>some x1
def zZ(x:Int):Option Bool:=
 (O7 x).bind fun x1=>some (!x1)
def wM(x1:Bool):Option Bool:=
 some x1
def FE(b:List Int):Option Bool:=
 (if decide ((b.length:Int)<=1000) then (dA b (fun y0=>zZ y0)).bind fun x2=>wM (!x2) else wM false)
def CL(c:Int):Option Bool:=
 (bQ c (-1) 2).bind fun x1=>some (!x1)
def oA(x1:Bool):Option Bool:=
 some x1
def DD(h:Heap):Option Bool:=
 (if (h.Bytes.length:Int) == 384 then (FE h.Bytes).bind fun x2=>(if x2 then (if (h.Class.length:Int) == 6 then (dA h.Class (fun y0=>CL y0)).bind fun x3=>oA (!x3) else oA false) else oA false) else oA false)
def XC(x5:Int):Option Int:=
 some x5
def pX(b:List Int)(at_ width:Int):(Int×Int)->Option (Step (Int×Int) Int)
 | (x3,x4)=>(if decide (x4 < (((b.take ((aZ (at_+width)).toNat)).drop at_.toNat).length:Int)) then (idx ((b.take ((aZ (at_+width)).toNat)).drop at_.toNat) x4).bind fun x6=>some (.next (aZ ((aZ (256 * x3))+x6),aZ (x4+1))) else some (.stop (x3)))
def XD:Int->Option Int
 | x5=>XC x5
def mR(b:List Int)(at_ width:Int):Option Int:=
 need (0<=(at_:Int)/\(at_:Int)<=(aZ (at_+width):Int)/\(aZ (at_+width):Int)<=(b.length:Int)) ((loop (pX b at_ width) (0,0)).bind (XD))
def CM(x:Int):Option Bool:=
 some (x != 0)
def DE(b:List Int):Option Bool:=
 (dA b (fun y0=>CM y0)).bind fun x1=>some (!x1)
def aAD:Option Bool:=
 some true
def oB(h:Heap)(page x1 x4:Int):Int->Option (Step Int (Out Unit Bool))
 | x6=>(if decide (x6 < x4) then (qK x1).bind fun x7=>(mR ((h.Bytes.take ((aZ ((aZ (page+1)) * 64)).toNat)).drop ((aZ (page * 64)).toNat)) (aZ (8+(aZ (x6 * x7)))) 4).bind fun x8=>(bQ x8 1 7).bind fun x9=>(if !x9 then some (.stop (Out.ret false)) else some (.next (aZ (x6+1)))) else some (.stop (Out.brk ())))
def aAE:(Out Unit Bool)->Option Bool
 | .brk ()=>aAD
 | .ret r=>some r
def iJ(h:Heap)(page x1:Int)(x3:Bool):Option Bool:=
 (if x3 then some false else (mQ x1).bind fun x4=>(loop (oB h page x1 x4) 0).bind (aAE))
def IM(h:Heap)(page:Int):Option Bool:=
 (idx h.Class page).bind fun x1=>need (0<=(aZ (page * 64):Int)/\(aZ (page * 64):Int)<=(aZ ((aZ (page+1)) * 64):Int)/\(aZ ((aZ (page+1)) * 64):Int)<=(h.Bytes.length:Int)) ((if decide (x1 < 0) then (DE ((h.Bytes.take ((aZ ((aZ (page+1)) * 64)).toNat)).drop ((aZ (page * 64)).toNat))).bind fun x2=>some x2 else (idx ((h.Bytes.take ((aZ ((aZ (page+1)) * 64)).toNat)).drop ((aZ (page * 64)).toNat)) 0).bind fun x10=>(if x10 != 171 then iJ h page x1 true else (idx ((h.Bytes.take ((aZ ((aZ (page+1)) * 64)).toNat)).drop ((aZ (page * 64)).toNat)) 1).bind fun x11=>(if x11 != x1 then iJ h page x1 true else (idx ((h.Bytes.take ((aZ ((aZ (page+1)) * 64)).toNat)).drop ((aZ (page * 64)).toNat)) 2).bind fun x12=>(mQ x1).bind fun x13=>(if x12 != x13 then iJ h page x1 true else need (0<=(3:Int)/\(3:Int)<=(8:Int)/\(8:Int)<=(((h.Bytes.take ((aZ ((aZ (page+1)) * 64)).toNat)).drop ((aZ (page * 64)).toNat)).length:Int)) ((DE ((((h.Bytes.take ((aZ ((aZ (page+1)) * 64)).toNat)).drop ((aZ (page * 64)).toNat)).take ((8:Int).toNat)).drop ((3:Int).toNat))).bind fun x14=>iJ h page x1 (!x14)))))))
def aAF:Option Bool:=
 some true
def rX(h:Heap):Int->Option (Step Int (Out Unit Bool))
 | x3=>(if decide (x3 < 6) then (IM h x3).bind fun x4=>(if !x4 then some (.stop (Out.ret false)) else some (.next (aZ (x3+1)))) else some (.stop (Out.brk ())))
def aAG:(Out Unit Bool)->Option Bool
 | .brk ()=>aAF
 | .ret r=>some r
def DF(h:Heap):Option Bool:=
 (DD h).bind fun x1=>(if !x1 then some false else (loop (rX h) 0).bind (aAG))
def z5(page index:Int)(x1:Bool):Option Int:=
 (if x1 then some (-1) else some (aZ ((aZ (page * 4))+index)))
def IN(page index:Int):Option Int:=
 (bQ page 0 5).bind fun x2=>(if !x2 then z5 page index true else (bQ index 0 3).bind fun x3=>z5 page index (!x3))
def aCN(c:Int)(x1:Heap)(x2:Int)(x13 x14:List Int):Option (Heap×(List Int)):=
 some ((⟨x14,x1.Class.set x2.toNat c⟩:Heap),x13)
def JK(x10:List Int)(x11 x15:Int)(x16:List Int):Option (Step ((List Int)×Int×(List Int)) ((List Int)×(List Int))):=
 need (x10.length+([x15]).length<=1073741824) (some (.next (x10++([x15]),aZ (x11+1),x16)))
def CN(c x2 x6:Int):((List Int)×Int×(List Int))->Option (Step ((List Int)×Int×(List Int)) ((List Int)×(List Int)))
 | (x10,x11,x12)=>(if decide (x11 < x6) then (IN x2 x11).bind fun x15=>(rW x15 c).bind fun x17=>(kH 1 4).bind fun x18=>(lA x12 x17 x18).bind fun x19=>JK x10 x11 x15 x19 else some (.stop ((x10,x12))))
def aCO(c:Int)(x1:Heap)(x2:Int):((List Int)×(List Int))->Option (Heap×(List Int))
 | (x13,x14)=>aCN c x1 x2 x13 x14
def JM(c:Int)(x1:Heap)(x2:Int)(x5:List Int):Option (Heap×(List Int)):=
 (mQ c).bind fun x6=>(loop (CN c x2 x6) (([]:List Int),0,x5)).bind (aCO c x1 x2)
def vK(c:Int)(x1:Heap)(x2:Int)(x3:Bool):Option (Heap×(List Int)):=
 (if x3 then some (x1,([]:List Int)) else (idx x1.Class x2).bind fun x4=>need (0<=(aZ (x2 * 64):Int)/\(aZ (x2 * 64):Int)<=(x1.Bytes.length:Int))<|(mQ c).bind fun x20=>JM c x1 x2 (cA x1.Bytes ((aZ (x2 * 64)).toNat) ([171,c,x20]:List Int)))
def BY(h:Heap)(c:Int):Option (Heap×(List Int)):=
 (qL h).bind fun x1=>(lF h.Class (-1)).bind fun x2=>(DF h).bind fun x21=>(if !x21 then vK c x1 x2 true else (jI c).bind fun x22=>(if !x22 then vK c x1 x2 true else vK c x1 x2 (decide (x2 < 0))))
def D7(x4:Int)(x5:Mem):Option (Mem×Int):=
 some (x5,x4)
def D8(c:Int)(x1:Heap×(List Int))(x2:Mem):Option (Mem×Int):=
 (if (x1.2.length:Int) == 0 then some (x2,(-1)) else (idx x2.aA.Global c).bind fun x3=>need (0<=(1:Int)/\(1:Int)<=(x1.2.length:Int)) (need (x3.aQ.length+((x1.2.take x1.2.length).drop ((1:Int).toNat)).length<=1073741824) ((idx x1.2 0).bind fun x6=>D7 x6 (⟨x2.Heap,(⟨x2.aA.Global.set c.toNat (⟨x3.aQ++((x1.2.take x1.2.length).drop ((1:Int).toNat))⟩:aO),x2.aA.Own⟩:aA)⟩:Mem))))
def FF(m:Mem)(c:Int):Option (Mem×Int):=
 (BY m.Heap c).bind fun x1=>(gN m.aA).bind fun x7=>D8 c x1 (⟨x1.1,x7⟩:Mem)
def wN(h:Heap)(slot:Int)(x1:Bool):Option Int:=
 (if x1 then some (-1) else (idx h.Class (aZ (Int.tdiv slot 4))).bind fun x2=>some x2)
def jK(h:Heap)(slot:Int):Option Int:=
 (k9 slot).bind fun x3=>(if !x3 then wN h slot true else (idx h.Class (aZ (Int.tdiv slot 4))).bind fun x4=>(rW slot x4).bind fun x5=>wN h slot (decide (x5 < 0)))
def z6(h:Heap)(slot:Int):Option Int:=
 (DD h).bind fun x1=>(if !x1 then some (-1) else (jK h slot).bind fun x2=>some x2)
def xT(h:Heap)(slot:Int):Option Int:=
 (z6 h slot).bind fun x1=>(if decide (x1 < 0) then some 0 else (rW slot x1).bind fun x2=>(mR h.Bytes x2 4).bind fun x3=>some x3)
def tL(slot gen:Int)(x1:Bool):Option Int:=
 (if x1 then some 0 else some (aZ ((aZ (gen * 32))+slot)))
def JN(slot gen:Int):Option Int:=
 (k9 slot).bind fun x2=>(if !x2 then tL slot gen true else (bQ gen 1 6).bind fun x3=>tL slot gen (!x3))
def CP(m:Mem)(slot:Int):Option Int:=
 (xT m.Heap slot).bind fun x1=>(JN slot x1).bind fun x2=>some x2
def gK(s:Sub)(x3:Int)(x4:aB):Option (Sub×aB):=
 (if decide (0<=x3) then (CP x4.Mem x3).bind fun x5=>(aX ({s with Out:=x5}:Sub) 0).bind fun x6=>some (x6,x4) else (if s.Pc == 3 then (aX s 3).bind fun x7=>some (x7,x4) else some (({s with Pc:=aZ (s.Pc+1)}:Sub),x4)))
def lZ(s:Sub)(b:aB)(x1:Int)(x9:Bool):Option (Sub×aB):=
 (if x9 then (wL b.Mem.aA x1).bind fun x10=>gK s x10.2 ({b with Mem:=(⟨b.Mem.Heap,x10.1⟩:Mem)}:aB) else (if s.Pc == 2 then (FF b.Mem x1).bind fun x11=>gK s x11.2 ({b with Mem:=x11.1}:aB) else (aX s 1).bind fun x12=>some (x12,b)))
def o8(s:Sub)(b:aB)(w_:Int):Option (Sub×aB):=
 (FC s.A).bind fun x1=>(if decide (x1 < 0) then (aX s 2).bind fun x2=>some (x2,b) else (if s.Pc == 0 then (FD b.Mem.aA w_ x1).bind fun x8=>gK s x8.2 ({b with Mem:=(⟨b.Mem.Heap,x8.1⟩:Mem)}:aB) else (if s.Pc == 1 then lZ s b x1 true else lZ s b x1 (s.Pc == 3))))
def uK:Option Int:=
 some (-1)
def iX(s:List a8)(f:(a8->Option Bool)):Int->Option (Step Int (Out Unit Int))
 | x2=>(if decide (x2 < (s.length:Int)) then (idx s x2).bind fun x3=>(f x3).bind fun x4=>(if x4 then some (.stop (Out.ret x2)) else some (.next (aZ (x2+1)))) else some (.stop (Out.brk ())))
def uL:(Out Unit Int)->Option Int
 | .brk ()=>uK
 | .ret r=>some r
def o9(s:List a8)(f:(a8->Option Bool)):Option Int:=
 (loop (iX s f) 0).bind (uL)
def iY(s:List a8)(f:(a8->Option Bool)):Option Bool:=
 (o9 s f).bind fun x1=>some (decide (0<=x1))
def vL:Option Int:=
 some (-1)
def jL(s:List dI)(f:(dI->Option Bool)):Int->Option (Step Int (Out Unit Int))
 | x2=>(if decide (x2 < (s.length:Int)) then (idx s x2).bind fun x3=>(f x3).bind fun x4=>(if x4 then some (.stop (Out.ret x2)) else some (.next (aZ (x2+1)))) else some (.stop (Out.brk ())))
def vM:(Out Unit Int)->Option Int
 | .brk ()=>vL
 | .ret r=>some r
def qV(s:List dI)(f:(dI->Option Bool)):Option Int:=
 (loop (jL s f) 0).bind (vM)
def jM(s:List dI)(f:(dI->Option Bool)):Option Bool:=
 (qV s f).bind fun x1=>some (decide (0<=x1))
def lG(x1:Bool):Option Bool:=
 some x1
def fF(h:Int):Option Bool:=
 (bQ h 32 223).bind fun x2=>(if x2 then lG (decide ((Int.tmod h 32) < 24)) else lG false)
def nJ(x1:Bool):Option Bool:=
 some x1
def oC(r_:dI)(k0:Int):Option Bool:=
 (fF r_.Handle).bind fun x2=>(if x2 then nJ ((Int.tmod r_.Handle 32) == k0) else nJ false)
def z7(own:a8)(k0:Int):Option Bool:=
 (jM own.Rows (fun y0=>oC y0 k0)).bind fun x1=>some x1
def z8(l:List a8)(slot:Int):Option Bool:=
 (iY l (fun y0=>z7 y0 slot)).bind fun x1=>some x1
def iN(s:List Int)(v:Int):Option Bool:=
 (lF s v).bind fun x1=>some (decide (0<=x1))
def m7(s:aO)(k0:Int):Option Bool:=
 (iN s.aQ k0).bind fun x1=>some x1
def uM:Option Int:=
 some (-1)
def iZ(s:List aO)(f:(aO->Option Bool)):Int->Option (Step Int (Out Unit Int))
 | x2=>(if decide (x2 < (s.length:Int)) then (idx s x2).bind fun x3=>(f x3).bind fun x4=>(if x4 then some (.stop (Out.ret x2)) else some (.next (aZ (x2+1)))) else some (.stop (Out.brk ())))
def uN:(Out Unit Int)->Option Int
 | .brk ()=>uM
 | .ret r=>some r
def pA(s:List aO)(f:(aO->Option Bool)):Option Int:=
 (loop (iZ s f) 0).bind (uN)
def gJ(s:List aO)(f:(aO->Option Bool)):Option Bool:=
 (pA s f).bind fun x1=>some (decide (0<=x1))
def AA(x1:Bool):Option Bool:=
 some x1
def DG(l:aA)(slot:Int):Option Bool:=
 (gJ l.Global (fun y0=>m7 y0 slot)).bind fun x2=>(if x2 then AA true else (gJ l.Own (fun y0=>m7 y0 slot)).bind fun x3=>AA x3)
def FG(m:Mem)(slot:Int):Option Int:=
 (jK m.Heap slot).bind fun x1=>(if decide (x1 < 0) then some 0 else (DG m.aA slot).bind fun x2=>(if x2 then some 1 else (xT m.Heap slot).bind fun x3=>(if decide (6 < x3) then some 2 else some 3)))
def rY(x1:Bool):Option Bool:=
 some x1
def yX(m:Mem)(h:Int):Option Bool:=
 (fF h).bind fun x2=>(if x2 then (FG m (Int.tmod h 32)).bind fun x3=>(if x3 == 3 then (xT m.Heap (Int.tmod h 32)).bind fun x4=>rY (x4 == (aZ (Int.tdiv h 32))) else rY false) else rY false)
def AB(x5:Int):Option Int:=
 some x5
def iK(l:List a8):(Int×Int)->Option (Step (Int×Int) Int)
 | (x3,x4)=>(if decide (x4 < (l.length:Int)) then (idx l x4).bind fun x6=>some (.next (aZ (x3+(x6.Rows.length:Int)),aZ (x4+1))) else some (.stop (x3)))
def TP:Int->Option Int
 | x5=>AB x5
def rZ(l:List a8):Option Int:=
 (loop (iK l) (0,0)).bind (TP)
def wO(l:List a8):Option Bool:=
 (rZ l).bind fun x5=>some (decide (x5<=24))
def wP(x3:Int)(x11:List Bool):Option (Step (Int×(List Bool)) (Out Unit Bool)):=
 some (.next (aZ (x3+1),x11))
def iQ(x9:Int)(x10:List Bool)(x12:dI)(x13:Bool):Option (Step (Int×(List Bool)) (Out (List Bool) Bool)):=
 (if x13 then some (.stop (Out.ret false)) else need (0<=(Int.tmod x12.Handle 32:Int)/\(Int.tmod x12.Handle 32:Int) < 24) ((idx (x10:List Bool) (Int.tmod x12.Handle 32)).bind fun x14=>some (.next (aZ (x9+1),x10.set ((Int.tmod x12.Handle 32).toNat) true))))
def kI(x6:a8):(Int×(List Bool))->Option (Step (Int×(List Bool)) (Out (List Bool) Bool))
 | (x9,x10)=>(if decide (x9 < (x6.Rows.length:Int)) then (idx x6.Rows x9).bind fun x12=>(fF x12.Handle).bind fun x15=>(if !x15 then iQ x9 x10 x12 true else (bQ x12.aN 0 100000).bind fun x16=>(if !x16 then iQ x9 x10 x12 true else need (0<=(Int.tmod x12.Handle 32:Int)/\(Int.tmod x12.Handle 32:Int) < 24) ((idx (x10:List Bool) (Int.tmod x12.Handle 32)).bind fun x17=>iQ x9 x10 x12 x17))) else some (.stop (Out.brk x10)))
def NR(x3:Int):(Out (List Bool) Bool)->Option (Step (Int×(List Bool)) (Out Unit Bool))
 | .brk x11=>wP x3 x11
 | .ret r=>some (.stop (Out.ret r))
def kJ(l:List a8):(Int×(List Bool))->Option (Step (Int×(List Bool)) (Out Unit Bool))
 | (x3,x4)=>(if decide (x3 < (l.length:Int)) then (idx l x3).bind fun x6=>(loop (kI x6) (0,x4)).bind (NR x3) else some (.stop (Out.brk ())))
def NS(l:List a8):(Out Unit Bool)->Option Bool
 | .brk ()=>wO l
 | .ret r=>some r
def mS(l:List a8):Option Bool:=
 (if (l.length:Int) != 3 then some false else (loop (kJ l) (0,[false,false,false,false,false,false,false,false,false,false,false,false,false,false,false,false,false,false,false,false,false,false,false,false])).bind (NS l))
def rF(s:List dI):Option (List dI):=
 need (([]:List dI).length+s.length<=1073741824) (some (([]:List dI)++s))
def TQ(x5:List a8):Option (List a8):=
 some x5
def AD(l:List a8):((List a8)×Int)->Option (Step ((List a8)×Int) (List a8))
 | (x3,x4)=>(if decide (x4 < (l.length:Int)) then (idx l x4).bind fun x6=>(rF x6.Rows).bind fun x7=>need (x3.length+([(⟨x7⟩:a8)]).length<=1073741824) (some (.next (x3++([(⟨x7⟩:a8)]),aZ (x4+1)))) else some (.stop (x3)))
def TS:(List a8)->Option (List a8)
 | x5=>TQ x5
def lN(l:List a8):Option (List a8):=
 (loop (AD l) (([]:List a8),0)).bind (TS)
def tM(l:List a8)(w_ h e_:Int)(x1:Bool):Option ((List a8)×Bool):=
 (if x1 then (lN l).bind fun x2=>some (x2,false) else (lN l).bind fun x3=>(idx x3 w_).bind fun x4=>need (x4.Rows.length+([(⟨h,e_⟩:dI)]).length<=1073741824) ((mS (x3.set w_.toNat (⟨x4.Rows++([(⟨h,e_⟩:dI)])⟩:a8))).bind fun x5=>(if !x5 then (lN l).bind fun x6=>some (x6,false) else some (x3.set w_.toNat (⟨x4.Rows++([(⟨h,e_⟩:dI)])⟩:a8),true))))
def CQ(l:List a8)(w_ h e_:Int):Option ((List a8)×Bool):=
 (mS l).bind fun x7=>(if !x7 then tM l w_ h e_ true else (fE w_).bind fun x8=>tM l w_ h e_ (!x8))
def kX(s:Sub)(b:aB)(w_:Int)(x3:Bool):Option (Sub×aB):=
 (if x3 then (aX s 4).bind fun x4=>some (x4,b) else (CQ b.bO w_ s.A s.E).bind fun x5=>(aX s 0).bind fun x6=>some (x6,({b with bO:=x5.1}:aB)))
def kY(s:Sub)(b:aB)(w_:Int)(x1:Bool):Option (Sub×aB):=
 (if x1 then (aX s 1).bind fun x2=>some (x2,b) else (yX b.Mem s.A).bind fun x7=>(if !x7 then kX s b w_ true else (z8 b.bO (Int.tmod s.A 32)).bind fun x8=>kX s b w_ x8))
def nK(s:Sub)(b:aB)(w_:Int):Option (Sub×aB):=
 (if s.Pc == 0 then some (({s with Pc:=1,E:=b.aJ.aN}:Sub),b) else (if s.Pc != 1 then kY s b w_ true else (bQ s.E 0 b.aJ.aN).bind fun x9=>kY s b w_ (!x9)))
def tN(s:List qT):Option (List qT):=
 need (([]:List qT).length+s.length<=1073741824) (some (([]:List qT)++s))
def lO(c:aJ):Option aJ:=
 (tN c.cN).bind fun x1=>some (⟨c.aN,x1⟩:aJ)
def yY:Option Int:=
 some (-1)
def hO(s:List qT)(f:(qT->Option Bool)):Int->Option (Step Int (Out Unit Int))
 | x2=>(if decide (x2 < (s.length:Int)) then (idx s x2).bind fun x3=>(f x3).bind fun x4=>(if x4 then some (.stop (Out.ret x2)) else some (.next (aZ (x2+1)))) else some (.stop (Out.brk ())))
def oD:(Out Unit Int)->Option Int
 | .brk ()=>yY
 | .ret r=>some r
def sA(s:List qT)(f:(qT->Option Bool)):Option Int:=
 (loop (hO s f) 0).bind (oD)
def j6(s:List qT)(f:(qT->Option Bool)):Option Bool:=
 (sA s f).bind fun x1=>some (decide (0<=x1))
def j7(x1:Bool):Option Bool:=
 some x1
def sB(p:qT)(k0:aJ):Option Bool:=
 (bQ p.aN 0 k0.aN).bind fun x2=>(if !x2 then j7 true else (bQ p.Seen 0 2).bind fun x3=>(if !x3 then j7 true else (if !p.On then j7 (!(decide (p=(⟨false,0,false,0⟩:qT)))) else j7 false)))
def pY(x1:Bool):Option Bool:=
 some x1
def pB(c:aJ):Option Bool:=
 (bQ c.aN 0 100000).bind fun x2=>(if x2 then (if (c.cN.length:Int) == 3 then (j6 c.cN (fun y0=>sB y0 c)).bind fun x3=>pY (!x3) else pY false) else pY false)
def oE(w_:Int)(x1:aJ)(x4:Bool):Option (aJ×Bool):=
 (if x4 then some (x1,true) else (idx x1.cN w_).bind fun x5=>(if decide (x5.Seen < 2) then some ((⟨x1.aN,x1.cN.set w_.toNat ({x5 with Seen:=aZ (x5.Seen+1)}:qT)⟩:aJ),false) else some ((⟨x1.aN,x1.cN.set w_.toNat ({x5 with gG:=true,Seen:=0}:qT)⟩:aJ),true)))
def AE(w_ e_:Int)(x1:aJ)(x2:Bool):Option (aJ×Bool):=
 (if x2 then some (x1,false) else (idx x1.cN w_).bind fun x3=>(if !x3.On then oE w_ x1 true else (if x3.gG then oE w_ x1 true else oE w_ x1 (x3.aN == e_))))
def IP(c:aJ)(w_ e_:Int):Option (aJ×Bool):=
 (lO c).bind fun x1=>(pB c).bind fun x6=>(if !x6 then AE w_ e_ x1 true else (fE w_).bind fun x7=>AE w_ e_ x1 (!x7))
def AF(x1:aJ)(x2:Bool):Option (aJ×Bool):=
 (if x2 then some (x1,false) else some ((⟨aZ (x1.aN+1),x1.cN⟩:aJ),true))
def QP(c:aJ)(e_:Int):Option (aJ×Bool):=
 (lO c).bind fun x1=>(pB c).bind fun x3=>(if !x3 then AF x1 true else (if c.aN != e_ then AF x1 true else AF x1 (c.aN == 100000)))
def j8(s:Sub)(b:aB)(x4:aJ×Bool)(x5:Int):Option (Sub×aB):=
 (aX ({s with Out:=x5}:Sub) 0).bind fun x6=>some (x6,({b with aJ:=x4.1}:aB))
def j9(s:Sub)(b:aB)(x1:Bool):Option (Sub×aB):=
 (if x1 then (IP b.aJ s.B s.E).bind fun x2=>(if !x2.2 then (aX s 8).bind fun x3=>some (x3,({b with aJ:=x2.1}:aB)) else (if (aZ (s.B+1)) == 3 then some (({s with Pc:=2,B:=aZ (s.B+1)}:Sub),({b with aJ:=x2.1}:aB)) else some (({s with B:=aZ (s.B+1)}:Sub),({b with aJ:=x2.1}:aB)))) else (if s.Pc == 2 then (QP b.aJ s.E).bind fun x4=>(if x4.2 then j8 s b x4 1 else j8 s b x4 s.Out) else (aX s 1).bind fun x7=>some (x7,b)))
def mT(s:Sub)(b:aB):Option (Sub×aB):=
 (if s.Pc == 0 then some (({s with Pc:=1,E:=b.aJ.aN,B:=0}:Sub),b) else (if s.Pc == 1 then (fE s.B).bind fun x8=>j9 s b x8 else j9 s b false))
def GK(x3 x5:List Int):Option (Heap×Bool):=
 some ((⟨x5,x3⟩:Heap),true)
def AG(slot gen x1:Int)(x2 x3:List Int)(x4:Bool):Option (Heap×Bool):=
 (if x4 then some ((⟨x2,x3⟩:Heap),false) else (rW slot x1).bind fun x6=>(kH gen 4).bind fun x7=>(lA x2 x6 x7).bind fun x8=>GK x3 x8)
def GL(slot gen x1:Int)(x2 x3:List Int):Option (Heap×Bool):=
 (if decide (x1 < 0) then AG slot gen x1 x2 x3 true else (bQ gen 1 7).bind fun x9=>AG slot gen x1 x2 x3 (!x9))
def O8(h:Heap)(slot gen:Int):Option (Heap×Bool):=
 (qL h).bind fun x10=>(z6 h slot).bind fun x11=>GL slot gen x11 x10.Bytes x10.Class
def tO(c slot:Int)(x1:aA)(x2:Int)(x3:Bool):Option (aA×Bool):=
 (if x3 then some (x1,false) else (idx x1.Own x2).bind fun x4=>(if decide (2<=(x4.aQ.length:Int)) then (idx x1.Global c).bind fun x5=>need (x5.aQ.length+([slot]).length<=1073741824) (some ((⟨x1.Global.set c.toNat (⟨x5.aQ++([slot])⟩:aO),x1.Own⟩:aA),true)) else need (x4.aQ.length+([slot]).length<=1073741824) (some ((⟨x1.Global,x1.Own.set x2.toNat (⟨x4.aQ++([slot])⟩:aO)⟩:aA),true))))
def VG(l:aA)(w_ c slot:Int):Option (aA×Bool):=
 (gN l).bind fun x1=>(GH w_ c).bind fun x2=>(jJ l).bind fun x6=>(if !x6 then tO c slot x1 x2 true else (if decide (x2 < 0) then tO c slot x1 x2 true else (k9 slot).bind fun x7=>(if !x7 then tO c slot x1 x2 true else (DG l slot).bind fun x8=>tO c slot x1 x2 x8)))
def JO(x3:Mem):Option Mem:=
 some x3
def JQ(m:Mem)(w_ h:Int)(x2:Mem):Option Mem:=
 (if decide ((aZ ((aZ (Int.tdiv h 32))+1))<=6) then (jK m.Heap (Int.tmod h 32)).bind fun x4=>(VG m.aA w_ x4 (Int.tmod h 32)).bind fun x5=>JO (⟨x2.Heap,x5.1⟩:Mem) else JO x2)
def GM(m:Mem)(w_ h:Int):Option Mem:=
 (O8 m.Heap (Int.tmod h 32) (aZ ((aZ (Int.tdiv h 32))+1))).bind fun x1=>(gN m.aA).bind fun x6=>JQ m w_ h (⟨x1.1,x6⟩:Mem)
def AH(x1:Bool):Option Bool:=
 some x1
def DH(l:List a8)(w_ i:Int):Option Bool:=
 (fE w_).bind fun x2=>(if x2 then (idx l w_).bind fun x3=>(bQ i 0 (aZ ((x3.Rows.length:Int) - 1))).bind fun x4=>AH x4 else AH false)
def FH(x1:Bool):Option Bool:=
 some x1
def K7(r_:dI)(e_:Int):Option Bool:=
 (if decide (2<=e_) then FH (decide (r_.aN<=(aZ (e_ - 2)))) else FH false)
def DI(s:Sub)(b:aB):Option (Sub×aB):=
 (aX s 0).bind fun x3=>some (x3,b)
def eB(s:Sub)(b:aB)(w_:Int):Int->Option (Step Int (Out Unit (Sub×aB)))
 | x2=>(idx b.bO w_).bind fun x4=>(if decide (x2 < (x4.Rows.length:Int)) then (idx x4.Rows x2).bind fun x5=>(K7 x5 s.E).bind fun x6=>(if x6 then some (.stop (Out.ret (({s with Pc:=2,Row:=x2,B:=0,H:=x5.Handle}:Sub),b))) else some (.next (aZ (x2+1)))) else some (.stop (Out.brk ())))
def O9(s:Sub)(b:aB):(Out Unit (Sub×aB))->Option (Sub×aB)
 | .brk ()=>DI s b
 | .ret r=>some r
def mU(s:Sub)(b:aB)(w_:Int):Option (Sub×aB):=
 (loop (eB s b w_) (if s.Row < 0 then 0 else s.Row)).bind (O9 s b)
def xU(s:List dI)(i j:Int):Option (List dI):=
 need (0<=(i:Int)/\(i:Int)<=(j:Int)/\(j:Int)<=((s.length:Int):Int)/\((s.length:Int):Int)<=(s.length:Int)) ((if i == j then some s else need (0<=(i:Int)/\(i:Int)<=(s.length:Int)) (need (0<=(j:Int)/\(j:Int)<=(s.length:Int)) (need (i.toNat<=j.toNat) (need (0<=(((((cA s i.toNat (s.drop j.toNat)).take (i.toNat+(s.length - j.toNat))).drop 0).length:Int):Int)/\(((((cA s i.toNat (s.drop j.toNat)).take (i.toNat+(s.length - j.toNat))).drop 0).length:Int):Int)<=((s.length:Int):Int)/\((s.length:Int):Int)<=((cA s i.toNat (s.drop j.toNat)).length:Int)) (some (((cA s i.toNat (s.drop j.toNat)).take (i.toNat+(s.length - j.toNat))).drop 0)))))))
def wQ(w_ i:Int)(x1:(List a8))(x2:Bool):Option ((List a8)×Bool):=
 (if x2 then some (x1,false) else (idx x1 w_).bind fun x3=>(xU x3.Rows i (aZ (i+1))).bind fun x4=>some (x1.set w_.toNat (⟨x4⟩:a8),true))
def FI(l:List a8)(w_ i:Int):Option ((List a8)×Bool):=
 (lN l).bind fun x1=>(mS l).bind fun x5=>(if !x5 then wQ w_ i x1 true else (DH l w_ i).bind fun x6=>wQ w_ i x1 (!x6))
def cO(s:Sub)(b:aB)(w_:Int)(x5:Bool):Option (Sub×aB):=
 (if x5 then (FI b.bO w_ s.Row).bind fun x6=>(GM b.Mem w_ s.H).bind fun x7=>some (({s with Pc:=1,Out:=aZ (s.Out+1)}:Sub),({b with Mem:=x7,bO:=x6.1}:aB)) else (aX s 1).bind fun x8=>some (x8,b))
def dO(s:Sub)(b:aB)(w_:Int)(x1 x3:Bool):Option (Sub×aB):=
 (if x3 then (idx b.BW s.B).bind fun x4=>(if x4 == s.H then some (({s with Pc:=1,Row:=aZ (s.Row+1)}:Sub),b) else (if (aZ (s.B+1)) == 3 then some (({s with Pc:=3,B:=aZ (s.B+1)}:Sub),b) else some (({s with B:=aZ (s.B+1)}:Sub),b))) else (if s.Pc == 3 then (if x1 then (idx b.bO w_).bind fun x9=>(idx x9.Rows s.Row).bind fun x10=>(K7 x10 s.E).bind fun x11=>cO s b w_ x11 else cO s b w_ false) else cO s b w_ false))
def eT(s:Sub)(b:aB)(w_:Int)(x1:Bool):Option (Sub×aB):=
 (if s.Pc == 0 then some (({s with Pc:=1,E:=b.aJ.aN,Row:=0}:Sub),b) else (if s.Pc == 1 then (mU s b w_).bind fun x2=>some (x2.1,x2.2) else (if s.Pc == 2 then (fE s.B).bind fun x12=>(if x12 then dO s b w_ x1 x1 else dO s b w_ x1 false) else dO s b w_ x1 false)))
def mV(s:Sub)(b:aB)(w_:Int):Option (Sub×aB):=
 (DH b.bO w_ s.Row).bind fun x13=>(if x13 then (idx b.bO w_).bind fun x14=>(idx x14.Rows s.Row).bind fun x15=>eT s b w_ (x15.Handle == s.H) else eT s b w_ false)
def vN(w_ e_:Int)(x1:aJ)(x2:Bool):Option (aJ×Bool):=
 (if x2 then some (x1,false) else (idx x1.cN w_).bind fun x3=>some ((⟨x1.aN,x1.cN.set w_.toNat (⟨true,e_,false,0⟩:qT)⟩:aJ),true))
def ME(c:aJ)(w_ e_:Int):Option (aJ×Bool):=
 (lO c).bind fun x1=>(pB c).bind fun x4=>(if !x4 then vN w_ e_ x1 true else (fE w_).bind fun x5=>(if !x5 then vN w_ e_ x1 true else (bQ e_ 0 c.aN).bind fun x6=>vN w_ e_ x1 (!x6)))
def uV(s:Sub)(b:aB)(x1:Bool)(x2:Int)(x3:List qT):Option (Sub×aB):=
 (if !x1 then (aX s 1).bind fun x4=>some (x4,b) else some (({s with Pc:=2}:Sub),({b with aJ:=(⟨x2,x3⟩:aJ)}:aB)))
def tP(s:Sub)(b:aB)(w_:Int):Option (Sub×aB):=
 (if s.Pc == 0 then some (({s with Pc:=1,E:=b.aJ.aN}:Sub),b) else (if s.Pc == 1 then (ME b.aJ w_ s.E).bind fun x5=>uV s b x5.2 x5.1.aN x5.1.cN else (if s.Pc == 2 then (if b.aJ.aN == s.E then (aX s 0).bind fun x6=>some (x6,b) else some (({s with Pc:=0}:Sub),b)) else (aX s 1).bind fun x7=>some (x7,b))))
def m8(s:Sub)(b:aB)(w_:Int):Option (Sub×aB):=
 (if s.dS then some (s,b) else (if s.Kind == 1 then (o8 s b w_).bind fun x1=>some (x1.1,x1.2) else (if s.Kind == 2 then (nK s b w_).bind fun x2=>some (x2.1,x2.2) else (if s.Kind == 3 then (mT s b).bind fun x3=>some (x3.1,x3.2) else (if s.Kind == 4 then (mV s b w_).bind fun x4=>some (x4.1,x4.2) else (if s.Kind == 5 then (tP s b w_).bind fun x5=>some (x5.1,x5.2) else (aX s 1).bind fun x6=>some (x6,b)))))))
def pC(t:Table)(w_:Int):Option Table:=
 (idx t.aP w_).bind fun x1=>(m8 x1.Sub t.aB w_).bind fun x2=>(if !x2.1.dS then some ({t with aB:=x2.2,aP:=t.aP.set w_.toNat ({x1 with Sub:=x2.1}:aG)}:Table) else (if x1.Pc == 0 then some ({t with aB:=x2.2,aP:=t.aP.set w_.toNat ({x1 with Pc:=1,Sub:=x2.1}:aG)}:Table) else (if x1.Pc == 20 then (jU 4 0).bind fun x3=>some ({t with aB:=x2.2,aP:=t.aP.set w_.toNat ({x1 with Pc:=21,Sub:=x3}:aG)}:Table) else some ({t with aB:=x2.2,aP:=t.aP.set w_.toNat ({x1 with Pc:=19,Sub:=x2.1}:aG)}:Table))))
def mW(j:aG):Option (iD×Bool×aG):=
 (bQ j.At 0 (aZ ((j.Batch.bK.length:Int) - 1))).bind fun x1=>(if !x1 then some ((⟨0,0,0⟩:iD),false,j) else (idx j.Batch.bK j.At).bind fun x2=>some (x2,true,j))
def bZ(j:aG)(code:Int):Option aG:=
 some ({j with Pc:=16,Code:=code}:aG)
def HP:Option Int:=
 some (-1)
def l9(s:List aU)(f:(aU->Option Bool)):Int->Option (Step Int (Out Unit Int))
 | x2=>(if decide (x2 < (s.length:Int)) then (idx s x2).bind fun x3=>(f x3).bind fun x4=>(if x4 then some (.stop (Out.ret x2)) else some (.next (aZ (x2+1)))) else some (.stop (Out.brk ())))
def HQ:(Out Unit Int)->Option Int
 | .brk ()=>HP
 | .ret r=>some r
def cB(s:List aU)(f:(aU->Option Bool)):Option Int:=
 (loop (l9 s f) 0).bind (HQ)
def sC(x8:List aU)(x9:Int):Option (List aU):=
 need (0<=(x9:Int)/\(x9:Int)<=(x8.length:Int)) (need (0<=(x9:Int)/\(x9:Int)<=((cA x8 x9.toNat (List.replicate (x8.length - x9.toNat) (⟨0,false,0⟩:aU))).length:Int)) (some (((cA x8 x9.toNat (List.replicate (x8.length - x9.toNat) (⟨0,false,0⟩:aU))).take x9.toNat).drop 0)))
def fZ(x7:Int)(x10:List aU)(x11:Int):Option (Step ((List aU)×Int×Int) ((List aU)×Int)):=
 some (.next (x10,x11,aZ (x7+1)))
def iL(del:(aU->Option Bool)):((List aU)×Int×Int)->Option (Step ((List aU)×Int×Int) ((List aU)×Int))
 | (x5,x6,x7)=>(if decide (x7 < (x5.length:Int)) then (idx x5 x7).bind fun x12=>(del x12).bind fun x13=>(if !x13 then (idx x5 x6).bind fun x14=>fZ x7 (x5.set x6.toNat x12) (aZ (x6+1)) else fZ x7 x5 x6) else some (.stop ((x5,x6))))
def sD:((List aU)×Int)->Option (List aU)
 | (x8,x9)=>sC x8 x9
def hQ(s:List aU)(del:(aU->Option Bool)):Option (List aU):=
 (cB s del).bind fun x1=>(if x1 == (-1) then some s else (loop (iL del) (s,x1,aZ (x1+1))).bind (sD))
def xV(s:List aU):Option (List aU):=
 need (([]:List aU).length+s.length<=1073741824) (some (([]:List aU)++s))
def D9(x k0:aU):Option Bool:=
 some (x.Key == k0.Key)
def wR(x k0:aU):Option Bool:=
 some (decide (k0.Key < x.Key))
def nL(s:List aU)(i:Int)(v:List aU):Option (List aU):=
 need (0<=i/\i<=(s.length:Int)/\s.length+v.length<=1073741824) (some (s.take i.toNat++v++s.drop i.toNat))
def oF(w_:aU)(x2:(List aU))(x4:Int):Option (List aU):=
 (nL x2 x4 ([w_])).bind fun x5=>some x5
def CR(l:List aU)(w_:aU):Option (List aU):=
 (xV l).bind fun x1=>(hQ x1 (fun y0=>D9 y0 w_)).bind fun x2=>(cB x2 (fun y0=>wR y0 w_)).bind fun x3=>(if decide (x3 < 0) then oF w_ x2 (x2.length:Int) else oF w_ x2 x3)
def oG(j:aG)(x:aU):Option (Bool×aG):=
 (CR j.aL x).bind fun x1=>(if decide (6 < (x1.length:Int)) then (bZ j 1).bind fun x2=>some (false,x2) else some (true,({j with aL:=x1}:aG)))
def AI(x:aU)(k0:Int):Option Bool:=
 some (x.Key == k0)
def FJ(l:List aU)(key:Int):Option (aU×Bool):=
 (cB l (fun y0=>AI y0 key)).bind fun x1=>(if decide (x1 < 0) then some ((⟨0,false,0⟩:aU),false) else (idx l x1).bind fun x2=>some (x2,true))
def SA(a_ b:Int):Option Int:=
 some (Int.tmod (aZ (a_+b)) 65536)
def nM(x5:aG):Option aG:=
 some ({x5 with Pc:=1,At:=aZ (x5.At+1)}:aG)
def kR(x2:aG)(x3:Bool)(x4:Int):Option aG:=
 need (x2.eN.length+([(⟨x3,x4⟩:eN)]).length<=1073741824)<|nM ({x2 with eN:=x2.eN++([(⟨x3,x4⟩:eN)])}:aG)
def kS(j:aG)(c:iD)(is:Bool)(x1:Int):Option aG:=
 (if c.Kind == 4 then (SA x1 c.eH).bind fun x6=>(oG j (⟨c.Key,false,x6⟩:aU)).bind fun x7=>(if !x7.1 then some x7.2 else kR x7.2 true x6) else kR j is x1)
def oH(j:aG)(c:iD)(val:Int)(is:Bool):Option aG:=
 (if !is then kS j c is 0 else kS j c is val)
def BZ(key:Int):Option Int:=
 (bQ key 0 99).bind fun x1=>(if !x1 then some (-1) else some (Int.tmod key 2))
def AJ(x1:iD×Bool×aG)(x6:Bool)(x7:aG)(x8:Int)(x9:Bool)(x10:Int):Option aG:=
 (if x6 then (oH x7 x1.1 x10 (!x9)).bind fun x11=>some x11 else (BZ x1.1.Key).bind fun x12=>some ({x7 with Pc:=2,bV:=x12}:aG))
def iM(x1:iD×Bool×aG)(x3:Bool)(x4:aG):Option aG:=
 (if x3 then (oG x4 (⟨x1.1.Key,x1.1.Kind == 3,x1.1.eH⟩:aU)).bind fun x5=>(if x5.1 then need (x5.2.eN.length+([(⟨false,0⟩:eN)]).length<=1073741824) (some (⟨x5.2.eA,x5.2.Batch,x5.2.aE,x5.2.Pc,aZ (x5.2.At+1),x5.2.K,x5.2.bV,x5.2.fX,x5.2.H,x5.2.fP,x5.2.Node,x5.2.Found,x5.2.Code,x5.2.Sub,x5.2.Reads,x5.2.aL,x5.2.eN++([(⟨false,0⟩:eN)]),x5.2.fQ,x5.2.bR,x5.2.cE⟩:aG)) else some x5.2) else (FJ x4.aL x1.1.Key).bind fun x13=>AJ x1 x13.2 x4 x13.1.Key x13.1.HJ x13.1.eH)
def AK(j:aG):Option aG:=
 (mW j).bind fun x1=>(if !x1.2.1 then (jU 1 16).bind fun x2=>some (⟨x1.2.2.eA,x1.2.2.Batch,x1.2.2.aE,6,x1.2.2.At,0,x1.2.2.bV,x1.2.2.fX,x1.2.2.H,x1.2.2.fP,x1.2.2.Node,x1.2.2.Found,x1.2.2.Code,x2,x1.2.2.Reads,x1.2.2.aL,x1.2.2.eN,x1.2.2.fQ,x1.2.2.bR,x1.2.2.cE⟩:aG) else (if x1.1.Kind == 2 then iM x1 true x1.2.2 else iM x1 (x1.1.Kind == 3) x1.2.2))
def AL(h:Heap)(slot:Int):Option Bool:=
 (jK h slot).bind fun x1=>(yV x1).bind fun x2=>some (decide (10<=x2))
def FK(slot c:Int):Option Int:=
 (rW slot c).bind fun x1=>(if decide (x1 < 0) then some (-1) else some (aZ (x1+4)))
def tQ(h:Heap)(slot:Int):Option Int:=
 (jK h slot).bind fun x1=>(FK slot x1).bind fun x2=>some x2
def IQ(h:Heap)(slot:Int):Option bN:=
 (tQ h slot).bind fun x1=>(mR h.Bytes x1 2).bind fun x2=>(mR h.Bytes (aZ (x1+2)) 4).bind fun x3=>(mR h.Bytes (aZ (x1+6)) 4).bind fun x4=>some (⟨x2,x3,x4⟩:bN)
def AM(m:Mem)(h:Int)(x1:Bool):Option (bN×Int):=
 (if x1 then some ((⟨0,0,0⟩:bN),4) else (AL m.Heap (Int.tmod h 32)).bind fun x2=>(if !x2 then some ((⟨0,0,0⟩:bN),2) else (IQ m.Heap (Int.tmod h 32)).bind fun x3=>some (x3,0)))
def DJ(m:Mem)(h:Int):Option (bN×Int):=
 (fF h).bind fun x4=>(if !x4 then AM m h true else (jK m.Heap (Int.tmod h 32)).bind fun x5=>AM m h (decide (x5 < 0)))
def l4(x1:Bool):Option Bool:=
 some x1
def xW(p:qT):Option Bool:=
 (if p.On then l4 (!p.gG) else l4 false)
def fJ(n:bN):Option Int:=
 (fF n.Next).bind fun x1=>(if !x1 then some 0 else some n.Next)
def AN(s:List Seen):Option (List Seen):=
 need (([]:List Seen).length+s.length<=1073741824) (some (([]:List Seen)++s))
def JR:Option Int:=
 some (-1)
def m9(s:List Seen)(f:(Seen->Option Bool)):Int->Option (Step Int (Out Unit Int))
 | x2=>(if decide (x2 < (s.length:Int)) then (idx s x2).bind fun x3=>(f x3).bind fun x4=>(if x4 then some (.stop (Out.ret x2)) else some (.next (aZ (x2+1)))) else some (.stop (Out.brk ())))
def JS:(Out Unit Int)->Option Int
 | .brk ()=>JR
 | .ret r=>some r
def dM(s:List Seen)(f:(Seen->Option Bool)):Option Int:=
 (loop (m9 s f) 0).bind (JS)
def AO(s:Seen)(k0:Int):Option Bool:=
 some (s.bV == k0)
def FL(l:List Seen)(b v:Int):Option ((List Seen)×Bool):=
 (AN l).bind fun x1=>(dM l (fun y0=>AO y0 b)).bind fun x2=>(if decide (x2 < 0) then need (x1.length+([(⟨b,v⟩:Seen)]).length<=1073741824) (some (x1++([(⟨b,v⟩:Seen)]),true)) else (idx l x2).bind fun x3=>some (x1,x3.fX == v))
def pD(t:Table)(w_:Int)(x13:List aG)(x14:Bool):Option Table:=
 (if x14 then (idx x13 w_).bind fun x15=>some ({t with aP:=x13.set w_.toNat ({x15 with Pc:=5}:aG)}:Table) else some ({t with aP:=x13}:Table))
def xX(t:Table)(w_:Int)(x13:List aG):Option Table:=
 (idx x13 w_).bind fun x16=>(if x16.Found then pD t w_ x13 true else pD t w_ x13 (x16.H == 0))
def GN(t:Table)(x26:List aG):Option Table:=
 some ({t with aP:=x26}:Table)
def xY(t:Table)(w_:Int)(x6:iD×Bool×aG)(x21:List Seen)(x22:Bool):Option Table:=
 (idx (t.aP.set w_.toNat x6.2.2) w_).bind fun x23=>(if !x22 then (bZ ({x23 with Reads:=x21}:aG) 7).bind fun x24=>some ({t with aP:=(t.aP.set w_.toNat x6.2.2).set w_.toNat x24}:Table) else (if !x6.2.1 then (bZ ({x23 with Reads:=x21}:aG) 1).bind fun x25=>some ({t with aP:=(t.aP.set w_.toNat x6.2.2).set w_.toNat x25}:Table) else (oH ({x23 with Reads:=x21}:aG) x6.1 x23.Node.eH x23.Found).bind fun x27=>GN t ((t.aP.set w_.toNat x6.2.2).set w_.toNat x27)))
def gT(t:Table)(w_:Int)(x6:iD×Bool×aG)(x18:Bool):Option Table:=
 (if x18 then (idx (t.aP.set w_.toNat x6.2.2) w_).bind fun x19=>(bZ x19 7).bind fun x20=>some ({t with aP:=(t.aP.set w_.toNat x6.2.2).set w_.toNat x20}:Table) else (idx (t.aP.set w_.toNat x6.2.2) w_).bind fun x28=>(FL x28.Reads x28.bV x28.fX).bind fun x29=>xY t w_ x6 x29.1 x29.2)
def xZ(t:Table)(w_ x2 x3 x4:Int):Option Table:=
 (idx t.aP w_).bind fun x5=>(mW x5).bind fun x6=>(if x6.2.2.Pc == 2 then (if x4 != 0 then (bZ x6.2.2 7).bind fun x7=>some ({t with aP:=t.aP.set w_.toNat x7}:Table) else (if x2 == 0 then some ({t with aP:=t.aP.set w_.toNat (⟨x6.2.2.eA,x6.2.2.Batch,x6.2.2.aE,5,x6.2.2.At,x6.2.2.K,x6.2.2.bV,x3,x2,x6.2.2.fP,(⟨0,0,0⟩:bN),false,x6.2.2.Code,x6.2.2.Sub,x6.2.2.Reads,x6.2.2.aL,x6.2.2.eN,x6.2.2.fQ,x6.2.2.bR,x6.2.2.cE⟩:aG)}:Table) else some ({t with aP:=t.aP.set w_.toNat (⟨x6.2.2.eA,x6.2.2.Batch,x6.2.2.aE,3,x6.2.2.At,x6.2.2.K,x6.2.2.bV,x3,x2,x6.2.2.fP,(⟨0,0,0⟩:bN),false,x6.2.2.Code,x6.2.2.Sub,x6.2.2.Reads,x6.2.2.aL,x6.2.2.eN,x6.2.2.fQ,x6.2.2.bR,x6.2.2.cE⟩:aG)}:Table))) else (if x6.2.2.Pc == 3 then (DJ t.aB.Mem x6.2.2.H).bind fun x8=>some ({t with aP:=t.aP.set w_.toNat (⟨x6.2.2.eA,x6.2.2.Batch,x6.2.2.aE,4,x6.2.2.At,x6.2.2.K,x6.2.2.bV,x6.2.2.fX,x6.2.2.H,x6.2.2.fP,x8.1,x6.2.2.Found,x6.2.2.Code,x6.2.2.Sub,x6.2.2.Reads,x6.2.2.aL,x6.2.2.eN,x6.2.2.fQ,x6.2.2.bR,x6.2.2.cE⟩:aG)}:Table) else (if x6.2.2.Pc == 4 then (idx t.aB.aJ.cN w_).bind fun x9=>(xW x9).bind fun x10=>(if !x10 then (bZ x6.2.2 6).bind fun x11=>some ({t with aP:=t.aP.set w_.toNat x11}:Table) else (if !x6.2.1 then (bZ x6.2.2 1).bind fun x12=>some ({t with aP:=t.aP.set w_.toNat x12}:Table) else (fJ x6.2.2.Node).bind fun x17=>xX t w_ (t.aP.set w_.toNat (⟨x6.2.2.eA,x6.2.2.Batch,x6.2.2.aE,3,x6.2.2.At,x6.2.2.K,x6.2.2.bV,x6.2.2.fX,x17,x6.2.2.fP,x6.2.2.Node,x6.2.2.Node.Key == x6.1.Key,x6.2.2.Code,x6.2.2.Sub,x6.2.2.Reads,x6.2.2.aL,x6.2.2.eN,x6.2.2.fQ,x6.2.2.bR,x6.2.2.cE⟩:aG)))) else (if x4 != 0 then gT t w_ x6 true else gT t w_ x6 (x3 != x6.2.2.fX)))))
def wS(t:Table)(w_:Int):Option Table:=
 (idx t.aP w_).bind fun x1=>(idx t.cH x1.bV).bind fun x30=>xZ t w_ x30.Head x30.fX x30.jB
def aFX(x5:Int):Option Int:=
 some x5
def AP(x4 x6:Int):Option (Step (Int×Int) Int):=
 some (.next (x6,aZ (x4+1)))
def MF(l:List aU)(n:Int):(Int×Int)->Option (Step (Int×Int) Int)
 | (x3,x4)=>(if decide (x4 < (((l.take ((if (if (l.length:Int) < n then (l.length:Int) else n) < 0 then 0 else (if (l.length:Int) < n then (l.length:Int) else n)).toNat)).drop 0).length:Int)) then (idx ((l.take ((if (if (l.length:Int) < n then (l.length:Int) else n) < 0 then 0 else (if (l.length:Int) < n then (l.length:Int) else n)).toNat)).drop 0) x4).bind fun x7=>(if !x7.HJ then AP x4 (aZ (x3+1)) else AP x4 x3) else some (.stop (x3)))
def aFY:Int->Option Int
 | x5=>aFX x5
def K8(l:List aU)(n:Int):Option Int:=
 need (0<=(if (if (l.length:Int) < n then (l.length:Int) else n) < 0 then 0 else (if (l.length:Int) < n then (l.length:Int) else n):Int)/\(if (if (l.length:Int) < n then (l.length:Int) else n) < 0 then 0 else (if (l.length:Int) < n then (l.length:Int) else n):Int)<=(l.length:Int)) ((loop (MF l n) (0,0)).bind (aFY))
def uW(x11:Table):Option Table:=
 some x11
def uX(w_:Int)(x10:Table):Option Table:=
 (idx x10.aP w_).bind fun x12=>(jU 1 16).bind fun x13=>uW ({x10 with aP:=x10.aP.set w_.toNat ({x12 with K:=aZ (x12.K+1),Sub:=x13}:aG)}:Table)
def fK(w_:Int)(x6:Bool)(x7:Table):Option Table:=
 (if x6 then (idx x7.aP w_).bind fun x8=>(bZ x8 x8.Sub.Code).bind fun x9=>some ({x7 with aP:=x7.aP.set w_.toNat x9}:Table) else (idx x7.aP w_).bind fun x14=>need (x14.fQ.length+([x14.Sub.Out]).length<=1073741824)<|uX w_ ({x7 with aP:=x7.aP.set w_.toNat ({x14 with fQ:=x14.fQ++([x14.Sub.Out])}:aG)}:Table))
def uY(t:Table)(w_:Int)(x2:Bool):Option Table:=
 (if x2 then (idx t.aP w_).bind fun x3=>some ({t with aP:=t.aP.set w_.toNat ({x3 with Pc:=7,K:=0}:aG)}:Table) else (idx t.aP w_).bind fun x4=>(m8 x4.Sub t.aB w_).bind fun x5=>(if !x5.1.dS then some ({t with aB:=x5.2,aP:=t.aP.set w_.toNat ({x4 with Sub:=x5.1}:aG)}:Table) else (if x5.1.Code != 0 then fK w_ true ({t with aB:=x5.2,aP:=t.aP.set w_.toNat ({x4 with Sub:=x5.1}:aG)}:Table) else (fF x5.1.Out).bind fun x15=>(if !x15 then fK w_ true ({t with aB:=x5.2,aP:=t.aP.set w_.toNat ({x4 with Sub:=x5.1}:aG)}:Table) else fK w_ (decide (6<=(x4.fQ.length:Int))) ({t with aB:=x5.2,aP:=t.aP.set w_.toNat ({x4 with Sub:=x5.1}:aG)}:Table)))))
def tR(t:Table)(w_:Int):Option Table:=
 (idx t.aP w_).bind fun x1=>(K8 x1.aL (x1.aL.length:Int)).bind fun x16=>uY t w_ (decide (x16<=x1.K))
def cmp_isNaN_int(x:Int):Option Bool:=
 some (x != x)
def pZ(x1:Bool):Option Bool:=
 some x1
def cmp_Less_int(x y:Int):Option Bool:=
 (cmp_isNaN_int x).bind fun x2=>(if x2 then (cmp_isNaN_int y).bind fun x3=>(if !x3 then pZ true else pZ (decide (x < y))) else pZ (decide (x < y)))
def gU(data x5:List Int):Option (List Int):=
 need (x5.length=data.length) (some x5)
def lP(data:List Int)(x4:Int)(x10:List Int):Option (Step ((List Int)×Int) (List Int)):=
 need (x10.length=data.length) (some (.next (x10,aZ (x4+1))))
def gW(data:List Int)(x9:Int)(x12:List Int):Option (Step ((List Int)×Int) (List Int)):=
 need (x12.length=data.length) (some (.next (x12,aZ (x9 - 1))))
def cR(data x8:List Int)(x9:Int)(x11:Bool):Option (Step ((List Int)×Int) (List Int)):=
 need (x8.length=data.length) ((if x11 then (idx x8 (aZ (x9 - 1))).bind fun x13=>(idx x8 x9).bind fun x14=>(idx (x8.set x9.toNat x13) (aZ (x9 - 1))).bind fun x15=>gW data x9 ((x8.set x9.toNat x13).set ((aZ (x9 - 1)).toNat) x14) else some (.stop (x8))))
def cS(data:List Int)(a_:Int):((List Int)×Int)->Option (Step ((List Int)×Int) (List Int))
 | (x8,x9)=>need (x8.length=data.length) ((if decide (a_ < x9) then (idx x8 x9).bind fun x16=>(idx x8 (aZ (x9 - 1))).bind fun x17=>(cmp_Less_int x16 x17).bind fun x18=>cR data x8 x9 x18 else cR data x8 x9 false))
def lQ(data:List Int)(x4:Int):(List Int)->Option (Step ((List Int)×Int) (List Int))
 | x10=>lP data x4 x10
def cC(data:List Int)(a_ b:Int):((List Int)×Int)->Option (Step ((List Int)×Int) (List Int))
 | (x3,x4)=>need (x3.length=data.length) ((if decide (x4 < b) then (loop (cS data a_) (x3,x4)).bind (lQ data x4) else some (.stop (x3))))
def gX(data:List Int):(List Int)->Option (List Int)
 | x5=>gU data x5
def fT(data:List Int)(a_ b:Int):Option (List Int):=
 (loop (cC data a_ b) (data,aZ (a_+1))).bind (gX data)
def p5(data:List Int)(a_ b limit:Int):Unit->Option (Step Unit (List Int))
 | ()=>(if decide ((aZ (b - a_))<=12) then (fT data a_ b).bind fun x1=>some (.stop (x1)) else (if limit == 0 then none else none))
def EA:(List Int)->Option (List Int)
 | r=>some r
def mA(data:List Int)(a_ b limit:Int):Option (List Int):=
 (loop (p5 data a_ b limit) ()).bind (EA)
def yA(x5 x6:Int):Option Int:=
 (idx ([0,1,2,2,3,3,3,3,4,4,4,4,4,4,4,4,5,5,5,5,5,5,5,5,5,5,5,5,5,5,5,5,6,6,6,6,6,6,6,6,6,6,6,6,6,6,6,6,6,6,6,6,6,6,6,6,6,6,6,6,6,6,6,6,7,7,7,7,7,7,7,7,7,7,7,7,7,7,7,7,7,7,7,7,7,7,7,7,7,7,7,7,7,7,7,7,7,7,7,7,7,7,7,7,7,7,7,7,7,7,7,7,7,7,7,7,7,7,7,7,7,7,7,7,7,7,7,7,8,8,8,8,8,8,8,8,8,8,8,8,8,8,8,8,8,8,8,8,8,8,8,8,8,8,8,8,8,8,8,8,8,8,8,8,8,8,8,8,8,8,8,8,8,8,8,8,8,8,8,8,8,8,8,8,8,8,8,8,8,8,8,8,8,8,8,8,8,8,8,8,8,8,8,8,8,8,8,8,8,8,8,8,8,8,8,8,8,8,8,8,8,8,8,8,8,8,8,8,8,8,8,8,8,8,8,8,8,8,8,8,8,8,8,8,8,8,8,8,8,8,8,8,8,8,8,8]:List UInt8) ((u8 x5).toNat:Int)).bind fun x7=>some (aZ (x6+(x7.toNat:Int)))
def yC(x3 x4:Int):Option Int:=
 (if decide (256<=x3) then yA (mN .u64 x3 8) (aZ (x4+8)) else yA x3 x4)
def yD(x1 x2:Int):Option Int:=
 (if decide (65536<=x1) then yC (mN .u64 x1 16) (aZ (x2+16)) else yC x1 x2)
def NT(x:Int):Option Int:=
 (if decide (4294967296<=x) then yD (mN .u64 x 32) 32 else yD x 0)
def vO(x:Int):Option Int:=
 (NT x).bind fun x1=>some x1
def wT(x:List Int):Option (List Int):=
 (vO (IntKind.u64.wrap (x.length:Int))).bind fun x1=>(mA x 0 (x.length:Int) x1).bind fun x2=>some x2
def EB(x5:List Int):Option (List Int):=
 (wT x5).bind fun x6=>(slices_Compact_int x6).bind fun x7=>some x7
def wU(x4:Int)(x8:List Int):Option (Step ((List Int)×Int) (List Int)):=
 some (.next (x8,aZ (x4+1)))
def EC(l:List aU):((List Int)×Int)->Option (Step ((List Int)×Int) (List Int))
 | (x3,x4)=>(if decide (x4 < (l.length:Int)) then (idx l x4).bind fun x9=>(BZ x9.Key).bind fun x10=>(if decide (0<=x10) then need (x3.length+([x10]).length<=1073741824) (wU x4 (x3++([x10]))) else wU x4 x3) else some (.stop (x3)))
def NU:(List Int)->Option (List Int)
 | x5=>EB x5
def FM(l:List aU):Option (List Int):=
 (loop (EC l) (([]:List Int),0)).bind (NU)
def gO(s:List Seen)(f:(Seen->Option Bool)):Option Bool:=
 (dM s f).bind fun x1=>some (decide (0<=x1))
def mX(x1:Bool):Option Bool:=
 some x1
def rG(s:Seen)(k0:Int)(k1:bV):Option Bool:=
 (if s.bV == k0 then mX (s.fX != k1.fX) else mX false)
def pE(t:Table)(w_:Int)(x3:List bV)(x4:List aG)(x5:aG):Option Table:=
 (idx x4 w_).bind fun x6=>some ({t with cH:=x3,aP:=x4.set w_.toNat ({x6 with Pc:=8,K:=0}:aG),Log:=t.Log++([(⟨2,w_,x5.aE,0,[],[]⟩:jS)])}:Table)
def lR(t:Table)(w_:Int)(x2:(List Int))(x3:List bV)(x4:List aG):Option Table:=
 (idx x4 w_).bind fun x5=>(if decide ((x2.length:Int)<=x5.K) then need (t.Log.length+([(⟨2,w_,x5.aE,0,[],[]⟩:jS)]).length<=1073741824)<|pE t w_ x3 x4 x5 else some ({t with cH:=x3,aP:=x4}:Table))
def lS(t:Table)(w_:Int)(x2:(List Int))(x7:Int)(x12:bV)(x15:List aG):Option Table:=
 (idx x15 w_).bind fun x16=>lR t w_ x2 (t.cH.set x7.toNat ({x12 with jB:=aZ (w_+1)}:bV)) (x15.set w_.toNat ({x16 with K:=aZ (x16.K+1)}:aG))
def yE(t:Table)(w_:Int)(x2:(List Int))(x7:Int)(x12:bV)(x17:aG):Option Table:=
 lS t w_ x2 x7 x12 (t.aP.set w_.toNat ({x17 with bR:=x17.bR++([x7])}:aG))
def gA(t:Table)(w_:Int)(x2:(List Int))(x7:Int)(x9:Bool):Option Table:=
 (if x9 then (idx t.aP w_).bind fun x10=>(bZ x10 7).bind fun x11=>some ({t with aP:=t.aP.set w_.toNat x11}:Table) else (idx t.cH x7).bind fun x12=>(if x12.fX == 1000000 then (idx t.aP w_).bind fun x13=>(bZ x13 3).bind fun x14=>some ({t with aP:=t.aP.set w_.toNat x14}:Table) else (idx t.aP w_).bind fun x17=>(iN x17.bR x7).bind fun x18=>(if !x18 then need (x17.bR.length+([x7]).length<=1073741824)<|yE t w_ x2 x7 x12 x17 else lS t w_ x2 x7 x12 t.aP)))
def wV(t:Table)(w_:Int):Option Table:=
 (idx t.aP w_).bind fun x1=>(FM x1.aL).bind fun x2=>(if decide (x1.K < (x2.length:Int)) then (idx x2 x1.K).bind fun x7=>(idx t.cH x7).bind fun x8=>(if x8.jB != 0 then gA t w_ x2 x7 true else (gO x1.Reads (fun y0=>rG y0 x7 x8)).bind fun x19=>gA t w_ x2 x7 x19) else lR t w_ x2 t.cH t.aP)
def eC(t:Table)(w_:Int)(x8:Bool):Option Table:=
 (if x8 then (idx t.aP w_).bind fun x9=>(bZ x9 7).bind fun x10=>some ({t with aP:=t.aP.set w_.toNat x10}:Table) else (idx t.aP w_).bind fun x11=>some ({t with aP:=t.aP.set w_.toNat ({x11 with K:=aZ (x11.K+1)}:aG)}:Table))
def pG(t:Table)(w_ x4 x5 x6 x7:Int):Option Table:=
 (if x7 != 0 then (if x7 != (aZ (w_+1)) then eC t w_ true else eC t w_ (x6 != x4)) else eC t w_ (x6 != x4))
def pH(t:Table)(w_ x3 x4:Int):Option Table:=
 (idx t.cH x3).bind fun x12=>pG t w_ x4 x12.Head x12.fX x12.jB
def pI(t:Table)(w_:Int)(x1:aG):Option Table:=
 (if decide ((x1.Reads.length:Int)<=x1.K) then (idx t.aP w_).bind fun x2=>some ({t with aP:=t.aP.set w_.toNat ({x2 with Pc:=9,K:=0}:aG)}:Table) else (idx t.aP w_).bind fun x13=>(idx x13.Reads x13.K).bind fun x14=>pH t w_ x14.bV x14.fX)
def nN(t:Table)(w_:Int):Option Table:=
 (idx t.aP w_).bind fun x1=>pI t w_ x1
def mH(j:aG)(x:aU):Option aG:=
 (if x.HJ then some ({j with Pc:=9,K:=aZ (j.K+1)}:aG) else some ({j with Pc:=12}:aG))
def pJ(m:Mem):Option Mem:=
 (qL m.Heap).bind fun x1=>(gN m.aA).bind fun x2=>some (⟨x1,x2⟩:Mem)
def VH:Option Bool:=
 some true
def tS(x2:Int)(x4:Bool):Option (Step Int (Out Unit Bool)):=
 (if x4 then some (.stop (Out.ret false)) else some (.next (aZ (x2+1))))
def lH(h:Heap)(s:aO)(c:Int):Int->Option (Step Int (Out Unit Bool))
 | x2=>(if decide (x2 < (s.aQ.length:Int)) then (idx s.aQ x2).bind fun x3=>(jK h x3).bind fun x5=>(if x5 != c then tS x2 true else (xT h x3).bind fun x6=>tS x2 (decide (6 < x6))) else some (.stop (Out.brk ())))
def VI:(Out Unit Bool)->Option Bool
 | .brk ()=>VH
 | .ret r=>some r
def vP(h:Heap)(s:aO)(c:Int):Option Bool:=
 (loop (lH h s c) 0).bind (VI)
def aCP:Option Bool:=
 some true
def qM(m:Mem):Int->Option (Step Int (Out Unit Bool))
 | x5=>(if decide (x5 < (m.aA.Own.length:Int)) then (idx m.aA.Own x5).bind fun x6=>(vP m.Heap x6 (Int.tmod x5 3)).bind fun x7=>(if !x7 then some (.stop (Out.ret false)) else some (.next (aZ (x5+1)))) else some (.stop (Out.brk ())))
def aCQ:(Out Unit Bool)->Option Bool
 | .brk ()=>aCP
 | .ret r=>some r
def RG(m:Mem):Option Bool:=
 (loop (qM m) 0).bind (aCQ)
def qN(m:Mem):Int->Option (Step Int (Out Unit Bool))
 | x3=>(if decide (x3 < (m.aA.Global.length:Int)) then (idx m.aA.Global x3).bind fun x8=>(vP m.Heap x8 x3).bind fun x9=>(if !x9 then some (.stop (Out.ret false)) else some (.next (aZ (x3+1)))) else some (.stop (Out.brk ())))
def RH(m:Mem):(Out Unit Bool)->Option Bool
 | .brk ()=>RG m
 | .ret r=>some r
def CS(m:Mem)(x1:Bool):Option Bool:=
 (if x1 then some false else (loop (qN m) 0).bind (RH m))
def B3(m:Mem):Option Bool:=
 (DF m.Heap).bind fun x10=>(if !x10 then CS m true else (jJ m.aA).bind fun x11=>CS m (!x11))
def AQ(x1:Bool):Option Bool:=
 some x1
def DK(h:Int):Option Bool:=
 (if h == 0 then AQ true else (fF h).bind fun x2=>AQ x2)
def vQ(m:Mem)(h:Int):Option Int:=
 (yX m h).bind fun x1=>(if !x1 then some 4 else (AL m.Heap (Int.tmod h 32)).bind fun x2=>(if !x2 then some 2 else some 0))
def GO(x4:Int)(x5:Mem):Option (Mem×Int):=
 some (x5,x4)
def PA(x4:Int)(x6:Mem):Option (Mem×Int):=
 GO x4 x6
def AR(m:Mem)(h next_:Int)(x2:Bool)(x3:Mem):Option (Mem×Int):=
 (if x2 then some (x3,1) else (vQ m h).bind fun x4=>(if x4 == 0 then (tQ m.Heap (Int.tmod h 32)).bind fun x7=>(kH next_ 4).bind fun x8=>(lA x3.Heap.Bytes (aZ (x7+6)) x8).bind fun x9=>PA x4 (⟨(⟨x9,x3.Heap.Class⟩:Heap),x3.aA⟩:Mem) else GO x4 x3))
def IS(m:Mem)(h next_:Int):Option (Mem×Int):=
 (pJ m).bind fun x1=>(B3 m).bind fun x10=>(if !x10 then AR m h next_ true x1 else (DK next_).bind fun x11=>AR m h next_ (!x11) x1)
def sE(x1:Bool):Option Bool:=
 some x1
def IT(n:bN):Option Bool:=
 (bQ n.Key 0 99).bind fun x2=>(if x2 then (bQ n.eH 0 65535).bind fun x3=>(if x3 then (DK n.Next).bind fun x4=>sE x4 else sE false) else sE false)
def ED(x4:Int)(x5:Mem):Option (Mem×Int):=
 some (x5,x4)
def NV(x4:Int)(x6:Mem):Option (Mem×Int):=
 ED x4 x6
def wW(m:Mem)(h:Int)(n:bN)(x2:Bool)(x3:Mem):Option (Mem×Int):=
 (if x2 then some (x3,1) else (vQ m h).bind fun x4=>(if x4 == 0 then (tQ m.Heap (Int.tmod h 32)).bind fun x7=>(kH n.Key 2).bind fun x8=>(kH n.eH 4).bind fun x9=>need (x8.length+x9.length<=9223372036854775807)<|(kH n.Next 4).bind fun x10=>need ((x8++x9).length+x10.length<=9223372036854775807)<|(lA x3.Heap.Bytes x7 ((x8++x9)++x10)).bind fun x11=>NV x4 (⟨(⟨x11,x3.Heap.Class⟩:Heap),x3.aA⟩:Mem) else ED x4 x3))
def FN(m:Mem)(h:Int)(n:bN):Option (Mem×Int):=
 (pJ m).bind fun x1=>(B3 m).bind fun x12=>(if !x12 then wW m h n true x1 else (IT n).bind fun x13=>wW m h n (!x13) x1)
def yF(t:Table)(j:aG)(b:bV)(x3:Table):Option (Table×aG×bV):=
 some (({x3 with cH:=t.cH,aP:=t.aP}:Table),({j with Pc:=13}:aG),b)
def EE(t:Table)(j:aG)(x:aU)(b:bV):Option (Table×aG×bV):=
 (K8 j.aL j.K).bind fun x1=>(if decide ((j.fQ.length:Int)<=x1) then (bZ j 1).bind fun x2=>some (t,x2,b) else (if j.Pc == 12 then (idx j.fQ x1).bind fun x4=>(FN t.aB.Mem x4 ({x with Next:=b.Head}:bN)).bind fun x5=>yF t j b ({t with aB:=(⟨x5.1,t.aB.aJ,t.aB.bO,t.aB.BW⟩:aB)}:Table) else (idx j.fQ x1).bind fun x6=>some (t,({j with Pc:=9,K:=aZ (j.K+1)}:aG),({b with Head:=x6}:bV))))
def uZ(t:Table)(x13:List aG):Option Table:=
 some ({t with aP:=x13}:Table)
def kT(w_ x3:Int)(x4:Bool)(x5:Int)(x16:Table):Option Table:=
 (idx x16.aP w_).bind fun x17=>(mH x17 (⟨x3,x4,x5⟩:aU)).bind fun x18=>some ({x16 with aP:=x16.aP.set w_.toNat x18}:Table)
def vA(w_ x3:Int)(x4:Bool)(x5:Int)(x21:Table):Option Table:=
 kT w_ x3 x4 x5 x21
def nO(w_ x3:Int)(x4:Bool)(x5:Int)(x19:Bool)(x20:Table):Option Table:=
 (if x19 then (idx x20.aP w_).bind fun x22=>need (x22.cE.length+([x22.H]).length<=1073741824)<|vA w_ x3 x4 x5 ({x20 with aP:=x20.aP.set w_.toNat ({x22 with cE:=x22.cE++([x22.H])}:aG)}:Table) else kT w_ x3 x4 x5 x20)
def kU(w_ x3:Int)(x4:Bool)(x5:Int)(x15:Table):Option Table:=
 (idx x15.aP w_).bind fun x23=>(fF x23.H).bind fun x24=>(if x24 then nO w_ x3 x4 x5 (decide ((x23.cE.length:Int) < 6)) x15 else nO w_ x3 x4 x5 false x15)
def vB(w_ x3:Int)(x4:Bool)(x5:Int)(x26:Table):Option Table:=
 kU w_ x3 x4 x5 x26
def vC(t:Table)(w_ x3:Int)(x4:Bool)(x5:Int):Option Table:=
 (BZ x3).bind fun x6=>(idx t.cH x6).bind fun x7=>(idx t.aP w_).bind fun x8=>(if x8.Pc == 9 then (if x7.Head == 0 then (mH ({x8 with Pc:=10,H:=x7.Head,fP:=0}:aG) (⟨x3,x4,x5⟩:aU)).bind fun x9=>some ({t with aP:=t.aP.set w_.toNat x9}:Table) else some ({t with aP:=t.aP.set w_.toNat ({x8 with Pc:=10,H:=x7.Head,fP:=0}:aG)}:Table)) else (if x8.Pc == 10 then (DJ t.aB.Mem x8.H).bind fun x10=>(if x10.1.Key == x3 then some ({t with aP:=t.aP.set w_.toNat ({x8 with Pc:=11,Node:=x10.1}:aG)}:Table) else (fJ x10.1).bind fun x11=>(if x11 == 0 then (mH ({x8 with Node:=x10.1}:aG) (⟨x3,x4,x5⟩:aU)).bind fun x12=>some ({t with aP:=t.aP.set w_.toNat x12}:Table) else (fJ x10.1).bind fun x14=>uZ t (t.aP.set w_.toNat ({x8 with H:=x14,fP:=x8.H,Node:=x10.1}:aG)))) else (if x8.Pc == 11 then (if x8.fP == 0 then (fJ x8.Node).bind fun x25=>kU w_ x3 x4 x5 ({t with cH:=t.cH.set x6.toNat ({x7 with Head:=x25}:bV)}:Table) else (fJ x8.Node).bind fun x27=>(IS t.aB.Mem x8.fP x27).bind fun x28=>vB w_ x3 x4 x5 ({t with aB:=(⟨x28.1,t.aB.aJ,t.aB.bO,t.aB.BW⟩:aB)}:Table)) else (EE t x8 (⟨x3,x4,x5⟩:aU) x7).bind fun x29=>some (⟨x29.1.aB,t.cH.set x6.toNat x29.2.2,t.aP.set w_.toNat x29.2.1,x29.1.gL,x29.1.Log,x29.1.aE⟩:Table))))
def vD(t:Table)(w_:Int)(x1:aG):Option Table:=
 (if decide ((x1.aL.length:Int)<=x1.K) then (idx t.aP w_).bind fun x2=>some ({t with aP:=t.aP.set w_.toNat ({x2 with Pc:=14}:aG)}:Table) else (idx t.aP w_).bind fun x30=>(idx x30.aL x30.K).bind fun x31=>vC t w_ x31.Key x31.HJ x31.eH)
def tT(t:Table)(w_:Int):Option Table:=
 (idx t.aP w_).bind fun x1=>vD t w_ x1
def mY(s:List Int)(i j:Int):Option (List Int):=
 need (0<=(i:Int)/\(i:Int)<=(j:Int)/\(j:Int)<=((s.length:Int):Int)/\((s.length:Int):Int)<=(s.length:Int)) ((if i == j then some s else need (0<=(i:Int)/\(i:Int)<=(s.length:Int)) (need (0<=(j:Int)/\(j:Int)<=(s.length:Int)) (need (i.toNat<=j.toNat) (need (0<=(((((cA s i.toNat (s.drop j.toNat)).take (i.toNat+(s.length - j.toNat))).drop 0).length:Int):Int)/\(((((cA s i.toNat (s.drop j.toNat)).take (i.toNat+(s.length - j.toNat))).drop 0).length:Int):Int)<=((s.length:Int):Int)/\((s.length:Int):Int)<=((cA s i.toNat (s.drop j.toNat)).length:Int)) (some (((cA s i.toNat (s.drop j.toNat)).take (i.toNat+(s.length - j.toNat))).drop 0)))))))
def oJ(x1:aG):Option aG:=
 some x1
def jW(j:aG):Option aG:=
 (if decide (j.K < (j.cE.length:Int)) then (idx j.cE j.K).bind fun x2=>(jU 2 x2).bind fun x3=>oJ ({j with Sub:=x3}:aG) else some j)
def jX(t:Table)(w_:Int)(x4:List bV):Option Table:=
 (idx t.aP w_).bind fun x5=>(mY x5.bR 0 1).bind fun x6=>some ({t with cH:=x4,aP:=t.aP.set w_.toNat ({x5 with bR:=x6}:aG)}:Table)
def rH(t:Table)(w_:Int):Option Table:=
 (idx t.aP w_).bind fun x1=>(if decide (0 < (x1.bR.length:Int)) then (idx x1.bR 0).bind fun x2=>(idx t.cH x2).bind fun x3=>(if x1.Pc == 14 then jX t w_ (t.cH.set x2.toNat (⟨x3.Head,if 1000000 < (aZ (x3.fX+1)) then 1000000 else (aZ (x3.fX+1)),0⟩:bV)) else jX t w_ (t.cH.set x2.toNat ({x3 with jB:=0}:bV))) else (if x1.Pc == 16 then some ({t with aP:=t.aP.set w_.toNat ({x1 with Pc:=17}:aG)}:Table) else (jW ({x1 with Pc:=15,K:=0}:aG)).bind fun x7=>some ({t with aP:=t.aP.set w_.toNat x7}:Table)))
def sG(t:Table)(w_:Int)(x1:aG):Option Table:=
 (if decide ((x1.cE.length:Int)<=x1.K) then (idx t.aP w_).bind fun x2=>some ({t with aP:=t.aP.set w_.toNat ({x2 with Pc:=18}:aG)}:Table) else (idx t.aP w_).bind fun x3=>(m8 x3.Sub t.aB w_).bind fun x4=>(if x4.1.dS then (jW ({x3 with K:=aZ (x3.K+1),Sub:=x4.1}:aG)).bind fun x5=>some ({t with aB:=x4.2,aP:=t.aP.set w_.toNat x5}:Table) else some ({t with aB:=x4.2,aP:=t.aP.set w_.toNat ({x3 with Sub:=x4.1}:aG)}:Table)))
def rI(t:Table)(w_:Int):Option Table:=
 (idx t.aP w_).bind fun x1=>sG t w_ x1
def wX(m:Mem)(w_ h:Int)(x1:Bool):Option (Mem×Int):=
 (if x1 then (pJ m).bind fun x2=>some (x2,1) else (yX m h).bind fun x3=>(if !x3 then (pJ m).bind fun x4=>some (x4,4) else (GM m w_ h).bind fun x5=>some (x5,0)))
def FO(m:Mem)(w_ h:Int):Option (Mem×Int):=
 (B3 m).bind fun x6=>(if !x6 then wX m w_ h true else (fE w_).bind fun x7=>wX m w_ h (!x7))
def wY(t:Table)(w_:Int):Option Table:=
 (idx t.aP w_).bind fun x1=>(if (x1.fQ.length:Int) == 0 then some ({t with aP:=t.aP.set w_.toNat ({x1 with Pc:=18}:aG)}:Table) else (idx x1.fQ 0).bind fun x2=>(mY x1.fQ 0 1).bind fun x3=>(z8 t.aB.bO (Int.tmod x2 32)).bind fun x4=>(if !x4 then (FO t.aB.Mem w_ x2).bind fun x5=>some ({t with aB:=(⟨x5.1,t.aB.aJ,t.aB.bO,t.aB.BW⟩:aB),aP:=t.aP.set w_.toNat ({x1 with fQ:=x3}:aG)}:Table) else some ({t with aP:=t.aP.set w_.toNat ({x1 with fQ:=x3}:aG)}:Table)))
def vR(w_:Int)(x1:aJ)(x2:Bool):Option (aJ×Bool):=
 (if x2 then some (x1,false) else (idx x1.cN w_).bind fun x3=>some ((⟨x1.aN,x1.cN.set w_.toNat (⟨false,0,false,0⟩:qT)⟩:aJ),true))
def MG(c:aJ)(w_:Int):Option (aJ×Bool):=
 (lO c).bind fun x1=>(pB c).bind fun x4=>(if !x4 then vR w_ x1 true else (fE w_).bind fun x5=>(if !x5 then vR w_ x1 true else (idx c.cN w_).bind fun x6=>vR w_ x1 (!x6.On)))
def wZ(b:aB)(w_:Int):Option (Bool×aB):=
 (MG b.aJ w_).bind fun x1=>some (x1.2,({b with aJ:=x1.1}:aB))
def BN(t:Table)(w_:Int)(x1:aG):Option Table:=
 some ({t with aP:=t.aP.set w_.toNat (⟨false,(⟨false,[]⟩:Batch),0,0,0,0,0,0,0,0,(⟨0,0,0⟩:bN),false,0,(⟨0,0,0,0,0,0,0,0,0,false⟩:Sub),[],[],[],[],[],[]⟩:aG),Log:=t.Log++([({x1 with Kind:=3,Who:=w_,bK:=[]}:jS)])}:Table)
def BO(t:Table)(w_:Int)(x1:aG):Option Table:=
 some ({t with aP:=t.aP.set w_.toNat (⟨false,(⟨false,[]⟩:Batch),0,0,0,0,0,0,0,0,(⟨0,0,0⟩:bN),false,0,(⟨0,0,0,0,0,0,0,0,0,false⟩:Sub),[],[],[],[],[],[]⟩:aG),Log:=t.Log++([(⟨3,w_,x1.aE,x1.Code,[],[]⟩:jS)])}:Table)
def pK(t:Table)(w_:Int):Option Table:=
 (idx t.aP w_).bind fun x1=>(if x1.Code == 0 then need (t.Log.length+([({x1 with Kind:=3,Who:=w_,bK:=[]}:jS)]).length<=1073741824)<|BN t w_ x1 else need (t.Log.length+([(⟨3,w_,x1.aE,x1.Code,[],[]⟩:jS)]).length<=1073741824)<|BO t w_ x1)
def jE(t:Table)(w_:Int)(x1:aG)(x14:Bool):Option Table:=
 (if x14 then (rH t w_).bind fun x15=>some x15 else (if x1.Pc == 15 then (rI t w_).bind fun x16=>some x16 else (if x1.Pc == 17 then (wY t w_).bind fun x17=>some x17 else (if x1.Pc == 18 then (wZ t.aB w_).bind fun x18=>(idx t.aP w_).bind fun x19=>some ({t with aB:=x18.2,aP:=t.aP.set w_.toNat ({x19 with Pc:=19}:aG)}:Table) else (if x1.Pc == 19 then (pK t w_).bind fun x20=>some x20 else (idx t.aP w_).bind fun x21=>(bZ x21 1).bind fun x22=>some ({t with aP:=t.aP.set w_.toNat x22}:Table))))))
def gY(t:Table)(w_:Int)(x1:aG)(x3:Bool):Option Table:=
 (if x3 then (pC t w_).bind fun x4=>some x4 else (if x1.Pc == 1 then (idx t.aP w_).bind fun x5=>(AK x5).bind fun x6=>some ({t with aP:=t.aP.set w_.toNat x6}:Table) else (bQ x1.Pc 2 5).bind fun x7=>(if x7 then (wS t w_).bind fun x8=>some x8 else (if x1.Pc == 6 then (tR t w_).bind fun x9=>some x9 else (if x1.Pc == 7 then (wV t w_).bind fun x10=>some x10 else (if x1.Pc == 8 then (nN t w_).bind fun x11=>some x11 else (bQ x1.Pc 9 13).bind fun x12=>(if x12 then (tT t w_).bind fun x13=>some x13 else (if x1.Pc == 14 then jE t w_ x1 true else jE t w_ x1 (x1.Pc == 16)))))))))
def xA(t:Table)(w_:Int):Option Table:=
 (idx t.aP w_).bind fun x1=>(if !x1.eA then (tJ t w_).bind fun x2=>some x2 else (if x1.Pc == 0 then gY t w_ x1 true else (if x1.Pc == 20 then gY t w_ x1 true else gY t w_ x1 (x1.Pc == 21))))
def TU(x6:Table):Option Table:=
 some x6
def rJ(x4:Int)(x7:Table):Option (Step (Int×Table) Table):=
 some (.next (aZ (x4+1),x7))
def mZ(x:tI):(Int×Table)->Option (Step (Int×Table) Table)
 | (x4,x5)=>(if decide (x4 < (((x.iI.take ((if 400 < (x.iI.length:Int) then 400 else (x.iI.length:Int)).toNat)).drop 0).length:Int)) then (idx ((x.iI.take ((if 400 < (x.iI.length:Int) then 400 else (x.iI.length:Int)).toNat)).drop 0) x4).bind fun x8=>(fE x8).bind fun x9=>(if x9 then (xA x5 x8).bind fun x10=>rJ x4 x10 else rJ x4 x5) else some (.stop (x5)))
def TW:Table->Option Table
 | x6=>TU x6
def AS(x:tI):Option Table:=
 (CJ x.gL).bind fun x1=>(if (x1.aP.length:Int) == 0 then some x1 else need (0<=(if 400 < (x.iI.length:Int) then 400 else (x.iI.length:Int):Int)/\(if 400 < (x.iI.length:Int) then 400 else (x.iI.length:Int):Int)<=(x.iI.length:Int)) ((loop (mZ x) (0,x1)).bind (TW)))
def aAH(x5:Int):Option Int:=
 some x5
def sH(b:List Int)(at_ width:Int):(Int×Int)->Option (Step (Int×Int) Int)
 | (x3,x4)=>(if decide (x4 < width) then (idx b (aZ (at_+x4))).bind fun x6=>some (.next (aZ ((aZ (x3 * 256))+x6),aZ (x4+1))) else some (.stop (x3)))
def aAI:Int->Option Int
 | x5=>aAH x5
def PB(b:List Int)(at_ width:Int):Option Int:=
 (loop (sH b at_ width) (0,0)).bind (aAI)
def IU(c:Int):Option Int:=
 (if c == 0 then some 8 else (if c == 1 then some 16 else (if c == 2 then some 40 else some 0)))
def CT(c:Int):Option Int:=
 (cG c 0 2).bind fun x1=>(if !x1 then some 0 else (IU c).bind fun x2=>some (aZ (4+x2)))
def tU(c:Int):Option Int:=
 (cG c 0 2).bind fun x1=>(if !x1 then some 0 else (CT c).bind fun x2=>need (x2≠0) (some (aZ (Int.tdiv 56 x2))))
def DL(slot:Int):Option Int:=
 (cG slot 0 23).bind fun x1=>(if !x1 then some (-1) else some (aZ (Int.tdiv slot 4)))
def AT(slot:Int):Option Int:=
 (cG slot 0 23).bind fun x1=>(if !x1 then some (-1) else some (Int.tmod slot 4))
def JT(slot c:Int)(x1:Bool):Option Int:=
 (if x1 then some (-1) else (DL slot).bind fun x2=>(AT slot).bind fun x3=>(CT c).bind fun x4=>some (aZ ((aZ ((aZ (x2 * 64))+8))+(aZ (x3 * x4)))))
def B4(slot c:Int):Option Int:=
 (DL slot).bind fun x5=>(if decide (x5 < 0) then JT slot c true else (AT slot).bind fun x6=>(tU c).bind fun x7=>(cG x6 0 (aZ (x7 - 1))).bind fun x8=>JT slot c (!x8))
def GP(page index:Int)(x1:Bool):Option Int:=
 (if x1 then some (-1) else some (aZ ((aZ (page * 4))+index)))
def IV(page index:Int):Option Int:=
 (cG page 0 5).bind fun x2=>(if !x2 then GP page index true else (cG index 0 3).bind fun x3=>GP page index (!x3))
def aCR:Option Bool:=
 some false
def qO(l:List Int)(x:Int):Int->Option (Step Int (Out Unit Bool))
 | x2=>(if decide (x2 < (l.length:Int)) then (idx l x2).bind fun x3=>(if x3 == x then some (.stop (Out.ret true)) else some (.next (aZ (x2+1)))) else some (.stop (Out.brk ())))
def aCS:(Out Unit Bool)->Option Bool
 | .brk ()=>aCR
 | .ret r=>some r
def GQ(l:List Int)(x:Int):Option Bool:=
 (loop (qO l x) 0).bind (aCS)
def aCT(x10:List Int):Option (List Int):=
 some x10
def vS(l:aA):((List Int)×Int)->Option (Step ((List Int)×Int) (List Int))
 | (x8,x9)=>(if decide (x9 < (l.Own.length:Int)) then (idx l.Own x9).bind fun x11=>need (x8.length+x11.aQ.length<=1073741824) (some (.next (x8++x11.aQ,aZ (x9+1)))) else some (.stop (x8)))
def aCU:(List Int)->Option (List Int)
 | x10=>aCT x10
def RI(l:aA)(x5:List Int):Option (List Int):=
 (loop (vS l) (x5,0)).bind (aCU)
def vT(l:aA):((List Int)×Int)->Option (Step ((List Int)×Int) (List Int))
 | (x3,x4)=>(if decide (x4 < (l.Global.length:Int)) then (idx l.Global x4).bind fun x12=>need (x3.length+x12.aQ.length<=1073741824) (some (.next (x3++x12.aQ,aZ (x4+1)))) else some (.stop (x3)))
def RJ(l:aA):(List Int)->Option (List Int)
 | x5=>RI l x5
def SB(l:aA):Option (List Int):=
 (loop (vT l) (([]:List Int),0)).bind (RJ l)
def xB(h:Heap)(x1:Int)(x2:Bool):Option Int:=
 (if x2 then some (-1) else (idx h.Class x1).bind fun x3=>some x3)
def AU(h:Heap)(slot:Int):Option Int:=
 (DL slot).bind fun x1=>(if decide (x1 < 0) then xB h x1 true else (idx h.Class x1).bind fun x4=>(if decide (x4 < 0) then xB h x1 true else (idx h.Class x1).bind fun x5=>(AT slot).bind fun x6=>(tU x5).bind fun x7=>xB h x1 (decide (x7<=x6))))
def B5(h:Heap)(slot:Int):Option Int:=
 (AU h slot).bind fun x1=>(B4 slot x1).bind fun x2=>(PB h.Bytes x2 4).bind fun x3=>some x3
def JU(w_ c:Int)(x1:Bool):Option Int:=
 (if x1 then some (-1) else some (aZ ((aZ (w_ * 3))+c)))
def MH(w_ c:Int):Option Int:=
 (cG w_ 0 2).bind fun x2=>(if !x2 then JU w_ c true else (cG c 0 2).bind fun x3=>JU w_ c (!x3))
def NW:Option Bool:=
 some true
def mI(x3:Int)(x5:Bool):Option (Step Int (Out Unit Bool)):=
 (if x5 then some (.stop (Out.ret false)) else some (.next (aZ (x3+1))))
def qA(c:aJ):Int->Option (Step Int (Out Unit Bool))
 | x3=>(if decide (x3 < 3) then (idx c.cN x3).bind fun x4=>(if !x4.On then (if !(decide (x4=(⟨false,0,false,0⟩:qT))) then mI x3 true else (cG x4.aN 0 c.aN).bind fun x6=>(if !x6 then mI x3 true else (cG x4.Seen 0 2).bind fun x7=>mI x3 (!x7))) else (cG x4.aN 0 c.aN).bind fun x8=>(if !x8 then mI x3 true else (cG x4.Seen 0 2).bind fun x9=>mI x3 (!x9))) else some (.stop (Out.brk ())))
def EF:(Out Unit Bool)->Option Bool
 | .brk ()=>NW
 | .ret r=>some r
def qB(c:aJ)(x1:Bool):Option Bool:=
 (if x1 then some false else (loop (qA c) 0).bind (EF))
def tV(c:aJ):Option Bool:=
 (cG c.aN 0 100000).bind fun x10=>(if !x10 then qB c true else qB c ((c.cN.length:Int) != 3))
def aAJ(x5:List dI):Option (List dI):=
 some x5
def sI(l:List a8):((List dI)×Int)->Option (Step ((List dI)×Int) (List dI))
 | (x3,x4)=>(if decide (x4 < (l.length:Int)) then (idx l x4).bind fun x6=>need (x3.length+x6.Rows.length<=1073741824) (some (.next (x3++x6.Rows,aZ (x4+1)))) else some (.stop (x3)))
def aAK:(List dI)->Option (List dI)
 | x5=>aAJ x5
def PC(l:List a8):Option (List dI):=
 (loop (sI l) (([]:List dI),0)).bind (aAK)
def B6(x1:Bool):Option Bool:=
 some x1
def qP(h:Int):Option Bool:=
 (cG h 32 223).bind fun x2=>(if x2 then B6 (decide ((Int.tmod h 32) < 24)) else B6 false)
def kK(h:Int):Option Int:=
 (qP h).bind fun x1=>(if !x1 then some (-1) else some (Int.tmod h 32))
def PD(l:aA)(slot:Int):Option Bool:=
 (SB l).bind fun x1=>(GQ x1 slot).bind fun x2=>some x2
def MI(m:Mem)(slot:Int):Option Int:=
 (AU m.Heap slot).bind fun x1=>(if decide (x1 < 0) then some 0 else (PD m.aA slot).bind fun x2=>(if x2 then some 1 else (B5 m.Heap slot).bind fun x3=>(if decide (6 < x3) then some 2 else some 3)))
def GR(h:Int):Option Int:=
 (qP h).bind fun x1=>(if !x1 then some 0 else some (aZ (Int.tdiv h 32)))
def xC(x1:Bool):Option Bool:=
 some x1
def MJ(m:Mem)(h:Int):Option Bool:=
 (qP h).bind fun x2=>(if x2 then (kK h).bind fun x3=>(MI m x3).bind fun x4=>(if x4 == 3 then (kK h).bind fun x5=>(B5 m.Heap x5).bind fun x6=>(GR h).bind fun x7=>xC (x6 == x7) else xC false) else xC false)
def K9:Option Int:=
 some (-1)
def yZ(s:List jS)(f:(jS->Option Bool)):Int->Option (Step Int (Out Unit Int))
 | x2=>(if decide (x2 < (s.length:Int)) then (idx s x2).bind fun x3=>(f x3).bind fun x4=>(if x4 then some (.stop (Out.ret x2)) else some (.next (aZ (x2+1)))) else some (.stop (Out.brk ())))
def LA:(Out Unit Int)->Option Int
 | .brk ()=>K9
 | .ret r=>some r
def sJ(s:List jS)(f:(jS->Option Bool)):Option Int:=
 (loop (yZ s f) 0).bind (LA)
def rK(x1:Bool):Option Bool:=
 some x1
def GS(e_:jS)(k0 k1:Int):Option Bool:=
 (if e_.Kind == k0 then rK (e_.aE == k1) else rK false)
def tW(l:List jS)(kind serial:Int):Option Int:=
 (sJ l (fun y0=>GS y0 kind serial)).bind fun x1=>some x1
def aCV(x5:List Int):Option (List Int):=
 some x5
def vU(x4:Int)(x6:List Int):Option (Step ((List Int)×Int) (List Int)):=
 some (.next (x6,aZ (x4+1)))
def CU(x3:List Int)(x4:Int)(x7:jS)(x10:Bool):Option (Step ((List Int)×Int) (List Int)):=
 (if x10 then need (x3.length+([x7.aE]).length<=1073741824) (vU x4 (x3++([x7.aE]))) else vU x4 x3)
def CV(l:List jS)(x3:List Int)(x4:Int)(x7:jS)(x8:Bool):Option (Step ((List Int)×Int) (List Int)):=
 (if x8 then vU x4 x3 else (tW l 3 x7.aE).bind fun x9=>(if decide (0<=x9) then (idx l x9).bind fun x11=>CU x3 x4 x7 (x11.Code == 0) else CU x3 x4 x7 false))
def vV(l:List jS):((List Int)×Int)->Option (Step ((List Int)×Int) (List Int))
 | (x3,x4)=>(if decide (x4 < (l.length:Int)) then (idx l x4).bind fun x7=>(if x7.Kind != 2 then CV l x3 x4 x7 true else (iN x3 x7.aE).bind fun x12=>CV l x3 x4 x7 x12) else some (.stop (x3)))
def aCW:(List Int)->Option (List Int)
 | x5=>aCV x5
def B7(l:List jS):Option (List Int):=
 (loop (vV l) (([]:List Int),0)).bind (aCW)
def XE:Option Int:=
 some (-1)
def xD(x2:Int)(x3:Bool):Option (Step Int (Out Unit Int)):=
 (if x3 then some (.stop (Out.ret x2)) else some (.next (aZ (x2+1))))
def NX(l:List jS)(kind serial:Int):Int->Option (Step Int (Out Unit Int))
 | x2=>(if decide (x2 < (l.length:Int)) then (idx l x2).bind fun x4=>(if x4.Kind == kind then (idx l x2).bind fun x5=>xD x2 (x5.aE == serial) else xD x2 false) else some (.stop (Out.brk ())))
def XF:(Out Unit Int)->Option Int
 | .brk ()=>XE
 | .ret r=>some r
def tX(l:List jS)(kind serial:Int):Option Int:=
 (loop (NX l kind serial) 0).bind (XF)
def sK(x3:Bool):Option Bool:=
 some x3
def IW(l:List jS)(a_ b:Int):Option Bool:=
 (tX l 3 a_).bind fun x1=>(tX l 1 b).bind fun x2=>(if decide (0<=x1) then (if decide (0<=x2) then sK (decide (x1 < x2)) else sK false) else sK false)
def sL(x3:Bool):Option Bool:=
 some x3
def DM(l:List jS)(a_ b:Int):Option Bool:=
 (tW l 3 a_).bind fun x1=>(tW l 1 b).bind fun x2=>(if decide (0<=x1) then (if decide (0<=x2) then sL (decide (x1 < x2)) else sL false) else sL false)
def CX(earlier:Int)(k0:List jS)(k1:Int):Option Bool:=
 (DM k0 k1 earlier).bind fun x1=>some x1
def aAL:Option Bool:=
 some true
def sM(l:List jS)(x1:(List Int)):Int->Option (Step Int (Out Unit Bool))
 | x3=>(if decide (x3 < (x1.length:Int)) then (idx x1 x3).bind fun x4=>need (0<=(x3:Int)/\(x3:Int)<=(x1.length:Int)) ((dA ((x1.take x3.toNat).drop 0) (fun y0=>CX y0 l x4)).bind fun x5=>(if x5 then some (.stop (Out.ret false)) else some (.next (aZ (x3+1))))) else some (.stop (Out.brk ())))
def aAM:(Out Unit Bool)->Option Bool
 | .brk ()=>aAL
 | .ret r=>some r
def IX(l:List jS):Option Bool:=
 (B7 l).bind fun x1=>(loop (sM l x1) 0).bind (aAM)
def VJ:Option Bool:=
 some true
def oK(a_ b:List Int):Int->Option (Step Int (Out Unit Bool))
 | x2=>(if decide (x2 < (a_.length:Int)) then (idx a_ x2).bind fun x3=>(idx b x2).bind fun x4=>(if x3 != x4 then some (.stop (Out.ret false)) else some (.next (aZ (x2+1)))) else some (.stop (Out.brk ())))
def VK:(Out Unit Bool)->Option Bool
 | .brk ()=>VJ
 | .ret r=>some r
def CY(a_ b:List Int):Option Bool:=
 (if (a_.length:Int) != (b.length:Int) then some false else (loop (oK a_ b) 0).bind (VK))
def aCX(x5:List Int):Option (List Int):=
 some x5
def vW(x4:Int)(x6:List Int):Option (Step ((List Int)×Int) (List Int)):=
 some (.next (x6,aZ (x4+1)))
def CZ(l:List jS)(x3:List Int)(x4:Int)(x10:Bool):Option (Step ((List Int)×Int) (List Int)):=
 (if x10 then (idx l x4).bind fun x11=>need (x3.length+([x11.aE]).length<=1073741824) (vW x4 (x3++([x11.aE]))) else vW x4 x3)
def C0(l:List jS)(x3:List Int)(x4:Int)(x7:Bool):Option (Step ((List Int)×Int) (List Int)):=
 (if x7 then vW x4 x3 else (idx l x4).bind fun x8=>(tX l 3 x8.aE).bind fun x9=>(if decide (0<=x9) then (idx l x9).bind fun x12=>CZ l x3 x4 (x12.Code == 0) else CZ l x3 x4 false))
def vX(l:List jS):((List Int)×Int)->Option (Step ((List Int)×Int) (List Int))
 | (x3,x4)=>(if decide (x4 < (l.length:Int)) then (idx l x4).bind fun x13=>(if x13.Kind != 2 then C0 l x3 x4 true else (idx l x4).bind fun x14=>(GQ x3 x14.aE).bind fun x15=>C0 l x3 x4 x15) else some (.stop (x3)))
def aCY:(List Int)->Option (List Int)
 | x5=>aCX x5
def MK(l:List jS):Option (List Int):=
 (loop (vX l) (([]:List Int),0)).bind (aCY)
def oL(x11:Bool):Option Bool:=
 some x11
def LB(x5:(List Int))(x10:Table):Option Bool:=
 (IX x10.Log).bind fun x12=>(if x12 then (MK x10.Log).bind fun x13=>(CY x5 x13).bind fun x14=>(if x14 then oL ((x10.aP.length:Int) == 3) else oL false) else oL false)
def LC(x8:Int)(x19:Table):Option (Step (Int×Table) (Out Table Bool)):=
 some (.next (aZ (x8+1),x19))
def oN(x17:Int)(x20:Bool)(x21:Table):Option (Step (Int×Table) (Out Table Bool)):=
 (if x20 then some (.stop (Out.ret false)) else some (.next (aZ (x17+1),x21)))
def oO(x5:(List Int))(x8:Int):(Int×Table)->Option (Step (Int×Table) (Out Table Bool))
 | (x17,x18)=>(if decide (x17 < x8) then (idx x5 x8).bind fun x22=>(idx x5 x17).bind fun x23=>(if x22 == x23 then oN x17 true x18 else (IW x18.Log x22 x23).bind fun x24=>(if x24 then oN x17 true x18 else (DM x18.Log x22 x23).bind fun x25=>oN x17 x25 x18)) else some (.stop (Out.brk x18)))
def LD(x8:Int):(Out Table Bool)->Option (Step (Int×Table) (Out Table Bool))
 | .brk x19=>LC x8 x19
 | .ret r=>some (.stop (Out.ret r))
def lI(x5:(List Int)):(Int×Table)->Option (Step (Int×Table) (Out Table Bool))
 | (x8,x9)=>(if decide (x8 < (x5.length:Int)) then (loop (oO x5 x8) (0,x9)).bind (LD x8) else some (.stop (Out.brk x9)))
def B8(x5:(List Int)):(Out Table Bool)->Option Bool
 | .brk x10=>LB x5 x10
 | .ret r=>some r
def JV(code:List UInt8):Option Bool:=
 (aAC code).bind fun x1=>(if x1 then some true else (o5 code).bind fun x2=>(IH x2).bind fun x3=>(if !x3 then some true else (AS x2).bind fun x4=>(B7 x4.Log).bind fun x5=>(loop (lI x5) (0,x4)).bind (B8 x5)))
def XG:Option Bool:=
 some false
def xE(x3:Int)(x4:Bool):Option (Step Int (Out Unit Bool)):=
 (if x4 then some (.stop (Out.ret true)) else some (.next (aZ (x3+1))))
def mJ(slot:Int)(x1:(List dI)):Int->Option (Step Int (Out Unit Bool))
 | x3=>(if decide (x3 < (x1.length:Int)) then (idx x1 x3).bind fun x5=>(qP x5.Handle).bind fun x6=>(if x6 then (kK x5.Handle).bind fun x7=>xE x3 (x7 == slot) else xE x3 false) else some (.stop (Out.brk ())))
def XH:(Out Unit Bool)->Option Bool
 | .brk ()=>XG
 | .ret r=>some r
def ML(l:List a8)(slot:Int):Option Bool:=
 (PC l).bind fun x1=>(loop (mJ slot x1) 0).bind (XH)
def XI:Option Int:=
 some (-1)
def eP(size:Int):Int->Option (Step Int (Out Unit Int))
 | x2=>(if decide (x2 < 3) then (IU x2).bind fun x3=>(cG size 1 x3).bind fun x4=>(if x4 then some (.stop (Out.ret x2)) else some (.next (aZ (x2+1)))) else some (.stop (Out.brk ())))
def XJ:(Out Unit Int)->Option Int
 | .brk ()=>XI
 | .ret r=>some r
def AV(size:Int):Option Int:=
 (loop (eP size) 0).bind (XJ)
def TX(slot c:Int):Option Int:=
 (B4 slot c).bind fun x1=>(if decide (x1 < 0) then some (-1) else some (aZ (x1+4)))
def JW(s:aO)(x1:Int):Option (aO×Int):=
 some ((⟨(s.aQ.take ((aZ ((s.aQ.length:Int) - 1)).toNat)).drop 0⟩:aO),x1)
def pL(s:aO):Option (aO×Int):=
 (if (s.aQ.length:Int) == 0 then some (s,(-1)) else need (0<=(aZ ((s.aQ.length:Int) - 1):Int)/\(aZ ((s.aQ.length:Int) - 1):Int)<=(s.aQ.length:Int)) ((idx s.aQ (aZ ((s.aQ.length:Int) - 1))).bind fun x2=>JW s x2))
def XL(x7:List Int):Option (List Int):=
 some x7
def xF(at_:Int):((List Int)×Int×Int)->Option (Step ((List Int)×Int×Int) (List Int))
 | (x4,x5,x6)=>(if decide (0<=x6) then (idx x4 (aZ (at_+x6))).bind fun x8=>some (.next (x4.set ((aZ (at_+x6)).toNat) (Int.tmod x5 256),aZ (Int.tdiv x5 256),aZ (x6 - 1))) else some (.stop (x4)))
def XM:(List Int)->Option (List Int)
 | x7=>XL x7
def AW(b:List Int)(at_ width n:Int):Option (List Int):=
 (loop (xF at_) (b,n,aZ (width - 1))).bind (XM)
def XN(h:Heap):Option (Heap×(List Int)):=
 some (h,([]:List Int))
def EG(x2:Int):Option (Step Int (Out Unit (Heap×(List Int)))):=
 some (.next (aZ (x2+1)))
def XO(h:Heap)(c x2:Int)(x14 x15:List Int):Option (Step Int (Out Unit (Heap×(List Int)))):=
 some (.stop (Out.ret ((⟨x15,h.Class.set x2.toNat c⟩:Heap),x14)))
def NY(x2:Int)(x11:List Int)(x12:Int)(x17:List Int):Option (Step ((List Int)×Int×(List Int)) ((List Int)×(List Int))):=
 (IV x2 x12).bind fun x18=>need (x11.length+([x18]).length<=1073741824) (some (.next (x11++([x18]),aZ (x12+1),x17)))
def xG(c x2:Int):((List Int)×Int×(List Int))->Option (Step ((List Int)×Int×(List Int)) ((List Int)×(List Int)))
 | (x11,x12,x13)=>(tU c).bind fun x16=>(if decide (x12 < x16) then (IV x2 x12).bind fun x19=>(B4 x19 c).bind fun x20=>(AW x13 x20 4 1).bind fun x21=>NY x2 x11 x12 x21 else some (.stop ((x11,x13))))
def XP(h:Heap)(c x2:Int):((List Int)×(List Int))->Option (Step Int (Out Unit (Heap×(List Int))))
 | (x14,x15)=>XO h c x2 x14 x15
def dW(h:Heap)(c:Int):Int->Option (Step Int (Out Unit (Heap×(List Int))))
 | x2=>(if decide (x2 < 6) then (idx h.Class x2).bind fun x3=>(if x3 != (-1) then EG x2 else (idx h.Bytes (aZ (x2 * 64))).bind fun x4=>(idx (h.Bytes.set ((aZ (x2 * 64)).toNat) 171) (aZ ((aZ (x2 * 64))+1))).bind fun x5=>(tU c).bind fun x6=>(idx ((h.Bytes.set ((aZ (x2 * 64)).toNat) 171).set ((aZ ((aZ (x2 * 64))+1)).toNat) c) (aZ ((aZ (x2 * 64))+2))).bind fun x7=>(loop (xG c x2) (([]:List Int),0,((h.Bytes.set ((aZ (x2 * 64)).toNat) 171).set ((aZ ((aZ (x2 * 64))+1)).toNat) c).set ((aZ ((aZ (x2 * 64))+2)).toNat) x6)).bind (XP h c x2)) else some (.stop (Out.brk ())))
def XQ(h:Heap):(Out Unit (Heap×(List Int)))->Option (Heap×(List Int))
 | .brk ()=>XN h
 | .ret r=>some r
def pM(h:Heap)(c:Int):Option (Heap×(List Int)):=
 (loop (dW h c) 0).bind (XQ h)
def EH(m:Mem)(c:Int)(x1:Heap×(List Int))(x2:aO)(x3:Int):Option (Mem×Int):=
 some ((⟨x1.1,(⟨m.aA.Global.set c.toNat (⟨x2.aQ++((x1.2.take x1.2.length).drop ((1:Int).toNat))⟩:aO),m.aA.Own⟩:aA)⟩:Mem),x3)
def AX(m:Mem)(c:Int):Option (Mem×Int):=
 (pM m.Heap c).bind fun x1=>(if (x1.2.length:Int) == 0 then some ((⟨x1.1,m.aA⟩:Mem),(-1)) else (idx m.aA.Global c).bind fun x2=>need (0<=(1:Int)/\(1:Int)<=(x1.2.length:Int)) (need (x2.aQ.length+((x1.2.take x1.2.length).drop ((1:Int).toNat)).length<=1073741824) ((idx x1.2 0).bind fun x4=>EH m c x1 x2 x4)))
def tY(slot gen:Int)(x1:Bool):Option Int:=
 (if x1 then some 0 else some (aZ ((aZ (gen * 32))+slot)))
def JX(slot gen:Int):Option Int:=
 (cG slot 0 23).bind fun x2=>(if !x2 then tY slot gen true else (cG gen 1 6).bind fun x3=>tY slot gen (!x3))
def vY(m:Mem)(slot:Int):Option Int:=
 (B5 m.Heap slot).bind fun x1=>(JX slot x1).bind fun x2=>some x2
def GU(x2 x3:List aO):Option aA:=
 some (⟨x2,x3⟩:aA)
def PE(x:aA)(slot x1:Int)(x4:aO):Option aA:=
 GU x.Global (x.Own.set x1.toNat (⟨x4.aQ++([slot])⟩:aO))
def PF(x:aA)(x5:List aO):Option aA:=
 GU x5 x.Own
def PG(x:aA)(w_ c slot:Int):Option aA:=
 (MH w_ c).bind fun x1=>(idx x.Own x1).bind fun x4=>(if decide ((x4.aQ.length:Int) < 2) then need (x4.aQ.length+([slot]).length<=1073741824)<|PE x slot x1 x4 else (idx x.Global c).bind fun x6=>need (x6.aQ.length+([slot]).length<=1073741824)<|PF x (x.Global.set c.toNat (⟨x6.aQ++([slot])⟩:aO)))
def GV(x:Mem)(x3:List Int)(x4 x5:List aO):Option Mem:=
 some (⟨(⟨x3,x.Heap.Class⟩:Heap),(⟨x4,x5⟩:aA)⟩:Mem)
def GW(x:Mem)(w_ slot x1 x2:Int)(x3:List Int):Option Mem:=
 (if decide ((aZ (x2+1))<=6) then (PG x.aA w_ x1 slot).bind fun x6=>GV x x3 x6.Global x6.Own else GV x x3 x.aA.Global x.aA.Own)
def DN(x:Mem)(w_ slot:Int):Option Mem:=
 (AU x.Heap slot).bind fun x1=>(B5 x.Heap slot).bind fun x2=>(B4 slot x1).bind fun x7=>(AW x.Heap.Bytes x7 4 (aZ (x2+1))).bind fun x8=>GW x w_ slot x1 x2 x8
def tZ(c:aJ):Option aJ:=
 need (([]:List qT).length+c.cN.length<=1073741824) (some (⟨c.aN,([]:List qT)++c.cN⟩:aJ))
def bB(s:Sub)(code:Int):Option Sub:=
 some ({s with Code:=code,dS:=true}:Sub)
def MM(b:aB)(s:Sub)(slot pc:Int):Option Sub:=
 (if decide (0<=slot) then (vY b.Mem slot).bind fun x1=>(bB ({s with Out:=x1}:Sub) 0).bind fun x2=>some x2 else some ({s with Pc:=pc}:Sub))
def uA(s:Sub)(x3:Int)(x5:Bool)(x6:aB):Option (aB×Sub):=
 (if x5 then (bB s 3).bind fun x7=>some (x6,x7) else (MM x6 s x3 (aZ (s.Pc+1))).bind fun x8=>some (x6,x8))
def hU(s:Sub)(x3:Int)(x4:aB):Option (aB×Sub):=
 (if decide (x3 < 0) then uA s x3 (s.Pc == 3) x4 else uA s x3 false x4)
def uB(b:aB)(s:Sub)(x1:Int)(x12:Bool):Option (aB×Sub):=
 (if x12 then (idx b.Mem.aA.Global x1).bind fun x13=>(pL x13).bind fun x14=>hU s x14.2 ({b with Mem:=(⟨b.Mem.Heap,(⟨b.Mem.aA.Global.set x1.toNat x14.1,b.Mem.aA.Own⟩:aA)⟩:Mem)}:aB) else (if s.Pc == 2 then (AX b.Mem x1).bind fun x15=>hU s x15.2 ({b with Mem:=x15.1}:aB) else (bB s 1).bind fun x16=>some (b,x16)))
def vZ(b:aB)(w_:Int)(s:Sub):Option (aB×Sub):=
 (AV s.A).bind fun x1=>(if decide (x1 < 0) then (bB s 2).bind fun x2=>some (b,x2) else (if s.Pc == 0 then (MH w_ x1).bind fun x9=>(idx b.Mem.aA.Own x9).bind fun x10=>(pL x10).bind fun x11=>hU s x11.2 ({b with Mem:=(⟨b.Mem.Heap,(⟨b.Mem.aA.Global,b.Mem.aA.Own.set x9.toNat x11.1⟩:aA)⟩:Mem)}:aB) else (if s.Pc == 1 then uB b s x1 true else uB b s x1 (s.Pc == 3))))
def AY(b:aB)(s:Sub)(x5:List a8):Option (aB×Sub):=
 (bB s 0).bind fun x6=>some (({b with bO:=x5}:aB),x6)
def rL(b:aB)(w_:Int)(s:Sub)(x3:Bool):Option (aB×Sub):=
 (if x3 then (bB s 4).bind fun x4=>some (b,x4) else (idx b.bO w_).bind fun x7=>need (x7.Rows.length+([(⟨s.A,s.E⟩:dI)]).length<=1073741824)<|AY b s (b.bO.set w_.toNat (⟨x7.Rows++([(⟨s.A,s.E⟩:dI)])⟩:a8)))
def sN(b:aB)(w_:Int)(s:Sub):Option (aB×Sub):=
 (if s.Pc == 0 then some (b,({s with Pc:=1,E:=b.aJ.aN}:Sub)) else (if s.Pc == 1 then (cG s.E 0 b.aJ.aN).bind fun x1=>(if !x1 then (bB s 1).bind fun x2=>some (b,x2) else (MJ b.Mem s.A).bind fun x8=>(if !x8 then rL b w_ s true else (kK s.A).bind fun x9=>(ML b.bO x9).bind fun x10=>rL b w_ s x10)) else (bB s 1).bind fun x11=>some (b,x11)))
def oP(w_:Int)(x1:aJ)(x3:qT)(x4:Bool):Option (aJ×Bool):=
 (if x4 then some (x1,true) else (if x3.Seen == 2 then (idx x1.cN w_).bind fun x5=>some ((⟨x1.aN,x1.cN.set w_.toNat ({x5 with gG:=true,Seen:=0}:qT)⟩:aJ),true) else (idx x1.cN w_).bind fun x6=>some ((⟨x1.aN,x1.cN.set w_.toNat ({x6 with Seen:=aZ (x3.Seen+1)}:qT)⟩:aJ),false)))
def AZ(c:aJ)(w_ e_:Int)(x1:aJ)(x2:Bool):Option (aJ×Bool):=
 (if x2 then some (x1,false) else (idx c.cN w_).bind fun x3=>(if !x3.On then oP w_ x1 x3 true else (if x3.gG then oP w_ x1 x3 true else oP w_ x1 x3 (x3.aN == e_))))
def DO(c:aJ)(w_ e_:Int):Option (aJ×Bool):=
 (tZ c).bind fun x1=>(tV c).bind fun x7=>(if !x7 then AZ c w_ e_ x1 true else (cG w_ 0 2).bind fun x8=>AZ c w_ e_ x1 (!x8))
def A0(e_:Int)(x1:aJ)(x2:Bool):Option (aJ×Bool):=
 (if x2 then some (x1,false) else some ((⟨aZ (e_+1),x1.cN⟩:aJ),true))
def LF(c:aJ)(e_:Int):Option (aJ×Bool):=
 (tZ c).bind fun x1=>(tV c).bind fun x3=>(if !x3 then A0 e_ x1 true else (if c.aN != e_ then A0 e_ x1 true else A0 e_ x1 (e_ == 100000)))
def pN(b:aB)(s:Sub)(x3:aJ×Bool)(x5:Int):Option (aB×Sub):=
 some (({b with aJ:=x3.1}:aB),({s with Pc:=x5,B:=aZ (s.B+1)}:Sub))
def pO(b:aB)(s:Sub)(x6:aJ×Bool)(x7:Int):Option (aB×Sub):=
 (bB ({s with Out:=x7}:Sub) 0).bind fun x8=>some (({b with aJ:=x6.1}:aB),x8)
def qC(b:aB)(s:Sub):Option (aB×Sub):=
 (if s.Pc == 0 then some (b,({s with Pc:=1,E:=b.aJ.aN,B:=0}:Sub)) else (if s.Pc == 1 then (cG s.B 0 2).bind fun x1=>(if !x1 then (bB s 1).bind fun x2=>some (b,x2) else (DO b.aJ s.B s.E).bind fun x3=>(if !x3.2 then (bB s 8).bind fun x4=>some (({b with aJ:=x3.1}:aB),x4) else (if (aZ (s.B+1)) == 3 then pN b s x3 2 else pN b s x3 s.Pc))) else (if s.Pc == 2 then (LF b.aJ s.E).bind fun x6=>(if x6.2 then pO b s x6 1 else pO b s x6 s.Out) else (bB s 1).bind fun x9=>some (b,x9))))
def FP(x1:Bool):Option Bool:=
 some x1
def FY(r_:dI)(e_:Int):Option Bool:=
 (if decide (2<=e_) then FP (decide (r_.aN<=(aZ (e_ - 2)))) else FP false)
def XR:Option Int:=
 some (-1)
def dX(l:List dI)(e_:Int):Int->Option (Step Int (Out Unit Int))
 | x2=>(if decide (x2 < (l.length:Int)) then (idx l x2).bind fun x3=>(FY x3 e_).bind fun x4=>(if x4 then some (.stop (Out.ret x2)) else some (.next (aZ (x2+1)))) else some (.stop (Out.brk ())))
def XS:(Out Unit Int)->Option Int
 | .brk ()=>XR
 | .ret r=>some r
def uC(l:List dI)(from_ e_:Int):Option Int:=
 (loop (dX l e_) (if 0 < from_ then from_ else 0)).bind (XS)
def pP(b:aB)(s:Sub)(x8:Int):Option (aB×Sub):=
 some (b,({s with Pc:=x8,B:=aZ (s.B+1)}:Sub))
def eE(b:aB)(s:Sub)(x5:Bool):Option (aB×Sub):=
 (if x5 then (bB s 1).bind fun x6=>some (b,x6) else (idx b.BW s.B).bind fun x7=>(if x7 == s.H then some (b,({s with Pc:=1,Row:=aZ (s.Row+1)}:Sub)) else (if (aZ (s.B+1)) == 3 then pP b s 3 else pP b s s.Pc)))
def yG(s:Sub)(x14:aB):Option (aB×Sub):=
 some (x14,({s with Pc:=1,Out:=aZ (s.Out+1)}:Sub))
def eF(b:aB)(w_:Int)(s:Sub)(x1:a8)(x12:Bool):Option (aB×Sub):=
 (if x12 then (bB s 1).bind fun x13=>some (b,x13) else need (0<=(s.Row:Int)/\(s.Row:Int)<=(x1.Rows.length:Int)) (need (0<=(aZ (s.Row+1):Int)/\(aZ (s.Row+1):Int)<=(x1.Rows.length:Int)) (need (s.Row.toNat<=(aZ (s.Row+1)).toNat) ((kK s.H).bind fun x15=>(DN b.Mem w_ x15).bind fun x16=>yG s ({b with Mem:=x16,bO:=b.bO.set w_.toNat (⟨((cA x1.Rows s.Row.toNat (x1.Rows.drop ((aZ (s.Row+1)).toNat))).take (s.Row.toNat+(x1.Rows.length - ((aZ (s.Row+1)).toNat)))).drop 0⟩:a8)}:aB)))))
def qD(b:aB)(w_:Int)(s:Sub):Option (aB×Sub):=
 (idx b.bO w_).bind fun x1=>(if s.Pc == 0 then some (b,({s with Pc:=1,E:=b.aJ.aN,Row:=0}:Sub)) else (if s.Pc == 1 then (uC x1.Rows s.Row s.E).bind fun x2=>(if decide (x2 < 0) then (bB s 0).bind fun x3=>some (b,x3) else (idx x1.Rows x2).bind fun x4=>some (b,({s with Pc:=2,Row:=x2,B:=0,H:=x4.Handle}:Sub))) else (if s.Pc == 2 then (cG s.B 0 2).bind fun x9=>(if !x9 then eE b s true else (cG s.Row 0 (aZ ((x1.Rows.length:Int) - 1))).bind fun x10=>(if !x10 then eE b s true else (idx x1.Rows s.Row).bind fun x11=>eE b s (x11.Handle != s.H))) else (if s.Pc == 3 then (cG s.Row 0 (aZ ((x1.Rows.length:Int) - 1))).bind fun x17=>(if !x17 then eF b w_ s x1 true else (idx x1.Rows s.Row).bind fun x18=>(if x18.Handle != s.H then eF b w_ s x1 true else (FY x18 s.E).bind fun x19=>eF b w_ s x1 (!x19))) else (bB s 1).bind fun x20=>some (b,x20)))))
def v7(w_ e_:Int)(x1:aJ)(x2:Bool):Option (aJ×Bool):=
 (if x2 then some (x1,false) else (idx x1.cN w_).bind fun x3=>some ((⟨x1.aN,x1.cN.set w_.toNat (⟨true,e_,false,0⟩:qT)⟩:aJ),true))
def GX(c:aJ)(w_ e_:Int):Option (aJ×Bool):=
 (tZ c).bind fun x1=>(tV c).bind fun x4=>(if !x4 then v7 w_ e_ x1 true else (cG w_ 0 2).bind fun x5=>(if !x5 then v7 w_ e_ x1 true else (cG e_ 0 c.aN).bind fun x6=>v7 w_ e_ x1 (!x6)))
def DP(b:aB)(w_:Int)(s:Sub):Option (aB×Sub):=
 (if s.Pc == 0 then some (b,({s with Pc:=1,E:=b.aJ.aN}:Sub)) else (if s.Pc == 1 then (GX b.aJ w_ s.E).bind fun x1=>(if !x1.2 then (bB s 1).bind fun x2=>some (({b with aJ:=x1.1}:aB),x2) else some (({b with aJ:=x1.1}:aB),({s with Pc:=2}:Sub))) else (if s.Pc == 2 then (if b.aJ.aN == s.E then (bB s 0).bind fun x3=>some (b,x3) else some (b,({s with Pc:=0}:Sub))) else (bB s 1).bind fun x4=>some (b,x4))))
def MN(b:aB)(w_:Int)(s:Sub):Option (aB×Sub):=
 (if s.dS then some (b,s) else (if s.Kind == 1 then (vZ b w_ s).bind fun x1=>some (x1.1,x1.2) else (if s.Kind == 2 then (sN b w_ s).bind fun x2=>some (x2.1,x2.2) else (if s.Kind == 3 then (qC b s).bind fun x3=>some (x3.1,x3.2) else (if s.Kind == 4 then (qD b w_ s).bind fun x4=>some (x4.1,x4.2) else (if s.Kind == 5 then (DP b w_ s).bind fun x5=>some (x5.1,x5.2) else (bB s 1).bind fun x6=>some (b,x6)))))))
def v8(w_:Int)(x1:aJ)(x2:Bool):Option (aJ×Bool):=
 (if x2 then some (x1,false) else (idx x1.cN w_).bind fun x3=>some ((⟨x1.aN,x1.cN.set w_.toNat (⟨false,0,false,0⟩:qT)⟩:aJ),true))
def MO(c:aJ)(w_:Int):Option (aJ×Bool):=
 (tZ c).bind fun x1=>(tV c).bind fun x4=>(if !x4 then v8 w_ x1 true else (cG w_ 0 2).bind fun x5=>(if !x5 then v8 w_ x1 true else (idx c.cN w_).bind fun x6=>v8 w_ x1 (!x6.On)))
end
end Go.Gv
end
noncomputable section
set_option maxHeartbeats 4000000
set_option maxRecDepth 100000
namespace Go.Proofs.YtejjbceagmbdhaaGreat
open Go.Gv Tryz
theorem bC:OK prog 3 1 (.int .i64 0):=uP (b:=8) (by kernel_rfl) rfl
theorem lT:OK prog 96 3 (.agg #[.int .i64 0,.int .i64 0,.int .i64 0]):=uP (b:=24) (by kernel_rfl) rfl
theorem pQ:OK prog 92 1 (.agg #[.slice none 0 0]):=uP (b:=24) (by kernel_rfl) rfl
theorem dK:OK prog 56 2 (.agg #[.bool false,.slice none 0 0]):=uP (b:=32) (by kernel_rfl) rfl
theorem eK:OK prog 172 1 (.agg #[.slice none 0 0]):=uP (b:=24) (by kernel_rfl) rfl
theorem IY:OK prog 150 4 (.agg #[.bool false,.int .i64 0,.bool false,.int .i64 0]):=uP (b:=32) (by kernel_rfl) rfl
theorem DQ:OK prog 175 1 (.agg #[.slice none 0 0]):=uP (b:=24) (by kernel_rfl) rfl
theorem fL:OK prog 67 3 (.agg #[.int .i64 0,.int .i64 0,.int .i64 0]):=uP (b:=24) (by kernel_rfl) rfl
theorem fM:OK prog 65 32 (.agg #[.bool false,.bool false,.slice none 0 0,.int .i64 0,.int .i64 0,.int .i64 0,.int .i64 0,.int .i64 0,.int .i64 0,.int .i64 0,.int .i64 0,.int .i64 0,.int .i64 0,.int .i64 0,.bool false,.int .i64 0,.int .i64 0,.int .i64 0,.int .i64 0,.int .i64 0,.int .i64 0,.int .i64 0,.int .i64 0,.int .i64 0,.int .i64 0,.bool false,.slice none 0 0,.slice none 0 0,.slice none 0 0,.slice none 0 0,.slice none 0 0,.slice none 0 0]):=uP (b:=368) (by kernel_rfl) rfl
theorem kL:OK prog 79 6 (.agg #[.int .i64 0,.int .i64 0,.int .i64 0,.int .i64 0,.slice none 0 0,.slice none 0 0]):=uP (b:=80) (by kernel_rfl) rfl
theorem aKP:OK prog 32 1 (.slice none 0 0):=uP (b:=24) (by kernel_rfl) rfl
theorem aOV:OK prog 5 1 (.int .u8 0):=uP (b:=1) (by kernel_rfl) rfl
theorem DR:OK prog 114 2 (.agg #[.int .i64 0,.int .i64 0]):=uP (b:=16) (by kernel_rfl) rfl
theorem sO:OK prog 119 3 (.agg #[.int .i64 0,.bool false,.int .i64 0]):=uP (b:=24) (by kernel_rfl) rfl
theorem IZ:OK prog 142 2 (.agg #[.bool false,.int .i64 0]):=uP (b:=16) (by kernel_rfl) rfl
theorem I0:OK prog 117 2 (.agg #[.int .i64 0,.int .i64 0]):=uP (b:=16) (by kernel_rfl) rfl
theorem aD:prog.follows .mixedOrders=true:=by kernel_rfl
theorem aIB(D:Nat)(d d':qT)(w:World):(Op.eqFields (D+2) #[.bool (d.On),.int .i64 (d.aN),.bool (d.gG),.int .i64 (d.Seen)] #[.bool (d'.On),.int .i64 (d'.aN),.bool (d'.gG),.int .i64 (d'.Seen)] (match prog.underlying 150 with | some (.struct fs)=>fs | _=>#[]).toList).run prog w=.ok (decide (d=d')) w:=by
 rw [underlying150]
 have h:(d.On == d'.On && (d.aN == d'.aN && (d.gG == d'.gG && (d.Seen == d'.Seen && true))))=decide (d=d'):=by
  cases d;cases d';rw [LX];simp
 rw [<-h]
 exact S1 _ _ _ _ _ rfl (WL isAgg4 rfl) (WL isAgg4 rfl) (aL4 underlying4)<|
  S1 _ _ _ _ _ rfl (WL isAgg3 rfl) (WL isAgg3 rfl) (aQD underlying3)<|
  S1 _ _ _ _ _ rfl (WL isAgg4 rfl) (WL isAgg4 rfl) (aL4 underlying4)<|
  S1 _ _ _ _ _ rfl (WL isAgg3 rfl) (WL isAgg3 rfl) (aQD underlying3)<|
  aUQ _ _ _
set_option maxRecDepth 100000 in
theorem LG{w0:World}{n:Int}(hn:0<=n/\n<=1073741824) :
  Calls prog 280 #[.slice none 0 0,.int .i64 n] w0 (Ret fun v w'=>∃s0_0:Value,v=s0_0/\St (bT w0) w' [aW [s0_0] ([]:List Raw)] []):=by
 have hS:St (bT w0) w0 [] []:=St.enter (by intro f hf;cases hf)
 have hw:aZ (n - aZ (0 - 0))=n:=by
  rw [GB (x:=0 - 0) (by omega),GB (by omega)];omega
 refine aP6 (args:=[_,_]) func280 rfl ntmps280 rfl ?_
 intro a hA
 refine bJ ?_
 refine bX hA ?_
 clear hA
 refine eQ (BR rfl rfl) (bM rfl) rfl rfl ?_
 refine bA ?_
 intro a hA
 refine bJ ?_
 refine bJ ?_
 refine bX hA ?_
 clear hA
 refine eQ (mM rfl rfl) (bM rfl) rfl rfl ?_
 refine eQ (D0 rfl rfl rfl) (bM rfl) rfl rfl ?_
 refine bA ?_
 intro a hA
 refine lY hA rfl (fun hc=>?_) (fun hc=>?_)
 ·exfalso;simp at hc;omega
 refine nF ?_
 refine bJ ?_
 refine bJ ?_
 refine bX hA ?_
 clear hA
 refine eQ (mM rfl rfl) (bM rfl) rfl rfl ?_
 refine eQ (mM rfl rfl) (bM rfl) rfl rfl ?_
 refine eQ (aDW underlying32 rfl rfl) (bM rfl) rfl rfl ?_
 refine eQ (mM rfl rfl) (bM rfl) rfl rfl ?_
 refine eQ (nG (aQA (α:=Raw) (S:=F0)) underlying32 rfl rfl) (bM rfl) rfl rfl ?_
 refine eQ (aJT rfl rfl rfl) (bM rfl) rfl rfl ?_
 refine eQ (aJT rfl rfl rfl) (bM rfl) rfl rfl ?_
 refine eQ (BR rfl rfl) (bM rfl) rfl rfl ?_
 refine bA ?_
 intro a hA
 refine bJ ?_
 refine bX hA ?_
 clear hA
 refine eQ (mM rfl rfl) (bM rfl) rfl rfl ?_
 refine eQ (aJW rfl rfl rfl) (bM rfl) rfl rfl ?_
 refine bA ?_
 intro a hA
 refine lY hA rfl (fun hc=>?_) (fun hc=>?_)
 ·have hn1:0 < n:=by
   have h2:decide (0 < aZ (n - aZ (0 - 0)))=true:=hc
   rw [hw] at h2;simpa using h2
  refine bX hA ?_
  clear hA
  refine eQ (mM rfl rfl) (bM rfl) rfl rfl ?_
  refine eQ (mM rfl rfl) (bM rfl) rfl rfl ?_
  refine eQ (aDW underlying32 rfl rfl) (bM rfl) rfl rfl ?_
  refine eQ (aMB (s:=.slice none 0 0) ⟨_,_,_,rfl⟩ underlying32 sizeOf172 rfl rfl rfl) (bM rfl) rfl rfl ?_
  refine eQ (mM rfl rfl) (bM rfl) rfl rfl ?_
  refine I7 (aU0 (i:=aZ (n - aZ (0 - 0))) hS underlying32 underlying3 eK rfl rfl (by rw [hw];omega) rfl rfl rfl) (bM rfl) rfl rfl ?_
  clear hS
  intro s w hS
  refine eQ (mM rfl rfl) (bM rfl) rfl rfl ?_
  refine eQ (nG (aQA (α:=Raw) (S:=F0)) underlying32 rfl rfl) (bM rfl) rfl rfl ?_
  refine eQ (aMB (hS.aQW 0 rfl) underlying32 sizeOf172 rfl rfl rfl) (bM rfl) rfl rfl ?_
  refine eQ (BR rfl rfl) (bM rfl) rfl rfl ?_
  refine bA ?_
  intro a hA
  replace hS:=hS.aX4 (α:=Raw) 0 rfl rfl
  refine bJ ?_
  refine bX hA ?_
  clear hA
  refine eQ (mM rfl rfl) (bM rfl) rfl rfl ?_
  refine eQ (BR rfl rfl) (bM rfl) rfl rfl ?_
  refine bA ?_
  intro a hA
  refine xO ?_
  exact aUO results280 hA (YS rfl) ⟨_,rfl,(hS.KN [0] rfl).weaken (R':=[]) (fun _ h=>nomatch h)⟩
 ·refine nF ?_
  replace hS:=hS.aXX (α:=Raw)
  refine bJ ?_
  refine bX hA ?_
  clear hA
  refine eQ (mM rfl rfl) (bM rfl) rfl rfl ?_
  refine eQ (BR rfl rfl) (bM rfl) rfl rfl ?_
  refine bA ?_
  intro a hA
  refine xO ?_
  exact aUO results280 hA (YS rfl) ⟨_,rfl,(hS.KN [0] rfl).weaken (R':=[]) (fun _ h=>nomatch h)⟩
theorem OD{w0:World}{slices:List (List Raw)}{s1:Value}{r:(List Raw)}(h1:aC.rd (KH w0) w0 [s1] (slices:List (List Raw)))(hF:nI slices=some r) :
    Calls prog 260 #[s1] w0 (Ret fun v w'=>∃(s0_0:Value),v=s0_0/\St (bT w0) w' [aW [s0_0] (r:List Raw)] []):=by
 have hS:St (bT w0) w0 [] [xN [s1] (slices:List (List Raw))]:=St.enter (by
   intro f hf
   simp only [gI,KF,or_false] at hf
   subst hf;exact h1)
 refine yQ (args:=[_]) func260 rfl ntmps260 rfl ?_
 unfold nI at hF
 intro a hA
 refine bJ<|bX hA ?_
 clear hA
 refine oa rfl rfl<|bA fun a hA=>bJ<|bX hA ?_
 clear hA
 refine oa rfl rfl<|bA fun a hA=>bJ<|bJ<|bX hA ?_
 clear hA
 refine om rfl rfl<|oy (nG (hS.rd 0 rfl) underlying277 rfl rfl) rfl<|om rfl rfl<|bA fun a hA=>?_
 obtain⟨o1,hl1,hF⟩:=rB hF
 refine BS (J:=fun a' w'=>∃(x5:Int),o1=x5/\kN 36 [(0,s1),(3,.int .i64 (x5))] a'/\St (bT w0) w' [] [xN [s1] (slices:List (List Raw))]) ?_ ?_
 ·refine kO ?_
  refine H0 (body:=fB slices) (r:=o1) (fun sg a' w'=>kN 36 [(0,s1),(3,.int .i64 (sg.1)),(9,s1),(10,.int .i64 ((slices.length:Int))),(11,.int .i64 (sg.2))] a'/\St (bT w0) w' [] [xN [s1] (slices:List (List Raw))]) ?_ hl1 ⟨hA.part ⟨rfl,rfl,rfl,rfl,rfl,trivial⟩,((hS).KN [] rfl).tD [0] rfl⟩
  clear hA hS hl1
  rintro⟨x3,x4⟩ a w q1 ⟨hA,hS⟩ hG1 hr1
  try dsimp only at hA hS
  unfold fB at hG1
  refine bJ<|bX hA ?_
  clear hA
  refine oy (D0 rfl rfl rfl) rfl<|bA fun a hA=>bJ<|lY hA rfl (fun hc2=>?_) (fun hc2=>?_)
  ·replace hG1:=KL hc2 hG1
   refine nF<|bJ<|kO<|bJ<|bX hA ?_
   clear hA
   obtain⟨x12,hx12,hG1⟩:=rB hG1
   refine oy (OU (m:=1) (hS.rd 0 rfl) rfl hx12 underlying277 sizeOf32 rfl rfl rfl) rfl ?_
   obtain⟨s8,hel,hS⟩:=hS.aHC 0 rfl (jQ hx12).2.2
   refine oy (iF rfl rfl isAgg32 (aP9 hel)) rfl<|oa rfl rfl<|bA fun a hA=>bJ<|bX hA ?_
   clear hA
   refine om rfl rfl<|om rfl rfl<|oy (nG (hS.rd 1 rfl) underlying32 rfl rfl) rfl<|oy (I8 rfl rfl rfl) rfl<|oa rfl rfl<|bA fun a hA=>bJ<|bX hA ?_
   clear hA
   refine om rfl rfl<|oy (D0 rfl rfl rfl) rfl<|bA fun a hA=>lY hA rfl (fun hc3=>?_) (fun hc3=>?_)
   ·replace hG1:=KL hc3 hG1
    refine bX hA ?_
    clear hA
    cases hG1
   ·replace hG1:=KM hc3 hG1
    refine nF<|bX hA ?_
    clear hA
    refine oy (I8 rfl rfl rfl) rfl<|om rfl rfl<|bA fun a hA=>?_
    cases hG1
    exact⟨_,rfl,⟨hA.part ⟨rfl,rfl,rfl,rfl,rfl,trivial⟩,((hS).KN [] rfl).tD [0] rfl⟩⟩
  ·replace hG1:=KM hc2 hG1
   refine HZ<|BQ ?_
   cases hG1
   have ho:=hr1 _ rfl;subst ho
   exact⟨x3,rfl,hA.part ⟨rfl,rfl,trivial⟩,((hS).KN [] rfl).tD [0] rfl⟩
 ·skip
  clear hA hS hl1
  rintro a w ⟨x5,heq,hA,hS⟩
  replace hF:kW slices x5=some r:=by rw [heq] at hF;exact hF
  clear heq
  unfold kW at hF
  refine bJ<|bX hA ?_
  clear hA
  refine om rfl rfl ?_
  obtain⟨hn1,hF⟩:=iG hF
  refine WK (H4 call280 rfl rfl) (bM rfl) rfl rfl (LG hn1) ?_
  rintro s2 w ⟨_,rfl,hk⟩
  replace hS:=hS.after hk;clear hk
  refine oa rfl rfl<|bA fun a hA=>bJ<|bJ<|bX hA ?_
  clear hA
  refine om rfl rfl<|oy (nG (hS.rd 0 rfl) underlying277 rfl rfl) rfl<|om rfl rfl<|bA fun a hA=>?_
  obtain⟨o2,hl2,hF⟩:=rB hF
  refine BS (J:=fun a' w'=>∃(x10:List Raw) (s5:Value),o2=x10/\kN 36 [(6,s5)] a'/\St (bT w0) w' [aW [s5] (x10:List Raw)] []) ?_ ?_
  ·refine kO ?_
   refine H0 (body:=gH slices) (r:=o2) (fun sg a' w'=>∃(s4:Value),kN 36 [(6,s4),(25,s1),(26,.int .i64 ((slices.length:Int))),(27,.int .i64 (sg.2))] a'/\St (bT w0) w' [aW [s4] (sg.1:List Raw)] [xN [s1] (slices:List (List Raw))]) ?_ hl2 ⟨s2,hA.part ⟨rfl,rfl,rfl,rfl,trivial⟩,((hS).KN [0] rfl).tD [0] rfl⟩
   clear hA hS hl2
   rintro⟨x8,x9⟩ a w q2 ⟨s4,hA,hS⟩ hG2 hr2
   try dsimp only at hA hS
   unfold gH at hG2
   refine bJ<|bX hA ?_
   clear hA
   refine oy (D0 rfl rfl rfl) rfl<|bA fun a hA=>bJ<|lY hA rfl (fun hc1=>?_) (fun hc1=>?_)
   ·replace hG2:=KL hc1 hG2
    refine nF<|bJ<|kO<|bJ<|bX hA ?_
    clear hA
    obtain⟨x11,hx11,hG2⟩:=rB hG2
    refine oy (OU (m:=1) (hS.rd 0 rfl) rfl hx11 underlying277 sizeOf32 rfl rfl rfl) rfl ?_
    obtain⟨s6,hel,hS⟩:=hS.aHC 0 rfl (jQ hx11).2.2
    refine oy (iF rfl rfl isAgg32 (aP9 hel)) rfl<|oa rfl rfl<|bA fun a hA=>bX hA ?_
    clear hA
    refine om rfl rfl<|om rfl rfl ?_
    obtain⟨hn2,hG2⟩:=iG hG2
    refine I7 (aDU (α:=Raw) 0 hS rfl (hS.rd 1 rfl) rfl underlying32 eK rfl hn2 rfl rfl rfl) (bM rfl) rfl rfl ?_
    clear hS
    rintro s7 w hS
    refine oa rfl rfl<|bA fun a hA=>bX hA ?_
    clear hA
    refine oy (I8 rfl rfl rfl) rfl<|om rfl rfl<|bA fun a hA=>?_
    cases hG2
    exact⟨_,rfl,⟨s7,hA.part ⟨rfl,rfl,rfl,rfl,trivial⟩,((hS).KN [0] rfl).tD [0] rfl⟩⟩
   ·replace hG2:=KM hc1 hG2
    refine HZ<|BQ ?_
    cases hG2
    have ho:=hr2 _ rfl;subst ho
    exact⟨x8,s4,rfl,hA.part ⟨rfl,trivial⟩,((hS).KN [0] rfl).tD [] rfl⟩
  ·skip
   clear hA hS hl2
   rintro a w ⟨x10,s5,heq,hA,hS⟩
   replace hF:o6 x10=some r:=by rw [heq] at hF;exact hF
   clear heq
   unfold o6 at hF
   refine bJ<|bX hA ?_
   clear hA
   refine om rfl rfl<|oa rfl rfl<|bA fun a hA=>xO ?_
   cases hF
   exact aUO results260 hA (YS rfl) ⟨s5,rfl,(hS.KN [0] rfl).weaken (R':=[]) (fun _ h=>nomatch h)⟩
theorem JY{w0:World}{n:Int}{low:Int}{high:Int}{r:Bool}(hF:bQ n low high=some r) :
    Calls prog 46 #[.int .i64 (n),.int .i64 (low),.int .i64 (high)] w0 (Ret fun v w'=>v=.bool (r)/\St (bT w0) w' [] []):=by
 have hS:St (bT w0) w0 [] []:=St.enter (by
   intro f hf;cases hf)
 refine yQ (args:=[_,_,_]) func46 rfl ntmps46 rfl ?_
 unfold bQ at hF
 intro a hA
 refine bJ<|bX hA ?_
 clear hA
 refine oa rfl rfl<|bA fun a hA=>bJ<|BS (J:=fun a' w'=>∃(x1:Bool),nV x1=some r/\kN 15 [(6,.bool (x1))] a'/\St (bT w0) w' [] []) ?_ ?_
 ·skip
  refine bX hA ?_
  clear hA
  refine om rfl rfl<|om rfl rfl<|oy (aP2 rfl rfl rfl) rfl<|om rfl rfl<|F7 (s:=10) rfl (fun hc1=>?_) (fun hc1=>?_)
  ·replace hF:=KL hc1 hF
   refine eQ (mM rfl rfl) (bU rfl rfl rfl (by rw [hc1];rfl)) rfl rfl ?_
   refine eQ (mM rfl rfl) (bU rfl rfl rfl (by rw [hc1];rfl)) rfl rfl ?_
   refine eQ (aJV rfl rfl rfl) (bU rfl rfl rfl (by rw [hc1];rfl)) rfl rfl ?_
   refine oy (tC rfl rfl hc1 rfl) rfl<|oa rfl rfl<|bA fun a hA=>?_
   exact⟨decide (n<=high),hF,hA.part ⟨rfl,trivial⟩,((hS).KN [] rfl).tD [] rfl⟩
  ·replace hF:=KM hc1 hF
   refine eY (bU rfl rfl rfl (by rw [hc1];rfl)) rfl rfl ?_
   refine eY (bU rfl rfl rfl (by rw [hc1];rfl)) rfl rfl ?_
   refine eY (bU rfl rfl rfl (by rw [hc1];rfl)) rfl rfl ?_
   refine oy (yP rfl rfl hc1 rfl) rfl<|oa rfl rfl<|bA fun a hA=>?_
   exact⟨false,hF,hA.part ⟨rfl,trivial⟩,((hS).KN [] rfl).tD [] rfl⟩
 ·skip
  clear hA hS hF
  rintro a w ⟨x1,hF,hA,hS⟩
  unfold nV at hF
  refine xO ?_
  cases hF
  exact fy results46 hA rfl hS
theorem aCZ{w0:World}{slot:Int}{r:Bool}(hF:k9 slot=some r) :
    Calls prog 204 #[.int .i64 (slot)] w0 (Ret fun v w'=>v=.bool (r)/\St (bT w0) w' [] []):=by
 have hS:St (bT w0) w0 [] []:=St.enter (by
   intro f hf;cases hf)
 refine yQ (args:=[_]) func204 rfl ntmps204 rfl ?_
 unfold k9 at hF
 intro a hA
 refine bJ<|bX hA ?_
 clear hA
 refine oa rfl rfl<|bA fun a hA=>bJ<|bX hA ?_
 clear hA
 refine om rfl rfl ?_
 obtain⟨x1,hx1,hF⟩:=rB hF
 refine WK (H4 call46 rfl rfl) (bM rfl) rfl rfl (JY (n:=slot) (low:=0) (high:=23) hx1) ?_
 rintro _ w ⟨rfl,hk⟩
 replace hS:=hS.after hk;clear hk
 refine oa rfl rfl<|bA fun a hA=>xO ?_
 cases hF
 exact fy results204 hA rfl hS
theorem aAN{w0:World}{l:aA}{s1:Value}{s2:Value}{r:Bool}(h1:aC.rd (KH w0) w0 [s1] (l.Global:List aO))(h2:aC.rd (KH w0) w0 [s2] (l.Own:List aO))(hF:jJ l=some r) :
    Calls prog 213 #[.agg #[s1,s2]] w0 (Ret fun v w'=>v=.bool (r)/\St (bT w0) w' [] []):=by
 have hS:St (bT w0) w0 [] [xN [s1] (l.Global:List aO),xN [s2] (l.Own:List aO)]:=St.enter (by
   intro f hf
   simp only [gI,KF,or_false] at hf
   rcases hf with rfl | rfl
   · exact h1
   · exact h2)
 refine yQ (args:=[_]) func213 rfl ntmps213 rfl ?_
 unfold jJ at hF
 intro a hA
 refine bJ<|bX hA ?_
 clear hA
 refine I7 (aXU (cs:=[s1,s2]) hS rfl rfl rfl) (bM rfl) rfl rfl ?_
 clear hS
 rintro _ w ⟨b1,rfl,hS⟩
 refine oa rfl rfl<|bA fun a hA=>bJ<|bJ<|BS (J:=fun a' w'=>∃(x1:Bool),pW l x1=some r/\kN 61 [(1,.pointer (some ⟨b1,0,none⟩)),(17,.bool (x1))] a'/\St (bT w0) w' [BC b1 [s1,s2]] [xN [s1] (l.Global:List aO),xN [s2] (l.Own:List aO)]) ?_ ?_
 ·skip
  refine bX hA ?_
  clear hA
  refine oy (xP (m:=0) underlying34 rfl rfl sizeOf32 rfl rfl) rfl<|oy (iF rfl rfl isAgg32 (hS.cell 0 rfl rfl)) rfl<|oy (nG (hS.rd 0 rfl) underlying32 rfl rfl) rfl<|oy (aE4 rfl rfl rfl) rfl<|om rfl rfl<|F7 (s:=12) rfl (fun hc8=>?_) (fun hc8=>?_)
  ·replace hF:=KL hc8 hF
   refine eY (bU rfl rfl rfl (by rw [hc8];rfl)) rfl rfl ?_
   refine eY (bU rfl rfl rfl (by rw [hc8];rfl)) rfl rfl ?_
   refine eY (bU rfl rfl rfl (by rw [hc8];rfl)) rfl rfl ?_
   refine eY (bU rfl rfl rfl (by rw [hc8];rfl)) rfl rfl ?_
   refine oy (tC rfl rfl hc8 rfl) rfl<|bA fun a hA=>?_
   exact⟨true,hF,hA.part ⟨rfl,rfl,trivial⟩,((hS).KN [0] rfl).tD [0,1] rfl⟩
  ·replace hF:=KM hc8 hF
   refine eQ (xP (m:=0) underlying34 rfl rfl sizeOf32 rfl rfl) (bU rfl rfl rfl (by rw [hc8];rfl)) rfl rfl ?_
   refine eQ (iF rfl rfl isAgg32 (hS.cell 0 rfl rfl)) (bU rfl rfl rfl (by rw [hc8];rfl)) rfl rfl ?_
   refine eQ (nG (hS.rd 1 rfl) underlying32 rfl rfl) (bU rfl rfl rfl (by rw [hc8];rfl)) rfl rfl ?_
   refine eQ (aE4 rfl rfl rfl) (bU rfl rfl rfl (by rw [hc8];rfl)) rfl rfl ?_
   refine oy (yP rfl rfl hc8 rfl) rfl<|bA fun a hA=>?_
   exact⟨(l.Own.length:Int) != 9,hF,hA.part ⟨rfl,rfl,trivial⟩,((hS).KN [0] rfl).tD [0,1] rfl⟩
 ·skip
  clear hA hS hF
  rintro a w ⟨x1,hF,hA,hS⟩
  unfold pW at hF
  refine lY hA rfl (fun hc1=>?_) (fun hc1=>?_)
  ·replace hF:=KL hc1 hF
   refine bJ<|bX hA ?_
   clear hA
   refine oa rfl rfl<|bA fun a hA=>xO ?_
   cases hF
   exact fy results213 hA rfl hS
  ·replace hF:=KM hc1 hF
   refine nF<|bJ<|bX hA ?_
   clear hA
   refine oy (U5 (cells:=#[.bool (false),.bool (false),.bool (false),.bool (false),.bool (false),.bool (false),.bool (false),.bool (false),.bool (false),.bool (false),.bool (false),.bool (false),.bool (false),.bool (false),.bool (false),.bool (false),.bool (false),.bool (false),.bool (false),.bool (false),.bool (false),.bool (false),.bool (false),.bool (false)]) rfl zeroValue261 underlying261 sizeOf4 rfl rfl) rfl<|I7 (KJ (cs:=List.map (fun q:Bool=>Value.bool q) [false,false,false,false,false,false,false,false,false,false,false,false,false,false,false,false,false,false,false,false,false,false,false,false]) hS rfl zeroValue261 rfl) (bM rfl) rfl rfl ?_
   clear hS
   rintro _ w ⟨b2,rfl,hS⟩
   refine OS (RX (vs:=[.bool (false),.bool (false),.bool (false),.bool (false),.bool (false),.bool (false),.bool (false),.bool (false),.bool (false),.bool (false),.bool (false),.bool (false),.bool (false),.bool (false),.bool (false),.bool (false),.bool (false),.bool (false),.bool (false),.bool (false),.bool (false),.bool (false),.bool (false),.bool (false)]) hS (i:=1) rfl rfl rfl rfl rfl sizeOf261 rfl rfl rfl) (bM rfl) rfl ?_
   clear hS
   intro w hS
   refine bA fun a hA=>bJ<|bJ<|bX hA ?_
   clear hA
   refine oy (xP (m:=0) underlying34 rfl rfl sizeOf32 rfl rfl) rfl<|oy (iF rfl rfl isAgg32 (hS.cell 0 rfl rfl)) rfl<|oy (xP (m:=0) underlying34 rfl rfl sizeOf32 rfl rfl) rfl<|oy (iF rfl rfl isAgg32 (hS.cell 0 rfl rfl)) rfl<|I7 (aJ2 hS (hS.rd 1 rfl) (hS.rd 0 rfl) underlying277 aKP rfl rfl rfl) (bM rfl) rfl rfl ?_
   clear hS
   rintro s3 w hS
   obtain⟨hn1,hF⟩:=iG hF
   replace hS:=hS.aZZ 2 rfl
   obtain⟨u1,u2,hu1,hl1,hS⟩:=hS.aU1 rfl 2 1 0 rfl rfl rfl
   refine WK (H4 call260 rfl rfl) (bM rfl) rfl rfl (OD hu1 (K6 hl1 hn1)) ?_
   rintro s4 w ⟨_,rfl,hk⟩
   replace hS:=hS.after hk;clear hk
   replace hS:=hS.aZZ 3 rfl
   replace hS:=hS.aZ4 rfl 4 3 rfl rfl
   refine oy (nG (hS.rd 5 rfl) underlying32 rfl rfl) rfl<|om rfl rfl<|bA fun a hA=>?_
   obtain⟨o1,hl2,hF⟩:=rB hF
   refine BS (J:=fun a' w'=>o1=Out.brk ()/\kN 61 [] a'/\St (bT w0) w' [] []) ?_ ?_
   ·refine kO ?_
    refine H0 (body:=kG l) (r:=o1) (fun sg a' w'=>kN 61 [(1,.pointer (some ⟨b1,0,none⟩)),(3,.pointer (some ⟨b2,0,none⟩)),(24,s4),(25,.int .i64 (((l.Own++l.Global).length:Int))),(26,.int .i64 (sg.1))] a'/\St (bT w0) w' [BC b1 [s1,s2],BC b2 (List.map (fun q:Bool=>Value.bool q) (sg.2:List Bool))] [xN [s4] (l.Own++l.Global:List aO),xN [s1] (l.Global:List aO),xN [s2] (l.Own:List aO)]) ?_ hl2 ⟨hA.part ⟨rfl,rfl,rfl,rfl,rfl,trivial⟩,((hS).KN [0,1] rfl).tD [5,0,1] rfl⟩
    clear hA hS hl2
    rintro⟨x4,x5⟩ a w q2 ⟨hA,hS⟩ hG2 hr2
    try dsimp only at hA hS
    unfold kG at hG2
    refine bJ<|bX hA ?_
    clear hA
    refine oy (D0 rfl rfl rfl) rfl<|bA fun a hA=>bJ<|lY hA rfl (fun hc2=>?_) (fun hc2=>?_)
    ·replace hG2:=KL hc2 hG2
     refine nF<|bJ<|kO<|bJ<|bX hA ?_
     clear hA
     refine om rfl rfl ?_
     obtain⟨x6,hx6,hG2⟩:=rB hG2
     refine oy (OU (m:=1) (hS.rd 0 rfl) rfl hx6 underlying32 sizeOf172 rfl rfl rfl) rfl ?_
     obtain⟨s5,hel,hS⟩:=hS.aSW 0 rfl (jQ hx6).2.2
     refine oy (OT rfl rfl isAgg172 sizeOf172 rfl hel) rfl<|I7 (KJ (cs:=[(.slice none 0 0)]) hS rfl zeroValue172 rfl) (bM rfl) rfl rfl ?_
     clear hS
     rintro _ w ⟨b3,rfl,hS⟩
     refine oa rfl rfl<|OS (RX (vs:=[s5]) hS (i:=2) rfl rfl rfl rfl rfl sizeOf172 rfl rfl (aXY (ZU (hS.rd 3 rfl)) rfl)) (bM rfl) rfl ?_
     clear hS
     intro w hS
     refine bA fun a hA=>bJ<|bJ<|BS (J:=fun a' w'=>∃(x7:Bool),kE x4 x5 x6 x7=some q2/\kN 61 [(1,.pointer (some ⟨b1,0,none⟩)),(3,.pointer (some ⟨b2,0,none⟩)),(5,.pointer (some ⟨b3,0,none⟩)),(24,s4),(25,.int .i64 (((l.Own++l.Global).length:Int))),(26,.int .i64 (x4)),(41,.bool (x7))] a'/\St (bT w0) w' [BC b1 [s1,s2],BC b2 (List.map (fun q:Bool=>Value.bool q) (x5:List Bool)),BC b3 [s5]] [xN [s4] (l.Own++l.Global:List aO),xN [s1] (l.Global:List aO),xN [s2] (l.Own:List aO),xN [s5] (x6.aQ:List Int)]) ?_ ?_
     ·skip
      refine bX hA ?_
      clear hA
      refine om rfl rfl<|oy (xP (m:=0) underlying34 rfl rfl sizeOf32 rfl rfl) rfl<|oy (iF rfl rfl isAgg32 (hS.cell 0 rfl rfl)) rfl<|oy (nG (hS.rd 2 rfl) underlying32 rfl rfl) rfl<|oy (D0 rfl rfl rfl) rfl<|om rfl rfl<|F7 (s:=36) rfl (fun hc7=>?_) (fun hc7=>?_)
      ·replace hG2:=KL hc7 hG2
       refine eQ (xP (m:=0) underlying172 rfl rfl sizeOf25 rfl rfl) (bU rfl rfl rfl (by rw [hc7];rfl)) rfl rfl ?_
       refine eQ (iF rfl rfl isAgg25 (hS.cell 2 rfl rfl)) (bU rfl rfl rfl (by rw [hc7];rfl)) rfl rfl ?_
       refine eQ (nG (hS.rd 3 rfl) underlying25 rfl rfl) (bU rfl rfl rfl (by rw [hc7];rfl)) rfl rfl ?_
       refine eQ (aJW rfl rfl rfl) (bU rfl rfl rfl (by rw [hc7];rfl)) rfl rfl ?_
       refine oy (tC rfl rfl hc7 rfl) rfl<|bA fun a hA=>?_
       exact⟨decide (2 < (x6.aQ.length:Int)),hG2,hA.part ⟨rfl,rfl,rfl,rfl,rfl,rfl,rfl,trivial⟩,((hS).KN [0,1,2] rfl).tD [0,1,2,3] rfl⟩
      ·replace hG2:=KM hc7 hG2
       refine eY (bU rfl rfl rfl (by rw [hc7];rfl)) rfl rfl ?_
       refine eY (bU rfl rfl rfl (by rw [hc7];rfl)) rfl rfl ?_
       refine eY (bU rfl rfl rfl (by rw [hc7];rfl)) rfl rfl ?_
       refine eY (bU rfl rfl rfl (by rw [hc7];rfl)) rfl rfl ?_
       refine oy (yP rfl rfl hc7 rfl) rfl<|bA fun a hA=>?_
       exact⟨false,hG2,hA.part ⟨rfl,rfl,rfl,rfl,rfl,rfl,rfl,trivial⟩,((hS).KN [0,1,2] rfl).tD [0,1,2,3] rfl⟩
     ·skip
      clear hA hS hG2
      rintro a w ⟨x7,hG2,hA,hS⟩
      unfold kE at hG2
      refine lY hA rfl (fun hc3=>?_) (fun hc3=>?_)
      ·replace hG2:=KL hc3 hG2
       refine bJ<|bX hA ?_
       clear hA
       refine oa rfl rfl<|bA fun a hA=>xO ?_
       cases hG2
       have ho:=hr2 _ rfl;subst ho
       replace hF:some false=some r:=hF
       cases hF
       exact fy results213 hA rfl hS
      ·replace hG2:=KM hc3 hG2
       refine nF<|bJ<|bX hA ?_
       clear hA
       refine oy (xP (m:=0) underlying172 rfl rfl sizeOf25 rfl rfl) rfl<|oy (iF rfl rfl isAgg25 (hS.cell 2 rfl rfl)) rfl<|oy (nG (hS.rd 3 rfl) underlying25 rfl rfl) rfl<|om rfl rfl<|bA fun a hA=>?_
       obtain⟨o2,hl3,hG2⟩:=rB hG2
       refine BS (J:=fun a' w'=>∃(x12:List Bool),o2=Out.brk x12/\kN 61 [(1,.pointer (some ⟨b1,0,none⟩)),(3,.pointer (some ⟨b2,0,none⟩)),(24,s4),(25,.int .i64 (((l.Own++l.Global).length:Int))),(26,.int .i64 (x4))] a'/\St (bT w0) w' [BC b1 [s1,s2],BC b2 (List.map (fun q:Bool=>Value.bool q) (x12:List Bool))] [xN [s4] (l.Own++l.Global:List aO),xN [s1] (l.Global:List aO),xN [s2] (l.Own:List aO)]) ?_ ?_
       ·refine kO ?_
        refine H0 (body:=kD x6) (r:=o2) (fun sg a' w'=>kN 61 [(1,.pointer (some ⟨b1,0,none⟩)),(3,.pointer (some ⟨b2,0,none⟩)),(24,s4),(25,.int .i64 (((l.Own++l.Global).length:Int))),(26,.int .i64 (x4)),(43,s5),(44,.int .i64 ((x6.aQ.length:Int))),(45,.int .i64 (sg.1))] a'/\St (bT w0) w' [BC b1 [s1,s2],BC b2 (List.map (fun q:Bool=>Value.bool q) (sg.2:List Bool))] [xN [s4] (l.Own++l.Global:List aO),xN [s5] (x6.aQ:List Int),xN [s1] (l.Global:List aO),xN [s2] (l.Own:List aO)]) ?_ hl3 ⟨hA.part ⟨rfl,rfl,rfl,rfl,rfl,rfl,rfl,rfl,trivial⟩,((hS).KN [0,1] rfl).tD [0,3,1,2] rfl⟩
        clear hA hS hl3
        rintro⟨x10,x11⟩ a w q4 ⟨hA,hS⟩ hG4 hr4
        try dsimp only at hA hS
        unfold kD at hG4
        refine bJ<|bX hA ?_
        clear hA
        refine oy (D0 rfl rfl rfl) rfl<|bA fun a hA=>bJ<|lY hA rfl (fun hc4=>?_) (fun hc4=>?_)
        ·replace hG4:=KL hc4 hG4
         refine nF<|bJ<|kO<|bJ<|bX hA ?_
         clear hA
         obtain⟨x13,hx13,hG4⟩:=rB hG4
         refine oy (OU (m:=1) (hS.rd 1 rfl) rfl hx13 underlying25 sizeOf3 rfl rfl rfl) rfl<|oy (iF rfl rfl isAgg3 (aP9 (aXW (hS.rd 1 rfl) (jQ hx13).2.2))) rfl<|oa rfl rfl<|bA fun a hA=>bJ<|bJ<|BS (J:=fun a' w'=>∃(x14:Bool),mG x10 x11 x13 x14=some q4/\kN 61 [(1,.pointer (some ⟨b1,0,none⟩)),(3,.pointer (some ⟨b2,0,none⟩)),(7,.int .i64 (x13)),(24,s4),(25,.int .i64 (((l.Own++l.Global).length:Int))),(26,.int .i64 (x4)),(43,s5),(44,.int .i64 ((x6.aQ.length:Int))),(45,.int .i64 (x10)),(56,.bool (x14))] a'/\St (bT w0) w' [BC b1 [s1,s2],BC b2 (List.map (fun q:Bool=>Value.bool q) (x11:List Bool))] [xN [s4] (l.Own++l.Global:List aO),xN [s5] (x6.aQ:List Int),xN [s1] (l.Global:List aO),xN [s2] (l.Own:List aO)]) ?_ ?_
         ·skip
          refine bX hA ?_
          clear hA
          refine om rfl rfl ?_
          obtain⟨x16,hx16,hG4⟩:=rB hG4
          refine WK (H4 call204 rfl rfl) (bM rfl) rfl rfl (aCZ (slot:=x13) hx16) ?_
          rintro _ w ⟨rfl,hk⟩
          replace hS:=hS.after hk;clear hk
          refine oy (ZM rfl rfl) rfl<|om rfl rfl<|F7 (s:=52) rfl (fun hc6=>?_) (fun hc6=>?_)
          ·replace hG4:=KL hc6 hG4
           refine eY (bU rfl rfl rfl (by rw [hc6];rfl)) rfl rfl ?_
           refine eY (bU rfl rfl rfl (by rw [hc6];rfl)) rfl rfl ?_
           refine eY (bU rfl rfl rfl (by rw [hc6];rfl)) rfl rfl ?_
           refine oy (tC rfl rfl hc6 rfl) rfl<|bA fun a hA=>?_
           exact⟨true,hG4,hA.part ⟨rfl,rfl,rfl,rfl,rfl,rfl,rfl,rfl,rfl,rfl,trivial⟩,((hS).KN [0,1] rfl).tD [0,1,2,3] rfl⟩
          ·replace hG4:=KM hc6 hG4
           refine eQ (mM rfl rfl) (bU rfl rfl rfl (by rw [hc6];rfl)) rfl rfl ?_
           obtain⟨hn3,hG4⟩:=iG hG4
           refine eQ (YU underlying261 sizeOf4 hn3 rfl rfl rfl) (bU rfl rfl rfl (by rw [hc6];rfl)) rfl rfl ?_
           obtain⟨x17,hx17,hG4⟩:=rB hG4
           refine eQ (iF rfl rfl isAgg4 (hS.aMA 1 rfl hx17)) (bU rfl rfl rfl (by rw [hc6];rfl)) rfl rfl ?_
           refine oy (yP rfl rfl hc6 rfl) rfl<|bA fun a hA=>?_
           exact⟨x17,hG4,hA.part ⟨rfl,rfl,rfl,rfl,rfl,rfl,rfl,rfl,rfl,rfl,trivial⟩,((hS).KN [0,1] rfl).tD [0,1,2,3] rfl⟩
         ·skip
          clear hA hS hG4
          rintro a w ⟨x14,hG4,hA,hS⟩
          unfold mG at hG4
          refine lY hA rfl (fun hc5=>?_) (fun hc5=>?_)
          ·replace hG4:=KL hc5 hG4
           refine bJ<|bX hA ?_
           clear hA
           refine oa rfl rfl<|bA fun a hA=>xO ?_
           cases hG4
           have ho:=hr4 _ rfl;subst ho
           replace hG2:some (.stop (Out.ret false))=some q2:=hG2
           cases hG2
           have ho:=hr2 _ rfl;subst ho
           replace hF:some false=some r:=hF
           cases hF
           exact fy results213 hA rfl hS
          ·replace hG4:=KM hc5 hG4
           refine nF<|bX hA ?_
           clear hA
           refine om rfl rfl ?_
           obtain⟨hn2,hG4⟩:=iG hG4
           refine oy (YU underlying261 sizeOf4 hn2 rfl rfl rfl) rfl ?_
           obtain⟨x15,hx15,hG4⟩:=rB hG4
           refine OS (aQS (xd:=true) hS (m:=1) rfl hx15 sizeOf4 rfl rfl rfl rfl rfl rfl) (bM rfl) rfl ?_
           clear hS
           intro w hS
           refine bA fun a hA=>bX hA ?_
           clear hA
           refine oy (I8 rfl rfl rfl) rfl<|om rfl rfl<|bA fun a hA=>?_
           cases hG4
           exact⟨_,rfl,⟨hA.part ⟨rfl,rfl,rfl,rfl,rfl,rfl,rfl,rfl,trivial⟩,((hS).KN [0,1] rfl).tD [0,1,2,3] rfl⟩⟩
        ·replace hG4:=KM hc4 hG4
         refine HZ<|BQ ?_
         cases hG4
         have ho:=hr4 _ rfl;subst ho
         exact⟨x11,rfl,hA.part ⟨rfl,rfl,rfl,rfl,rfl,trivial⟩,((hS).KN [0,1] rfl).tD [0,2,3] rfl⟩
       ·skip
        clear hA hS hl3
        rintro a w ⟨x12,heq,hA,hS⟩
        replace hG2:wJ x4 x12=some q2:=by rw [heq] at hG2;exact hG2
        clear heq
        unfold wJ at hG2
        refine bX hA ?_
        clear hA
        refine oy (I8 rfl rfl rfl) rfl<|om rfl rfl<|bA fun a hA=>?_
        cases hG2
        exact⟨_,rfl,⟨hA.part ⟨rfl,rfl,rfl,rfl,rfl,trivial⟩,((hS).KN [0,1] rfl).tD [0,1,2] rfl⟩⟩
    ·replace hG2:=KM hc2 hG2
     refine HZ<|BQ ?_
     cases hG2
     have ho:=hr2 _ rfl;subst ho
     exact⟨rfl,hA.part trivial,((hS).KN [] rfl).tD [] rfl⟩
   ·skip
    clear hA hS hl2
    rintro a w ⟨heq,hA,hS⟩
    replace hF:D6=some r:=by rw [heq] at hF;exact hF
    clear heq
    unfold D6 at hF
    refine bJ<|bX hA ?_
    clear hA
    refine oa rfl rfl<|bA fun a hA=>xO ?_
    cases hF
    exact fy results213 hA rfl hS
theorem XT{w0:World}{h:Int}{r:Bool}(hF:fF h=some r) :
    Calls prog 110 #[.int .i64 (h)] w0 (Ret fun v w'=>v=.bool (r)/\St (bT w0) w' [] []):=by
 have hS:St (bT w0) w0 [] []:=St.enter (by
   intro f hf;cases hf)
 refine yQ (args:=[_]) func110 rfl ntmps110 rfl ?_
 unfold fF at hF
 intro a hA
 refine bJ<|bX hA ?_
 clear hA
 refine oa rfl rfl<|bA fun a hA=>bJ<|BS (J:=fun a' w'=>∃(x1:Bool),lG x1=some r/\kN 10 [(2,.bool (x1))] a'/\St (bT w0) w' [] []) ?_ ?_
 ·skip
  refine bX hA ?_
  clear hA
  refine om rfl rfl ?_
  obtain⟨x2,hx2,hF⟩:=rB hF
  refine WK (H4 call46 rfl rfl) (bM rfl) rfl rfl (JY (n:=h) (low:=32) (high:=223) hx2) ?_
  rintro _ w ⟨rfl,hk⟩
  replace hS:=hS.after hk;clear hk
  refine om rfl rfl<|F7 (s:=5) rfl (fun hc1=>?_) (fun hc1=>?_)
  ·replace hF:=KL hc1 hF
   refine eQ (mM rfl rfl) (bU rfl rfl rfl (by rw [hc1];rfl)) rfl rfl ?_
   refine eQ (U3 rfl rfl rfl (by decide)) (bU rfl rfl rfl (by rw [hc1];rfl)) rfl rfl ?_
   refine eQ (D0 rfl rfl rfl) (bU rfl rfl rfl (by rw [hc1];rfl)) rfl rfl ?_
   refine oy (tC rfl rfl hc1 rfl) rfl<|oa rfl rfl<|bA fun a hA=>?_
   exact⟨decide ((Int.tmod h 32) < 24),hF,hA.part ⟨rfl,trivial⟩,((hS).KN [] rfl).tD [] rfl⟩
  ·replace hF:=KM hc1 hF
   refine eY (bU rfl rfl rfl (by rw [hc1];rfl)) rfl rfl ?_
   refine eY (bU rfl rfl rfl (by rw [hc1];rfl)) rfl rfl ?_
   refine eY (bU rfl rfl rfl (by rw [hc1];rfl)) rfl rfl ?_
   refine oy (yP rfl rfl hc1 rfl) rfl<|oa rfl rfl<|bA fun a hA=>?_
   exact⟨false,hF,hA.part ⟨rfl,trivial⟩,((hS).KN [] rfl).tD [] rfl⟩
 ·skip
  clear hA hS hF
  rintro a w ⟨x1,hF,hA,hS⟩
  unfold lG at hF
  refine xO ?_
  cases hF
  exact fy results110 hA rfl hS
theorem VL{w0:World}{l:List a8}{s1:Value}{r:Int}(h1:aC.rd (KH w0) w0 [s1] (l:List a8))(hF:rZ l=some r) :
    Calls prog 268 #[s1] w0 (Ret fun v w'=>v=.int .i64 (r)/\St (bT w0) w' [] []):=by
 have hS:St (bT w0) w0 [] [xN [s1] (l:List a8)]:=St.enter (by
   intro f hf
   simp only [gI,KF,or_false] at hf
   subst hf;exact h1)
 refine yQ (args:=[_]) func268 rfl ntmps268 rfl ?_
 unfold rZ at hF
 intro a hA
 refine bJ<|bX hA ?_
 clear hA
 refine oa rfl rfl<|bA fun a hA=>bJ<|bX hA ?_
 clear hA
 refine oa rfl rfl<|bA fun a hA=>bJ<|bJ<|bX hA ?_
 clear hA
 refine om rfl rfl<|oy (nG (hS.rd 0 rfl) underlying40 rfl rfl) rfl<|om rfl rfl<|bA fun a hA=>?_
 obtain⟨o1,hl1,hF⟩:=rB hF
 refine BS (J:=fun a' w'=>∃(x5:Int),o1=x5/\kN 19 [(3,.int .i64 (x5))] a'/\St (bT w0) w' [] []) ?_ ?_
 ·refine kO ?_
  refine H0 (body:=iK l) (r:=o1) (fun sg a' w'=>kN 19 [(3,.int .i64 (sg.1)),(6,s1),(7,.int .i64 ((l.length:Int))),(8,.int .i64 (sg.2))] a'/\St (bT w0) w' [] [xN [s1] (l:List a8)]) ?_ hl1 ⟨hA.part ⟨rfl,rfl,rfl,rfl,trivial⟩,((hS).KN [] rfl).tD [0] rfl⟩
  clear hA hS hl1
  rintro⟨x3,x4⟩ a w q1 ⟨hA,hS⟩ hG1 hr1
  try dsimp only at hA hS
  unfold iK at hG1
  refine bJ<|bX hA ?_
  clear hA
  refine oy (D0 rfl rfl rfl) rfl<|bA fun a hA=>bJ<|lY hA rfl (fun hc1=>?_) (fun hc1=>?_)
  ·replace hG1:=KL hc1 hG1
   refine nF<|bJ<|kO<|bJ<|bX hA ?_
   clear hA
   obtain⟨x6,hx6,hG1⟩:=rB hG1
   refine oy (OU (m:=1) (hS.rd 0 rfl) rfl hx6 underlying40 sizeOf175 rfl rfl rfl) rfl ?_
   obtain⟨s2,hel,hS⟩:=hS.aIA 0 rfl (jQ hx6).2.2
   refine oy (OT rfl rfl isAgg175 sizeOf175 rfl hel) rfl<|I7 (KJ (cs:=[(.slice none 0 0)]) hS rfl zeroValue175 rfl) (bM rfl) rfl rfl ?_
   clear hS
   rintro _ w ⟨b1,rfl,hS⟩
   refine OS (RX (vs:=[s2]) hS (i:=0) rfl rfl rfl rfl rfl sizeOf175 rfl rfl (aXY (ZU (hS.rd 1 rfl)) rfl)) (bM rfl) rfl ?_
   clear hS
   intro w hS
   refine bA fun a hA=>bX hA ?_
   clear hA
   refine om rfl rfl<|oy (xP (m:=0) underlying175 rfl rfl sizeOf110 rfl rfl) rfl<|oy (iF rfl rfl isAgg110 (hS.cell 0 rfl rfl)) rfl<|oy (nG (hS.rd 1 rfl) underlying110 rfl rfl) rfl<|oy (I8 rfl rfl rfl) rfl<|oa rfl rfl<|bA fun a hA=>bX hA ?_
   clear hA
   refine oy (I8 rfl rfl rfl) rfl<|om rfl rfl<|bA fun a hA=>?_
   cases hG1
   exact⟨_,rfl,⟨hA.part ⟨rfl,rfl,rfl,rfl,trivial⟩,((hS).KN [] rfl).tD [0] rfl⟩⟩
  ·replace hG1:=KM hc1 hG1
   refine HZ<|BQ ?_
   cases hG1
   have ho:=hr1 _ rfl;subst ho
   exact⟨x3,rfl,hA.part ⟨rfl,trivial⟩,((hS).KN [] rfl).tD [] rfl⟩
 ·skip
  clear hA hS hl1
  rintro a w ⟨x5,heq,hA,hS⟩
  replace hF:AB x5=some r:=by rw [heq] at hF;exact hF
  clear heq
  unfold AB at hF
  refine bJ<|bX hA ?_
  clear hA
  refine om rfl rfl<|oa rfl rfl<|bA fun a hA=>xO ?_
  cases hF
  exact fy results268 hA rfl hS
theorem aAO{w0:World}{l:List a8}{s1:Value}{r:Bool}(h1:aC.rd (KH w0) w0 [s1] (l:List a8))(hF:mS l=some r) :
    Calls prog 239 #[s1] w0 (Ret fun v w'=>v=.bool (r)/\St (bT w0) w' [] []):=by
 have hS:St (bT w0) w0 [] [xN [s1] (l:List a8)]:=St.enter (by
   intro f hf
   simp only [gI,KF,or_false] at hf
   subst hf;exact h1)
 refine yQ (args:=[_]) func239 rfl ntmps239 rfl ?_
 unfold mS at hF
 intro a hA
 refine bJ<|bX hA ?_
 clear hA
 refine oa rfl rfl<|bA fun a hA=>bJ<|bJ<|bX hA ?_
 clear hA
 refine om rfl rfl<|oy (nG (hS.rd 0 rfl) underlying40 rfl rfl) rfl<|oy (aE4 rfl rfl rfl) rfl<|bA fun a hA=>lY hA rfl (fun hc1=>?_) (fun hc1=>?_)
 ·replace hF:=KL hc1 hF
  refine bJ<|bX hA ?_
  clear hA
  refine oa rfl rfl<|bA fun a hA=>xO ?_
  cases hF
  exact fy results239 hA rfl hS
 ·replace hF:=KM hc1 hF
  refine nF<|bJ<|bX hA ?_
  clear hA
  refine oy (U5 (cells:=#[.bool (false),.bool (false),.bool (false),.bool (false),.bool (false),.bool (false),.bool (false),.bool (false),.bool (false),.bool (false),.bool (false),.bool (false),.bool (false),.bool (false),.bool (false),.bool (false),.bool (false),.bool (false),.bool (false),.bool (false),.bool (false),.bool (false),.bool (false),.bool (false)]) rfl zeroValue261 underlying261 sizeOf4 rfl rfl) rfl<|I7 (KJ (cs:=List.map (fun q:Bool=>Value.bool q) [false,false,false,false,false,false,false,false,false,false,false,false,false,false,false,false,false,false,false,false,false,false,false,false]) hS rfl zeroValue261 rfl) (bM rfl) rfl rfl ?_
  clear hS
  rintro _ w ⟨b1,rfl,hS⟩
  refine OS (RX (vs:=[.bool (false),.bool (false),.bool (false),.bool (false),.bool (false),.bool (false),.bool (false),.bool (false),.bool (false),.bool (false),.bool (false),.bool (false),.bool (false),.bool (false),.bool (false),.bool (false),.bool (false),.bool (false),.bool (false),.bool (false),.bool (false),.bool (false),.bool (false),.bool (false)]) hS (i:=0) rfl rfl rfl rfl rfl sizeOf261 rfl rfl rfl) (bM rfl) rfl ?_
  clear hS
  intro w hS
  refine bA fun a hA=>bJ<|bJ<|bX hA ?_
  clear hA
  refine om rfl rfl<|oy (nG (hS.rd 0 rfl) underlying40 rfl rfl) rfl<|om rfl rfl<|bA fun a hA=>?_
  obtain⟨o1,hl1,hF⟩:=rB hF
  refine BS (J:=fun a' w'=>o1=Out.brk ()/\kN 51 [(0,s1)] a'/\St (bT w0) w' [] [xN [s1] (l:List a8)]) ?_ ?_
  ·refine kO ?_
   refine H0 (body:=kJ l) (r:=o1) (fun sg a' w'=>kN 51 [(0,s1),(3,.pointer (some ⟨b1,0,none⟩)),(12,s1),(13,.int .i64 ((l.length:Int))),(14,.int .i64 (sg.1))] a'/\St (bT w0) w' [BC b1 (List.map (fun q:Bool=>Value.bool q) (sg.2:List Bool))] [xN [s1] (l:List a8)]) ?_ hl1 ⟨hA.part ⟨rfl,rfl,rfl,rfl,rfl,trivial⟩,((hS).KN [0] rfl).tD [0] rfl⟩
   clear hA hS hl1
   rintro⟨x3,x4⟩ a w q1 ⟨hA,hS⟩ hG1 hr1
   try dsimp only at hA hS
   unfold kJ at hG1
   refine bJ<|bX hA ?_
   clear hA
   refine oy (D0 rfl rfl rfl) rfl<|bA fun a hA=>bJ<|lY hA rfl (fun hc2=>?_) (fun hc2=>?_)
   ·replace hG1:=KL hc2 hG1
    refine nF<|bJ<|kO<|bJ<|bX hA ?_
    clear hA
    obtain⟨x6,hx6,hG1⟩:=rB hG1
    refine oy (OU (m:=1) (hS.rd 0 rfl) rfl hx6 underlying40 sizeOf175 rfl rfl rfl) rfl ?_
    obtain⟨s2,hel,hS⟩:=hS.aIA 0 rfl (jQ hx6).2.2
    refine oy (OT rfl rfl isAgg175 sizeOf175 rfl hel) rfl<|I7 (KJ (cs:=[(.slice none 0 0)]) hS rfl zeroValue175 rfl) (bM rfl) rfl rfl ?_
    clear hS
    rintro _ w ⟨b2,rfl,hS⟩
    refine OS (RX (vs:=[s2]) hS (i:=1) rfl rfl rfl rfl rfl sizeOf175 rfl rfl (aXY (ZU (hS.rd 1 rfl)) rfl)) (bM rfl) rfl ?_
    clear hS
    intro w hS
    refine bA fun a hA=>bJ<|bX hA ?_
    clear hA
    refine oy (xP (m:=0) underlying175 rfl rfl sizeOf110 rfl rfl) rfl<|oy (iF rfl rfl isAgg110 (hS.cell 1 rfl rfl)) rfl<|oy (nG (hS.rd 1 rfl) underlying110 rfl rfl) rfl<|om rfl rfl<|bA fun a hA=>?_
    obtain⟨o2,hl2,hG1⟩:=rB hG1
    refine BS (J:=fun a' w'=>∃(x11:List Bool),o2=Out.brk x11/\kN 51 [(0,s1),(3,.pointer (some ⟨b1,0,none⟩)),(12,s1),(13,.int .i64 ((l.length:Int))),(14,.int .i64 (x3))] a'/\St (bT w0) w' [BC b1 (List.map (fun q:Bool=>Value.bool q) (x11:List Bool))] [xN [s1] (l:List a8)]) ?_ ?_
    ·refine kO ?_
     refine H0 (body:=kI x6) (r:=o2) (fun sg a' w'=>kN 51 [(0,s1),(3,.pointer (some ⟨b1,0,none⟩)),(12,s1),(13,.int .i64 ((l.length:Int))),(14,.int .i64 (x3)),(19,s2),(20,.int .i64 ((x6.Rows.length:Int))),(21,.int .i64 (sg.1))] a'/\St (bT w0) w' [BC b1 (List.map (fun q:Bool=>Value.bool q) (sg.2:List Bool))] [xN [s1] (l:List a8),xN [s2] (x6.Rows:List dI)]) ?_ hl2 ⟨hA.part ⟨rfl,rfl,rfl,rfl,rfl,rfl,rfl,rfl,trivial⟩,((hS).KN [0] rfl).tD [0,1] rfl⟩
     clear hA hS hl2
     rintro⟨x9,x10⟩ a w q2 ⟨hA,hS⟩ hG2 hr2
     try dsimp only at hA hS
     unfold kI at hG2
     refine bJ<|bX hA ?_
     clear hA
     refine oy (D0 rfl rfl rfl) rfl<|bA fun a hA=>bJ<|lY hA rfl (fun hc3=>?_) (fun hc3=>?_)
     ·replace hG2:=KL hc3 hG2
      refine nF<|bJ<|kO<|bJ<|bX hA ?_
      clear hA
      obtain⟨x12,hx12,hG2⟩:=rB hG2
      refine oy (OU (m:=2) (hS.rd 1 rfl) rfl hx12 underlying110 sizeOf114 rfl rfl rfl) rfl<|oy (OT rfl rfl isAgg114 sizeOf114 rfl (aV2 (hS.rd 1 rfl) (jQ hx12).2.2)) rfl<|I7 (KJ (cs:=[.int .i64 (0),.int .i64 (0)]) hS rfl zeroValue114 rfl) (bM rfl) rfl rfl ?_
      clear hS
      rintro _ w ⟨b3,rfl,hS⟩
      refine OS (RX (vs:=[.int .i64 (x12.Handle),.int .i64 (x12.aN)]) hS (i:=1) rfl rfl rfl rfl rfl sizeOf114 rfl rfl rfl) (bM rfl) rfl ?_
      clear hS
      intro w hS
      refine bA fun a hA=>bJ<|bJ<|BS (J:=fun a' w'=>∃(x13:Bool),iQ x9 x10 x12 x13=some q2/\kN 51 [(0,s1),(3,.pointer (some ⟨b1,0,none⟩)),(7,.pointer (some ⟨b3,0,none⟩)),(12,s1),(13,.int .i64 ((l.length:Int))),(14,.int .i64 (x3)),(19,s2),(20,.int .i64 ((x6.Rows.length:Int))),(21,.int .i64 (x9)),(41,.bool (x13))] a'/\St (bT w0) w' [BC b1 (List.map (fun q:Bool=>Value.bool q) (x10:List Bool)),BC b3 [.int .i64 (x12.Handle),.int .i64 (x12.aN)]] [xN [s1] (l:List a8),xN [s2] (x6.Rows:List dI)]) ?_ ?_
      ·skip
       refine bX hA ?_
       clear hA
       refine oy (xP (m:=0) underlying114 rfl rfl sizeOf3 rfl rfl) rfl<|oy (iF rfl rfl isAgg3 (hS.cell 1 rfl rfl)) rfl ?_
       obtain⟨x15,hx15,hG2⟩:=rB hG2
       refine WK (H4 call110 rfl rfl) (bM rfl) rfl rfl (XT (h:=x12.Handle) hx15) ?_
       rintro _ w ⟨rfl,hk⟩
       replace hS:=hS.after hk;clear hk
       refine oy (ZM rfl rfl) rfl<|om rfl rfl<|F7 (s:=29) rfl (fun hc5=>?_) (fun hc5=>?_)
       ·replace hG2:=KL hc5 hG2
        refine eY (bU rfl rfl rfl (by rw [hc5];rfl)) rfl rfl ?_
        refine eY (bU rfl rfl rfl (by rw [hc5];rfl)) rfl rfl ?_
        refine eY (bU rfl rfl rfl (by rw [hc5];rfl)) rfl rfl ?_
        refine eY (bU rfl rfl rfl (by rw [hc5];rfl)) rfl rfl ?_
        refine oy (tC rfl rfl hc5 rfl) rfl<|om rfl rfl<|eY (bU rfl rfl rfl rfl) rfl rfl<|eY (bU rfl rfl rfl rfl) rfl rfl<|eY (bU rfl rfl rfl rfl) rfl rfl<|eY (bU rfl rfl rfl rfl) rfl rfl<|eY (bU rfl rfl rfl rfl) rfl rfl<|oy (tC rfl rfl rfl rfl) rfl<|bA fun a hA=>?_
        exact⟨true,hG2,hA.part ⟨rfl,rfl,rfl,rfl,rfl,rfl,rfl,rfl,rfl,rfl,trivial⟩,((hS).KN [0,1] rfl).tD [0,1] rfl⟩
       ·replace hG2:=KM hc5 hG2
        refine eQ (xP (m:=0) underlying114 rfl rfl sizeOf3 rfl rfl) (bU rfl rfl rfl (by rw [hc5];rfl)) rfl rfl ?_
        refine eQ (iF rfl rfl isAgg3 (hS.cell 1 rfl rfl)) (bU rfl rfl rfl (by rw [hc5];rfl)) rfl rfl ?_
        obtain⟨x16,hx16,hG2⟩:=rB hG2
        refine WK (H4 call46 rfl rfl) (bU rfl rfl rfl (by rw [hc5];rfl)) rfl rfl (JY (n:=x12.aN) (low:=0) (high:=100000) hx16) ?_
        rintro _ w ⟨rfl,hk⟩
        replace hS:=hS.after hk;clear hk
        refine eQ (ZM rfl rfl) (bU rfl rfl rfl (by rw [hc5];rfl)) rfl rfl ?_
        refine oy (yP rfl rfl hc5 rfl) rfl<|om rfl rfl<|F7 (s:=35) rfl (fun hc6=>?_) (fun hc6=>?_)
        ·replace hG2:=KL hc6 hG2
         refine eY (bU rfl rfl rfl (by rw [hc6];rfl)) rfl rfl ?_
         refine eY (bU rfl rfl rfl (by rw [hc6];rfl)) rfl rfl ?_
         refine eY (bU rfl rfl rfl (by rw [hc6];rfl)) rfl rfl ?_
         refine eY (bU rfl rfl rfl (by rw [hc6];rfl)) rfl rfl ?_
         refine eY (bU rfl rfl rfl (by rw [hc6];rfl)) rfl rfl ?_
         refine oy (tC rfl rfl hc6 rfl) rfl<|bA fun a hA=>?_
         exact⟨true,hG2,hA.part ⟨rfl,rfl,rfl,rfl,rfl,rfl,rfl,rfl,rfl,rfl,trivial⟩,((hS).KN [0,1] rfl).tD [0,1] rfl⟩
        ·replace hG2:=KM hc6 hG2
         refine eQ (xP (m:=0) underlying114 rfl rfl sizeOf3 rfl rfl) (bU rfl rfl rfl (by rw [hc6];rfl)) rfl rfl ?_
         refine eQ (iF rfl rfl isAgg3 (hS.cell 1 rfl rfl)) (bU rfl rfl rfl (by rw [hc6];rfl)) rfl rfl ?_
         refine eQ (U3 rfl rfl rfl (by decide)) (bU rfl rfl rfl (by rw [hc6];rfl)) rfl rfl ?_
         obtain⟨hn2,hG2⟩:=iG hG2
         refine eQ (YU underlying261 sizeOf4 hn2 rfl rfl rfl) (bU rfl rfl rfl (by rw [hc6];rfl)) rfl rfl ?_
         obtain⟨x17,hx17,hG2⟩:=rB hG2
         refine eQ (iF rfl rfl isAgg4 (hS.aMA 0 rfl hx17)) (bU rfl rfl rfl (by rw [hc6];rfl)) rfl rfl ?_
         refine oy (yP rfl rfl hc6 rfl) rfl<|bA fun a hA=>?_
         exact⟨x17,hG2,hA.part ⟨rfl,rfl,rfl,rfl,rfl,rfl,rfl,rfl,rfl,rfl,trivial⟩,((hS).KN [0,1] rfl).tD [0,1] rfl⟩
      ·skip
       clear hA hS hG2
       rintro a w ⟨x13,hG2,hA,hS⟩
       unfold iQ at hG2
       refine lY hA rfl (fun hc4=>?_) (fun hc4=>?_)
       ·replace hG2:=KL hc4 hG2
        refine bJ<|bX hA ?_
        clear hA
        refine oa rfl rfl<|bA fun a hA=>xO ?_
        cases hG2
        have ho:=hr2 _ rfl;subst ho
        replace hG1:some (.stop (Out.ret false))=some q1:=hG1
        cases hG1
        have ho:=hr1 _ rfl;subst ho
        replace hF:some false=some r:=hF
        cases hF
        exact fy results239 hA rfl hS
       ·replace hG2:=KM hc4 hG2
        refine nF<|bX hA ?_
        clear hA
        refine oy (xP (m:=0) underlying114 rfl rfl sizeOf3 rfl rfl) rfl<|oy (iF rfl rfl isAgg3 (hS.cell 1 rfl rfl)) rfl<|oy (U3 rfl rfl rfl (by decide)) rfl ?_
        obtain⟨hn1,hG2⟩:=iG hG2
        refine oy (YU underlying261 sizeOf4 hn1 rfl rfl rfl) rfl ?_
        obtain⟨x14,hx14,hG2⟩:=rB hG2
        refine OS (aQS (xd:=true) hS (m:=0) rfl hx14 sizeOf4 rfl rfl rfl rfl rfl rfl) (bM rfl) rfl ?_
        clear hS
        intro w hS
        refine bA fun a hA=>bX hA ?_
        clear hA
        refine oy (I8 rfl rfl rfl) rfl<|om rfl rfl<|bA fun a hA=>?_
        cases hG2
        exact⟨_,rfl,⟨hA.part ⟨rfl,rfl,rfl,rfl,rfl,rfl,rfl,rfl,trivial⟩,((hS).KN [0] rfl).tD [0,1] rfl⟩⟩
     ·replace hG2:=KM hc3 hG2
      refine HZ<|BQ ?_
      cases hG2
      have ho:=hr2 _ rfl;subst ho
      exact⟨x10,rfl,hA.part ⟨rfl,rfl,rfl,rfl,rfl,trivial⟩,((hS).KN [0] rfl).tD [0] rfl⟩
    ·skip
     clear hA hS hl2
     rintro a w ⟨x11,heq,hA,hS⟩
     replace hG1:wP x3 x11=some q1:=by rw [heq] at hG1;exact hG1
     clear heq
     unfold wP at hG1
     refine bX hA ?_
     clear hA
     refine oy (I8 rfl rfl rfl) rfl<|om rfl rfl<|bA fun a hA=>?_
     cases hG1
     exact⟨_,rfl,⟨hA.part ⟨rfl,rfl,rfl,rfl,rfl,trivial⟩,((hS).KN [0] rfl).tD [0] rfl⟩⟩
   ·replace hG1:=KM hc2 hG1
    refine HZ<|BQ ?_
    cases hG1
    have ho:=hr1 _ rfl;subst ho
    exact⟨rfl,hA.part ⟨rfl,trivial⟩,((hS).KN [] rfl).tD [0] rfl⟩
  ·skip
   clear hA hS hl1
   rintro a w ⟨heq,hA,hS⟩
   replace hF:wO l=some r:=by rw [heq] at hF;exact hF
   clear heq
   unfold wO at hF
   refine bJ<|bX hA ?_
   clear hA
   refine om rfl rfl ?_
   obtain⟨x5,hx5,hF⟩:=rB hF
   refine WK (H4 call268 rfl rfl) (bM rfl) rfl rfl (VL (l:=l) (hS.rd 0 rfl) hx5) ?_
   rintro _ w ⟨rfl,hk⟩
   replace hS:=hS.after hk;clear hk
   refine oy (aJV rfl rfl rfl) rfl<|oa rfl rfl<|bA fun a hA=>xO ?_
   cases hF
   exact fy results239 hA rfl hS
noncomputable section
open Go.RowKit Go.Shelf Go.Lib Go.Gv
set_option maxRecDepth 100000
set_option maxHeartbeats 4000000
theorem aIC(b off n c i vb:Nat)(cs vs:List Value)(w:World)(hi:i < n)(hroom:n+1<=c)(hc63:c<=9223372036854775807)(hvb:vb≠b)(hcl:cs.length=n * 3)(hvl:vs.length=3)
  (hcs:aV w b off cs) (hsp:∀j,j < c * 3->(w.cell? ⟨b,off+j,none⟩).isSome=true) (hfz:∀j,j < c * 3->w.frozen? ⟨b,off+j,none⟩=false)
  (hvs:aV w vb 0 vs) (h1c:∀v∈cs,v.oneCell'=true) (h1v:∀v∈vs,v.oneCell'=true)
  (tA tB:TypeId) (kA kB:Nat) (hsa:w.shape? vb=some (tA,kA)) (hsb:w.shape? b=some (tB,kB)) (hkB:kB≠0) (hfa:w.frozen? ⟨vb,0,none⟩=false) (hfe:w.frozen? ⟨vb,kA,none⟩=false) :
  Calls prog 203 #[.slice (some ⟨b,off,none⟩) n c,.int .i64 i,.slice (some ⟨vb,0,none⟩) 1 1] w fun e w'=>
   e=.returned (.slice (some ⟨b,off,none⟩) (n+1) c)/\w'=(w.drew.setCells b (off+(i+1) * 3) (cs.drop (i * 3))).setCells b (off+i * 3) vs:=by
 have u0:=run_underlying underlying62
 have hz2:¬((i:Int)=(n:Int)):=by omega
 have hsz:(prog.info? 119).map (·.size)=some 3:=by kernel_rfl
 have hov:∀lb cb,(callFunc 242 #[.slice (some ⟨vb,0,none⟩) 1 1,.slice (some ⟨b,off+(i+1) * 3,none⟩) lb cb]).run prog w=.ok (.value (.bool false)) w:=fun lb cb=>by
  rw [run_callFunc_extern func242 (by kernel_rfl) (by kernel_rfl) (by kernel_rfl) (e:=Extern.SlicesOverlaps.overlaps #[62,62] #[4]) (by kernel_rfl),
   Lib.run_overlaps_apart w 62 4 119 underlying62 3 sizeOf119 ⟨vb,0,none⟩ ⟨b,off+(i+1) * 3,none⟩ 1 1 lb cb hvb tA tB kA kB hsa hsb hkB hfa hfe]
  rfl
 have hdl:(cs.drop (i * 3)).length=(n - i) * 3:=by rw [ES,hcl];omega
 have mixed:=aD
 have hw1:IntKind.i64.wrap ((i:Int)+1)=(i:Int)+1:=by rw [IntKind.wrap_i64];omega
 have hw2:IntKind.i64.wrap ((n:Int)+1)=(n:Int)+1:=by rw [IntKind.wrap_i64];omega
 have hb1:(0:Int)<=(i:Int)+1:=by omega
 have hin:i<=n:=by omega
 have htn:((i:Int)+1).toNat=i+1:=by omega
 have htm:((n:Int)+1).toNat=n+1:=by omega
 have hb2:¬(c=i+1):=by omega
 have hb3:(i:Int)<=(n:Int)+1:=by omega
 have hb4:¬(c=i):=by omega
 have hcp1:∀ty dc sc,(Builtin.copy_ #[62,62] ty #[.slice (some ⟨b,off+(i+1) * 3,none⟩) (n - i) dc,.slice (some ⟨b,off+i * 3,none⟩) (n+1 - i) sc]).run prog w.drew=.ok (goInt (n - i:Nat)) (w.drew.setCells b (off+(i+1) * 3) (cs.drop (i * 3))):=fun ty dc sc=>
  L8 w.drew _ _ ty 119 3 b (off+(i+1) * 3) (n - i) dc ⟨b,off+i * 3,none⟩ (n+1 - i) sc (n - i) (cs.drop (i * 3)) underlying62 hsz (by simp only [Nat.min_def];split <;> omega) hdl
   (fun j v hj=>by rw [Addr.add_lit,ET];exact hcs (i * 3+j) v (by rwa [OO] at hj))
   (fun j hj=>by rw [ET];exact hsp _ (by omega)) (fun j hj=>by rw [ET];exact hfz _ (by omega)) (fun v hv=>h1c v (ZH hv))
 obtain⟨W1,hW1⟩:∃W1,W1=w.drew.setCells b (off+(i+1) * 3) (cs.drop (i * 3)):=⟨_,rfl⟩
 have hsp1:∀k,k < c * 3->(W1.cell? ⟨b,off+k,none⟩).isSome=true:=fun k hk=>by
  rw [hW1]
  exact isSome_setCells b _ _ _ (fun j hj=>by rw [ET];exact hsp _ (by omega)) _ (hsp k hk)
 have hcp2:∀(W:World),(∀x,W.cell? x=W1.cell? x)->(∀x,W.frozen? x=W1.frozen? x)->∀ty dc,(Builtin.copy_ #[62,62] ty #[.slice (some ⟨b,off+i * 3,none⟩) (n+1 - i) dc,.slice (some ⟨vb,0,none⟩) 1 1]).run prog W=.ok (goInt 1) (W.setCells b (off+i * 3) vs):=fun W hWc hWf ty dc=>
  L8 W _ _ ty 119 3 b (off+i * 3) (n+1 - i) dc ⟨vb,0,none⟩ 1 1 1 vs underlying62 hsz (by simp only [Nat.min_def];split <;> omega) (by rw [hvl])
   (fun j v hj=>by
    rw [Addr.add_lit,hWc,hW1,World.cell?_setCells_out b _ _ _ _ (fun h _=>absurd h hvb)]
    exact hvs j v hj)
   (fun j hj=>by rw [hWc,ET];exact hsp1 _ (by omega)) (fun j hj=>by rw [hWf,hW1,World.frozen?_setCells,ET];exact hfz _ (by omega)) h1v
 rw [<-hW1] at hcp1
 go_enter func203,ntmps203
 go_wp2_with (simp only [hov])
 go_region_law_o (refine step_copy_runI rfl _ _ 62 62 rfl _ _ (by simp [Act.eval,Act.put]) (by simp [Act.eval,Act.put]) (hcp1 _ _ _) ?_)
 go_wp2_with (at_builtin;refine wpList_copy_runI _ rfl _ _ 62 62 rfl _ _ rfl rfl (hcp2 _ (fun _=>rfl) (fun _=>rfl) _ _) ?_)
 go_ret
 first | exact⟨rfl,rfl⟩ | exact⟨rfl,by rw [hW1]⟩
end
noncomputable section
open Go.RowKit Go.Shelf Go.Lib Go.Gv
set_option maxRecDepth 100000
set_option maxHeartbeats 4000000
theorem aKQ(b off n c vb:Nat)(vs:List Value)(w:World)(hroom:n+1<=c)(hc63:c<=9223372036854775807)(hvl:vs.length=3)
  (hsp:∀j,j < c * 3->(w.cell? ⟨b,off+j,none⟩).isSome=true) (hfz:∀j,j < c * 3->w.frozen? ⟨b,off+j,none⟩=false) (hvs:aV w vb 0 vs) (h1v:∀v∈vs,v.oneCell'=true) :
  Calls prog 203 #[.slice (some ⟨b,off,none⟩) n c,.int .i64 n,.slice (some ⟨vb,0,none⟩) 1 1] w fun e w'=>
   e=.returned (.slice (some ⟨b,off,none⟩) (n+1) c)/\w'=w.setCells b (off+n * 3) vs:=by
 have u0:=run_underlying underlying62
 have mixed:=aD
 obtain⟨i0,hi0,hz0,hzs,hzb⟩:=sO
 have hsrc:Src prog i0.size 62 (.slice (some ⟨vb,0,none⟩) 1 1) 1 vs w:=by rw [hzs];exact Src.ofSlice w underlying62 ⟨vb,0,none⟩ 1 1 vs (by omega) (fun j u hj=>by rw [Addr.add_lit];exact hvs j u hj) h1v
 have hrun:=run_append_room_src w 62 62 62 119 i0 underlying62 hi0 b off n c (.slice (some ⟨vb,0,none⟩) 1 1) 1 vs hsrc hroom (by rw [hzs,hvl];exact fun j hj=>by rw [ET];exact hsp _ (by omega)) (by rw [hzs,hvl];exact fun j hj=>by rw [ET];exact hfz _ (by omega))
 rw [hzs] at hrun
 go_enter func203,ntmps203
 go_wp2_with (at_builtin;refine Lib.wpList_append_run _ rfl _ _ _ _ rfl _ _ rfl rfl _ _ hrun ?_)
 go_ret
 exact⟨rfl,rfl⟩
theorem aOW(base:Option Addr)(n c vb:Nat)(cs vs:List Value)(w:World)(hnc:n<=c)(hroom:c < n+1)(hbig:n+1<=1073741824)(hcl:cs.length=n * 3)(hvl:vs.length=3)(hnil:base=none->n=0)
  (hcs:∀a,base=some a->∀j v,cs[j]?=some v->w.cell? (a.add j)=some v) (hvs:aV w vb 0 vs) (h1v:∀v∈vs,v.oneCell'=true) :
  Calls prog 203 #[.slice base n c,.int .i64 n,.slice (some ⟨vb,0,none⟩) 1 1] w fun e w'=>
   e=.returned (.slice (some ⟨w.heap.size,0,none⟩) (n+1) (grownCap w (n+1) c 119)) /\
   w'=w.drew.alloc (.cells ((cs++vs).toArray++Builtin.zeroCells (.agg #[.int .i64 0,.bool false,.int .i64 0]:Value).cells (grownCap w (n+1) c 119 - (n+1))) 119):=by
 have u0:=run_underlying underlying62
 have mixed:=aD
 obtain⟨i0,hi0,hz0,hzs,hzb⟩:=sO
 have hsrc:Src prog i0.size 62 (.slice (some ⟨vb,0,none⟩) 1 1) 1 vs w:=by rw [hzs];exact Src.ofSlice w underlying62 ⟨vb,0,none⟩ 1 1 vs (by omega) (fun j u hj=>by rw [Addr.add_lit];exact hvs j u hj) h1v
 have hold:(Builtin.firstCells i0.size n (.slice base n c)).run prog w.drew=.ok cs.toArray w.drew:=by
  rw [hzs]
  cases base with
  | none =>
   have h0:=hnil rfl
   subst h0
   rw [List.length_eq_zero_iff.1 (by omega:cs.length=0)]
   exact run_firstCells_none w.drew 3 0 0 c
  | some a=>exact run_firstCells_some w.drew 3 n a n c cs hcl (fun j v hj=>hcs a rfl j v hj)
 have hfit:Builtin.nextslicecap (n+1) c * i0.bytes<=281474976710656:=growslice_fits hroom (qZ (Nat.mul_le_mul hbig hzb) (by decide))
 have hrun:=run_append_grow_src w 62 62 62 119 i0 _ underlying62 hi0 hz0 base n c cs hold _ 1 vs hsrc hroom (by omega) hfit
 go_enter func203,ntmps203
 cases base with
 | none =>
  have h0:=hnil rfl
  subst h0
  go_wp2_with (at_builtin;refine Lib.wpList_append_run _ rfl _ _ _ _ rfl _ _ rfl rfl _ _ hrun ?_)
  go_ret
  exact⟨rfl,rfl⟩
 | some a =>
  obtain⟨ab,ao,asp⟩:=a
  go_wp2_with (at_builtin;refine Lib.wpList_append_run _ rfl _ _ _ _ rfl _ _ rfl rfl _ _ hrun ?_)
  all_goals (go_ret;exact⟨rfl,rfl⟩)
theorem aKR(b off n c i vb:Nat)(cs vs:List Value)(w:World)(hi:i < n)(hnc:n<=c)(hroom:c < n+1)(hbig:n+1<=1073741824)(hcl:cs.length=n * 3)(hvl:vs.length=3)
  (hcs:aV w b off cs) (hvs:aV w vb 0 vs) (h1c:∀v∈cs,v.oneCell'=true) (h1v:∀v∈vs,v.oneCell'=true) :
  Calls prog 203 #[.slice (some ⟨b,off,none⟩) n c,.int .i64 i,.slice (some ⟨vb,0,none⟩) 1 1] w fun e w'=>
   e=.returned (.slice (some ⟨w.heap.size,0,none⟩) (n+1) (grownCap w (n+1) c 119)) /\
   w'=(((w.alloc (.cells ((cs.take (i * 3)).toArray++Builtin.zeroCells (.agg #[.int .i64 0,.bool false,.int .i64 0]:Value).cells (n+1 - i)++Builtin.zeroCells (.agg #[.int .i64 0,.bool false,.int .i64 0]:Value).cells (grownCap w (n+1) c 119 - (n+1))) 119)).drew.setCells w.heap.size (i * 3) vs).drew).setCells w.heap.size ((i+1) * 3) (cs.drop (i * 3)):=by
 have u0:=run_underlying underlying62
 have u3:=run_underlying underlying3
 have mixed:=aD
 obtain⟨i0,hi0,hz0,hzs,hzb⟩:=sO
 have hz2:¬((i:Int)=(n:Int)):=by omega
 have hz3:(c:Int) < (n:Int)+1:=by omega
 have hsz:(prog.info? 119).map (·.size)=some 3:=by rw [hi0];simp [hzs]
 have hbw:b < w.heap.size:=block_lt_of_cell (hcs 0 _ (fO (by omega)))
 have hvw:vb < w.heap.size:=block_lt_of_cell (hvs 0 _ (fO (by omega)))
 have hkk:(n:Int)+1 - (i:Int)=((n+1 - i:Nat):Int):=by omega
 have hik:i+(n+1 - i)=n+1:=by omega
 have htl:(cs.take (i * 3)).length=i * 3:=by rw [yN];omega
 have hold:(Builtin.firstCells i0.size i (.slice (some ⟨b,off,none⟩) i c)).run prog w.drew=.ok (cs.take (i * 3)).toArray w.drew:=by
  rw [hzs]
  exact run_firstCells_some w.drew 3 i ⟨b,off,none⟩ i c (cs.take (i * 3)) htl (fun j v hj=>by
   rw [Addr.add_lit]
   rw [BK] at hj
   split at hj
   ·exact hcs j v hj
   ·cases hj)
 have hfit:Builtin.nextslicecap (n+1) c * i0.bytes<=281474976710656:=growslice_fits hroom (qZ (Nat.mul_le_mul hbig hzb) (by decide))
 have hrz:∀ty,(Builtin.append_ #[62,3] ty #[.slice (some ⟨b,off,none⟩) i c,.int .i64 ((n:Int)+1 - (i:Int))]).run prog w =
   .ok (.slice (some ⟨w.heap.size,0,none⟩) (n+1) (grownCap w (n+1) c 119)) (w.drew.alloc (.cells ((cs.take (i * 3)).toArray++Builtin.zeroCells (.agg #[.int .i64 0,.bool false,.int .i64 0]:Value).cells (n+1 - i)++Builtin.zeroCells (.agg #[.int .i64 0,.bool false,.int .i64 0]:Value).cells (grownCap w (n+1) c 119 - (n+1))) 119)):=fun ty=>by
  have h:=Lib.run_append_grow_zeros w 62 3 ty 119 i0 _ .i64 .i64 underlying62 underlying3 hi0 hz0 (some ⟨b,off,none⟩) i c (cs.take (i * 3)) hold (n+1 - i) (by omega) (by omega) (by omega) (by omega) (qZ (Nat.mul_le_mul (show n+1 - i<=1073741824 by omega) hzb) (by decide)) (by rw [hik];exact hfit)
  rw [hik] at h
  rw [hkk]
  exact h
 obtain⟨G,hG⟩:∃G,G=grownCap w (n+1) c 119:=⟨_,rfl⟩
 obtain⟨ROW,hROW⟩:∃ROW:Array Value,ROW=(cs.take (i * 3)).toArray++Builtin.zeroCells (.agg #[.int .i64 0,.bool false,.int .i64 0]:Value).cells (n+1 - i)++Builtin.zeroCells (.agg #[.int .i64 0,.bool false,.int .i64 0]:Value).cells (G - (n+1)):=⟨_,rfl⟩
 rw [<-hG] at hrz ⊢
 rw [<-hROW] at hrz ⊢
 have hRl:(n+1) * 3<=ROW.size:=by
  rw [hROW]
  simp only [Array.size_append,List.size_toArray,htl,size_zeroCells]
  have:(.agg #[.int .i64 0,.bool false,.int .i64 0]:Value).cells.size=3:=rfl
  rw [this]
  omega
 obtain⟨W1,hW1⟩:∃W1,W1=w.drew.alloc (.cells ROW 119):=⟨_,rfl⟩
 rw [<-hW1] at hrz
 have hN:∀j,j < (n+1) * 3->(W1.cell? ⟨w.heap.size,j,none⟩).isSome=true:=fun j hj=>by
  rw [hW1,World.cell?_alloc_at (w:=w.drew) ROW _ w.heap.size j rfl,Array.getElem?_eq_getElem (by omega)];rfl
 have hNf:∀j,W1.frozen? ⟨w.heap.size,j,none⟩=false:=fun j=>by rw [hW1];exact World.frozen?_alloc_at (w:=w.drew) ROW _ w.heap.size j rfl
 have hOb:∀j v,w.cell? ⟨b,j,none⟩=some v->W1.cell? ⟨b,j,none⟩=some v:=fun j v h=>by rw [hW1,World.cell?_alloc_past (w:=w.drew) _ b j hbw];exact h
 have hOv:∀j v,w.cell? ⟨vb,j,none⟩=some v->W1.cell? ⟨vb,j,none⟩=some v:=fun j v h=>by rw [hW1,World.cell?_alloc_past (w:=w.drew) _ vb j hvw];exact h
 have hcpA:∀(W:World),(∀x,W.cell? x=W1.cell? x)->(∀x,W.frozen? x=W1.frozen? x)->∀ty dc,(Builtin.copy_ #[62,62] ty #[.slice (some ⟨w.heap.size,i * 3,none⟩) (n+1 - i) dc,.slice (some ⟨vb,0,none⟩) 1 1]).run prog W=.ok (goInt 1) (W.setCells w.heap.size (i * 3) vs):=fun W hWc hWf ty dc=>
  L8 W _ _ ty 119 3 w.heap.size (i * 3) (n+1 - i) dc ⟨vb,0,none⟩ 1 1 1 vs underlying62 hsz (by simp only [Nat.min_def];split <;> omega) (by rw [hvl])
   (fun j v hj=>by rw [Addr.add_lit,hWc];exact hOv _ v (hvs j v hj))
   (fun j hj=>by rw [hWc];exact hN _ (by omega)) (fun j hj=>by rw [hWf];exact hNf _) h1v
 have hGn:n+1<=G:=by rw [hG];exact grownCap_ge w _ _ _
 have hG63:G<=9223372036854775807:=by
  have:=grownCap_le_maxLen w (n+1) c 119 (by unfold maxLen;omega)
  rw [<-hG] at this
  unfold maxLen at this
  omega
 have hGi:¬(G=i):=by omega
 have hGim:¬(G=i+1):=by omega
 have hci:¬(c=i):=by omega
 have hbN:b≠w.heap.size:=by omega
 have hdl:(cs.drop (i * 3)).length=(n - i) * 3:=by rw [ES,hcl];omega
 have hcpB:∀(W:World),(∀x,W.cell? x=(W1.setCells w.heap.size (i * 3) vs).cell? x)->(∀x,W.frozen? x=(W1.setCells w.heap.size (i * 3) vs).frozen? x)->∀ty dc sc,(Builtin.copy_ #[62,62] ty #[.slice (some ⟨w.heap.size,(i+1) * 3,none⟩) (n - i) dc,.slice (some ⟨b,off+i * 3,none⟩) (n - i) sc]).run prog W=.ok (goInt (n - i:Nat)) (W.setCells w.heap.size ((i+1) * 3) (cs.drop (i * 3))):=fun W hWc hWf ty dc sc=>
  L8 W _ _ ty 119 3 w.heap.size ((i+1) * 3) (n - i) dc ⟨b,off+i * 3,none⟩ (n - i) sc (n - i) (cs.drop (i * 3)) underlying62 hsz (by simp only [Nat.min_def];split <;> omega) hdl
   (fun j v hj=>by
    rw [Addr.add_lit,hWc,World.cell?_setCells_out _ _ _ _ _ (fun h _=>absurd h hbN),ET]
    exact hOb _ v (hcs (i * 3+j) v (by rwa [OO] at hj)))
   (fun j hj=>by rw [hWc];exact isSome_setCells _ _ _ _ (fun t ht=>hN _ (by omega)) _ (hN _ (by omega)))
   (fun j hj=>by rw [hWf,World.frozen?_setCells];exact hNf _) (fun v hv=>h1c v (ZH hv))
 subst hW1
 have hE1:∀x,((w.alloc (.cells ROW 119)).drew).cell? x=(w.drew.alloc (.cells ROW 119)).cell? x:=fun x=>rfl
 have hE2:∀x,((w.alloc (.cells ROW 119)).drew).frozen? x=(w.drew.alloc (.cells ROW 119)).frozen? x:=fun x=>rfl
 have hF1:∀x,(((w.alloc (.cells ROW 119)).drew.setCells w.heap.size (i * 3) vs).drew).cell? x=((w.drew.alloc (.cells ROW 119)).setCells w.heap.size (i * 3) vs).cell? x:=fun x=>rfl
 have hF2:∀x,(((w.alloc (.cells ROW 119)).drew.setCells w.heap.size (i * 3) vs).drew).frozen? x=((w.drew.alloc (.cells ROW 119)).setCells w.heap.size (i * 3) vs).frozen? x:=fun x=>rfl
 have hw1:IntKind.i64.wrap ((i:Int)+1)=(i:Int)+1:=by rw [IntKind.wrap_i64];omega
 have hw2:IntKind.i64.wrap ((n:Int)+1)=(n:Int)+1:=by rw [IntKind.wrap_i64];omega
 have hw3:IntKind.i64.wrap ((n:Int)+1 - (i:Int))=(n:Int)+1 - (i:Int):=by rw [IntKind.wrap_i64];omega
 have hb1:(0:Int)<=(i:Int)+1:=by omega
 have hin:i<=n:=by omega
 have htn:((i:Int)+1).toNat=i+1:=by omega
 have hb3:(i:Int)<=(n:Int):=by omega
 clear hkk hik hold hROW hG hRl htl
 go_enter func203,ntmps203
 go_wp2_with (first
  | (at_builtin;refine Lib.wpList_append_run _ rfl _ _ _ _ rfl _ _ rfl rfl _ _ (hrz _) ?_)
  | (at_builtin;refine wpList_copy_runI _ rfl _ _ 62 62 rfl _ _ rfl rfl (hcpA _ hE1 hE2 _ _) ?_)
  | (at_builtin;refine wpList_copy_runI _ rfl _ _ 62 62 rfl _ _ rfl rfl (hcpB _ (fun _=>rfl) (fun _=>rfl) _ _ _) ?_))
 go_region_law_o (refine step_copy_runI rfl _ _ 62 62 rfl (.slice (some ⟨w.heap.size,(i+1) * 3,none⟩) (n - i) (G - (i+1))) (.slice (some ⟨b,off+i * 3,none⟩) (n - i) (c - i)) (by simp [Act.eval,Act.put]) (by simp [Act.eval,Act.put]) (hcpB _ hF1 hF2 3 (G - (i+1)) (c - i)) ?_)
 go_wp2
 go_ret
 exact⟨rfl,rfl⟩
end
end Go.Proofs.YtejjbceagmbdhaaGreat
end
