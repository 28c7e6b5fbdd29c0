import Derived.Test.YtonkeoekmfkaoaaGreatXUC
import Derived.Test.YtonkeoekmfkaoaaGreatProg
set_option linter.unusedVariables false
set_option linter.unusedSimpArgs false
set_option linter.unusedSectionVars false
set_option linter.constructorNameAsVariable false
set_option linter.unnecessarySimpa false
noncomputable section
namespace Go.Gv
section
def R9(a_:List iF)(left:Int):=
 (if decide ((aE (left-(a_.length:Int)))<0) then some (-1) else some (aE (left-(a_.length:Int))))
def N2(a_:Batch)(left:Int):=
 (R9 a_.bD left).bind λx1=>(if decide (x1<0) then some (-1) else some x1)
def VQ(x5:Int):=
 some x5
def AU(a_:List Batch):(Int×Int)->Option (Step (Int×Int) (Out Int Int))
 |(x3,x4)=>(if decide (x4<(a_.length:Int)) then(idx a_ x4).bind λx6=>(N2 x6 x3).bind λx7=>(if decide (x7<0) then some (.stop (Out.ret (-1))) else some (.next (x7,aE (x4+1)))) else some (.stop (Out.brk x3)))
def VR:(Out Int Int)->Option Int
 |.brk x5=>VQ x5
 |.ret r=>some r
def KG(a_:List Batch)(left:Int):=
 (if decide ((aE (left-(a_.length:Int)))<0) then some (-1) else(loop (AU a_) (aE (left-(a_.length:Int)),0)).bind (VR))
def KH(a_:aO)(left:Int):=
 (KG a_.List left).bind λx1=>(if decide (x1<0) then some (-1) else some x1)
def SA(x5:Int):=
 some x5
def xV(a_:List aO):(Int×Int)->Option (Step (Int×Int) (Out Int Int))
 |(x3,x4)=>(if decide (x4<(a_.length:Int)) then(idx a_ x4).bind λx6=>(KH x6 x3).bind λx7=>(if decide (x7<0) then some (.stop (Out.ret (-1))) else some (.next (x7,aE (x4+1)))) else some (.stop (Out.brk x3)))
def SB:(Out Int Int)->Option Int
 |.brk x5=>SA x5
 |.ret r=>some r
def GR(a_:List aO)(left:Int):=
 (if decide ((aE (left-(a_.length:Int)))<0) then some (-1) else(loop (xV a_) (aE (left-(a_.length:Int)),0)).bind (SB))
def SC(a_:List Int)(left:Int):=
 (if decide ((aE (left-(a_.length:Int)))<0) then some (-1) else some (aE (left-(a_.length:Int))))
def GS(a_:eQ)(left:Int):=
 (GR a_.bJ left).bind λx1=>(if decide (x1<0) then some (-1) else(SC a_.dC x1).bind λx2=>(if decide (x2<0) then some (-1) else some x2))
def aE4(a_:iF):=
 some a_
def aA9(x5:List iF):=
 some x5
def P2(a_:List iF):((List iF)×Int)->Option (Step ((List iF)×Int) (List iF))
 |(x3,x4)=>(if decide (x4<(a_.length:Int)) then(idx a_ x4).bind λx6=>(aE4 x6).bind λx7=>(idx x3 x4).bind λx8=>some (.next (x3.set x4.toNat x7,aE (x4+1))) else some (.stop (x3)))
def aBA:(List iF)->Option (List iF)
 |x5=>aA9 x5
def SD(a_:List iF):=
 need (0<=((a_.length:Int):Int)/\((a_.length:Int):Int)<=4294967296) ((loop (P2 a_) (List.replicate ((a_.length:Int).toNat) (⟨0,0,0⟩:iF),0)).bind (aBA))
def N3(a_:Batch):=
 (SD a_.bD).bind λx1=>some (⟨a_.Collect,x1⟩:Batch)
def VT(x5:List Batch):=
 some x5
def JT(a_:List Batch):((List Batch)×Int)->Option (Step ((List Batch)×Int) (List Batch))
 |(x3,x4)=>(if decide (x4<(a_.length:Int)) then(idx a_ x4).bind λx6=>(N3 x6).bind λx7=>(idx x3 x4).bind λx8=>some (.next (x3.set x4.toNat x7,aE (x4+1))) else some (.stop (x3)))
def VU:(List Batch)->Option (List Batch)
 |x5=>VT x5
def KI(a_:List Batch):=
 need (0<=((a_.length:Int):Int)/\((a_.length:Int):Int)<=4294967296) ((loop (JT a_) (List.replicate ((a_.length:Int).toNat) (⟨false,[]⟩:Batch),0)).bind (VU))
def KJ(a_:aO):=
 (KI a_.List).bind λx1=>some (⟨x1⟩:aO)
def SF(x5:List aO):=
 some x5
def GU(a_:List aO):((List aO)×Int)->Option (Step ((List aO)×Int) (List aO))
 |(x3,x4)=>(if decide (x4<(a_.length:Int)) then(idx a_ x4).bind λx6=>(KJ x6).bind λx7=>(idx x3 x4).bind λx8=>some (.next (x3.set x4.toNat x7,aE (x4+1))) else some (.stop (x3)))
def SG:(List aO)->Option (List aO)
 |x5=>SF x5
def GV(a_:List aO):=
 need (0<=((a_.length:Int):Int)/\((a_.length:Int):Int)<=4294967296) ((loop (GU a_) (List.replicate ((a_.length:Int).toNat) (⟨[]⟩:aO),0)).bind (SG))
def aBB(x5:List Int):=
 some x5
def P3(a_:List Int):((List Int)×Int)->Option (Step ((List Int)×Int) (List Int))
 |(x3,x4)=>(if decide (x4<(a_.length:Int)) then(idx a_ x4).bind λx6=>(idx x3 x4).bind λx7=>some (.next (x3.set x4.toNat x6,aE (x4+1))) else some (.stop (x3)))
def aBC:(List Int)->Option (List Int)
 |x5=>aBB x5
def SH(a_:List Int):=
 need (0<=((a_.length:Int):Int)/\((a_.length:Int):Int)<=4294967296) ((loop (P3 a_) (List.replicate ((a_.length:Int).toNat) 0,0)).bind (aBC))
def nV(a_:eQ):=
 (GV a_.bJ).bind λx1=>(SH a_.dC).bind λx2=>some (⟨x1,x2⟩:eQ)
def XR(a_ b:iF):=
 (if a_.Kind != b.Kind then some false else(if a_.Key != b.Key then some false else(if a_.eO != b.eO then some false else some true)))
def aBD:=
 some true
def yV(a_ b:List iF):Int->Option (Step Int (Out Unit Bool))
 |x2=>(if decide (x2<(a_.length:Int)) then(idx a_ x2).bind λx3=>(idx b x2).bind λx4=>(XR x3 x4).bind λx5=>(if !x5 then some (.stop (Out.ret false)) else some (.next (aE (x2+1)))) else some (.stop (Out.brk ())))
def aBE:(Out Unit Bool)->Option Bool
 |.brk ()=>aBD
 |.ret r=>some r
def LV(a_ b:List iF):=
 (if(a_.length:Int) != (b.length:Int) then some false else(loop (yV a_ b) 0).bind (aBE))
def GW(a_ b:Batch):=
 (if !(a_.Collect == b.Collect) then some false else(LV a_.bD b.bD).bind λx1=>(if !x1 then some false else some true))
def VV:=
 some true
def sE(a_ b:List Batch):Int->Option (Step Int (Out Unit Bool))
 |x2=>(if decide (x2<(a_.length:Int)) then(idx a_ x2).bind λx3=>(idx b x2).bind λx4=>(GW x3 x4).bind λx5=>(if !x5 then some (.stop (Out.ret false)) else some (.next (aE (x2+1)))) else some (.stop (Out.brk ())))
def VW:(Out Unit Bool)->Option Bool
 |.brk ()=>VV
 |.ret r=>some r
def KK(a_ b:List Batch):=
 (if(a_.length:Int) != (b.length:Int) then some false else(loop (sE a_ b) 0).bind (VW))
def KL(a_ b:aO):=
 (KK a_.List b.List).bind λx1=>(if !x1 then some false else some true)
def SI:=
 some true
def pZ(a_ b:List aO):Int->Option (Step Int (Out Unit Bool))
 |x2=>(if decide (x2<(a_.length:Int)) then(idx a_ x2).bind λx3=>(idx b x2).bind λx4=>(KL x3 x4).bind λx5=>(if !x5 then some (.stop (Out.ret false)) else some (.next (aE (x2+1)))) else some (.stop (Out.brk ())))
def SJ:(Out Unit Bool)->Option Bool
 |.brk ()=>SI
 |.ret r=>some r
def yW(a_ b:List aO):=
 (if(a_.length:Int) != (b.length:Int) then some false else(loop (pZ a_ b) 0).bind (SJ))
def aBF:=
 some true
def yX(a_ b:List Int):Int->Option (Step Int (Out Unit Bool))
 |x2=>(if decide (x2<(a_.length:Int)) then(idx a_ x2).bind λx3=>(idx b x2).bind λx4=>(if x3 != x4 then some (.stop (Out.ret false)) else some (.next (aE (x2+1)))) else some (.stop (Out.brk ())))
def aBG:(Out Unit Bool)->Option Bool
 |.brk ()=>aBF
 |.ret r=>some r
def lP(a_ b:List Int):=
 (if(a_.length:Int) != (b.length:Int) then some false else(loop (yX a_ b) 0).bind (aBG))
def GX(a_ b:eQ):=
 (yW a_.bJ b.bJ).bind λx1=>(if !x1 then some false else(lP a_.dC b.dC).bind λx2=>(if !x2 then some false else some true))
def N4(x1:Bool):=
 some x1
def cH(x low high:Int):=
 (if decide (low<=x) then N4 (decide (x<=high)) else N4 false)
def KM(c:iF)(x2:Bool):=
 (if x2 then(cH c.eO 0 65535).bind λx3=>some x3 else some (c.eO == 0))
def KN(c:iF)(x1:Bool):=
 (if x1 then some false else(if c.Kind == 2 then KM c true else KM c (c.Kind == 4)))
def XS(c:iF):=
 (cH c.Kind 1 4).bind λx4=>(if !x4 then KN c true else(cH c.Key 0 99).bind λx5=>KN c (!x5))
def Y2(b:Batch):=
 (cH (b.bD.length:Int) 1 6).bind λx3=>some x3
def pD(b:Batch):Int->Option (Step Int (Out Unit Bool))
 |x2=>(if decide (x2<(b.bD.length:Int)) then(idx b.bD x2).bind λx4=>(XS x4).bind λx5=>(if !x5 then some (.stop (Out.ret false)) else some (.next (aE (x2+1)))) else some (.stop (Out.brk ())))
def Y3(b:Batch):(Out Unit Bool)->Option Bool
 |.brk ()=>Y2 b
 |.ret r=>some r
def N5(b:Batch):=
 (if b.Collect then some ((b.bD.length:Int) == 0) else(loop (pD b) 0).bind (Y3 b))
def Y4(todo:List aO):=
 some ((todo.length:Int) == 3)
def Y5(x2:Int):Option (Step Int (Out Unit Bool)):=
 some (.next (aE (x2+1)))
def pE(todo:List aO)(x2:Int):Int->Option (Step Int (Out Unit Bool))
 |x5=>(idx todo x2).bind λx6=>(if decide (x5<(x6.List.length:Int)) then(idx todo x2).bind λx7=>(idx x7.List x5).bind λx8=>(N5 x8).bind λx9=>(if !x9 then some (.stop (Out.ret false)) else some (.next (aE (x5+1)))) else some (.stop (Out.brk ())))
def Y6(x2:Int):(Out Unit Bool)->Option (Step Int (Out Unit Bool))
 |.brk ()=>Y5 x2
 |.ret r=>some (.stop (Out.ret r))
def pG(todo:List aO):Int->Option (Step Int (Out Unit Bool))
 |x2=>(if decide (x2<(todo.length:Int)) then(idx todo x2).bind λx3=>(if decide (12<(x3.List.length:Int)) then some (.stop (Out.ret false)) else(loop (pE todo x2) 0).bind (Y6 x2)) else some (.stop (Out.brk ())))
def Y7(todo:List aO):(Out Unit Bool)->Option Bool
 |.brk ()=>Y4 todo
 |.ret r=>some r
def N6(todo:List aO):=
 (loop (pG todo) 0).bind (Y7 todo)
def aLA(x5:List Int):=
 some (⟨List.replicate ((384:Int).toNat) 0,x5⟩:Heap)
def vS:(Int×(List Int))->Option (Step (Int×(List Int)) (List Int))
 |(x3,x4)=>(if decide (x3<6) then need (x4.length+([(-1)]).length<=1073741824) (some (.next (aE (x3+1),x4++([(-1)])))) else some (.stop (x4)))
def aLB:(List Int)->Option Heap
 |x5=>aLA x5
def N7:=
 need (0<=(384:Int)/\(384:Int)<=4294967296) ((loop (vS) (0,[])).bind (aLB))
def VX:=
 some (⟨List.replicate ((3:Int).toNat) (⟨[]⟩:aU),List.replicate ((9:Int).toNat) (⟨[]⟩:aU)⟩:aD)
def UC:=
 need (0<=(3:Int)/\(3:Int)<=4294967296)<|need (0<=(9:Int)/\(9:Int)<=4294967296)<|VX
def aBH:=
 (N7).bind λx1=>(UC).bind λx2=>some (⟨x1,x2⟩:Mem)
def UD:=
 need (0<=(3:Int)/\(3:Int)<=4294967296) (some (⟨0,List.replicate ((3:Int).toNat) (⟨false,0,false,0⟩:lF)⟩:aJ))
def UE:=
 need (0<=(3:Int)/\(3:Int)<=4294967296) (some (List.replicate ((3:Int).toNat) (⟨[]⟩:bE)))
def aBI:Option (List Int):=
 need (0<=(3:Int)/\(3:Int)<=4294967296) (some (List.replicate ((3:Int).toNat) 0))
def N8:Option aA:=
 (aBH).bind λx1=>(UD).bind λx2=>(UE).bind λx3=>(aBI).bind λx4=>some (⟨x1,x2,x3,x4⟩:aA)
def p5(l:List iF):=
 need (([]:List iF).length+l.length<=1073741824) (some (([]:List iF)++l))
def qZ(b:Batch):=
 (p5 b.bD).bind λx1=>some (⟨b.Collect,x1⟩:Batch)
def aGM(x5:List aO):=
 some x5
def SK(x3:List aO)(x4:Int)(x10:List Batch):Option (Step ((List aO)×Int) (List aO)):=
 need (x3.length+([(⟨x10⟩:aO)]).length<=1073741824) (some (.next (x3++([(⟨x10⟩:aO)]),aE (x4+1))))
def GY(x8:Int)(x12:List Batch):Option (Step (Int×(List Batch)) (List Batch)):=
 some (.next (aE (x8+1),x12))
def GZ(l:List aO)(x4:Int):(Int×(List Batch))->Option (Step (Int×(List Batch)) (List Batch))
 |(x8,x9)=>(idx l x4).bind λx11=>(if decide (x8<(x11.List.length:Int)) then(idx l x4).bind λx13=>(idx x13.List x8).bind λx14=>(qZ x14).bind λx15=>need (x9.length+([x15]).length<=1073741824)<|GY x8 (x9++([x15])) else some (.stop (x9)))
def SL(x3:List aO)(x4:Int):(List Batch)->Option (Step ((List aO)×Int) (List aO))
 |x10=>SK x3 x4 x10
def G0(l:List aO):((List aO)×Int)->Option (Step ((List aO)×Int) (List aO))
 |(x3,x4)=>(if decide (x4<(l.length:Int)) then(loop (GZ l x4) (0,[])).bind (SL x3 x4) else some (.stop (x3)))
def aGN:(List aO)->Option (List aO)
 |x5=>aGM x5
def yY(l:List aO):=
 (loop (G0 l) (([]:List aO),0)).bind (aGN)
def VY(x2:Table):=
 some ({x2 with Log:=[]}:Table)
def KO(todo:List aO):=
 (N6 todo).bind λx1=>(if !x1 then some (⟨(⟨(⟨(⟨[],[]⟩:Heap),(⟨[],[]⟩:aD)⟩:Mem),(⟨0,[]⟩:aJ),[],[]⟩:aA),[],[],[],[],0⟩:Table) else(N8).bind λx3=>need (0<=(2:Int)/\(2:Int)<=4294967296)<|need (0<=(3:Int)/\(3:Int)<=4294967296)<|(yY todo).bind λx4=>VY (⟨x3,List.replicate ((2:Int).toNat) (⟨0,0,0⟩:cD),List.replicate ((3:Int).toNat) (⟨false,(⟨false,[]⟩:Batch),0,0,0,0,0,0,0,0,(⟨0,0,0⟩:dX),false,0,(⟨0,0,0,0,0,0,0,0,0,false⟩:Sub),[],[],[],[],[],[]⟩:aH),x4,[],0⟩:Table))
def m4(kind a_:Int):=
 some (⟨kind,a_,0,0,0,0,0,0,0,false⟩:Sub)
def JU(t:Table)(w_:Int)(x2:aO)(x5:aH)(x7:List iB):=
 some (⟨t.aA,t.aW,t.aM.set w_.toNat ({x5 with Reads:=[],aI:=[],cC:=[],cR:=[],bC:=[],bL:=[]}:aH),t.bJ.set w_.toNat (⟨(x2.List.take x2.List.length).drop (1:Int).toNat⟩:aO),x7,aE (t.aK+1)⟩:Table)
def sG(t:Table)(w_:Int)(x2:aO)(x3:Batch)(x5:aH):=
 (idx t.aM w_).bind λx6=>(p5 x3.bD).bind λx8=>need (t.Log.length+([(⟨1,w_,aE (t.aK+1),0,x8,[]⟩:iB)]).length<=1073741824)<|JU t w_ x2 x5 (t.Log++([(⟨1,w_,aE (t.aK+1),0,x8,[]⟩:iB)]))
def JV(t:Table)(w_:Int)(x2:aO)(x3:Batch)(x4:aH):=
 (if x3.Collect then(m4 3 0).bind λx9=>sG t w_ x2 x3 ({x4 with Pc:=20,Sub:=x9,Reads:=[],aI:=[],cC:=[],cR:=[],bC:=[],bL:=[]}:aH) else sG t w_ x2 x3 ({x4 with Reads:=[],aI:=[],cC:=[],cR:=[],bC:=[],bL:=[]}:aH))
def sH(t:Table)(w_:Int)(x1:Bool):=
 (if x1 then some t else(idx t.bJ w_).bind λx2=>(idx x2.List 0).bind λx3=>need (0<=(1:Int)/\(1:Int)<=(x2.List.length:Int)) ((qZ x3).bind λx10=>(m4 5 0).bind λx11=>JV t w_ x2 x3 (⟨true,x10,aE (t.aK+1),0,0,0,0,0,0,0,(⟨0,0,0⟩:dX),false,0,x11,[],[],[],[],[],[]⟩:aH)))
def KP(t:Table)(w_:Int):=
 (idx t.bJ w_).bind λx12=>(if(x12.List.length:Int) == 0 then sH t w_ true else sH t w_ (t.aK == 1000000))
def C1(w_ c:Int)(x1:Bool):=
 (if x1 then some (-1) else some (aE ((aE (w_*3))+c)))
def yZ(w_ c:Int):=
 (cH w_ 0 2).bind λx2=>(if !x2 then C1 w_ c true else(cH c 0 2).bind λx3=>C1 w_ c (!x3))
def bV(s:Sub)(code:Int):=
 some ({s with Code:=code,jN:=true}:Sub)
def FM(c:Int):Option Int:=
 (if c == 0 then some 8 else(if c == 1 then some 16 else(if c == 2 then some 40 else some 0)))
def aLC:=
 some (-1)
def fV(size:Int):Int->Option (Step Int (Out Unit Int))
 |x2=>(if decide (x2<3) then(FM x2).bind λx3=>(cH size 1 x3).bind λx4=>(if x4 then some (.stop (Out.ret x2)) else some (.next (aE (x2+1)))) else some (.stop (Out.brk ())))
def aLD:(Out Unit Int)->Option Int
 |.brk ()=>aLC
 |.ret r=>some r
def AV(size:Int):=
 (loop (fV size) 0).bind (aLD)
def KQ(s:aU)(x1:Int):=
 some ((⟨(s.aV.take ((aE ((s.aV.length:Int)-1)).toNat)).drop 0⟩:aU),x1)
def rA(s:aU):=
 (if(s.aV.length:Int) == 0 then some (s,(-1)) else need (0<=(aE ((s.aV.length:Int)-1):Int)/\(aE ((s.aV.length:Int)-1):Int)<=(s.aV.length:Int)) ((idx s.aV (aE ((s.aV.length:Int)-1))).bind λx2=>KQ s x2))
def aLE(x7:List Int):=
 some x7
def mD(at_:Int):((List Int)×Int×Int)->Option (Step ((List Int)×Int×Int) (List Int))
 |(x4,x5,x6)=>(if decide (0<=x6) then(idx x4 (aE (at_+x6))).bind λx8=>some (.next (x4.set ((aE (at_+x6)).toNat) (Int.tmod x5 256),aE (Int.tdiv x5 256),aE (x6-1))) else some (.stop (x4)))
def aLF:(List Int)->Option (List Int)
 |x7=>aLE x7
def iK(b:List Int)(at_ width n:Int):=
 (loop (mD at_) (b,n,aE (width-1))).bind (aLF)
def C2(c:Int):=
 (cH c 0 2).bind λx1=>(if !x1 then some 0 else(FM c).bind λx2=>some (aE (4+x2)))
def mV(c:Int):=
 (cH c 0 2).bind λx1=>(if !x1 then some 0 else(C2 c).bind λx2=>need (x2≠0) (some (aE (Int.tdiv 56 x2))))
def FN(slot:Int):=
 (cH slot 0 23).bind λx1=>(if !x1 then some (-1) else some (aE (Int.tdiv slot 4)))
def AW(slot:Int):=
 (cH slot 0 23).bind λx1=>(if !x1 then some (-1) else some (Int.tmod slot 4))
def KR(slot c:Int)(x1:Bool):=
 (if x1 then some (-1) else(FN slot).bind λx2=>(AW slot).bind λx3=>(C2 c).bind λx4=>some (aE ((aE ((aE (x2*64))+8))+(aE (x3*x4)))))
def y5(slot c:Int):=
 (FN slot).bind λx5=>(if decide (x5<0) then KR slot c true else(AW slot).bind λx6=>(mV c).bind λx7=>(cH x6 0 (aE (x7-1))).bind λx8=>KR slot c (!x8))
def y6(page index:Int)(x1:Bool):=
 (if x1 then some (-1) else some (aE ((aE (page*4))+index)))
def uA(page index:Int):=
 (cH page 0 5).bind λx2=>(if !x2 then y6 page index true else(cH index 0 3).bind λx3=>y6 page index (!x3))
def aLG(h:Heap):=
 some (h,([]:List Int))
def DU(x2:Int):Option (Step Int (Out Unit (Heap×(List Int)))):=
 some (.next (aE (x2+1)))
def aLH(h:Heap)(c x2:Int)(x14 x15:List Int):Option (Step Int (Out Unit (Heap×(List Int)))):=
 some (.stop (Out.ret ((⟨x15,h.Class.set x2.toNat c⟩:Heap),x14)))
def MQ(x2:Int)(x11:List Int)(x12:Int)(x17:List Int):Option (Step ((List Int)×Int×(List Int)) ((List Int)×(List Int))):=
 (uA x2 x12).bind λx18=>need (x11.length+([x18]).length<=1073741824) (some (.next (x11++([x18]),aE (x12+1),x17)))
def DV(c x2:Int):((List Int)×Int×(List Int))->Option (Step ((List Int)×Int×(List Int)) ((List Int)×(List Int)))
 |(x11,x12,x13)=>(mV c).bind λx16=>(if decide (x12<x16) then(uA x2 x12).bind λx19=>(y5 x19 c).bind λx20=>(iK x13 x20 4 1).bind λx21=>MQ x2 x11 x12 x21 else some (.stop ((x11,x13))))
def aLI(h:Heap)(c x2:Int):((List Int)×(List Int))->Option (Step Int (Out Unit (Heap×(List Int))))
 |(x14,x15)=>aLH h c x2 x14 x15
def fC(h:Heap)(c:Int):Int->Option (Step Int (Out Unit (Heap×(List Int))))
 |x2=>(if decide (x2<6) then(idx h.Class x2).bind λx3=>(if x3 != (-1) then DU x2 else(idx h.Bytes (aE (x2*64))).bind λx4=>(idx (h.Bytes.set ((aE (x2*64)).toNat) 171) (aE ((aE (x2*64))+1))).bind λx5=>(mV c).bind λx6=>(idx ((h.Bytes.set ((aE (x2*64)).toNat) 171).set ((aE ((aE (x2*64))+1)).toNat) c) (aE ((aE (x2*64))+2))).bind λx7=>(loop (DV c x2) (([]:List Int),0,((h.Bytes.set ((aE (x2*64)).toNat) 171).set ((aE ((aE (x2*64))+1)).toNat) c).set ((aE ((aE (x2*64))+2)).toNat) x6)).bind (aLI h c x2)) else some (.stop (Out.brk ())))
def aLJ(h:Heap):(Out Unit (Heap×(List Int)))->Option (Heap×(List Int))
 |.brk ()=>aLG h
 |.ret r=>some r
def qA(h:Heap)(c:Int):=
 (loop (fC h c) 0).bind (aLJ h)
def DW(m:Mem)(c:Int)(x1:Heap×(List Int))(x2:aU)(x3:Int):=
 some ((⟨x1.1,(⟨m.aD.Global.set c.toNat (⟨x2.aV++((x1.2.take x1.2.length).drop ((1:Int).toNat))⟩:aU),m.aD.Own⟩:aD)⟩:Mem),x3)
def AX(m:Mem)(c:Int):=
 (qA m.Heap c).bind λx1=>(if(x1.2.length:Int) == 0 then some ((⟨x1.1,m.aD⟩:Mem),(-1)) else(idx m.aD.Global c).bind λx2=>need (0<=(1:Int)/\(1:Int)<=(x1.2.length:Int)) (need (x2.aV.length+((x1.2.take x1.2.length).drop ((1:Int).toNat)).length<=1073741824) ((idx x1.2 0).bind λx4=>DW m c x1 x2 x4)))
def vT(h:Heap)(x1:Int)(x2:Bool):=
 (if x2 then some (-1) else(idx h.Class x1).bind λx3=>some x3)
def mW(h:Heap)(slot:Int):=
 (FN slot).bind λx1=>(if decide (x1<0) then vT h x1 true else(idx h.Class x1).bind λx4=>(if decide (x4<0) then vT h x1 true else(idx h.Class x1).bind λx5=>(AW slot).bind λx6=>(mV x5).bind λx7=>vT h x1 (decide (x7<=x6))))
def aPF(x5:Int):=
 some x5
def y7(b:List Int)(at_ width:Int):(Int×Int)->Option (Step (Int×Int) Int)
 |(x3,x4)=>(if decide (x4<width) then(idx b (aE (at_+x4))).bind λx6=>some (.next (aE ((aE (x3*256))+x6),aE (x4+1))) else some (.stop (x3)))
def aPG:Int->Option Int
 |x5=>aPF x5
def uB(b:List Int)(at_ width:Int):=
 (loop (y7 b at_ width) (0,0)).bind (aPG)
def y8(h:Heap)(slot:Int):=
 (mW h slot).bind λx1=>(y5 slot x1).bind λx2=>(uB h.Bytes x2 4).bind λx3=>some x3
def sI(slot gen:Int)(x1:Bool):=
 (if x1 then some 0 else some (aE ((aE (gen*32))+slot)))
def KS(slot gen:Int):=
 (cH slot 0 23).bind λx2=>(if !x2 then sI slot gen true else(cH gen 1 6).bind λx3=>sI slot gen (!x3))
def wY(m:Mem)(slot:Int):=
 (y8 m.Heap slot).bind λx1=>(KS slot x1).bind λx2=>some x2
def N9(b:aA)(s:Sub)(slot pc:Int):=
 (if decide (0<=slot) then(wY b.Mem slot).bind λx1=>(bV ({s with Out:=x1}:Sub) 0).bind λx2=>some x2 else some ({s with Pc:=pc}:Sub))
def sJ(s:Sub)(x3:Int)(x5:Bool)(x6:aA):=
 (if x5 then(bV s 3).bind λx7=>some (x6,x7) else(N9 x6 s x3 (aE (s.Pc+1))).bind λx8=>some (x6,x8))
def iL(s:Sub)(x3:Int)(x4:aA):=
 (if decide (x3<0) then sJ s x3 (s.Pc == 3) x4 else sJ s x3 false x4)
def sK(b:aA)(s:Sub)(x1:Int)(x12:Bool):=
 (if x12 then(idx b.Mem.aD.Global x1).bind λx13=>(rA x13).bind λx14=>iL s x14.2 ({b with Mem:=(⟨b.Mem.Heap,(⟨b.Mem.aD.Global.set x1.toNat x14.1,b.Mem.aD.Own⟩:aD)⟩:Mem)}:aA) else(if s.Pc == 2 then(AX b.Mem x1).bind λx15=>iL s x15.2 ({b with Mem:=x15.1}:aA) else(bV s 1).bind λx16=>some (b,x16)))
def wZ(b:aA)(w_:Int)(s:Sub):=
 (AV s.A).bind λx1=>(if decide (x1<0) then(bV s 2).bind λx2=>some (b,x2) else(if s.Pc == 0 then(yZ w_ x1).bind λx9=>(idx b.Mem.aD.Own x9).bind λx10=>(rA x10).bind λx11=>iL s x11.2 ({b with Mem:=(⟨b.Mem.Heap,(⟨b.Mem.aD.Global,b.Mem.aD.Own.set x9.toNat x11.1⟩:aD)⟩:Mem)}:aA) else(if s.Pc == 1 then sK b s x1 true else sK b s x1 (s.Pc == 3))))
def AY(x1:Bool):=
 some x1
def iG(h:Int):=
 (cH h 32 223).bind λx2=>(if x2 then AY (decide ((Int.tmod h 32)<24)) else AY false)
def fE(h:Int):=
 (iG h).bind λx1=>(if !x1 then some (-1) else some (Int.tmod h 32))
def aTA:=
 some false
def xA(l:List Int)(x:Int):Int->Option (Step Int (Out Unit Bool))
 |x2=>(if decide (x2<(l.length:Int)) then(idx l x2).bind λx3=>(if x3 == x then some (.stop (Out.ret true)) else some (.next (aE (x2+1)))) else some (.stop (Out.brk ())))
def aTB:(Out Unit Bool)->Option Bool
 |.brk ()=>aTA
 |.ret r=>some r
def JW(l:List Int)(x:Int):=
 (loop (xA l x) 0).bind (aTB)
def aTC(x10:List Int):=
 some x10
def C3(l:aD):((List Int)×Int)->Option (Step ((List Int)×Int) (List Int))
 |(x8,x9)=>(if decide (x9<(l.Own.length:Int)) then(idx l.Own x9).bind λx11=>need (x8.length+x11.aV.length<=1073741824) (some (.next (x8++x11.aV,aE (x9+1)))) else some (.stop (x8)))
def aTD:(List Int)->Option (List Int)
 |x10=>aTC x10
def aD4(l:aD)(x5:List Int):=
 (loop (C3 l) (x5,0)).bind (aTD)
def C4(l:aD):((List Int)×Int)->Option (Step ((List Int)×Int) (List Int))
 |(x3,x4)=>(if decide (x4<(l.Global.length:Int)) then(idx l.Global x4).bind λx12=>need (x3.length+x12.aV.length<=1073741824) (some (.next (x3++x12.aV,aE (x4+1)))) else some (.stop (x3)))
def aD5(l:aD):(List Int)->Option (List Int)
 |x5=>aD4 l x5
def P4(l:aD):=
 (loop (C4 l) (([]:List Int),0)).bind (aD5 l)
def SM(l:aD)(slot:Int):=
 (P4 l).bind λx1=>(JW x1 slot).bind λx2=>some x2
def OA(m:Mem)(slot:Int):Option Int:=
 (mW m.Heap slot).bind λx1=>(if decide (x1<0) then some 0 else(SM m.aD slot).bind λx2=>(if x2 then some 1 else(y8 m.Heap slot).bind λx3=>(if decide (6<x3) then some 2 else some 3)))
def G3(h:Int):=
 (iG h).bind λx1=>(if !x1 then some 0 else some (aE (Int.tdiv h 32)))
def vU(x1:Bool):=
 some x1
def uL(m:Mem)(h:Int):=
 (iG h).bind λx2=>(if x2 then(fE h).bind λx3=>(OA m x3).bind λx4=>(if x4 == 3 then(fE h).bind λx5=>(y8 m.Heap x5).bind λx6=>(G3 h).bind λx7=>vU (x6 == x7) else vU false) else vU false)
def aPH(x5:List cQ):=
 some x5
def y9(l:List bE):((List cQ)×Int)->Option (Step ((List cQ)×Int) (List cQ))
 |(x3,x4)=>(if decide (x4<(l.length:Int)) then(idx l x4).bind λx6=>need (x3.length+x6.Rows.length<=1073741824) (some (.next (x3++x6.Rows,aE (x4+1)))) else some (.stop (x3)))
def aPI:(List cQ)->Option (List cQ)
 |x5=>aPH x5
def SN(l:List bE):=
 (loop (y9 l) (([]:List cQ),0)).bind (aPI)
def aLK:=
 some false
def vV(x3:Int)(x4:Bool):Option (Step Int (Out Unit Bool)):=
 (if x4 then some (.stop (Out.ret true)) else some (.next (aE (x3+1))))
def pH(slot:Int)(x1:(List cQ)):Int->Option (Step Int (Out Unit Bool))
 |x3=>(if decide (x3<(x1.length:Int)) then(idx x1 x3).bind λx5=>(iG x5.Handle).bind λx6=>(if x6 then(fE x5.Handle).bind λx7=>vV x3 (x7 == slot) else vV x3 false) else some (.stop (Out.brk ())))
def aLL:(Out Unit Bool)->Option Bool
 |.brk ()=>aLK
 |.ret r=>some r
def G4(l:List bE)(slot:Int):=
 (SN l).bind λx1=>(loop (pH slot x1) 0).bind (aLL)
def xW(b:aA)(s:Sub)(x5:List bE):=
 (bV s 0).bind λx6=>some (({b with bB:=x5}:aA),x6)
def qB(b:aA)(w_:Int)(s:Sub)(x3:Bool):=
 (if x3 then(bV s 4).bind λx4=>some (b,x4) else(idx b.bB w_).bind λx7=>need (x7.Rows.length+([(⟨s.A,s.E⟩:cQ)]).length<=1073741824)<|xW b s (b.bB.set w_.toNat (⟨x7.Rows++([(⟨s.A,s.E⟩:cQ)])⟩:bE)))
def sL(b:aA)(w_:Int)(s:Sub):=
 (if s.Pc == 0 then some (b,({s with Pc:=1,E:=b.aJ.aQ}:Sub)) else(if s.Pc == 1 then(cH s.E 0 b.aJ.aQ).bind λx1=>(if !x1 then(bV s 1).bind λx2=>some (b,x2) else(uL b.Mem s.A).bind λx8=>(if !x8 then qB b w_ s true else(fE s.A).bind λx9=>(G4 b.bB x9).bind λx10=>qB b w_ s x10)) else(bV s 1).bind λx11=>some (b,x11)))
def Y8:=
 some true
def mE(x3:Int)(x5:Bool):Option (Step Int (Out Unit Bool)):=
 (if x5 then some (.stop (Out.ret false)) else some (.next (aE (x3+1))))
def vW(c:aJ):Int->Option (Step Int (Out Unit Bool))
 |x3=>(if decide (x3<3) then(idx c.bS x3).bind λx4=>(if !x4.On then(if !(decide (x4=(⟨false,0,false,0⟩:lF))) then mE x3 true else(cH x4.aQ 0 c.aQ).bind λx6=>(if !x6 then mE x3 true else(cH x4.Seen 0 2).bind λx7=>mE x3 (!x7))) else(cH x4.aQ 0 c.aQ).bind λx8=>(if !x8 then mE x3 true else(cH x4.Seen 0 2).bind λx9=>mE x3 (!x9))) else some (.stop (Out.brk ())))
def MR:(Out Unit Bool)->Option Bool
 |.brk ()=>Y8
 |.ret r=>some r
def pI(c:aJ)(x1:Bool):=
 (if x1 then some false else(loop (vW c) 0).bind (MR))
def uM(c:aJ):=
 (cH c.aQ 0 100000).bind λx10=>(if !x10 then pI c true else pI c ((c.bS.length:Int) != 3))
def qC(c:aJ):=
 need (([]:List lF).length+c.bS.length<=1073741824) (some (⟨c.aQ,([]:List lF)++c.bS⟩:aJ))
def nW(w_:Int)(x1:aJ)(x3:lF)(x4:Bool):=
 (if x4 then some (x1,true) else(if x3.Seen == 2 then(idx x1.bS w_).bind λx5=>some ((⟨x1.aQ,x1.bS.set w_.toNat ({x5 with gN:=true,Seen:=0}:lF)⟩:aJ),true) else(idx x1.bS w_).bind λx6=>some ((⟨x1.aQ,x1.bS.set w_.toNat ({x6 with Seen:=aE (x3.Seen+1)}:lF)⟩:aJ),false)))
def zA(c:aJ)(w_ e_:Int)(x1:aJ)(x2:Bool):=
 (if x2 then some (x1,false) else(idx c.bS w_).bind λx3=>(if !x3.On then nW w_ x1 x3 true else(if x3.gN then nW w_ x1 x3 true else nW w_ x1 x3 (x3.aQ == e_))))
def FO(c:aJ)(w_ e_:Int):=
 (qC c).bind λx1=>(uM c).bind λx7=>(if !x7 then zA c w_ e_ x1 true else(cH w_ 0 2).bind λx8=>zA c w_ e_ x1 (!x8))
def AZ(e_:Int)(x1:aJ)(x2:Bool):=
 (if x2 then some (x1,false) else some ((⟨aE (e_+1),x1.bS⟩:aJ),true))
def PQ(c:aJ)(e_:Int):=
 (qC c).bind λx1=>(uM c).bind λx3=>(if !x3 then AZ e_ x1 true else(if c.aQ != e_ then AZ e_ x1 true else AZ e_ x1 (e_ == 100000)))
def nX(b:aA)(s:Sub)(x3:aJ×Bool)(x5:Int):=
 some (({b with aJ:=x3.1}:aA),({s with Pc:=x5,B:=aE (s.B+1)}:Sub))
def nY(b:aA)(s:Sub)(x6:aJ×Bool)(x7:Int):=
 (bV ({s with Out:=x7}:Sub) 0).bind λx8=>some (({b with aJ:=x6.1}:aA),x8)
def pJ(b:aA)(s:Sub):=
 (if s.Pc == 0 then some (b,({s with Pc:=1,E:=b.aJ.aQ,B:=0}:Sub)) else(if s.Pc == 1 then(cH s.B 0 2).bind λx1=>(if !x1 then(bV s 1).bind λx2=>some (b,x2) else(FO b.aJ s.B s.E).bind λx3=>(if !x3.2 then(bV s 8).bind λx4=>some (({b with aJ:=x3.1}:aA),x4) else(if(aE (s.B+1)) == 3 then nX b s x3 2 else nX b s x3 s.Pc))) else(if s.Pc == 2 then(PQ b.aJ s.E).bind λx6=>(if x6.2 then nY b s x6 1 else nY b s x6 s.Out) else(bV s 1).bind λx9=>some (b,x9))))
def G5(x2 x3:List aU):=
 some (⟨x2,x3⟩:aD)
def P5(x:aD)(slot x1:Int)(x4:aU):=
 G5 x.Global (x.Own.set x1.toNat (⟨x4.aV++([slot])⟩:aU))
def P6(x:aD)(x5:List aU):=
 G5 x5 x.Own
def SO(x:aD)(w_ c slot:Int):=
 (yZ w_ c).bind λx1=>(idx x.Own x1).bind λx4=>(if decide ((x4.aV.length:Int)<2) then need (x4.aV.length+([slot]).length<=1073741824)<|P5 x slot x1 x4 else(idx x.Global c).bind λx6=>need (x6.aV.length+([slot]).length<=1073741824)<|P6 x (x.Global.set c.toNat (⟨x6.aV++([slot])⟩:aU)))
def G6(x:Mem)(x3:List Int)(x4 x5:List aU):=
 some (⟨(⟨x3,x.Heap.Class⟩:Heap),(⟨x4,x5⟩:aD)⟩:Mem)
def G7(x:Mem)(w_ slot x1 x2:Int)(x3:List Int):=
 (if decide ((aE (x2+1))<=6) then(SO x.aD w_ x1 slot).bind λx6=>G6 x x3 x6.Global x6.Own else G6 x x3 x.aD.Global x.aD.Own)
def zC(x:Mem)(w_ slot:Int):=
 (mW x.Heap slot).bind λx1=>(y8 x.Heap slot).bind λx2=>(y5 slot x1).bind λx7=>(iK x.Heap.Bytes x7 4 (aE (x2+1))).bind λx8=>G7 x w_ slot x1 x2 x8
def G8(x1:Bool):=
 some x1
def JX(r_:cQ)(e_:Int):=
 (if decide (2<=e_) then G8 (decide (r_.aQ<=(aE (e_-2)))) else G8 false)
def aLM:=
 some (-1)
def fF(l:List cQ)(e_:Int):Int->Option (Step Int (Out Unit Int))
 |x2=>(if decide (x2<(l.length:Int)) then(idx l x2).bind λx3=>(JX x3 e_).bind λx4=>(if x4 then some (.stop (Out.ret x2)) else some (.next (aE (x2+1)))) else some (.stop (Out.brk ())))
def aLN:(Out Unit Int)->Option Int
 |.brk ()=>aLM
 |.ret r=>some r
def uN(l:List cQ)(from_ e_:Int):=
 (loop (fF l e_) (if 0<from_ then from_ else 0)).bind (aLN)
def nZ(b:aA)(s:Sub)(x8:Int):=
 some (b,({s with Pc:=x8,B:=aE (s.B+1)}:Sub))
def eK(b:aA)(s:Sub)(x5:Bool):=
 (if x5 then(bV s 1).bind λx6=>some (b,x6) else(idx b.i5 s.B).bind λx7=>(if x7 == s.H then some (b,({s with Pc:=1,Row:=aE (s.Row+1)}:Sub)) else(if(aE (s.B+1)) == 3 then nZ b s 3 else nZ b s s.Pc)))
def uO(s:Sub)(x14:aA):=
 some (x14,({s with Pc:=1,Out:=aE (s.Out+1)}:Sub))
def eM(b:aA)(w_:Int)(s:Sub)(x1:bE)(x12:Bool):=
 (if x12 then(bV s 1).bind λx13=>some (b,x13) else need (0<=(s.Row:Int)/\(s.Row:Int)<=(x1.Rows.length:Int)) (need (0<=(aE (s.Row+1):Int)/\(aE (s.Row+1):Int)<=(x1.Rows.length:Int)) (need (s.Row.toNat<=(aE (s.Row+1)).toNat) ((fE s.H).bind λx15=>(zC b.Mem w_ x15).bind λx16=>uO s ({b with Mem:=x16,bB:=b.bB.set w_.toNat (⟨((cW x1.Rows s.Row.toNat (x1.Rows.drop ((aE (s.Row+1)).toNat))).take (s.Row.toNat+(x1.Rows.length-((aE (s.Row+1)).toNat)))).drop 0⟩:bE)}:aA)))))
def pK(b:aA)(w_:Int)(s:Sub):=
 (idx b.bB w_).bind λx1=>(if s.Pc == 0 then some (b,({s with Pc:=1,E:=b.aJ.aQ,Row:=0}:Sub)) else(if s.Pc == 1 then(uN x1.Rows s.Row s.E).bind λx2=>(if decide (x2<0) then(bV s 0).bind λx3=>some (b,x3) else(idx x1.Rows x2).bind λx4=>some (b,({s with Pc:=2,Row:=x2,B:=0,H:=x4.Handle}:Sub))) else(if s.Pc == 2 then(cH s.B 0 2).bind λx9=>(if !x9 then eK b s true else(cH s.Row 0 (aE ((x1.Rows.length:Int)-1))).bind λx10=>(if !x10 then eK b s true else(idx x1.Rows s.Row).bind λx11=>eK b s (x11.Handle != s.H))) else(if s.Pc == 3 then(cH s.Row 0 (aE ((x1.Rows.length:Int)-1))).bind λx17=>(if !x17 then eM b w_ s x1 true else(idx x1.Rows s.Row).bind λx18=>(if x18.Handle != s.H then eM b w_ s x1 true else(JX x18 s.E).bind λx19=>eM b w_ s x1 (!x19))) else(bV s 1).bind λx20=>some (b,x20)))))
def xB(w_ e_:Int)(x1:aJ)(x2:Bool):=
 (if x2 then some (x1,false) else(idx x1.bS w_).bind λx3=>some ((⟨x1.aQ,x1.bS.set w_.toNat (⟨true,e_,false,0⟩:lF)⟩:aJ),true))
def JY(c:aJ)(w_ e_:Int):=
 (qC c).bind λx1=>(uM c).bind λx4=>(if !x4 then xB w_ e_ x1 true else(cH w_ 0 2).bind λx5=>(if !x5 then xB w_ e_ x1 true else(cH e_ 0 c.aQ).bind λx6=>xB w_ e_ x1 (!x6)))
def FP(b:aA)(w_:Int)(s:Sub):=
 (if s.Pc == 0 then some (b,({s with Pc:=1,E:=b.aJ.aQ}:Sub)) else(if s.Pc == 1 then(JY b.aJ w_ s.E).bind λx1=>(if !x1.2 then(bV s 1).bind λx2=>some (({b with aJ:=x1.1}:aA),x2) else some (({b with aJ:=x1.1}:aA),({s with Pc:=2}:Sub))) else(if s.Pc == 2 then(if b.aJ.aQ == s.E then(bV s 0).bind λx3=>some (b,x3) else some (b,({s with Pc:=0}:Sub))) else(bV s 1).bind λx4=>some (b,x4))))
def JZ(b:aA)(w_:Int)(s:Sub):=
 (if s.jN then some (b,s) else(if s.Kind == 1 then(wZ b w_ s).bind λx1=>some (x1.1,x1.2) else(if s.Kind == 2 then(sL b w_ s).bind λx2=>some (x2.1,x2.2) else(if s.Kind == 3 then(pJ b s).bind λx3=>some (x3.1,x3.2) else(if s.Kind == 4 then(pK b w_ s).bind λx4=>some (x4.1,x4.2) else(if s.Kind == 5 then(FP b w_ s).bind λx5=>some (x5.1,x5.2) else(bV s 1).bind λx6=>some (b,x6)))))))
def FQ(t:Table)(w_:Int)(j:aH):=
 (JZ t.aA w_ j.Sub).bind λx1=>some (({t with aA:=x1.1}:Table),({j with Sub:=x1.2}:aH),x1.2.jN)
def A0(t x2:Table)(x3:aH):=
 some (({x2 with aM:=t.aM,bJ:=t.bJ}:Table),x3)
def KT(t:Table)(w_:Int)(j:aH):=
 (FQ t w_ j).bind λx1=>(if !x1.2.2 then some ((⟨x1.1.aA,x1.1.aW,t.aM,t.bJ,x1.1.Log,x1.1.aK⟩:Table),x1.2.1) else(if x1.2.1.Pc == 0 then A0 t (⟨x1.1.aA,x1.1.aW,t.aM,t.bJ,x1.1.Log,x1.1.aK⟩:Table) (⟨x1.2.1.nE,x1.2.1.Batch,x1.2.1.aK,1,x1.2.1.At,x1.2.1.K,x1.2.1.cD,x1.2.1.eX,x1.2.1.H,x1.2.1.g8,x1.2.1.Node,x1.2.1.Found,x1.2.1.Code,x1.2.1.Sub,x1.2.1.Reads,x1.2.1.aI,x1.2.1.cC,x1.2.1.cR,x1.2.1.bC,x1.2.1.bL⟩:aH) else(if x1.2.1.Pc == 20 then(m4 4 0).bind λx4=>A0 t (⟨x1.1.aA,x1.1.aW,t.aM,t.bJ,x1.1.Log,x1.1.aK⟩:Table) (⟨x1.2.1.nE,x1.2.1.Batch,x1.2.1.aK,21,x1.2.1.At,x1.2.1.K,x1.2.1.cD,x1.2.1.eX,x1.2.1.H,x1.2.1.g8,x1.2.1.Node,x1.2.1.Found,x1.2.1.Code,x4,x1.2.1.Reads,x1.2.1.aI,x1.2.1.cC,x1.2.1.cR,x1.2.1.bC,x1.2.1.bL⟩:aH) else A0 t (⟨x1.1.aA,x1.1.aW,t.aM,t.bJ,x1.1.Log,x1.1.aK⟩:Table) (⟨x1.2.1.nE,x1.2.1.Batch,x1.2.1.aK,19,x1.2.1.At,x1.2.1.K,x1.2.1.cD,x1.2.1.eX,x1.2.1.H,x1.2.1.g8,x1.2.1.Node,x1.2.1.Found,x1.2.1.Code,x1.2.1.Sub,x1.2.1.Reads,x1.2.1.aI,x1.2.1.cC,x1.2.1.cR,x1.2.1.bC,x1.2.1.bL⟩:aH))))
def fI(j:aH)(code:Int):=
 some ({j with Pc:=16,Code:=code}:aH)
def sM(x9:List aP):=
 some x9
def J0(w_:aP)(x7:List aP)(x8:Bool):=
 (if !x8 then need (x7.length+([w_]).length<=1073741824) (sM (x7++([w_]))) else sM x7)
def A1(x6:Int)(x10:List aP)(x11:Bool):Option (Step ((List aP)×Bool×Int) ((List aP)×Bool)):=
 some (.next (x10,x11,aE (x6+1)))
def A2(l:List aP)(x6:Int)(x13:List aP)(x14:Bool):Option (Step ((List aP)×Bool×Int) ((List aP)×Bool)):=
 (idx l x6).bind λx15=>need (x13.length+([x15]).length<=1073741824) (A1 x6 (x13++([x15])) x14)
def A3(l:List aP)(w_:aP)(x4:List aP)(x5:Bool)(x6:Int)(x16:Bool):Option (Step ((List aP)×Bool×Int) ((List aP)×Bool)):=
 (if x16 then need (x4.length+([w_]).length<=1073741824) (A2 l x6 (x4++([w_])) true) else A2 l x6 x4 x5)
def nF(l:List aP)(w_:aP):((List aP)×Bool×Int)->Option (Step ((List aP)×Bool×Int) ((List aP)×Bool))
 |(x4,x5,x6)=>(if decide (x6<(l.length:Int)) then(idx l x6).bind λx12=>(if x12.Key == w_.Key then A1 x6 x4 x5 else(if !x5 then(idx l x6).bind λx17=>A3 l w_ x4 x5 x6 (decide (w_.Key<x17.Key)) else A3 l w_ x4 x5 x6 false)) else some (.stop ((x4,x5))))
def A4(w_:aP):((List aP)×Bool)->Option (List aP)
 |(x7,x8)=>J0 w_ x7 x8
def KU(l:List aP)(w_:aP):=
 (loop (nF l w_) (([]:List aP),false,0)).bind (A4 w_)
def C5(j:aH)(x:aP):=
 (KU j.aI x).bind λx1=>(if decide (6<(x1.length:Int)) then(fI j 1).bind λx2=>some x2 else some ({j with aI:=x1}:aH))
def aLO:=
 some ((⟨0,false,0⟩:aP),false)
def vX(l:List aP)(key:Int):Int->Option (Step Int (Out Unit (aP×Bool)))
 |x2=>(if decide (x2<(l.length:Int)) then(idx l x2).bind λx3=>(if x3.Key == key then(idx l x2).bind λx4=>some (.stop (Out.ret (x4,true))) else some (.next (aE (x2+1)))) else some (.stop (Out.brk ())))
def aLP:(Out Unit (aP×Bool))->Option (aP×Bool)
 |.brk ()=>aLO
 |.ret r=>some r
def OB(l:List aP)(key:Int):=
 (loop (vX l key) 0).bind (aLP)
def SP(a_ b:Int):=
 some (Int.tmod (aE ((aE ((Int.tmod a_ 65536)+(Int.tmod b 65536)))+65536)) 65536)
def qD(x3:aH)(x4:Bool)(x5:Int):=
 need (x3.cC.length+([(⟨x4,x5⟩:cC)]).length<=1073741824) (some ({x3 with Pc:=1,At:=aE (x3.At+1),cC:=x3.cC++([(⟨x4,x5⟩:cC)])}:aH))
def qE(j:aH)(is:Bool)(x1:iF)(x2:Int):=
 (if x1.Kind == 4 then(SP x2 x1.eO).bind λx6=>(C5 j (⟨x1.Key,false,x6⟩:aP)).bind λx7=>(if x7.Pc == 16 then some x7 else qD x7 true x6) else qD j is x2)
def zD(j:aH)(is:Bool)(v:Int):=
 (idx j.Batch.bD j.At).bind λx1=>(if !is then qE j is x1 0 else qE j is x1 v)
def E0(key:Int):=
 (cH key 0 99).bind λx1=>(if !x1 then some (-1) else some (Int.tmod key 2))
def kR(j:aH)(x2:iF)(x3:Bool):=
 (if x3 then(C5 j ({x2 with GQ:=x2.Kind == 3}:aP)).bind λx4=>(if x4.Pc == 16 then some x4 else need (x4.cC.length+([(⟨false,0⟩:cC)]).length<=1073741824) (some ({x4 with At:=aE (x4.At+1),cC:=x4.cC++([(⟨false,0⟩:cC)])}:aH))) else(OB j.aI x2.Key).bind λx5=>(if x5.2 then(zD j (!x5.1.GQ) x5.1.eO).bind λx6=>some x6 else(E0 x2.Key).bind λx7=>some ({j with Pc:=2,cD:=x7}:aH)))
def DX(j:aH):=
 (if decide ((j.Batch.bD.length:Int)<=j.At) then(m4 1 16).bind λx1=>some ({j with Pc:=6,K:=0,Sub:=x1}:aH) else(idx j.Batch.bD j.At).bind λx2=>(if x2.Kind == 2 then kR j x2 true else kR j x2 (x2.Kind == 3)))
def OC(slot c:Int):=
 (y5 slot c).bind λx1=>(if decide (x1<0) then some (-1) else some (aE (x1+4)))
def DY(m:Mem)(h:Int)(x1:Bool):Option (Int×Int):=
 (if x1 then some (0,4) else(fE h).bind λx2=>(mW m.Heap x2).bind λx3=>(FM x3).bind λx4=>(if decide (x4<10) then some (0,2) else(fE h).bind λx5=>(OC x5 x3).bind λx6=>some (x6,0)))
def A5(m:Mem)(h:Int):Option (Int×Int):=
 (iG h).bind λx7=>(if !x7 then DY m h true else(fE h).bind λx8=>(mW m.Heap x8).bind λx9=>DY m h (decide (x9<0)))
def XT(m:Mem)(at_:Int):=
 (uB m.Heap.Bytes at_ 2).bind λx1=>(uB m.Heap.Bytes (aE (at_+2)) 4).bind λx2=>(uB m.Heap.Bytes (aE (at_+6)) 4).bind λx3=>some (⟨x1,x2,x3⟩:dX)
def LW(m:Mem)(h:Int):=
 (A5 m h).bind λx1=>(if x1.2 != 0 then some (⟨0,0,0⟩:dX) else(XT m x1.1).bind λx2=>some x2)
def qF(n:dX):=
 (iG n.Next).bind λx1=>(if x1 then some n.Next else some 0)
def Y9(l:List Seen)(b v:Int):=
 need ((([]:List Seen)++l).length+([(⟨b,v⟩:Seen)]).length<=1073741824) (some ((([]:List Seen)++l)++([(⟨b,v⟩:Seen)]),true))
def vY(l:List Seen)(b v:Int):Int->Option (Step Int (Out Unit ((List Seen)×Bool)))
 |x2=>(if decide (x2<(l.length:Int)) then(idx l x2).bind λx3=>(if x3.cD == b then(idx l x2).bind λx4=>some (.stop (Out.ret (([]:List Seen)++l,x4.eX == v))) else some (.next (aE (x2+1)))) else some (.stop (Out.brk ())))
def ZA(l:List Seen)(b v:Int):(Out Unit ((List Seen)×Bool))->Option ((List Seen)×Bool)
 |.brk ()=>Y9 l b v
 |.ret r=>some r
def OD(l:List Seen)(b v:Int):=
 need (([]:List Seen).length+l.length<=1073741824) ((loop (vY l b v) 0).bind (ZA l b v))
def mF(x3:aH):=
 some x3
def DZ(j:aH)(x9:Bool)(x10:Int)(x11:Bool):=
 (if x11 then mF ({j with Pc:=5,H:=x10,Found:=x9}:aH) else mF ({j with Pc:=3,H:=x10,Found:=x9}:aH))
def MS(j:aH)(x9:Bool):=
 (qF j.Node).bind λx10=>(if x9 then DZ j x9 x10 true else DZ j x9 x10 (x10 == 0))
def pL(j:aH)(x6:Bool):=
 (if x6 then(fI j 6).bind λx7=>some x7 else(if decide ((j.Batch.bD.length:Int)<=j.At) then(fI j 1).bind λx8=>some x8 else(idx j.Batch.bD j.At).bind λx12=>MS j (j.Node.Key == x12.Key)))
def vZ(j:aH)(x13:Bool):=
 (if x13 then(fI j 7).bind λx14=>some x14 else(OD j.Reads j.cD j.eX).bind λx15=>(if !x15.2 then(fI ({j with Reads:=x15.1}:aH) 7).bind λx16=>some x16 else(if decide ((j.Batch.bD.length:Int)<=j.At) then(fI ({j with Reads:=x15.1}:aH) 1).bind λx17=>some x17 else(zD ({j with Reads:=x15.1}:aH) j.Found j.Node.eO).bind λx18=>some x18)))
def OE(t:Table)(w_:Int)(j:aH):=
 (idx t.aW j.cD).bind λx1=>(idx t.aA.aJ.bS w_).bind λx2=>(if j.Pc == 2 then(if x1.gH != 0 then(fI j 7).bind λx4=>some x4 else(if x1.Head == 0 then mF ({j with Pc:=5,eX:=x1.eX,H:=x1.Head,Node:=(⟨0,0,0⟩:dX),Found:=false}:aH) else mF ({j with Pc:=3,eX:=x1.eX,H:=x1.Head,Node:=(⟨0,0,0⟩:dX),Found:=false}:aH))) else(if j.Pc == 3 then(LW t.aA.Mem j.H).bind λx5=>mF ({j with Pc:=4,Node:=x5}:aH) else(if j.Pc == 4 then(if !x2.On then pL j true else pL j x2.gN) else(if x1.gH != 0 then vZ j true else vZ j (x1.eX != j.eX)))))
def aXE(x5:Int):=
 some x5
def OF(x4 x7:Int):Option (Step (Int×Int) Int):=
 some (.next (x7,aE (x4+1)))
def G9(l:List aP)(x3 x4:Int)(x6:Bool):Option (Step (Int×Int) Int):=
 (if x6 then(idx l x4).bind λx8=>(if !x8.GQ then OF x4 (aE (x3+1)) else OF x4 x3) else some (.stop (x3)))
def HA(l:List aP)(n:Int):(Int×Int)->Option (Step (Int×Int) Int)
 |(x3,x4)=>(if decide (x4<(l.length:Int)) then G9 l x3 x4 (decide (x4<n)) else G9 l x3 x4 false)
def aXF:Int->Option Int
 |x5=>aXE x5
def VZ(l:List aP)(n:Int):=
 (loop (HA l n) (0,0)).bind (aXF)
def nG(t:Table)(x3:Bool)(x4:Table)(x5:aH):=
 (if x3 then(fI x5 x5.Sub.Code).bind λx6=>some (({x4 with aM:=t.aM,bJ:=t.bJ}:Table),x6) else need (x5.cR.length+([x5.Sub.Out]).length<=1073741824) ((m4 1 16).bind λx7=>some (({x4 with aM:=t.aM,bJ:=t.bJ}:Table),({x5 with K:=aE (x5.K+1),Sub:=x7,cR:=x5.cR++([x5.Sub.Out])}:aH))))
def KV(t:Table)(w_:Int)(j:aH):=
 (VZ j.aI (j.aI.length:Int)).bind λx1=>(if decide (x1<=j.K) then some (t,({j with Pc:=7,K:=0}:aH)) else(FQ t w_ j).bind λx2=>(if !x2.2.2 then some ((⟨x2.1.aA,x2.1.aW,t.aM,t.bJ,x2.1.Log,x2.1.aK⟩:Table),x2.2.1) else(if x2.2.1.Sub.Code != 0 then nG t true (⟨x2.1.aA,x2.1.aW,t.aM,t.bJ,x2.1.Log,x2.1.aK⟩:Table) x2.2.1 else(iG x2.2.1.Sub.Out).bind λx8=>(if !x8 then nG t true (⟨x2.1.aA,x2.1.aW,t.aM,t.bJ,x2.1.Log,x2.1.aK⟩:Table) x2.2.1 else nG t (decide (6<=(x2.2.1.cR.length:Int))) (⟨x2.1.aA,x2.1.aW,t.aM,t.bJ,x2.1.Log,x2.1.aK⟩:Table) x2.2.1))))
def zE(x9:List Int):=
 some x9
def P7(x:Int)(x7:List Int)(x8:Bool):=
 (if !x8 then need (x7.length+([x]).length<=1073741824) (zE (x7++([x]))) else zE x7)
def sN(l:List Int)(x6:Int)(x11:List Int)(x12:Bool):Option (Step ((List Int)×Bool×Int) (Out ((List Int)×Bool) (List Int))):=
 (idx l x6).bind λx13=>need (x11.length+([x13]).length<=1073741824) (some (.next (x11++([x13]),x12,aE (x6+1))))
def sO(l:List Int)(x:Int)(x4:List Int)(x5:Bool)(x6:Int)(x14:Bool):Option (Step ((List Int)×Bool×Int) (Out ((List Int)×Bool) (List Int))):=
 (if x14 then need (x4.length+([x]).length<=1073741824) (sN l x6 (x4++([x])) true) else sN l x6 x4 x5)
def jS(l:List Int)(x:Int):((List Int)×Bool×Int)->Option (Step ((List Int)×Bool×Int) (Out ((List Int)×Bool) (List Int)))
 |(x4,x5,x6)=>(if decide (x6<(l.length:Int)) then(idx l x6).bind λx10=>(if x10 == x then some (.stop (Out.ret l)) else(if !x5 then sO l x x4 x5 x6 (decide (x<x10)) else sO l x x4 x5 x6 false)) else some (.stop (Out.brk (x4,x5))))
def zF(x:Int):(Out ((List Int)×Bool) (List Int))->Option (List Int)
 |.brk (x7,x8)=>P7 x x7 x8
 |.ret r=>some r
def SQ(l:List Int)(x:Int):=
 (loop (jS l x) (([]:List Int),false,0)).bind (zF x)
def aLQ(x5:List Int):=
 some x5
def D0(x4:Int)(x6:List Int):Option (Step ((List Int)×Int) (List Int)):=
 some (.next (x6,aE (x4+1)))
def v7(l:List aP):((List Int)×Int)->Option (Step ((List Int)×Int) (List Int))
 |(x3,x4)=>(if decide (x4<(l.length:Int)) then(idx l x4).bind λx7=>(E0 x7.Key).bind λx8=>(if decide (0<=x8) then(idx l x4).bind λx9=>(E0 x9.Key).bind λx10=>(SQ x3 x10).bind λx11=>D0 x4 x11 else D0 x4 x3) else some (.stop (x3)))
def aLR:(List Int)->Option (List Int)
 |x5=>aLQ x5
def OG(l:List aP):=
 (loop (v7 l) (([]:List Int),0)).bind (aLR)
def C6(t:Table)(w_:Int)(j:aH):=
 need (t.Log.length+([(⟨2,w_,j.aK,0,[],[]⟩:iB)]).length<=1073741824) (some (({t with Log:=t.Log++([(⟨2,w_,j.aK,0,[],[]⟩:iB)])}:Table),({j with Pc:=8,K:=0}:aH)))
def v8(t:Table)(w_:Int)(j:aH)(x1:(List Int))(x3:Int)(x8:cD)(x10:List Int):=
 (if(aE (j.K+1)) == (x1.length:Int) then(C6 ({t with aW:=t.aW.set x3.toNat ({x8 with gH:=aE (w_+1)}:cD)}:Table) w_ ({j with K:=aE (j.K+1),bC:=x10}:aH)).bind λx11=>some ((⟨x11.1.aA,x11.1.aW,t.aM,t.bJ,x11.1.Log,x11.1.aK⟩:Table),x11.2) else some (({t with aW:=t.aW.set x3.toNat ({x8 with gH:=aE (w_+1)}:cD)}:Table),({j with K:=aE (j.K+1),bC:=x10}:aH)))
def ZB(t:Table)(w_:Int)(j:aH)(x1:(List Int))(x3:Int):=
 (idx t.aW x3).bind λx8=>(if x8.eX == 1000000 then(fI j 3).bind λx9=>some (t,x9) else(JW j.bC x3).bind λx12=>(if !x12 then need (j.bC.length+([x3]).length<=1073741824) (v8 t w_ j x1 x3 x8 (j.bC++([x3]))) else v8 t w_ j x1 x3 x8 j.bC))
def wA(t:Table)(j:aH)(x7:Int)(x13:Bool):Option (Step Int (Out Unit (Table×aH))):=
 (if x13 then(fI j 7).bind λx14=>some (.stop (Out.ret (t,x14))) else some (.next (aE (x7+1))))
def pM(t:Table)(j:aH)(x3:Int):Int->Option (Step Int (Out Unit (Table×aH)))
 |x7=>(if decide (x7<(j.Reads.length:Int)) then(idx j.Reads x7).bind λx15=>(if x15.cD == x3 then(idx t.aW x3).bind λx16=>wA t j x7 (x15.eX != x16.eX) else wA t j x7 false) else some (.stop (Out.brk ())))
def MT(t:Table)(w_:Int)(j:aH)(x1:(List Int))(x3:Int):(Out Unit (Table×aH))->Option (Table×aH)
 |.brk ()=>ZB t w_ j x1 x3
 |.ret r=>some r
def OH(t:Table)(w_:Int)(j:aH):=
 (OG j.aI).bind λx1=>(if decide ((x1.length:Int)<=j.K) then(C6 t w_ j).bind λx2=>some ((⟨x2.1.aA,x2.1.aW,t.aM,t.bJ,x2.1.Log,x2.1.aK⟩:Table),x2.2) else(idx x1 j.K).bind λx3=>(idx t.aW x3).bind λx4=>(if x4.gH != 0 then(fI j 7).bind λx5=>some (t,x5) else(loop (pM t j x3) 0).bind (MT t w_ j x1 x3)))
def kS(j:aH)(x3:Bool):=
 (if x3 then(fI j 7).bind λx4=>some x4 else some ({j with K:=aE (j.K+1)}:aH))
def KW(t:Table)(w_:Int)(j:aH):=
 (if decide ((j.Reads.length:Int)<=j.K) then some ({j with Pc:=9,K:=0}:aH) else(idx j.Reads j.K).bind λx1=>(idx t.aW x1.cD).bind λx2=>(if x2.gH != 0 then(if x2.gH != (aE (w_+1)) then kS j true else kS j (x2.eX != x1.eX)) else kS j (x2.eX != x1.eX)))
def rB(j:aH):=
 (idx j.aI j.K).bind λx1=>(if x1.GQ then some ({j with Pc:=9,K:=aE (j.K+1)}:aH) else some ({j with Pc:=12}:aH))
def ZC(b:List Int):=
 some (decide ((b.length:Int)<=1000))
def pN(b:List Int):Int->Option (Step Int (Out Unit Bool))
 |x2=>(if decide (x2<(b.length:Int)) then(idx b x2).bind λx3=>(cH x3 0 255).bind λx4=>(if !x4 then some (.stop (Out.ret false)) else some (.next (aE (x2+1)))) else some (.stop (Out.brk ())))
def MU(b:List Int):(Out Unit Bool)->Option Bool
 |.brk ()=>ZC b
 |.ret r=>some r
def OI(b:List Int):=
 (loop (pN b) 0).bind (MU b)
def aLS:=
 some true
def pO(h:Heap):Int->Option (Step Int (Out Unit Bool))
 |x3=>(if decide (x3<6) then(idx h.Class x3).bind λx4=>(cH x4 (-1) 2).bind λx5=>(if !x5 then some (.stop (Out.ret false)) else some (.next (aE (x3+1)))) else some (.stop (Out.brk ())))
def aLT:(Out Unit Bool)->Option Bool
 |.brk ()=>aLS
 |.ret r=>some r
def wB(h:Heap)(x1:Bool):=
 (if x1 then some false else(loop (pO h) 0).bind (aLT))
def OJ(h:Heap):=
 (if(h.Bytes.length:Int) != 384 then wB h true else(if(h.Class.length:Int) != 6 then wB h true else(OI h.Bytes).bind λx6=>wB h (!x6)))
def aPJ:=
 some true
def sP(h:Heap)(p:Int):Int->Option (Step Int (Out Unit Bool))
 |x3=>(if decide (x3<(aE ((aE (p*64))+64))) then(idx h.Bytes x3).bind λx4=>(if x4 != 0 then some (.stop (Out.ret false)) else some (.next (aE (x3+1)))) else some (.stop (Out.brk ())))
def aPK:(Out Unit Bool)->Option Bool
 |.brk ()=>aPJ
 |.ret r=>some r
def aPL:=
 some true
def sQ(h:Heap)(p x1:Int):Int->Option (Step Int (Out Unit Bool))
 |x9=>(mV x1).bind λx10=>(if decide (x9<x10) then(uA p x9).bind λx11=>(y5 x11 x1).bind λx12=>(uB h.Bytes x12 4).bind λx13=>(cH x13 1 7).bind λx14=>(if !x14 then some (.stop (Out.ret false)) else some (.next (aE (x9+1)))) else some (.stop (Out.brk ())))
def aPM:(Out Unit Bool)->Option Bool
 |.brk ()=>aPL
 |.ret r=>some r
def aBJ(h:Heap)(p x1:Int):=
 (loop (sQ h p x1) 0).bind (aPM)
def sS(h:Heap)(p:Int):Int->Option (Step Int (Out Unit Bool))
 |x7=>(if decide (x7<(aE ((aE (p*64))+8))) then(idx h.Bytes x7).bind λx15=>(if x15 != 0 then some (.stop (Out.ret false)) else some (.next (aE (x7+1)))) else some (.stop (Out.brk ())))
def aBK(h:Heap)(p x1:Int):(Out Unit Bool)->Option Bool
 |.brk ()=>aBJ h p x1
 |.ret r=>some r
def lQ(h:Heap)(p x1:Int)(x5:Bool):=
 (if x5 then some false else(loop (sS h p) (aE ((aE (p*64))+3))).bind (aBK h p x1))
def SR(h:Heap)(p:Int):=
 (idx h.Class p).bind λx1=>(if decide (x1<0) then(loop (sP h p) (aE (p*64))).bind (aPK) else(idx h.Bytes (aE (p*64))).bind λx16=>(if x16 != 171 then lQ h p x1 true else(idx h.Bytes (aE ((aE (p*64))+1))).bind λx17=>(if x17 != x1 then lQ h p x1 true else(idx h.Bytes (aE ((aE (p*64))+2))).bind λx18=>(mV x1).bind λx19=>lQ h p x1 (x18 != x19))))
def aPN:=
 some true
def zG(h:Heap):Int->Option (Step Int (Out Unit Bool))
 |x3=>(if decide (x3<6) then(SR h x3).bind λx4=>(if !x4 then some (.stop (Out.ret false)) else some (.next (aE (x3+1)))) else some (.stop (Out.brk ())))
def aPO:(Out Unit Bool)->Option Bool
 |.brk ()=>aPN
 |.ret r=>some r
def SS(h:Heap):=
 (OJ h).bind λx1=>(if !x1 then some false else(loop (zG h) 0).bind (aPO))
def aLU:=
 some true
def D1(x6:Int)(x7:Bool):Option (Step Int (Out Unit Bool)):=
 (if x7 then some (.stop (Out.ret false)) else some (.next (aE (x6+1))))
def pP(x4:(List Int)):Int->Option (Step Int (Out Unit Bool))
 |x6=>(if decide (x6<(x4.length:Int)) then(idx x4 x6).bind λx8=>(cH x8 0 23).bind λx9=>(if !x9 then D1 x6 true else need (0<=(x6:Int)/\(x6:Int)<=(x4.length:Int)) ((JW ((x4.take x6.toNat).drop 0) x8).bind λx10=>D1 x6 x10)) else some (.stop (Out.brk ())))
def aLV:(Out Unit Bool)->Option Bool
 |.brk ()=>aLU
 |.ret r=>some r
def ZD(l:aD):=
 (P4 l).bind λx4=>(loop (pP x4) 0).bind (aLV)
def pQ(l:aD):Int->Option (Step Int (Out Unit Bool))
 |x3=>(if decide (x3<(l.Own.length:Int)) then(idx l.Own x3).bind λx11=>(if decide (2<(x11.aV.length:Int)) then some (.stop (Out.ret false)) else some (.next (aE (x3+1)))) else some (.stop (Out.brk ())))
def ZE(l:aD):(Out Unit Bool)->Option Bool
 |.brk ()=>ZD l
 |.ret r=>some r
def D2(l:aD)(x1:Bool):=
 (if x1 then some false else(loop (pQ l) 0).bind (ZE l))
def OK(l:aD):=
 (if(l.Global.length:Int) != 3 then D2 l true else D2 l ((l.Own.length:Int) != 9))
def aIS:=
 some true
def A6(x2:Int)(x3:Bool):Option (Step Int (Out Unit Bool)):=
 (if x3 then some (.stop (Out.ret false)) else some (.next (aE (x2+1))))
def nH(h:Heap)(l:List Int)(c:Int):Int->Option (Step Int (Out Unit Bool))
 |x2=>(if decide (x2<(l.length:Int)) then(idx l x2).bind λx4=>(mW h x4).bind λx5=>(if x5 != c then A6 x2 true else(idx l x2).bind λx6=>(y8 h x6).bind λx7=>A6 x2 (decide (6<x7))) else some (.stop (Out.brk ())))
def aIT:(Out Unit Bool)->Option Bool
 |.brk ()=>aIS
 |.ret r=>some r
def C7(h:Heap)(l:List Int)(c:Int):=
 (loop (nH h l c) 0).bind (aIT)
def aTE:=
 some true
def aD6(x3:Int):Option (Step Int (Out Unit Bool)):=
 some (.next (aE (x3+1)))
def C8(m:Mem)(x3:Int):Int->Option (Step Int (Out Unit Bool))
 |x7=>(if decide (x7<3) then(yZ x7 x3).bind λx8=>(idx m.aD.Own x8).bind λx9=>(C7 m.Heap x9.aV x3).bind λx10=>(if !x10 then some (.stop (Out.ret false)) else some (.next (aE (x7+1)))) else some (.stop (Out.brk ())))
def aD7(x3:Int):(Out Unit Bool)->Option (Step Int (Out Unit Bool))
 |.brk ()=>aD6 x3
 |.ret r=>some (.stop (Out.ret r))
def C9(m:Mem):Int->Option (Step Int (Out Unit Bool))
 |x3=>(if decide (x3<3) then(idx m.aD.Global x3).bind λx4=>(C7 m.Heap x4.aV x3).bind λx5=>(if !x5 then some (.stop (Out.ret false)) else(loop (C8 m x3) 0).bind (aD7 x3)) else some (.stop (Out.brk ())))
def aTF:(Out Unit Bool)->Option Bool
 |.brk ()=>aTE
 |.ret r=>some r
def KX(m:Mem)(x1:Bool):=
 (if x1 then some false else(loop (C9 m) 0).bind (aTF))
def J1(m:Mem):=
 (SS m.Heap).bind λx11=>(if !x11 then KX m true else(OK m.aD).bind λx12=>KX m (!x12))
def D3(x1:Bool):=
 some x1
def HB(h:Int):=
 (if h == 0 then D3 true else(iG h).bind λx2=>D3 x2)
def j8(b:List Int):=
 need (([]:List Int).length+b.length<=1073741824) (some (([]:List Int)++b))
def SU(h:Heap):=
 (j8 h.Bytes).bind λx1=>(j8 h.Class).bind λx2=>some (⟨x1,x2⟩:Heap)
def aPP(x5:List aU):=
 some x5
def P8(l:List aU):((List aU)×Int)->Option (Step ((List aU)×Int) (List aU))
 |(x3,x4)=>(if decide (x4<(l.length:Int)) then(idx l x4).bind λx6=>(j8 x6.aV).bind λx7=>need (x3.length+([(⟨x7⟩:aU)]).length<=1073741824) (some (.next (x3++([(⟨x7⟩:aU)]),aE (x4+1)))) else some (.stop (x3)))
def aPQ:(List aU)->Option (List aU)
 |x5=>aPP x5
def LX(l:List aU):=
 (loop (P8 l) (([]:List aU),0)).bind (aPQ)
def SW(l:aD):=
 (LX l.Global).bind λx1=>(LX l.Own).bind λx2=>some (⟨x1,x2⟩:aD)
def zH(m:Mem):=
 (SU m.Heap).bind λx1=>(SW m.aD).bind λx2=>some (⟨x1,x2⟩:Mem)
def HC(m:Mem)(h next_:Int)(x2:Bool)(x3:Mem):Option (Mem×Int):=
 (if x2 then some (x3,1) else(uL m h).bind λx4=>(if !x4 then some (x3,4) else(A5 m h).bind λx5=>(if x5.2 != 0 then some (x3,x5.2) else(iK x3.Heap.Bytes (aE (x5.1+6)) 4 next_).bind λx6=>some ((⟨(⟨x6,x3.Heap.Class⟩:Heap),x3.aD⟩:Mem),0))))
def SX(m:Mem)(h next_:Int):Option (Mem×Int):=
 (zH m).bind λx1=>(J1 m).bind λx7=>(if !x7 then HC m h next_ true x1 else(HB next_).bind λx8=>HC m h next_ (!x8) x1)
def zI(x1:Bool):=
 some x1
def SY(n:dX):=
 (cH n.Key 0 99).bind λx2=>(if x2 then(cH n.eO 0 65535).bind λx3=>(if x3 then(HB n.Next).bind λx4=>zI x4 else zI false) else zI false)
def aBL(m:Mem)(at_:Int)(n:dX):=
 (iK m.Heap.Bytes at_ 2 n.Key).bind λx1=>(iK x1 (aE (at_+2)) 4 n.eO).bind λx2=>(iK x2 (aE (at_+6)) 4 n.Next).bind λx3=>some (⟨(⟨x3,m.Heap.Class⟩:Heap),m.aD⟩:Mem)
def D4(m:Mem)(h:Int)(n:dX)(x2:Bool)(x3:Mem):Option (Mem×Int):=
 (if x2 then some (x3,1) else(uL m h).bind λx4=>(if !x4 then some (x3,4) else(A5 m h).bind λx5=>(if x5.2 != 0 then some (x3,x5.2) else(aBL x3 x5.1 n).bind λx6=>some (x6,0))))
def OL(m:Mem)(h:Int)(n:dX):Option (Mem×Int):=
 (zH m).bind λx1=>(J1 m).bind λx7=>(if !x7 then D4 m h n true x1 else(SY n).bind λx8=>D4 m h n (!x8) x1)
def oA(t:Table)(x3:List cD)(x4:aH):=
 some (({t with aW:=x3}:Table),x4)
def oB(t:Table)(j:aH)(x12:Table)(x13:List Int):=
 (rB ({j with bL:=x13}:aH)).bind λx14=>some (({x12 with aM:=t.aM,bJ:=t.bJ}:Table),x14)
def uP(t:Table)(j:aH)(x15:Bool)(x16:Table):=
 (if x15 then need (j.bL.length+([j.H]).length<=1073741824) (oB t j ({x16 with aM:=t.aM,bJ:=t.bJ}:Table) (j.bL++([j.H]))) else oB t j ({x16 with aM:=t.aM,bJ:=t.bJ}:Table) j.bL)
def oC(t:Table)(j:aH)(x11:Table):=
 (if decide ((j.bL.length:Int)<6) then(iG j.H).bind λx17=>uP t j x17 ({x11 with aM:=t.aM,bJ:=t.bJ}:Table) else uP t j false ({x11 with aM:=t.aM,bJ:=t.bJ}:Table))
def E1(t:Table)(j:aH)(x20:Table):=
 oC t j ({x20 with aM:=t.aM,bJ:=t.bJ}:Table)
def P9(t:Table)(j:aH)(x25:Table):=
 some (({x25 with aM:=t.aM,bJ:=t.bJ}:Table),({j with Pc:=13}:aH))
def D5(t:Table)(j:aH):=
 (if decide ((j.aI.length:Int)<=j.K) then some (t,({j with Pc:=14}:aH)) else(idx j.aI j.K).bind λx1=>(E0 x1.Key).bind λx2=>(if j.Pc == 9 then(idx t.aW x2).bind λx5=>(if x5.Head == 0 then(rB ({j with H:=x5.Head,g8:=0}:aH)).bind λx6=>some (t,x6) else oA t t.aW ({j with Pc:=10,H:=x5.Head,g8:=0}:aH)) else(if j.Pc == 10 then(LW t.aA.Mem j.H).bind λx7=>(if x7.Key == x1.Key then oA t t.aW ({j with Pc:=11,Node:=x7}:aH) else(qF x7).bind λx8=>(if x8 == 0 then(rB ({j with Node:=x7}:aH)).bind λx9=>some (t,x9) else(qF x7).bind λx10=>oA t t.aW ({j with H:=x10,g8:=j.H,Node:=x7}:aH))) else(if j.Pc == 11 then(if j.g8 == 0 then(qF j.Node).bind λx18=>(idx t.aW x2).bind λx19=>oC t j ({t with aW:=t.aW.set x2.toNat ({x19 with Head:=x18}:cD)}:Table) else(qF j.Node).bind λx21=>(SX t.aA.Mem j.g8 x21).bind λx22=>E1 t j ({t with aA:=(⟨x22.1,t.aA.aJ,t.aA.bB,t.aA.i5⟩:aA)}:Table)) else(VZ j.aI j.K).bind λx23=>(if decide ((j.cR.length:Int)<=x23) then(fI j 1).bind λx24=>some (t,x24) else(if j.Pc == 12 then(idx j.cR x23).bind λx26=>(idx t.aW x2).bind λx27=>(OL t.aA.Mem x26 ({x1 with Next:=x27.Head}:dX)).bind λx28=>P9 t j ({t with aA:=(⟨x28.1,t.aA.aJ,t.aA.bB,t.aA.i5⟩:aA)}:Table) else(idx j.cR x23).bind λx29=>(idx t.aW x2).bind λx30=>oA t (t.aW.set x2.toNat ({x30 with Head:=x29}:cD)) ({j with Pc:=9,K:=aE (j.K+1)}:aH)))))))
def HD(t:Table)(x1:aH):=
 some (t,x1)
def xX(t:Table)(j:aH)(x5:(List Int))(x7:List cD):=
 some (({t with aW:=x7}:Table),({j with bC:=x5}:aH))
def HE(t:Table)(j:aH):=
 (if(j.bC.length:Int) == 0 then(if j.Pc == 16 then some (t,({j with Pc:=17}:aH)) else(if decide (0<(j.bL.length:Int)) then(idx j.bL 0).bind λx2=>(m4 2 x2).bind λx3=>HD t ({j with Pc:=15,K:=0,Sub:=x3}:aH) else HD t ({j with Pc:=15,K:=0}:aH))) else(idx j.bC 0).bind λx4=>need (0<=(1:Int)/\(1:Int)<=(j.bC.length:Int)) ((j8 ((j.bC.take j.bC.length).drop (1:Int).toNat)).bind λx5=>(idx t.aW x4).bind λx6=>(if j.Pc == 14 then(idx (t.aW.set x4.toNat ({x6 with gH:=0}:cD)) x4).bind λx8=>xX t j x5 ((t.aW.set x4.toNat ({x6 with gH:=0}:cD)).set x4.toNat ({x8 with eX:=if 1000000<(aE (x8.eX+1)) then 1000000 else(aE (x8.eX+1))}:cD)) else xX t j x5 (t.aW.set x4.toNat ({x6 with gH:=0}:cD)))))
def xY(t x2:Table)(x3:aH):=
 some (({x2 with aM:=t.aM,bJ:=t.bJ}:Table),x3)
def HF(t:Table)(w_:Int)(j:aH):=
 (if decide ((j.bL.length:Int)<=j.K) then some (t,({j with Pc:=18}:aH)) else(FQ t w_ j).bind λx1=>(if x1.2.2 then(if decide ((aE (x1.2.1.K+1))<(x1.2.1.bL.length:Int)) then(idx x1.2.1.bL (aE (x1.2.1.K+1))).bind λx4=>(m4 2 x4).bind λx5=>xY t (⟨x1.1.aA,x1.1.aW,t.aM,t.bJ,x1.1.Log,x1.1.aK⟩:Table) (⟨x1.2.1.nE,x1.2.1.Batch,x1.2.1.aK,x1.2.1.Pc,x1.2.1.At,aE (x1.2.1.K+1),x1.2.1.cD,x1.2.1.eX,x1.2.1.H,x1.2.1.g8,x1.2.1.Node,x1.2.1.Found,x1.2.1.Code,x5,x1.2.1.Reads,x1.2.1.aI,x1.2.1.cC,x1.2.1.cR,x1.2.1.bC,x1.2.1.bL⟩:aH) else xY t (⟨x1.1.aA,x1.1.aW,t.aM,t.bJ,x1.1.Log,x1.1.aK⟩:Table) (⟨x1.2.1.nE,x1.2.1.Batch,x1.2.1.aK,x1.2.1.Pc,x1.2.1.At,aE (x1.2.1.K+1),x1.2.1.cD,x1.2.1.eX,x1.2.1.H,x1.2.1.g8,x1.2.1.Node,x1.2.1.Found,x1.2.1.Code,x1.2.1.Sub,x1.2.1.Reads,x1.2.1.aI,x1.2.1.cC,x1.2.1.cR,x1.2.1.bC,x1.2.1.bL⟩:aH)) else xY t (⟨x1.1.aA,x1.1.aW,t.aM,t.bJ,x1.1.Log,x1.1.aK⟩:Table) x1.2.1))
def D6(m:Mem)(w_ h:Int)(x2:Bool)(x3:Mem):Option (Mem×Int):=
 (if x2 then some (x3,1) else(uL m h).bind λx4=>(if !x4 then some (x3,4) else(fE h).bind λx5=>(zC x3 w_ x5).bind λx6=>some (x6,0)))
def OM(m:Mem)(w_ h:Int):Option (Mem×Int):=
 (zH m).bind λx1=>(J1 m).bind λx7=>(if !x7 then D6 m w_ h true x1 else(cH w_ 0 2).bind λx8=>D6 m w_ h (!x8) x1)
def XU(b:aA)(w_ h:Int):Option (Mem×Int):=
 (fE h).bind λx1=>(G4 b.bB x1).bind λx2=>(if x2 then some (b.Mem,4) else(OM b.Mem w_ h).bind λx3=>some (x3.1,x3.2))
def xC(w_:Int)(x1:aJ)(x2:Bool):=
 (if x2 then some (x1,false) else(idx x1.bS w_).bind λx3=>some ((⟨x1.aQ,x1.bS.set w_.toNat (⟨false,0,false,0⟩:lF)⟩:aJ),true))
def J2(c:aJ)(w_:Int):=
 (qC c).bind λx1=>(uM c).bind λx4=>(if !x4 then xC w_ x1 true else(cH w_ 0 2).bind λx5=>(if !x5 then xC w_ x1 true else(idx c.bS w_).bind λx6=>xC w_ x1 (!x6.On)))
def zJ(l:List cC):=
 need (([]:List cC).length+l.length<=1073741824) (some (([]:List cC)++l))
def HH(t:Table)(j:aH)(x1:Table)(x2:Int)(x3:List Int):=
 some (({x1 with aM:=t.aM,bJ:=t.bJ}:Table),({j with Pc:=x2,cR:=x3}:aH))
def HI(t:Table)(j:aH)(x4:Table):=
 need (0<=(1:Int)/\(1:Int)<=(j.cR.length:Int)) ((j8 ((j.cR.take j.cR.length).drop ((1:Int).toNat))).bind λx5=>HH t j ({x4 with aM:=t.aM,bJ:=t.bJ}:Table) j.Pc x5)
def zK(t:Table)(w_:Int)(j:aH)(x9:List cC):=
 need (t.Log.length+([(⟨3,w_,j.aK,j.Code,[],x9⟩:iB)]).length<=1073741824) (some (({t with Log:=t.Log++([(⟨3,w_,j.aK,j.Code,[],x9⟩:iB)])}:Table),(⟨false,(⟨false,[]⟩:Batch),0,0,0,0,0,0,0,0,(⟨0,0,0⟩:dX),false,0,(⟨0,0,0,0,0,0,0,0,0,false⟩:Sub),[],[],[],[],[],[]⟩:aH)))
def uC(t:Table)(w_:Int)(j:aH):=
 (if j.Pc == 17 then(if(j.cR.length:Int) == 0 then some (t,({j with Pc:=18}:aH)) else(idx j.cR 0).bind λx6=>(XU t.aA w_ x6).bind λx7=>HI t j ({t with aA:=(⟨x7.1,t.aA.aJ,t.aA.bB,t.aA.i5⟩:aA)}:Table)) else(if j.Pc == 18 then(J2 t.aA.aJ w_).bind λx8=>HH t j ({t with aA:=(⟨t.aA.Mem,x8.1,t.aA.bB,t.aA.i5⟩:aA)}:Table) 19 j.cR else(if j.Code == 0 then(zJ j.cC).bind λx10=>zK t w_ j x10 else zK t w_ j ([]))))
def fY(t:Table)(w_:Int)(x3:Table)(x4:aH):=
 some ({x3 with aM:=t.aM.set w_.toNat x4,bJ:=t.bJ}:Table)
def m5(t:Table)(w_:Int)(x1:aH)(x22:Bool)(x23:aH):=
 (if x22 then(uC t w_ ({x23 with Batch:=(⟨x23.Batch.Collect,x1.Batch.bD⟩:Batch),Reads:=x1.Reads,aI:=x1.aI,cC:=x1.cC,cR:=x1.cR,bC:=x1.bC,bL:=x1.bL}:aH)).bind λx24=>fY t w_ (⟨x24.1.aA,x24.1.aW,t.aM,t.bJ,x24.1.Log,x24.1.aK⟩:Table) x24.2 else(fI ({x23 with Batch:=(⟨x23.Batch.Collect,x1.Batch.bD⟩:Batch),Reads:=x1.Reads,aI:=x1.aI,cC:=x1.cC,cR:=x1.cR,bC:=x1.bC,bL:=x1.bL}:aH) 1).bind λx25=>fY t w_ t x25)
def xD(t:Table)(w_:Int)(x1:aH)(x18:Bool)(x19:aH):=
 (if x18 then(HE t ({x19 with Batch:=(⟨x19.Batch.Collect,x1.Batch.bD⟩:Batch),Reads:=x1.Reads,aI:=x1.aI,cC:=x1.cC,cR:=x1.cR,bC:=x1.bC,bL:=x1.bL}:aH)).bind λx20=>fY t w_ (⟨x20.1.aA,x20.1.aW,t.aM,t.bJ,x20.1.Log,x20.1.aK⟩:Table) x20.2 else(if x1.Pc == 15 then(HF t w_ ({x19 with Batch:=(⟨x19.Batch.Collect,x1.Batch.bD⟩:Batch),Reads:=x1.Reads,aI:=x1.aI,cC:=x1.cC,cR:=x1.cR,bC:=x1.bC,bL:=x1.bL}:aH)).bind λx21=>fY t w_ (⟨x21.1.aA,x21.1.aW,t.aM,t.bJ,x21.1.Log,x21.1.aK⟩:Table) x21.2 else(if x1.Pc == 17 then m5 t w_ x1 true ({x19 with Batch:=(⟨x19.Batch.Collect,x1.Batch.bD⟩:Batch),Reads:=x1.Reads,aI:=x1.aI,cC:=x1.cC,cR:=x1.cR,bC:=x1.bC,bL:=x1.bL}:aH) else(if x1.Pc == 18 then m5 t w_ x1 true ({x19 with Batch:=(⟨x19.Batch.Collect,x1.Batch.bD⟩:Batch),Reads:=x1.Reads,aI:=x1.aI,cC:=x1.cC,cR:=x1.cR,bC:=x1.bC,bL:=x1.bL}:aH) else m5 t w_ x1 (x1.Pc == 19) ({x19 with Batch:=(⟨x19.Batch.Collect,x1.Batch.bD⟩:Batch),Reads:=x1.Reads,aI:=x1.aI,cC:=x1.cC,cR:=x1.cR,bC:=x1.bC,bL:=x1.bL}:aH)))))
def lG(t:Table)(w_:Int)(x1:aH)(x15:Bool)(x16:aH):=
 (if x15 then(D5 t ({x16 with Batch:=(⟨x16.Batch.Collect,x1.Batch.bD⟩:Batch),Reads:=x1.Reads,aI:=x1.aI,cC:=x1.cC,cR:=x1.cR,bC:=x1.bC,bL:=x1.bL}:aH)).bind λx17=>fY t w_ (⟨x17.1.aA,x17.1.aW,t.aM,t.bJ,x17.1.Log,x17.1.aK⟩:Table) x17.2 else(if x1.Pc == 14 then xD t w_ x1 true ({x16 with Batch:=(⟨x16.Batch.Collect,x1.Batch.bD⟩:Batch),Reads:=x1.Reads,aI:=x1.aI,cC:=x1.cC,cR:=x1.cR,bC:=x1.bC,bL:=x1.bL}:aH) else xD t w_ x1 (x1.Pc == 16) ({x16 with Batch:=(⟨x16.Batch.Collect,x1.Batch.bD⟩:Batch),Reads:=x1.Reads,aI:=x1.aI,cC:=x1.cC,cR:=x1.cR,bC:=x1.bC,bL:=x1.bL}:aH)))
def m6(t:Table)(w_:Int)(x1:aH)(x9:Bool)(x10:aH):=
 (if x9 then(OE t w_ ({x10 with Batch:=(⟨x10.Batch.Collect,x1.Batch.bD⟩:Batch),Reads:=x1.Reads,aI:=x1.aI,cC:=x1.cC,cR:=x1.cR,bC:=x1.bC,bL:=x1.bL}:aH)).bind λx11=>fY t w_ t x11 else(if x1.Pc == 6 then(KV t w_ ({x10 with Batch:=(⟨x10.Batch.Collect,x1.Batch.bD⟩:Batch),Reads:=x1.Reads,aI:=x1.aI,cC:=x1.cC,cR:=x1.cR,bC:=x1.bC,bL:=x1.bL}:aH)).bind λx12=>fY t w_ (⟨x12.1.aA,x12.1.aW,t.aM,t.bJ,x12.1.Log,x12.1.aK⟩:Table) x12.2 else(if x1.Pc == 7 then(OH t w_ ({x10 with Batch:=(⟨x10.Batch.Collect,x1.Batch.bD⟩:Batch),Reads:=x1.Reads,aI:=x1.aI,cC:=x1.cC,cR:=x1.cR,bC:=x1.bC,bL:=x1.bL}:aH)).bind λx13=>fY t w_ (⟨x13.1.aA,x13.1.aW,t.aM,t.bJ,x13.1.Log,x13.1.aK⟩:Table) x13.2 else(if x1.Pc == 8 then(KW t w_ ({x10 with Batch:=(⟨x10.Batch.Collect,x1.Batch.bD⟩:Batch),Reads:=x1.Reads,aI:=x1.aI,cC:=x1.cC,cR:=x1.cR,bC:=x1.bC,bL:=x1.bL}:aH)).bind λx14=>fY t w_ t x14 else(if x1.Pc == 9 then lG t w_ x1 true ({x10 with Batch:=(⟨x10.Batch.Collect,x1.Batch.bD⟩:Batch),Reads:=x1.Reads,aI:=x1.aI,cC:=x1.cC,cR:=x1.cR,bC:=x1.bC,bL:=x1.bL}:aH) else(if x1.Pc == 10 then lG t w_ x1 true ({x10 with Batch:=(⟨x10.Batch.Collect,x1.Batch.bD⟩:Batch),Reads:=x1.Reads,aI:=x1.aI,cC:=x1.cC,cR:=x1.cR,bC:=x1.bC,bL:=x1.bL}:aH) else(if x1.Pc == 11 then lG t w_ x1 true ({x10 with Batch:=(⟨x10.Batch.Collect,x1.Batch.bD⟩:Batch),Reads:=x1.Reads,aI:=x1.aI,cC:=x1.cC,cR:=x1.cR,bC:=x1.bC,bL:=x1.bL}:aH) else(if x1.Pc == 12 then lG t w_ x1 true ({x10 with Batch:=(⟨x10.Batch.Collect,x1.Batch.bD⟩:Batch),Reads:=x1.Reads,aI:=x1.aI,cC:=x1.cC,cR:=x1.cR,bC:=x1.bC,bL:=x1.bL}:aH) else lG t w_ x1 (x1.Pc == 13) ({x10 with Batch:=(⟨x10.Batch.Collect,x1.Batch.bD⟩:Batch),Reads:=x1.Reads,aI:=x1.aI,cC:=x1.cC,cR:=x1.cR,bC:=x1.bC,bL:=x1.bL}:aH)))))))))
def rC(t:Table)(w_:Int)(x1:aH)(x5:Bool)(x6:aH):=
 (if x5 then(KT t w_ ({x6 with Batch:=(⟨x6.Batch.Collect,x1.Batch.bD⟩:Batch),Reads:=x1.Reads,aI:=x1.aI,cC:=x1.cC,cR:=x1.cR,bC:=x1.bC,bL:=x1.bL}:aH)).bind λx7=>fY t w_ (⟨x7.1.aA,x7.1.aW,t.aM,t.bJ,x7.1.Log,x7.1.aK⟩:Table) x7.2 else(if x1.Pc == 1 then(DX ({x6 with Batch:=(⟨x6.Batch.Collect,x1.Batch.bD⟩:Batch),Reads:=x1.Reads,aI:=x1.aI,cC:=x1.cC,cR:=x1.cR,bC:=x1.bC,bL:=x1.bL}:aH)).bind λx8=>fY t w_ t x8 else(if x1.Pc == 2 then m6 t w_ x1 true ({x6 with Batch:=(⟨x6.Batch.Collect,x1.Batch.bD⟩:Batch),Reads:=x1.Reads,aI:=x1.aI,cC:=x1.cC,cR:=x1.cR,bC:=x1.bC,bL:=x1.bL}:aH) else(if x1.Pc == 3 then m6 t w_ x1 true ({x6 with Batch:=(⟨x6.Batch.Collect,x1.Batch.bD⟩:Batch),Reads:=x1.Reads,aI:=x1.aI,cC:=x1.cC,cR:=x1.cR,bC:=x1.bC,bL:=x1.bL}:aH) else(if x1.Pc == 4 then m6 t w_ x1 true ({x6 with Batch:=(⟨x6.Batch.Collect,x1.Batch.bD⟩:Batch),Reads:=x1.Reads,aI:=x1.aI,cC:=x1.cC,cR:=x1.cR,bC:=x1.bC,bL:=x1.bL}:aH) else m6 t w_ x1 (x1.Pc == 5) ({x6 with Batch:=(⟨x6.Batch.Collect,x1.Batch.bD⟩:Batch),Reads:=x1.Reads,aI:=x1.aI,cC:=x1.cC,cR:=x1.cR,bC:=x1.bC,bL:=x1.bL}:aH))))))
def XV(t:Table)(w_:Int):=
 (idx t.aM w_).bind λx1=>(if !x1.nE then(KP t w_).bind λx2=>some x2 else(if x1.Pc == 0 then rC t w_ x1 true x1 else(if x1.Pc == 20 then rC t w_ x1 true x1 else rC t w_ x1 (x1.Pc == 21) x1)))
def aLW(x5:List bE):=
 some x5
def MV(l:List bE):((List bE)×Int)->Option (Step ((List bE)×Int) (List bE))
 |(x3,x4)=>(if decide (x4<(l.length:Int)) then(idx l x4).bind λx6=>need (([]:List cQ).length+x6.Rows.length<=1073741824) (need (x3.length+([(⟨([]:List cQ)++x6.Rows⟩:bE)]).length<=1073741824) (some (.next (x3++([(⟨([]:List cQ)++x6.Rows⟩:bE)]),aE (x4+1))))) else some (.stop (x3)))
def aLX:(List bE)->Option (List bE)
 |x5=>aLW x5
def ON(l:List bE):=
 (loop (MV l) (([]:List bE),0)).bind (aLX)
def OO(b:aA):=
 (zH b.Mem).bind λx1=>(qC b.aJ).bind λx2=>(ON b.bB).bind λx3=>(j8 b.i5).bind λx4=>some (⟨x1,x2,x3,x4⟩:aA)
def aPR(x5:List iB):=
 some x5
def QA(l:List iB):((List iB)×Int)->Option (Step ((List iB)×Int) (List iB))
 |(x3,x4)=>(if decide (x4<(l.length:Int)) then(idx l x4).bind λx6=>(p5 x6.bD).bind λx7=>(zJ x6.cC).bind λx8=>need (x3.length+([({x6 with bD:=x7,cC:=x8}:iB)]).length<=1073741824) (some (.next (x3++([({x6 with bD:=x7,cC:=x8}:iB)]),aE (x4+1)))) else some (.stop (x3)))
def aPS:(List iB)->Option (List iB)
 |x5=>aPR x5
def SZ(l:List iB):=
 (loop (QA l) (([]:List iB),0)).bind (aPS)
def S1(j:aH):=
 (qZ j.Batch).bind λx1=>need (([]:List Seen).length+j.Reads.length<=1073741824) (need (([]:List aP).length+j.aI.length<=1073741824) ((zJ j.cC).bind λx2=>(j8 j.cR).bind λx3=>(j8 j.bC).bind λx4=>(j8 j.bL).bind λx5=>some ({j with Batch:=x1,Reads:=([]:List Seen)++j.Reads,aI:=([]:List aP)++j.aI,cC:=x2,cR:=x3,bC:=x4,bL:=x5}:aH)))
def aLY(x6:Table):=
 some x6
def MW(x4:Int)(x7:Table):Option (Step (Int×Table) Table):=
 some (.next (aE (x4+1),x7))
def pR(t:Table):(Int×Table)->Option (Step (Int×Table) Table)
 |(x4,x5)=>(if decide (x4<(t.aM.length:Int)) then(idx t.aM x4).bind λx8=>(S1 x8).bind λx9=>need (x5.aM.length+([x9]).length<=1073741824)<|MW x4 ({x5 with aM:=x5.aM++([x9])}:Table) else some (.stop (x5)))
def aLZ:Table->Option Table
 |x6=>aLY x6
def MX(t x1:Table):=
 (loop (pR t) (0,({x1 with aM:=[]}:Table))).bind (aLZ)
def OQ(t:Table):=
 (OO t.aA).bind λx10=>need (([]:List cD).length+t.aW.length<=1073741824)<|(yY t.bJ).bind λx11=>(SZ t.Log).bind λx12=>MX t (⟨x10,([]:List cD)++t.aW,[],x11,x12,t.aK⟩:Table)
def S3(x6:Table):=
 (OQ x6).bind λx7=>some x7
def xZ(x4:Int)(x10:Table):Option (Step (Int×Table) Table):=
 some (.next (aE (x4+1),x10))
def qG(x:eQ)(x4:Int)(x8:Bool)(x9:Table):Option (Step (Int×Table) Table):=
 (if x8 then(idx x.dC x4).bind λx11=>(cH x11 0 2).bind λx12=>(if x12 then(idx x.dC x4).bind λx13=>(XV x9 x13).bind λx14=>xZ x4 x14 else xZ x4 x9) else some (.stop (x9)))
def qH(x:eQ):(Int×Table)->Option (Step (Int×Table) Table)
 |(x4,x5)=>(if decide (x4<(x.dC.length:Int)) then qG x x4 (decide (x4<400)) x5 else qG x x4 false x5)
def S4:Table->Option Table
 |x6=>S3 x6
def zL(x:eQ):=
 (KO x.bJ).bind λx1=>(if(x1.aM.length:Int) == 0 then some x1 else(loop (qH x) (0,x1)).bind (S4))
def QB:=
 some (-1)
def oD(s:List aO)(f:(aO->Option Bool)):Int->Option (Step Int (Out Unit Int))
 |x2=>(if decide (x2<(s.length:Int)) then(idx s x2).bind λx3=>(f x3).bind λx4=>(if x4 then some (.stop (Out.ret x2)) else some (.next (aE (x2+1)))) else some (.stop (Out.brk ())))
def zN:(Out Unit Int)->Option Int
 |.brk ()=>QB
 |.ret r=>some r
def FR(s:List aO)(f:(aO->Option Bool)):=
 (loop (oD s f) 0).bind (zN)
def oE(s:List aO)(f:(aO->Option Bool)):=
 (FR s f).bind λx1=>some (decide (0<=x1))
def RR:=
 some (-1)
def o5(s:List Batch)(f:(Batch->Option Bool)):Int->Option (Step Int (Out Unit Int))
 |x2=>(if decide (x2<(s.length:Int)) then(idx s x2).bind λx3=>(f x3).bind λx4=>(if x4 then some (.stop (Out.ret x2)) else some (.next (aE (x2+1)))) else some (.stop (Out.brk ())))
def CA:(Out Unit Int)->Option Int
 |.brk ()=>RR
 |.ret r=>some r
def HJ(s:List Batch)(f:(Batch->Option Bool)):=
 (loop (o5 s f) 0).bind (CA)
def o6(s:List Batch)(f:(Batch->Option Bool)):=
 (HJ s f).bind λx1=>some (decide (0<=x1))
def HK(x1:Bool):=
 some x1
def cK(n low high:Int):=
 (if decide (low<=n) then HK (decide (n<=high)) else HK false)
def V1:=
 some (-1)
def sU(s:List iF)(f:(iF->Option Bool)):Int->Option (Step Int (Out Unit Int))
 |x2=>(if decide (x2<(s.length:Int)) then(idx s x2).bind λx3=>(f x3).bind λx4=>(if x4 then some (.stop (Out.ret x2)) else some (.next (aE (x2+1)))) else some (.stop (Out.brk ())))
def FT:(Out Unit Int)->Option Int
 |.brk ()=>V1
 |.ret r=>some r
def LY(s:List iF)(f:(iF->Option Bool)):=
 (loop (sU s f) 0).bind (FT)
def sV(s:List iF)(f:(iF->Option Bool)):=
 (LY s f).bind λx1=>some (decide (0<=x1))
def rD(x2:Bool):=
 some x2
def xE(c:iF)(x1:Bool):=
 (cK c.Kind 1 4).bind λx3=>(if x3 then(cK c.Key 0 99).bind λx4=>(if x4 then(if x1 then(cK c.eO 0 65535).bind λx5=>(if x5 then rD true else rD (c.eO == 0)) else rD (c.eO == 0)) else rD false) else rD false)
def XW(c:iF):=
 (if c.Kind == 2 then xE c true else xE c (c.Kind == 4))
def QC(c:iF):=
 (XW c).bind λx1=>some (!x1)
def wC(x1:Bool):=
 some x1
def OR(b:Batch):=
 (if b.Collect then some ((b.bD.length:Int) == 0) else(cK (b.bD.length:Int) 1 6).bind λx2=>(if x2 then(sV b.bD (λy0=>QC y0)).bind λx3=>wC (!x3) else wC false))
def J3(b:Batch):=
 (OR b).bind λx1=>some (!x1)
def yA(x1:Bool):=
 some x1
def HL(q:aO):=
 (if decide (12<(q.List.length:Int)) then yA true else(o6 q.List (λy0=>J3 y0)).bind λx2=>yA x2)
def D7(x1:Bool):=
 some x1
def OS(todo:List aO):=
 (if(todo.length:Int) == 3 then(oE todo (λy0=>HL y0)).bind λx2=>D7 (!x2) else D7 false)
def ZF(x y:Int):=
 some (IntKind.u64.wrap ((IntKind.u64.wrap ((IntKind.u64.wrap ((CY .u64 x 32)*(CY .u64 y 32)))+(CY .u64 (IntKind.u64.wrap ((IntKind.u64.wrap ((CY .u64 x 32)*(sB .and .u64 y 4294967295)))+(CY .u64 (IntKind.u64.wrap ((sB .and .u64 x 4294967295)*(sB .and .u64 y 4294967295))) 32))) 32)))+(CY .u64 (IntKind.u64.wrap ((sB .and .u64 (IntKind.u64.wrap ((IntKind.u64.wrap ((CY .u64 x 32)*(sB .and .u64 y 4294967295)))+(CY .u64 (IntKind.u64.wrap ((sB .and .u64 x 4294967295)*(sB .and .u64 y 4294967295))) 32))) 4294967295)+(IntKind.u64.wrap ((sB .and .u64 x 4294967295)*(CY .u64 y 32))))) 32)),IntKind.u64.wrap (x*y))
def UF(x y:Int):=
 (ZF x y).bind λx1=>some (x1.1,x1.2)
def aBM(x7:List Int):=
 some x7
def lR:((List Int)×Int)->Option (Step ((List Int)×Int) (List Int))
 |(x5,x6)=>(if decide (x6<(x5.length:Int)) then need (0<=(x6:Int)/\(x6:Int)<=(x5.length:Int)) (need (0<=(x6:Int)/\(x6:Int)<=(x5.length:Int)) (some (.next (cW x5 x6.toNat ((x5.take x6.toNat).drop 0),aE (x6+((min ((x5.take x6.toNat).drop 0).length (x5.length-x6.toNat):Nat):Int)))))) else some (.stop (x5)))
def aBN:(List Int)->Option (List Int)
 |x7=>aBM x7
def qI(x:List Int)(x1:Int×Int)(x2:Bool):=
 (if x2 then none else need (0<=(IntKind.i64.wrap x1.2:Int)/\(IntKind.i64.wrap x1.2:Int)<=4294967296) ((loop (lR) (cW (List.replicate ((IntKind.i64.wrap x1.2).toNat) 0) 0 x,((min x.length ((List.replicate ((IntKind.i64.wrap x1.2).toNat) 0:List Int).length-0):Nat):Int))).bind (aBN)))
def yC(x:List Int)(count:Int):=
 (if decide (count<0) then none else(UF (IntKind.u64.wrap (x.length:Int)) (IntKind.u64.wrap count)).bind λx1=>(if decide (0<x1.1) then qI x x1 true else qI x x1 (decide (9223372036854775807<x1.2))))
def ZG(x1:List Int):=
 some (⟨List.replicate ((384:Int).toNat) 0,x1⟩:Heap)
def OT:=
 need (0<=(384:Int)/\(384:Int)<=4294967296)<|(yC ([(-1)]) 6).bind λx2=>ZG x2
def V2:=
 some (⟨List.replicate ((3:Int).toNat) (⟨[]⟩:aU),List.replicate ((9:Int).toNat) (⟨[]⟩:aU)⟩:aD)
def UG:=
 need (0<=(3:Int)/\(3:Int)<=4294967296)<|need (0<=(9:Int)/\(9:Int)<=4294967296)<|V2
def aBO:=
 (OT).bind λx1=>(UG).bind λx2=>some (⟨x1,x2⟩:Mem)
def UH:=
 need (0<=(3:Int)/\(3:Int)<=4294967296) (some (⟨0,List.replicate ((3:Int).toNat) (⟨false,0,false,0⟩:lF)⟩:aJ))
def UI:=
 need (0<=(3:Int)/\(3:Int)<=4294967296) (some (List.replicate ((3:Int).toNat) (⟨[]⟩:bE)))
def aBP:Option (List Int):=
 need (0<=(3:Int)/\(3:Int)<=4294967296) (some (List.replicate ((3:Int).toNat) 0))
def OU:Option aA:=
 (aBO).bind λx1=>(UH).bind λx2=>(UI).bind λx3=>(aBP).bind λx4=>some (⟨x1,x2,x3,x4⟩:aA)
def sW(s:List iF):=
 need (([]:List iF).length+s.length<=1073741824) (some (([]:List iF)++s))
def HM(b:Batch):=
 (sW b.bD).bind λx1=>some (⟨b.Collect,x1⟩:Batch)
def aGO(x5:List aO):=
 some x5
def S5(x3:List aO)(x4:Int)(x11:List Batch):Option (Step ((List aO)×Int) (List aO)):=
 need (x3.length+([(⟨x11⟩:aO)]).length<=1073741824) (some (.next (x3++([(⟨x11⟩:aO)]),aE (x4+1))))
def HN(x9:Int)(x13:List Batch):Option (Step (Int×(List Batch)) (List Batch)):=
 some (.next (aE (x9+1),x13))
def HO(x6:aO):(Int×(List Batch))->Option (Step (Int×(List Batch)) (List Batch))
 |(x9,x10)=>(if decide (x9<(x6.List.length:Int)) then(idx x6.List x9).bind λx12=>(HM x12).bind λx14=>need (x10.length+([x14]).length<=1073741824)<|HN x9 (x10++([x14])) else some (.stop (x10)))
def S6(x3:List aO)(x4:Int):(List Batch)->Option (Step ((List aO)×Int) (List aO))
 |x11=>S5 x3 x4 x11
def HP(todo:List aO):((List aO)×Int)->Option (Step ((List aO)×Int) (List aO))
 |(x3,x4)=>(if decide (x4<(todo.length:Int)) then(idx todo x4).bind λx6=>(loop (HO x6) (0,[])).bind (S6 x3 x4) else some (.stop (x3)))
def aGP:(List aO)->Option (List aO)
 |x5=>aGO x5
def HQ(todo:List aO):=
 (loop (HP todo) (([]:List aO),0)).bind (aGP)
def V3(x2:Table):=
 some ({x2 with Log:=[]}:Table)
def KY(todo:List aO):=
 (OS todo).bind λx1=>(if !x1 then some (⟨(⟨(⟨(⟨[],[]⟩:Heap),(⟨[],[]⟩:aD)⟩:Mem),(⟨0,[]⟩:aJ),[],[]⟩:aA),[],[],[],[],0⟩:Table) else(OU).bind λx3=>need (0<=(2:Int)/\(2:Int)<=4294967296)<|need (0<=(3:Int)/\(3:Int)<=4294967296)<|(HQ todo).bind λx4=>V3 (⟨x3,List.replicate ((2:Int).toNat) (⟨0,0,0⟩:cD),List.replicate ((3:Int).toNat) (⟨false,(⟨false,[]⟩:Batch),0,0,0,0,0,0,0,0,(⟨0,0,0⟩:dX),false,0,(⟨0,0,0,0,0,0,0,0,0,false⟩:Sub),[],[],[],[],[],[]⟩:aH),x4,[],0⟩:Table))
def gO(w_:Int):=
 (cK w_ 0 2).bind λx1=>some x1
def NP(s:List Batch)(i j:Int):=
 need (0<=i/\i<=j/\j<=(s.length:Int)) (some (s.take i.toNat++s.drop j.toNat))
def lS(kind a_:Int):=
 some (⟨kind,a_,0,0,0,0,0,0,0,false⟩:Sub)
def CH(t:Table)(w_:Int)(x2:aO)(x3:Batch)(x6:aH)(x8:List iB):=
 some (⟨t.aA,t.aW,t.aM.set w_.toNat ({x6 with Batch:=(⟨x6.Batch.Collect,x3.bD⟩:Batch),Reads:=[],aI:=[],cC:=[],cR:=[],bC:=[],bL:=[]}:aH),t.bJ.set w_.toNat (⟨x2.List.drop 1⟩:aO),x8,aE (t.aK+1)⟩:Table)
def mM(t:Table)(w_:Int)(x2:aO)(x3:Batch)(x6:aH):=
 (idx t.aM w_).bind λx7=>(sW x3.bD).bind λx9=>need (t.Log.length+([(⟨1,w_,x6.aK,0,x9,[]⟩:iB)]).length<=1073741824)<|CH t w_ x2 x3 x6 (t.Log++([(⟨1,w_,x6.aK,0,x9,[]⟩:iB)]))
def CI(t:Table)(w_:Int)(x2:aO)(x3:Batch)(x5:aH):=
 (if x3.Collect then(lS 3 0).bind λx10=>mM t w_ x2 x3 ({x5 with Batch:=(⟨x5.Batch.Collect,x3.bD⟩:Batch),Pc:=20,Sub:=x10,Reads:=[],aI:=[],cC:=[],cR:=[],bC:=[],bL:=[]}:aH) else mM t w_ x2 x3 ({x5 with Batch:=(⟨x5.Batch.Collect,x3.bD⟩:Batch),Reads:=[],aI:=[],cC:=[],cR:=[],bC:=[],bL:=[]}:aH))
def mN(t:Table)(w_:Int)(x1:Bool):=
 (if x1 then some t else(idx t.bJ w_).bind λx2=>(idx x2.List 0).bind λx3=>(NP x2.List 0 1).bind λx4=>(lS 5 0).bind λx11=>CI t w_ x2 x3 (⟨true,x3,aE (t.aK+1),0,0,0,0,0,0,0,(⟨0,0,0⟩:dX),false,0,x11,[],[],[],[],[],[]⟩:aH))
def A7(t:Table)(w_:Int):=
 (idx t.bJ w_).bind λx12=>(if(x12.List.length:Int) == 0 then mN t w_ true else mN t w_ (t.aK == 1000000))
def bR(s:Sub)(code:Int):=
 some ({s with Code:=code,jN:=true}:Sub)
def lH(c:Int):=
 (cK c 0 2).bind λx1=>some x1
def FU(c:Int):=
 (lH c).bind λx1=>(if !x1 then some 0 else(idx ([8,16,40]:List Int) c).bind λx2=>some x2)
def aL0:=
 some (-1)
def D8(x2:Int)(x3:Bool):Option (Step Int (Out Unit Int)):=
 (if x3 then some (.stop (Out.ret x2)) else some (.next (aE (x2+1))))
def j9(size:Int):Int->Option (Step Int (Out Unit Int))
 |x2=>(if decide (x2<3) then(if decide (1<=size) then(FU x2).bind λx4=>D8 x2 (decide (size<=x4)) else D8 x2 false) else some (.stop (Out.brk ())))
def aL1:(Out Unit Int)->Option Int
 |.brk ()=>aL0
 |.ret r=>some r
def OV(size:Int):=
 (loop (j9 size) 0).bind (aL1)
def kU(s:List Int):=
 need (([]:List Int).length+s.length<=1073741824) (some (([]:List Int)++s))
def aGQ(x5 x10:List aU):=
 some (⟨x5,x10⟩:aD)
def HR(x8:Int)(x12:List aU):Option (Step (Int×(List aU)) (List aU)):=
 some (.next (aE (x8+1),x12))
def HT(l:aD):(Int×(List aU))->Option (Step (Int×(List aU)) (List aU))
 |(x8,x9)=>(if decide (x8<(l.Own.length:Int)) then(idx l.Own x8).bind λx11=>(kU x11.aV).bind λx13=>need (x9.length+([(⟨x13⟩:aU)]).length<=1073741824)<|HR x8 (x9++([(⟨x13⟩:aU)])) else some (.stop (x9)))
def aGR(x5:List aU):(List aU)->Option aD
 |x10=>aGQ x5 x10
def S7(l:aD)(x5:List aU):=
 (loop (HT l) (0,[])).bind (aGR x5)
def HU(x3:Int)(x15:List aU):Option (Step (Int×(List aU)) (List aU)):=
 some (.next (aE (x3+1),x15))
def HV(l:aD):(Int×(List aU))->Option (Step (Int×(List aU)) (List aU))
 |(x3,x4)=>(if decide (x3<(l.Global.length:Int)) then(idx l.Global x3).bind λx14=>(kU x14.aV).bind λx16=>need (x4.length+([(⟨x16⟩:aU)]).length<=1073741824)<|HU x3 (x4++([(⟨x16⟩:aU)])) else some (.stop (x4)))
def S8(l:aD):(List aU)->Option aD
 |x5=>S7 l x5
def iV(l:aD):=
 (loop (HV l) (0,[])).bind (S8 l)
def uD(slot:Int):=
 (cK slot 0 23).bind λx1=>some x1
def XX(x11:List Raw):=
 some x11
def mX(slices:List (List Raw)):((List Raw)×Int)->Option (Step ((List Raw)×Int) (List Raw))
 |(x9,x10)=>(if decide (x10<(slices.length:Int)) then(idx slices x10).bind λx12=>need (x9.length+x12.length<=1073741824) (some (.next (x9++x12,aE (x10+1)))) else some (.stop (x9)))
def XY:(List Raw)->Option (List Raw)
 |x11=>XX x11
def HW(slices:List (List Raw))(x5:Int):=
 (a4S Raw x5).bind λx6=>(loop (mX slices) (x6,0)).bind (XY)
def jT(slices:List (List Raw)):(Int×Int)->Option (Step (Int×Int) Int)
 |(x3,x4)=>(if decide (x4<(slices.length:Int)) then(idx slices x4).bind λx13=>(if decide ((aE (x3+(x13.length:Int)))<0) then none else some (.next (aE (x3+(x13.length:Int)),aE (x4+1)))) else some (.stop (x3)))
def HX(slices:List (List Raw)):Int->Option (List Raw)
 |x5=>HW slices x5
def CJ(slices:List (List Raw)):=
 (loop (jT slices) (0,0)).bind (HX slices)
def aL2:=
 some true
def ZH(x4:Int)(x12:List Bool):Option (Step (Int×(List Bool)) (Out Unit Bool)):=
 some (.next (aE (x4+1),x12))
def wD(x10:Int)(x11:List Bool)(x13:Int)(x14:Bool):Option (Step (Int×(List Bool)) (Out (List Bool) Bool)):=
 (if x14 then some (.stop (Out.ret false)) else need (0<=(x13:Int)/\(x13:Int)<24) ((idx (x11:List Bool) x13).bind λx15=>some (.next (aE (x10+1),x11.set (x13.toNat) true))))
def wE(x6:aU):(Int×(List Bool))->Option (Step (Int×(List Bool)) (Out (List Bool) Bool))
 |(x10,x11)=>(if decide (x10<(x6.aV.length:Int)) then(idx x6.aV x10).bind λx13=>(uD x13).bind λx16=>(if !x16 then wD x10 x11 x13 true else need (0<=(x13:Int)/\(x13:Int)<24) ((idx (x11:List Bool) x13).bind λx17=>wD x10 x11 x13 x17)) else some (.stop (Out.brk x11)))
def ZI(x4:Int):(Out (List Bool) Bool)->Option (Step (Int×(List Bool)) (Out Unit Bool))
 |.brk x12=>ZH x4 x12
 |.ret r=>some (.stop (Out.ret r))
def pS(x4:Int)(x5:List Bool)(x6:aU)(x7:Bool):=
 (if x7 then some (.stop (Out.ret false)) else(loop (wE x6) (0,x5)).bind (ZI x4))
def wF(l:aD):(Int×(List Bool))->Option (Step (Int×(List Bool)) (Out Unit Bool))
 |(x4,x5)=>(if decide (x4<((l.Own++l.Global).length:Int)) then(idx (l.Own++l.Global) x4).bind λx6=>(if decide (x4<(l.Own.length:Int)) then pS x4 x5 x6 (decide (2<(x6.aV.length:Int))) else pS x4 x5 x6 false) else some (.stop (Out.brk ())))
def aL3:(Out Unit Bool)->Option Bool
 |.brk ()=>aL2
 |.ret r=>some r
def D9(l:aD)(x1:Bool):=
 (if x1 then some false else need (l.Own.length+l.Global.length<=1073741824) ((loop (wF l) (0,List.replicate 24 false)).bind (aL3)))
def qJ(l:aD):=
 (if(l.Global.length:Int) != 3 then D9 l true else D9 l ((l.Own.length:Int) != 9))
def KZ(w_ c:Int)(x1:Bool):=
 (if x1 then some (-1) else some (aE ((aE (w_*3))+c)))
def QD(w_ c:Int):=
 (gO w_).bind λx2=>(if !x2 then KZ w_ c true else(lH c).bind λx3=>KZ w_ c (!x3))
def zO(s:aU):=
 (if decide ((aE ((s.aV.length:Int)-1))<0) then some ((-1),s) else(idx s.aV (aE ((s.aV.length:Int)-1))).bind λx1=>need (0<=(aE ((s.aV.length:Int)-1):Int)/\(aE ((s.aV.length:Int)-1):Int)<=(aE ((s.aV.length:Int)-1):Int)/\(aE ((s.aV.length:Int)-1):Int)<=(s.aV.length:Int)) (some (x1,(⟨(s.aV.take ((aE ((s.aV.length:Int)-1)).toNat)).drop 0⟩:aU))))
def EA(x1:aD)(x2:Int)(x3:Bool):=
 (if x3 then some (x1,(-1)) else(idx x1.Own x2).bind λx4=>(zO x4).bind λx5=>some ((⟨x1.Global,x1.Own.set x2.toNat x5.2⟩:aD),x5.1))
def OW(l:aD)(w_ c:Int):=
 (iV l).bind λx1=>(QD w_ c).bind λx2=>(qJ l).bind λx6=>(if !x6 then EA x1 x2 true else EA x1 x2 (decide (x2<0)))
def uQ(c:Int)(x1:aD)(x2:Bool):=
 (if x2 then some (x1,(-1)) else(idx x1.Global c).bind λx3=>(zO x3).bind λx4=>some ((⟨x1.Global.set c.toNat x4.2,x1.Own⟩:aD),x4.1))
def EB(l:aD)(c:Int):=
 (iV l).bind λx1=>(qJ l).bind λx5=>(if !x5 then uQ c x1 true else(lH c).bind λx6=>uQ c x1 (!x6))
def NQ:=
 some (-1)
def eV(s:List Int)(v:Int):Int->Option (Step Int (Out Unit Int))
 |x2=>(if decide (x2<(s.length:Int)) then(idx s x2).bind λx3=>(if v == x3 then some (.stop (Out.ret x2)) else some (.next (aE (x2+1)))) else some (.stop (Out.brk ())))
def CK:(Out Unit Int)->Option Int
 |.brk ()=>NQ
 |.ret r=>some r
def nI(s:List Int)(v:Int):=
 (loop (eV s v) 0).bind (CK)
def QE(b x5:List Int):=
 need (x5.length=b.length) (some x5)
def lT(b:List Int)(at_:Int)(text:List UInt8):((List Int)×Int)->Option (Step ((List Int)×Int) (List Int))
 |(x3,x4)=>need (x3.length=b.length) ((if decide (x4<(text.length:Int)) then(idx text x4).bind λx6=>(idx x3 (aE (at_+x4))).bind λx7=>some (.next (x3.set ((aE (at_+x4)).toNat) (x6.toNat:Int),aE (x4+1))) else some (.stop (x3))))
def QF(b:List Int):(List Int)->Option (List Int)
 |x5=>QE b x5
def m7(b:List Int)(at_:Int)(text:List UInt8):=
 (loop (lT b at_ text) (b,0)).bind (QF b)
def A8(width:Int):=
 (cK width 1 7).bind λx1=>some x1
def aTG(x8:List UInt8):=
 some x8
def rE:(Int×(List UInt8)×Int)->Option (Step (Int×(List UInt8)×Int) (List UInt8))
 |(x5,x6,x7)=>(if decide (0<=x7) then(idx x6 x7).bind λx9=>some (.next (CY .i64 x5 8,x6.set x7.toNat (u8 x5),aE (x7-1))) else some (.stop (x6)))
def aTH:(List UInt8)->Option (List UInt8)
 |x8=>aTG x8
def xF(n width:Int)(x1:Bool):=
 (if x1 then some ([]) else need (0<=(width:Int)/\(width:Int)<=4294967296) ((loop (rE) (n,List.replicate (width.toNat) 0,aE (width-1))).bind (aTH)))
def mG(n width:Int):=
 (A8 width).bind λx10=>(if !x10 then xF n width true else(if decide (n<0) then xF n width true else need (0<=(IntKind.u64.wrap (aE (8*width)):Int)) (xF n width (decide ((aOO .i64 1 (IntKind.u64.wrap (aE (8*width))))<=n)))))
def xG(h:Heap):=
 (kU h.Bytes).bind λx1=>(kU h.Class).bind λx2=>some (⟨x1,x2⟩:Heap)
def FV:=
 some (-1)
def jH(s:List Int)(f:(Int->Option Bool)):Int->Option (Step Int (Out Unit Int))
 |x2=>(if decide (x2<(s.length:Int)) then(idx s x2).bind λx3=>(f x3).bind λx4=>(if x4 then some (.stop (Out.ret x2)) else some (.next (aE (x2+1)))) else some (.stop (Out.brk ())))
def sY:(Out Unit Int)->Option Int
 |.brk ()=>FV
 |.ret r=>some r
def zP(s:List Int)(f:(Int->Option Bool)):=
 (loop (jH s f) 0).bind (sY)
def hJ(s:List Int)(f:(Int->Option Bool)):=
 (zP s f).bind λx1=>some (decide (0<=x1))
def aBQ(x:Int):=
 (cK x 0 255).bind λx1=>some x1
def HY(x:Int):=
 (aBQ x).bind λx1=>some (!x1)
def EC(x1:Bool):=
 some x1
def OX(b:List Int):=
 (if decide ((b.length:Int)<=1000) then(hJ b (λy0=>HY y0)).bind λx2=>EC (!x2) else EC false)
def K0(c:Int):=
 (cK c (-1) 2).bind λx1=>some (!x1)
def sZ(x1:Bool):=
 some x1
def LZ(h:Heap):=
 (if(h.Bytes.length:Int) == 384 then(OX h.Bytes).bind λx2=>(if x2 then(if(h.Class.length:Int) == 6 then(hJ h.Class (λy0=>K0 y0)).bind λx3=>sZ (!x3) else sZ false) else sZ false) else sZ false)
def aL4(x5:Int):=
 some x5
def wG(b:List Int)(at_ width:Int):(Int×Int)->Option (Step (Int×Int) Int)
 |(x3,x4)=>(if decide (x4<(((b.take ((aE (at_+width)).toNat)).drop at_.toNat).length:Int)) then(idx ((b.take ((aE (at_+width)).toNat)).drop at_.toNat) x4).bind λx6=>some (.next (aE ((aE (256*x3))+x6),aE (x4+1))) else some (.stop (x3)))
def aL5:Int->Option Int
 |x5=>aL4 x5
def qK(b:List Int)(at_ width:Int):=
 need (0<=(at_:Int)/\(at_:Int)<=(aE (at_+width):Int)/\(aE (at_+width):Int)<=(b.length:Int)) ((loop (wG b at_ width) (0,0)).bind (aL5))
def xH(c:Int):=
 (lH c).bind λx1=>(if !x1 then some 0 else(FU c).bind λx2=>some (aE (4+x2)))
def qL(c:Int):=
 (lH c).bind λx1=>(if !x1 then some 0 else(xH c).bind λx2=>need (x2≠0) (some (aE (Int.tdiv 56 x2))))
def K1(x:Int):=
 some (x != 0)
def L4(b:List Int):=
 (hJ b (λy0=>K1 y0)).bind λx1=>some (!x1)
def aPT:=
 some true
def tC(h:Heap)(page x1 x4:Int):Int->Option (Step Int (Out Unit Bool))
 |x6=>(if decide (x6<x4) then(xH x1).bind λx7=>(qK ((h.Bytes.take ((aE ((aE (page+1))*64)).toNat)).drop ((aE (page*64)).toNat)) (aE (8+(aE (x6*x7)))) 4).bind λx8=>(cK x8 1 7).bind λx9=>(if !x9 then some (.stop (Out.ret false)) else some (.next (aE (x6+1)))) else some (.stop (Out.brk ())))
def aPU:(Out Unit Bool)->Option Bool
 |.brk ()=>aPT
 |.ret r=>some r
def jU(h:Heap)(page x1:Int)(x3:Bool):=
 (if x3 then some false else(qL x1).bind λx4=>(loop (tC h page x1 x4) 0).bind (aPU))
def S9(h:Heap)(page:Int):=
 (idx h.Class page).bind λx1=>need (0<=(aE (page*64):Int)/\(aE (page*64):Int)<=(aE ((aE (page+1))*64):Int)/\(aE ((aE (page+1))*64):Int)<=(h.Bytes.length:Int)) ((if decide (x1<0) then(L4 ((h.Bytes.take ((aE ((aE (page+1))*64)).toNat)).drop ((aE (page*64)).toNat))).bind λx2=>some x2 else(idx ((h.Bytes.take ((aE ((aE (page+1))*64)).toNat)).drop ((aE (page*64)).toNat)) 0).bind λx10=>(if x10 != 171 then jU h page x1 true else(idx ((h.Bytes.take ((aE ((aE (page+1))*64)).toNat)).drop ((aE (page*64)).toNat)) 1).bind λx11=>(if x11 != x1 then jU h page x1 true else(idx ((h.Bytes.take ((aE ((aE (page+1))*64)).toNat)).drop ((aE (page*64)).toNat)) 2).bind λx12=>(qL x1).bind λx13=>(if x12 != x13 then jU h page x1 true else need (0<=(3:Int)/\(3:Int)<=(8:Int)/\(8:Int)<=(((h.Bytes.take ((aE ((aE (page+1))*64)).toNat)).drop ((aE (page*64)).toNat)).length:Int)) ((L4 ((((h.Bytes.take ((aE ((aE (page+1))*64)).toNat)).drop ((aE (page*64)).toNat)).take ((8:Int).toNat)).drop ((3:Int).toNat))).bind λx14=>jU h page x1 (!x14)))))))
def aPV:=
 some true
def zQ(h:Heap):Int->Option (Step Int (Out Unit Bool))
 |x3=>(if decide (x3<6) then(S9 h x3).bind λx4=>(if !x4 then some (.stop (Out.ret false)) else some (.next (aE (x3+1)))) else some (.stop (Out.brk ())))
def aPW:(Out Unit Bool)->Option Bool
 |.brk ()=>aPV
 |.ret r=>some r
def L5(h:Heap):=
 (LZ h).bind λx1=>(if !x1 then some false else(loop (zQ h) 0).bind (aPW))
def DA(slot c:Int)(x1:Bool):=
 (if x1 then some (-1) else(xH c).bind λx2=>some (aE ((aE ((aE ((aE (Int.tdiv slot 4))*64))+8))+(aE ((Int.tmod slot 4)*x2)))))
def zR(slot c:Int):=
 (uD slot).bind λx3=>(if !x3 then DA slot c true else(lH c).bind λx4=>(if !x4 then DA slot c true else(qL c).bind λx5=>DA slot c (decide (x5<=(Int.tmod slot 4)))))
def HZ(page index:Int)(x1:Bool):=
 (if x1 then some (-1) else some (aE ((aE (page*4))+index)))
def TA(page index:Int):=
 (cK page 0 5).bind λx2=>(if !x2 then HZ page index true else(cK index 0 3).bind λx3=>HZ page index (!x3))
def aTI(c:Int)(x1:Heap)(x2:Int)(x13 x14:List Int):=
 some ((⟨x14,x1.Class.set x2.toNat c⟩:Heap),x13)
def UJ(x10:List Int)(x11 x15:Int)(x16:List Int):Option (Step ((List Int)×Int×(List Int)) ((List Int)×(List Int))):=
 need (x10.length+([x15]).length<=1073741824) (some (.next (x10++([x15]),aE (x11+1),x16)))
def K2(c x2 x6:Int):((List Int)×Int×(List Int))->Option (Step ((List Int)×Int×(List Int)) ((List Int)×(List Int)))
 |(x10,x11,x12)=>(if decide (x11<x6) then(TA x2 x11).bind λx15=>(zR x15 c).bind λx17=>(mG 1 4).bind λx18=>(m7 x12 x17 x18).bind λx19=>UJ x10 x11 x15 x19 else some (.stop ((x10,x12))))
def aTJ(c:Int)(x1:Heap)(x2:Int):((List Int)×(List Int))->Option (Heap×(List Int))
 |(x13,x14)=>aTI c x1 x2 x13 x14
def UK(c:Int)(x1:Heap)(x2:Int)(x5:List Int):=
 (qL c).bind λx6=>(loop (K2 c x2 x6) (([]:List Int),0,x5)).bind (aTJ c x1 x2)
def DB(c:Int)(x1:Heap)(x2:Int)(x3:Bool):=
 (if x3 then some (x1,([]:List Int)) else(idx x1.Class x2).bind λx4=>need (0<=(aE (x2*64):Int)/\(aE (x2*64):Int)<=(x1.Bytes.length:Int))<|(qL c).bind λx20=>UK c x1 x2 (cW x1.Bytes ((aE (x2*64)).toNat) ([171,c,x20]:List Int)))
def J4(h:Heap)(c:Int):=
 (xG h).bind λx1=>(nI h.Class (-1)).bind λx2=>(L5 h).bind λx21=>(if !x21 then DB c x1 x2 true else(lH c).bind λx22=>(if !x22 then DB c x1 x2 true else DB c x1 x2 (decide (x2<0))))
def MY(x4:Int)(x5:Mem):=
 some (x5,x4)
def MZ(c:Int)(x1:Heap×(List Int))(x2:Mem):=
 (if(x1.2.length:Int) == 0 then some (x2,(-1)) else(idx x2.aD.Global c).bind λx3=>need (0<=(1:Int)/\(1:Int)<=(x1.2.length:Int)) (need (x3.aV.length+((x1.2.take x1.2.length).drop ((1:Int).toNat)).length<=1073741824) ((idx x1.2 0).bind λx6=>MY x6 (⟨x2.Heap,(⟨x2.aD.Global.set c.toNat (⟨x3.aV++((x1.2.take x1.2.length).drop ((1:Int).toNat))⟩:aU),x2.aD.Own⟩:aD)⟩:Mem))))
def OY(m:Mem)(c:Int):=
 (J4 m.Heap c).bind λx1=>(iV m.aD).bind λx7=>MZ c x1 (⟨x1.1,x7⟩:Mem)
def ED(h:Heap)(slot:Int)(x1:Bool):=
 (if x1 then some (-1) else(idx h.Class (aE (Int.tdiv slot 4))).bind λx2=>some x2)
def lI(h:Heap)(slot:Int):=
 (uD slot).bind λx3=>(if !x3 then ED h slot true else(idx h.Class (aE (Int.tdiv slot 4))).bind λx4=>(zR slot x4).bind λx5=>ED h slot (decide (x5<0)))
def H0(h:Heap)(slot:Int):=
 (LZ h).bind λx1=>(if !x1 then some (-1) else(lI h slot).bind λx2=>some x2)
def E2(h:Heap)(slot:Int):=
 (H0 h slot).bind λx1=>(if decide (x1<0) then some 0 else(zR slot x1).bind λx2=>(qK h.Bytes x2 4).bind λx3=>some x3)
def A9(slot gen:Int)(x1:Bool):=
 (if x1 then some 0 else some (aE ((aE (gen*32))+slot)))
def UL(slot gen:Int):=
 (uD slot).bind λx2=>(if !x2 then A9 slot gen true else(cK gen 1 6).bind λx3=>A9 slot gen (!x3))
def K3(m:Mem)(slot:Int):=
 (E2 m.Heap slot).bind λx1=>(UL slot x1).bind λx2=>some x2
def iT(s:Sub)(x3:Int)(x4:aA):=
 (if decide (0<=x3) then(K3 x4.Mem x3).bind λx5=>(bR ({s with Out:=x5}:Sub) 0).bind λx6=>some (x6,x4) else(if s.Pc == 3 then(bR s 3).bind λx7=>some (x7,x4) else some (({s with Pc:=aE (s.Pc+1)}:Sub),x4)))
def oT(s:Sub)(b:aA)(x1:Int)(x9:Bool):=
 (if x9 then(EB b.Mem.aD x1).bind λx10=>iT s x10.2 ({b with Mem:=(⟨b.Mem.Heap,x10.1⟩:Mem)}:aA) else(if s.Pc == 2 then(OY b.Mem x1).bind λx11=>iT s x11.2 ({b with Mem:=x11.1}:aA) else(bR s 1).bind λx12=>some (x12,b)))
def uR(s:Sub)(b:aA)(w_:Int):=
 (OV s.A).bind λx1=>(if decide (x1<0) then(bR s 2).bind λx2=>some (x2,b) else(if s.Pc == 0 then(OW b.Mem.aD w_ x1).bind λx8=>iT s x8.2 ({b with Mem:=(⟨b.Mem.Heap,x8.1⟩:Mem)}:aA) else(if s.Pc == 1 then oT s b x1 true else oT s b x1 (s.Pc == 3))))
def CB:=
 some (-1)
def kK(s:List bE)(f:(bE->Option Bool)):Int->Option (Step Int (Out Unit Int))
 |x2=>(if decide (x2<(s.length:Int)) then(idx s x2).bind λx3=>(f x3).bind λx4=>(if x4 then some (.stop (Out.ret x2)) else some (.next (aE (x2+1)))) else some (.stop (Out.brk ())))
def CC:(Out Unit Int)->Option Int
 |.brk ()=>CB
 |.ret r=>some r
def uS(s:List bE)(f:(bE->Option Bool)):=
 (loop (kK s f) 0).bind (CC)
def kL(s:List bE)(f:(bE->Option Bool)):=
 (uS s f).bind λx1=>some (decide (0<=x1))
def DC:=
 some (-1)
def lJ(s:List cQ)(f:(cQ->Option Bool)):Int->Option (Step Int (Out Unit Int))
 |x2=>(if decide (x2<(s.length:Int)) then(idx s x2).bind λx3=>(f x3).bind λx4=>(if x4 then some (.stop (Out.ret x2)) else some (.next (aE (x2+1)))) else some (.stop (Out.brk ())))
def DD:(Out Unit Int)->Option Int
 |.brk ()=>DC
 |.ret r=>some r
def xO(s:List cQ)(f:(cQ->Option Bool)):=
 (loop (lJ s f) 0).bind (DD)
def lK(s:List cQ)(f:(cQ->Option Bool)):=
 (xO s f).bind λx1=>some (decide (0<=x1))
def BA(x1:Bool):=
 some x1
def iW(h:Int):=
 (cK h 32 223).bind λx2=>(if x2 then BA (decide ((Int.tmod h 32)<24)) else BA false)
def rT(x1:Bool):=
 some x1
def tD(r_:cQ)(k0:Int):=
 (iW r_.Handle).bind λx2=>(if x2 then rT ((Int.tmod r_.Handle 32) == k0) else rT false)
def H3(own:bE)(k0:Int):=
 (lK own.Rows (λy0=>tD y0 k0)).bind λx1=>some x1
def H4(l:List bE)(slot:Int):=
 (kL l (λy0=>H3 y0 slot)).bind λx1=>some x1
def mO(s:List Int)(v:Int):=
 (nI s v).bind λx1=>some (decide (0<=x1))
def rF(s:aU)(k0:Int):=
 (mO s.aV k0).bind λx1=>some x1
def CD:=
 some (-1)
def kM(s:List aU)(f:(aU->Option Bool)):Int->Option (Step Int (Out Unit Int))
 |x2=>(if decide (x2<(s.length:Int)) then(idx s x2).bind λx3=>(f x3).bind λx4=>(if x4 then some (.stop (Out.ret x2)) else some (.next (aE (x2+1)))) else some (.stop (Out.brk ())))
def CE:(Out Unit Int)->Option Int
 |.brk ()=>CD
 |.ret r=>some r
def uU(s:List aU)(f:(aU->Option Bool)):=
 (loop (kM s f) 0).bind (CE)
def iN(s:List aU)(f:(aU->Option Bool)):=
 (uU s f).bind λx1=>some (decide (0<=x1))
def H5(x1:Bool):=
 some x1
def L6(l:aD)(slot:Int):=
 (iN l.Global (λy0=>rF y0 slot)).bind λx2=>(if x2 then H5 true else(iN l.Own (λy0=>rF y0 slot)).bind λx3=>H5 x3)
def OZ(m:Mem)(slot:Int):Option Int:=
 (lI m.Heap slot).bind λx1=>(if decide (x1<0) then some 0 else(L6 m.aD slot).bind λx2=>(if x2 then some 1 else(E2 m.Heap slot).bind λx3=>(if decide (6<x3) then some 2 else some 3)))
def zS(x1:Bool):=
 some x1
def FW(m:Mem)(h:Int):=
 (iW h).bind λx2=>(if x2 then(OZ m (Int.tmod h 32)).bind λx3=>(if x3 == 3 then(E2 m.Heap (Int.tmod h 32)).bind λx4=>zS (x4 == (aE (Int.tdiv h 32))) else zS false) else zS false)
def yD(s:List cQ):=
 need (([]:List cQ).length+s.length<=1073741824) (some (([]:List cQ)++s))
def aGS(x5:List bE):=
 some x5
def H6(l:List bE):((List bE)×Int)->Option (Step ((List bE)×Int) (List bE))
 |(x3,x4)=>(if decide (x4<(l.length:Int)) then(idx l x4).bind λx6=>(yD x6.Rows).bind λx7=>need (x3.length+([(⟨x7⟩:bE)]).length<=1073741824) (some (.next (x3++([(⟨x7⟩:bE)]),aE (x4+1)))) else some (.stop (x3)))
def aGT:(List bE)->Option (List bE)
 |x5=>aGS x5
def oF(l:List bE):=
 (loop (H6 l) (([]:List bE),0)).bind (aGT)
def aGU(x5:Int):=
 some x5
def qM(l:List bE):(Int×Int)->Option (Step (Int×Int) Int)
 |(x3,x4)=>(if decide (x4<(l.length:Int)) then(idx l x4).bind λx6=>some (.next (aE (x3+(x6.Rows.length:Int)),aE (x4+1))) else some (.stop (x3)))
def aGV:Int->Option Int
 |x5=>aGU x5
def H7(l:List bE):=
 (loop (qM l) (0,0)).bind (aGV)
def ZJ(l:List bE):=
 (H7 l).bind λx5=>some (decide (x5<=24))
def ZK(x3:Int)(x11:List Bool):Option (Step (Int×(List Bool)) (Out Unit Bool)):=
 some (.next (aE (x3+1),x11))
def mH(x9:Int)(x10:List Bool)(x12:cQ)(x13:Bool):Option (Step (Int×(List Bool)) (Out (List Bool) Bool)):=
 (if x13 then some (.stop (Out.ret false)) else need (0<=(Int.tmod x12.Handle 32:Int)/\(Int.tmod x12.Handle 32:Int)<24) ((idx (x10:List Bool) (Int.tmod x12.Handle 32)).bind λx14=>some (.next (aE (x9+1),x10.set ((Int.tmod x12.Handle 32).toNat) true))))
def wH(x6:bE):(Int×(List Bool))->Option (Step (Int×(List Bool)) (Out (List Bool) Bool))
 |(x9,x10)=>(if decide (x9<(x6.Rows.length:Int)) then(idx x6.Rows x9).bind λx12=>(iW x12.Handle).bind λx15=>(if !x15 then mH x9 x10 x12 true else(cK x12.aQ 0 100000).bind λx16=>(if !x16 then mH x9 x10 x12 true else need (0<=(Int.tmod x12.Handle 32:Int)/\(Int.tmod x12.Handle 32:Int)<24) ((idx (x10:List Bool) (Int.tmod x12.Handle 32)).bind λx17=>mH x9 x10 x12 x17))) else some (.stop (Out.brk x10)))
def ZL(x3:Int):(Out (List Bool) Bool)->Option (Step (Int×(List Bool)) (Out Unit Bool))
 |.brk x11=>ZK x3 x11
 |.ret r=>some (.stop (Out.ret r))
def wI(l:List bE):(Int×(List Bool))->Option (Step (Int×(List Bool)) (Out Unit Bool))
 |(x3,x4)=>(if decide (x3<(l.length:Int)) then(idx l x3).bind λx6=>(loop (wH x6) (0,x4)).bind (ZL x3) else some (.stop (Out.brk ())))
def ZM(l:List bE):(Out Unit Bool)->Option Bool
 |.brk ()=>ZJ l
 |.ret r=>some r
def BC(l:List bE):=
 (if(l.length:Int) != 3 then some false else(loop (wI l) (0,List.replicate 24 false)).bind (ZM l))
def BD(l:List bE)(w_ h e_:Int)(x1:Bool):=
 (if x1 then(oF l).bind λx2=>some (x2,false) else(oF l).bind λx3=>(idx x3 w_).bind λx4=>need (x4.Rows.length+([(⟨h,e_⟩:cQ)]).length<=1073741824) ((BC (x3.set w_.toNat (⟨x4.Rows++([(⟨h,e_⟩:cQ)])⟩:bE))).bind λx5=>(if !x5 then(oF l).bind λx6=>some (x6,false) else some (x3.set w_.toNat (⟨x4.Rows++([(⟨h,e_⟩:cQ)])⟩:bE),true))))
def K4(l:List bE)(w_ h e_:Int):=
 (BC l).bind λx7=>(if !x7 then BD l w_ h e_ true else(gO w_).bind λx8=>BD l w_ h e_ (!x8))
def mY(s:Sub)(b:aA)(w_:Int)(x3:Bool):=
 (if x3 then(bR s 4).bind λx4=>some (x4,b) else(K4 b.bB w_ s.A s.E).bind λx5=>(bR s 0).bind λx6=>some (x6,({b with bB:=x5.1}:aA)))
def mZ(s:Sub)(b:aA)(w_:Int)(x1:Bool):=
 (if x1 then(bR s 1).bind λx2=>some (x2,b) else(FW b.Mem s.A).bind λx7=>(if !x7 then mY s b w_ true else(H4 b.bB (Int.tmod s.A 32)).bind λx8=>mY s b w_ x8))
def rU(s:Sub)(b:aA)(w_:Int):=
 (if s.Pc == 0 then some (({s with Pc:=1,E:=b.aJ.aQ}:Sub),b) else(if s.Pc != 1 then mZ s b w_ true else(cK s.E 0 b.aJ.aQ).bind λx9=>mZ s b w_ (!x9)))
def BE(s:List lF):=
 need (([]:List lF).length+s.length<=1073741824) (some (([]:List lF)++s))
def oG(c:aJ):=
 (BE c.bS).bind λx1=>some (⟨c.aQ,x1⟩:aJ)
def FX:=
 some (-1)
def jI(s:List lF)(f:(lF->Option Bool)):Int->Option (Step Int (Out Unit Int))
 |x2=>(if decide (x2<(s.length:Int)) then(idx s x2).bind λx3=>(f x3).bind λx4=>(if x4 then some (.stop (Out.ret x2)) else some (.next (aE (x2+1)))) else some (.stop (Out.brk ())))
def tE:(Out Unit Int)->Option Int
 |.brk ()=>FX
 |.ret r=>some r
def zT(s:List lF)(f:(lF->Option Bool)):=
 (loop (jI s f) 0).bind (tE)
def l5(s:List lF)(f:(lF->Option Bool)):=
 (zT s f).bind λx1=>some (decide (0<=x1))
def l6(x1:Bool):=
 some x1
def zU(p:lF)(k0:aJ):=
 (cK p.aQ 0 k0.aQ).bind λx2=>(if !x2 then l6 true else(cK p.Seen 0 2).bind λx3=>(if !x3 then l6 true else(if !p.On then l6 (!(decide (p=(⟨false,0,false,0⟩:lF)))) else l6 false)))
def wJ(x1:Bool):=
 some x1
def uV(c:aJ):=
 (cK c.aQ 0 100000).bind λx2=>(if x2 then(if(c.bS.length:Int) == 3 then(l5 c.bS (λy0=>zU y0 c)).bind λx3=>wJ (!x3) else wJ false) else wJ false)
def tF(w_:Int)(x1:aJ)(x4:Bool):=
 (if x4 then some (x1,true) else(idx x1.bS w_).bind λx5=>(if decide (x5.Seen<2) then some ((⟨x1.aQ,x1.bS.set w_.toNat ({x5 with Seen:=aE (x5.Seen+1)}:lF)⟩:aJ),false) else some ((⟨x1.aQ,x1.bS.set w_.toNat ({x5 with gN:=true,Seen:=0}:lF)⟩:aJ),true)))
def H8(w_ e_:Int)(x1:aJ)(x2:Bool):=
 (if x2 then some (x1,false) else(idx x1.bS w_).bind λx3=>(if !x3.On then tF w_ x1 true else(if x3.gN then tF w_ x1 true else tF w_ x1 (x3.aQ == e_))))
def TB(c:aJ)(w_ e_:Int):=
 (oG c).bind λx1=>(uV c).bind λx6=>(if !x6 then H8 w_ e_ x1 true else(gO w_).bind λx7=>H8 w_ e_ x1 (!x7))
def H9(x1:aJ)(x2:Bool):=
 (if x2 then some (x1,false) else some ((⟨aE (x1.aQ+1),x1.bS⟩:aJ),true))
def aC8(c:aJ)(e_:Int):=
 (oG c).bind λx1=>(uV c).bind λx3=>(if !x3 then H9 x1 true else(if c.aQ != e_ then H9 x1 true else H9 x1 (c.aQ == 100000)))
def l7(s:Sub)(b:aA)(x4:aJ×Bool)(x5:Int):=
 (bR ({s with Out:=x5}:Sub) 0).bind λx6=>some (x6,({b with aJ:=x4.1}:aA))
def l8(s:Sub)(b:aA)(x1:Bool):=
 (if x1 then(TB b.aJ s.B s.E).bind λx2=>(if !x2.2 then(bR s 8).bind λx3=>some (x3,({b with aJ:=x2.1}:aA)) else(if(aE (s.B+1)) == 3 then some (({s with Pc:=2,B:=aE (s.B+1)}:Sub),({b with aJ:=x2.1}:aA)) else some (({s with B:=aE (s.B+1)}:Sub),({b with aJ:=x2.1}:aA)))) else(if s.Pc == 2 then(aC8 b.aJ s.E).bind λx4=>(if x4.2 then l7 s b x4 1 else l7 s b x4 s.Out) else(bR s 1).bind λx7=>some (x7,b)))
def qN(s:Sub)(b:aA):=
 (if s.Pc == 0 then some (({s with Pc:=1,E:=b.aJ.aQ,B:=0}:Sub),b) else(if s.Pc == 1 then(gO s.B).bind λx8=>l8 s b x8 else l8 s b false))
def QG(x3 x5:List Int):=
 some ((⟨x5,x3⟩:Heap),true)
def IA(slot gen x1:Int)(x2 x3:List Int)(x4:Bool):=
 (if x4 then some ((⟨x2,x3⟩:Heap),false) else(zR slot x1).bind λx6=>(mG gen 4).bind λx7=>(m7 x2 x6 x7).bind λx8=>QG x3 x8)
def QH(slot gen x1:Int)(x2 x3:List Int):=
 (if decide (x1<0) then IA slot gen x1 x2 x3 true else(cK gen 1 7).bind λx9=>IA slot gen x1 x2 x3 (!x9))
def aBR(h:Heap)(slot gen:Int):=
 (xG h).bind λx10=>(H0 h slot).bind λx11=>QH slot gen x11 x10.Bytes x10.Class
def BF(c slot:Int)(x1:aD)(x2:Int)(x3:Bool):=
 (if x3 then some (x1,false) else(idx x1.Own x2).bind λx4=>(if decide (2<=(x4.aV.length:Int)) then(idx x1.Global c).bind λx5=>need (x5.aV.length+([slot]).length<=1073741824) (some ((⟨x1.Global.set c.toNat (⟨x5.aV++([slot])⟩:aU),x1.Own⟩:aD),true)) else need (x4.aV.length+([slot]).length<=1073741824) (some ((⟨x1.Global,x1.Own.set x2.toNat (⟨x4.aV++([slot])⟩:aU)⟩:aD),true))))
def aIU(l:aD)(w_ c slot:Int):=
 (iV l).bind λx1=>(QD w_ c).bind λx2=>(qJ l).bind λx6=>(if !x6 then BF c slot x1 x2 true else(if decide (x2<0) then BF c slot x1 x2 true else(uD slot).bind λx7=>(if !x7 then BF c slot x1 x2 true else(L6 l slot).bind λx8=>BF c slot x1 x2 x8)))
def UM(x3:Mem):=
 some x3
def UN(m:Mem)(w_ h:Int)(x2:Mem):=
 (if decide ((aE ((aE (Int.tdiv h 32))+1))<=6) then(lI m.Heap (Int.tmod h 32)).bind λx4=>(aIU m.aD w_ x4 (Int.tmod h 32)).bind λx5=>UM (⟨x2.Heap,x5.1⟩:Mem) else UM x2)
def QI(m:Mem)(w_ h:Int):=
 (aBR m.Heap (Int.tmod h 32) (aE ((aE (Int.tdiv h 32))+1))).bind λx1=>(iV m.aD).bind λx6=>UN m w_ h (⟨x1.1,x6⟩:Mem)
def IB(x1:Bool):=
 some x1
def L7(l:List bE)(w_ i:Int):=
 (gO w_).bind λx2=>(if x2 then(idx l w_).bind λx3=>(cK i 0 (aE ((x3.Rows.length:Int)-1))).bind λx4=>IB x4 else IB false)
def O0(x1:Bool):=
 some x1
def V4(r_:cQ)(e_:Int):=
 (if decide (2<=e_) then O0 (decide (r_.aQ<=(aE (e_-2)))) else O0 false)
def L8(s:Sub)(b:aA):=
 (bR s 0).bind λx3=>some (x3,b)
def fJ(s:Sub)(b:aA)(w_:Int):Int->Option (Step Int (Out Unit (Sub×aA)))
 |x2=>(idx b.bB w_).bind λx4=>(if decide (x2<(x4.Rows.length:Int)) then(idx x4.Rows x2).bind λx5=>(V4 x5 s.E).bind λx6=>(if x6 then some (.stop (Out.ret (({s with Pc:=2,Row:=x2,B:=0,H:=x5.Handle}:Sub),b))) else some (.next (aE (x2+1)))) else some (.stop (Out.brk ())))
def aBS(s:Sub)(b:aA):(Out Unit (Sub×aA))->Option (Sub×aA)
 |.brk ()=>L8 s b
 |.ret r=>some r
def qO(s:Sub)(b:aA)(w_:Int):=
 (loop (fJ s b w_) (if s.Row<0 then 0 else s.Row)).bind (aBS s b)
def E3(s:List cQ)(i j:Int):=
 need (0<=(i:Int)/\(i:Int)<=(j:Int)/\(j:Int)<=((s.length:Int):Int)/\((s.length:Int):Int)<=(s.length:Int)) ((if i == j then some s else need (0<=(i:Int)/\(i:Int)<=(s.length:Int)) (need (0<=(j:Int)/\(j:Int)<=(s.length:Int)) (need (i.toNat<=j.toNat) (need (0<=(((((cW s i.toNat (s.drop j.toNat)).take (i.toNat+(s.length-j.toNat))).drop 0).length:Int):Int)/\(((((cW s i.toNat (s.drop j.toNat)).take (i.toNat+(s.length-j.toNat))).drop 0).length:Int):Int)<=((s.length:Int):Int)/\((s.length:Int):Int)<=((cW s i.toNat (s.drop j.toNat)).length:Int)) (some (((cW s i.toNat (s.drop j.toNat)).take (i.toNat+(s.length-j.toNat))).drop 0)))))))
def EE(w_ i:Int)(x1:(List bE))(x2:Bool):=
 (if x2 then some (x1,false) else(idx x1 w_).bind λx3=>(E3 x3.Rows i (aE (i+1))).bind λx4=>some (x1.set w_.toNat (⟨x4⟩:bE),true))
def O1(l:List bE)(w_ i:Int):=
 (oF l).bind λx1=>(BC l).bind λx5=>(if !x5 then EE w_ i x1 true else(L7 l w_ i).bind λx6=>EE w_ i x1 (!x6))
def dM(s:Sub)(b:aA)(w_:Int)(x5:Bool):=
 (if x5 then(O1 b.bB w_ s.Row).bind λx6=>(QI b.Mem w_ s.H).bind λx7=>some (({s with Pc:=1,Out:=aE (s.Out+1)}:Sub),({b with Mem:=x7,bB:=x6.1}:aA)) else(bR s 1).bind λx8=>some (x8,b))
def eT(s:Sub)(b:aA)(w_:Int)(x1 x3:Bool):=
 (if x3 then(idx b.i5 s.B).bind λx4=>(if x4 == s.H then some (({s with Pc:=1,Row:=aE (s.Row+1)}:Sub),b) else(if(aE (s.B+1)) == 3 then some (({s with Pc:=3,B:=aE (s.B+1)}:Sub),b) else some (({s with B:=aE (s.B+1)}:Sub),b))) else(if s.Pc == 3 then(if x1 then(idx b.bB w_).bind λx9=>(idx x9.Rows s.Row).bind λx10=>(V4 x10 s.E).bind λx11=>dM s b w_ x11 else dM s b w_ false) else dM s b w_ false))
def fW(s:Sub)(b:aA)(w_:Int)(x1:Bool):=
 (if s.Pc == 0 then some (({s with Pc:=1,E:=b.aJ.aQ,Row:=0}:Sub),b) else(if s.Pc == 1 then(qO s b w_).bind λx2=>some (x2.1,x2.2) else(if s.Pc == 2 then(gO s.B).bind λx12=>(if x12 then eT s b w_ x1 x1 else eT s b w_ x1 false) else eT s b w_ x1 false)))
def qP(s:Sub)(b:aA)(w_:Int):=
 (L7 b.bB w_ s.Row).bind λx13=>(if x13 then(idx b.bB w_).bind λx14=>(idx x14.Rows s.Row).bind λx15=>fW s b w_ (x15.Handle == s.H) else fW s b w_ false)
def DE(w_ e_:Int)(x1:aJ)(x2:Bool):=
 (if x2 then some (x1,false) else(idx x1.bS w_).bind λx3=>some ((⟨x1.aQ,x1.bS.set w_.toNat (⟨true,e_,false,0⟩:lF)⟩:aJ),true))
def XZ(c:aJ)(w_ e_:Int):=
 (oG c).bind λx1=>(uV c).bind λx4=>(if !x4 then DE w_ e_ x1 true else(gO w_).bind λx5=>(if !x5 then DE w_ e_ x1 true else(cK e_ 0 c.aQ).bind λx6=>DE w_ e_ x1 (!x6)))
def CL(s:Sub)(b:aA)(x1:Bool)(x2:Int)(x3:List lF):=
 (if !x1 then(bR s 1).bind λx4=>some (x4,b) else some (({s with Pc:=2}:Sub),({b with aJ:=(⟨x2,x3⟩:aJ)}:aA)))
def BG(s:Sub)(b:aA)(w_:Int):=
 (if s.Pc == 0 then some (({s with Pc:=1,E:=b.aJ.aQ}:Sub),b) else(if s.Pc == 1 then(XZ b.aJ w_ s.E).bind λx5=>CL s b x5.2 x5.1.aQ x5.1.bS else(if s.Pc == 2 then(if b.aJ.aQ == s.E then(bR s 0).bind λx6=>some (x6,b) else some (({s with Pc:=0}:Sub),b)) else(bR s 1).bind λx7=>some (x7,b))))
def rG(s:Sub)(b:aA)(w_:Int):=
 (if s.jN then some (s,b) else(if s.Kind == 1 then(uR s b w_).bind λx1=>some (x1.1,x1.2) else(if s.Kind == 2 then(rU s b w_).bind λx2=>some (x2.1,x2.2) else(if s.Kind == 3 then(qN s b).bind λx3=>some (x3.1,x3.2) else(if s.Kind == 4 then(qP s b w_).bind λx4=>some (x4.1,x4.2) else(if s.Kind == 5 then(BG s b w_).bind λx5=>some (x5.1,x5.2) else(bR s 1).bind λx6=>some (x6,b)))))))
def uW(t:Table)(w_:Int):=
 (idx t.aM w_).bind λx1=>(rG x1.Sub t.aA w_).bind λx2=>(if !x2.1.jN then some ({t with aA:=x2.2,aM:=t.aM.set w_.toNat ({x1 with Sub:=x2.1}:aH)}:Table) else(if x1.Pc == 0 then some ({t with aA:=x2.2,aM:=t.aM.set w_.toNat ({x1 with Pc:=1,Sub:=x2.1}:aH)}:Table) else(if x1.Pc == 20 then(lS 4 0).bind λx3=>some ({t with aA:=x2.2,aM:=t.aM.set w_.toNat ({x1 with Pc:=21,Sub:=x3}:aH)}:Table) else some ({t with aA:=x2.2,aM:=t.aM.set w_.toNat ({x1 with Pc:=19,Sub:=x2.1}:aH)}:Table))))
def qQ(j:aH):=
 (cK j.At 0 (aE ((j.Batch.bD.length:Int)-1))).bind λx1=>(if !x1 then some ((⟨0,0,0⟩:iF),false,j) else(idx j.Batch.bD j.At).bind λx2=>some (x2,true,j))
def cT(j:aH)(code:Int):=
 some ({j with Pc:=16,Code:=code}:aH)
def E4(s:List aP):=
 need (([]:List aP).length+s.length<=1073741824) (some (([]:List aP)++s))
def RS:=
 some (-1)
def o7(s:List aP)(f:(aP->Option Bool)):Int->Option (Step Int (Out Unit Int))
 |x2=>(if decide (x2<(s.length:Int)) then(idx s x2).bind λx3=>(f x3).bind λx4=>(if x4 then some (.stop (Out.ret x2)) else some (.next (aE (x2+1)))) else some (.stop (Out.brk ())))
def RT:(Out Unit Int)->Option Int
 |.brk ()=>RS
 |.ret r=>some r
def cZ(s:List aP)(f:(aP->Option Bool)):=
 (loop (o7 s f) 0).bind (RT)
def zV(x8:List aP)(x9:Int):=
 need (0<=(x9:Int)/\(x9:Int)<=(x8.length:Int)) (need (0<=(x9:Int)/\(x9:Int)<=((cW x8 x9.toNat (List.replicate (x8.length-x9.toNat) (⟨0,false,0⟩:aP))).length:Int)) (some (((cW x8 x9.toNat (List.replicate (x8.length-x9.toNat) (⟨0,false,0⟩:aP))).take x9.toNat).drop 0)))
def iC(x7:Int)(x10:List aP)(x11:Int):Option (Step ((List aP)×Int×Int) ((List aP)×Int)):=
 some (.next (x10,x11,aE (x7+1)))
def jV(del:(aP->Option Bool)):((List aP)×Int×Int)->Option (Step ((List aP)×Int×Int) ((List aP)×Int))
 |(x5,x6,x7)=>(if decide (x7<(x5.length:Int)) then(idx x5 x7).bind λx12=>(del x12).bind λx13=>(if !x13 then(idx x5 x6).bind λx14=>iC x7 (x5.set x6.toNat x12) (aE (x6+1)) else iC x7 x5 x6) else some (.stop ((x5,x6))))
def zW:((List aP)×Int)->Option (List aP)
 |(x8,x9)=>zV x8 x9
def jJ(s:List aP)(del:(aP->Option Bool)):=
 (cZ s del).bind λx1=>(if x1 == (-1) then some s else(loop (jV del) (s,x1,aE (x1+1))).bind (zW))
def M0(x k0:aP):=
 some (x.Key == k0.Key)
def EF(x k0:aP):=
 some (decide (k0.Key<x.Key))
def rV(s:List aP)(i:Int)(v:List aP):=
 need (0<=i/\i<=(s.length:Int)/\s.length+v.length<=1073741824) (some (s.take i.toNat++v++s.drop i.toNat))
def tG(w_:aP)(x2:(List aP))(x4:Int):=
 (rV x2 x4 ([w_])).bind λx5=>some x5
def K5(l:List aP)(w_:aP):=
 (E4 l).bind λx1=>(jJ x1 (λy0=>M0 y0 w_)).bind λx2=>(cZ x2 (λy0=>EF y0 w_)).bind λx3=>(if decide (x3<0) then tG w_ x2 (x2.length:Int) else tG w_ x2 x3)
def tH(j:aH)(x:aP):=
 (K5 j.aI x).bind λx1=>(if decide (6<(x1.length:Int)) then(cT j 1).bind λx2=>some (false,x2) else some (true,({j with aI:=x1}:aH)))
def IC(x:aP)(k0:Int):=
 some (x.Key == k0)
def O2(l:List aP)(key:Int):=
 (cZ l (λy0=>IC y0 key)).bind λx1=>(if decide (x1<0) then some ((⟨0,false,0⟩:aP),false) else(idx l x1).bind λx2=>some (x2,true))
def aE5(a_ b:Int):=
 some (Int.tmod (aE (a_+b)) 65536)
def rW(x5:aH):=
 some ({x5 with Pc:=1,At:=aE (x5.At+1)}:aH)
def mP(x2:aH)(x3:Bool)(x4:Int):=
 need (x2.cC.length+([(⟨x3,x4⟩:cC)]).length<=1073741824)<|rW ({x2 with cC:=x2.cC++([(⟨x3,x4⟩:cC)])}:aH)
def mQ(j:aH)(c:iF)(is:Bool)(x1:Int):=
 (if c.Kind == 4 then(aE5 x1 c.eO).bind λx6=>(tH j (⟨c.Key,false,x6⟩:aP)).bind λx7=>(if !x7.1 then some x7.2 else mP x7.2 true x6) else mP j is x1)
def tI(j:aH)(c:iF)(val:Int)(is:Bool):=
 (if !is then mQ j c is 0 else mQ j c is val)
def J5(key:Int):=
 (cK key 0 99).bind λx1=>(if !x1 then some (-1) else some (Int.tmod key 2))
def ID(x1:iF×Bool×aH)(x6:Bool)(x7:aH)(x8:Int)(x9:Bool)(x10:Int):=
 (if x6 then(tI x7 x1.1 x10 (!x9)).bind λx11=>some x11 else(J5 x1.1.Key).bind λx12=>some ({x7 with Pc:=2,cD:=x12}:aH))
def jW(x1:iF×Bool×aH)(x3:Bool)(x4:aH):=
 (if x3 then(tH x4 (⟨x1.1.Key,x1.1.Kind == 3,x1.1.eO⟩:aP)).bind λx5=>(if x5.1 then need (x5.2.cC.length+([(⟨false,0⟩:cC)]).length<=1073741824) (some (⟨x5.2.nE,x5.2.Batch,x5.2.aK,x5.2.Pc,aE (x5.2.At+1),x5.2.K,x5.2.cD,x5.2.eX,x5.2.H,x5.2.g8,x5.2.Node,x5.2.Found,x5.2.Code,x5.2.Sub,x5.2.Reads,x5.2.aI,x5.2.cC++([(⟨false,0⟩:cC)]),x5.2.cR,x5.2.bC,x5.2.bL⟩:aH)) else some x5.2) else(O2 x4.aI x1.1.Key).bind λx13=>ID x1 x13.2 x4 x13.1.Key x13.1.GQ x13.1.eO)
def IE(j:aH):=
 (qQ j).bind λx1=>(if !x1.2.1 then(lS 1 16).bind λx2=>some (⟨x1.2.2.nE,x1.2.2.Batch,x1.2.2.aK,6,x1.2.2.At,0,x1.2.2.cD,x1.2.2.eX,x1.2.2.H,x1.2.2.g8,x1.2.2.Node,x1.2.2.Found,x1.2.2.Code,x2,x1.2.2.Reads,x1.2.2.aI,x1.2.2.cC,x1.2.2.cR,x1.2.2.bC,x1.2.2.bL⟩:aH) else(if x1.1.Kind == 2 then jW x1 true x1.2.2 else jW x1 (x1.1.Kind == 3) x1.2.2))
def IF(h:Heap)(slot:Int):=
 (lI h slot).bind λx1=>(FU x1).bind λx2=>some (decide (10<=x2))
def O3(slot c:Int):=
 (zR slot c).bind λx1=>(if decide (x1<0) then some (-1) else some (aE (x1+4)))
def BH(h:Heap)(slot:Int):=
 (lI h slot).bind λx1=>(O3 slot x1).bind λx2=>some x2
def TC(h:Heap)(slot:Int):=
 (BH h slot).bind λx1=>(qK h.Bytes x1 2).bind λx2=>(qK h.Bytes (aE (x1+2)) 4).bind λx3=>(qK h.Bytes (aE (x1+6)) 4).bind λx4=>some (⟨x2,x3,x4⟩:dX)
def IG(m:Mem)(h:Int)(x1:Bool):Option (dX×Int):=
 (if x1 then some ((⟨0,0,0⟩:dX),4) else(IF m.Heap (Int.tmod h 32)).bind λx2=>(if !x2 then some ((⟨0,0,0⟩:dX),2) else(TC m.Heap (Int.tmod h 32)).bind λx3=>some (x3,0)))
def L9(m:Mem)(h:Int):Option (dX×Int):=
 (iW h).bind λx4=>(if !x4 then IG m h true else(lI m.Heap (Int.tmod h 32)).bind λx5=>IG m h (decide (x5<0)))
def oV(x1:Bool):=
 some x1
def E5(p:lF):=
 (if p.On then oV (!p.gN) else oV false)
def gT(n:dX):=
 (iW n.Next).bind λx1=>(if !x1 then some 0 else some n.Next)
def IH(s:List Seen):=
 need (([]:List Seen).length+s.length<=1073741824) (some (([]:List Seen)++s))
def UO:=
 some (-1)
def rH(s:List Seen)(f:(Seen->Option Bool)):Int->Option (Step Int (Out Unit Int))
 |x2=>(if decide (x2<(s.length:Int)) then(idx s x2).bind λx3=>(f x3).bind λx4=>(if x4 then some (.stop (Out.ret x2)) else some (.next (aE (x2+1)))) else some (.stop (Out.brk ())))
def UP:(Out Unit Int)->Option Int
 |.brk ()=>UO
 |.ret r=>some r
def eR(s:List Seen)(f:(Seen->Option Bool)):=
 (loop (rH s f) 0).bind (UP)
def II(s:Seen)(k0:Int):=
 some (s.cD == k0)
def O4(l:List Seen)(b v:Int):=
 (IH l).bind λx1=>(eR l (λy0=>II y0 b)).bind λx2=>(if decide (x2<0) then need (x1.length+([(⟨b,v⟩:Seen)]).length<=1073741824) (some (x1++([(⟨b,v⟩:Seen)]),true)) else(idx l x2).bind λx3=>some (x1,x3.eX == v))
def uX(t:Table)(w_:Int)(x13:List aH)(x14:Bool):=
 (if x14 then(idx x13 w_).bind λx15=>some ({t with aM:=x13.set w_.toNat ({x15 with Pc:=5}:aH)}:Table) else some ({t with aM:=x13}:Table))
def E6(t:Table)(w_:Int)(x13:List aH):=
 (idx x13 w_).bind λx16=>(if x16.Found then uX t w_ x13 true else uX t w_ x13 (x16.H == 0))
def QJ(t:Table)(x26:List aH):=
 some ({t with aM:=x26}:Table)
def E7(t:Table)(w_:Int)(x6:iF×Bool×aH)(x21:List Seen)(x22:Bool):=
 (idx (t.aM.set w_.toNat x6.2.2) w_).bind λx23=>(if !x22 then(cT ({x23 with Reads:=x21}:aH) 7).bind λx24=>some ({t with aM:=(t.aM.set w_.toNat x6.2.2).set w_.toNat x24}:Table) else(if !x6.2.1 then(cT ({x23 with Reads:=x21}:aH) 1).bind λx25=>some ({t with aM:=(t.aM.set w_.toNat x6.2.2).set w_.toNat x25}:Table) else(tI ({x23 with Reads:=x21}:aH) x6.1 x23.Node.eO x23.Found).bind λx27=>QJ t ((t.aM.set w_.toNat x6.2.2).set w_.toNat x27)))
def i6(t:Table)(w_:Int)(x6:iF×Bool×aH)(x18:Bool):=
 (if x18 then(idx (t.aM.set w_.toNat x6.2.2) w_).bind λx19=>(cT x19 7).bind λx20=>some ({t with aM:=(t.aM.set w_.toNat x6.2.2).set w_.toNat x20}:Table) else(idx (t.aM.set w_.toNat x6.2.2) w_).bind λx28=>(O4 x28.Reads x28.cD x28.eX).bind λx29=>E7 t w_ x6 x29.1 x29.2)
def E8(t:Table)(w_ x2 x3 x4:Int):=
 (idx t.aM w_).bind λx5=>(qQ x5).bind λx6=>(if x6.2.2.Pc == 2 then(if x4 != 0 then(cT x6.2.2 7).bind λx7=>some ({t with aM:=t.aM.set w_.toNat x7}:Table) else(if x2 == 0 then some ({t with aM:=t.aM.set w_.toNat (⟨x6.2.2.nE,x6.2.2.Batch,x6.2.2.aK,5,x6.2.2.At,x6.2.2.K,x6.2.2.cD,x3,x2,x6.2.2.g8,(⟨0,0,0⟩:dX),false,x6.2.2.Code,x6.2.2.Sub,x6.2.2.Reads,x6.2.2.aI,x6.2.2.cC,x6.2.2.cR,x6.2.2.bC,x6.2.2.bL⟩:aH)}:Table) else some ({t with aM:=t.aM.set w_.toNat (⟨x6.2.2.nE,x6.2.2.Batch,x6.2.2.aK,3,x6.2.2.At,x6.2.2.K,x6.2.2.cD,x3,x2,x6.2.2.g8,(⟨0,0,0⟩:dX),false,x6.2.2.Code,x6.2.2.Sub,x6.2.2.Reads,x6.2.2.aI,x6.2.2.cC,x6.2.2.cR,x6.2.2.bC,x6.2.2.bL⟩:aH)}:Table))) else(if x6.2.2.Pc == 3 then(L9 t.aA.Mem x6.2.2.H).bind λx8=>some ({t with aM:=t.aM.set w_.toNat (⟨x6.2.2.nE,x6.2.2.Batch,x6.2.2.aK,4,x6.2.2.At,x6.2.2.K,x6.2.2.cD,x6.2.2.eX,x6.2.2.H,x6.2.2.g8,x8.1,x6.2.2.Found,x6.2.2.Code,x6.2.2.Sub,x6.2.2.Reads,x6.2.2.aI,x6.2.2.cC,x6.2.2.cR,x6.2.2.bC,x6.2.2.bL⟩:aH)}:Table) else(if x6.2.2.Pc == 4 then(idx t.aA.aJ.bS w_).bind λx9=>(E5 x9).bind λx10=>(if !x10 then(cT x6.2.2 6).bind λx11=>some ({t with aM:=t.aM.set w_.toNat x11}:Table) else(if !x6.2.1 then(cT x6.2.2 1).bind λx12=>some ({t with aM:=t.aM.set w_.toNat x12}:Table) else(gT x6.2.2.Node).bind λx17=>E6 t w_ (t.aM.set w_.toNat (⟨x6.2.2.nE,x6.2.2.Batch,x6.2.2.aK,3,x6.2.2.At,x6.2.2.K,x6.2.2.cD,x6.2.2.eX,x17,x6.2.2.g8,x6.2.2.Node,x6.2.2.Node.Key == x6.1.Key,x6.2.2.Code,x6.2.2.Sub,x6.2.2.Reads,x6.2.2.aI,x6.2.2.cC,x6.2.2.cR,x6.2.2.bC,x6.2.2.bL⟩:aH)))) else(if x4 != 0 then i6 t w_ x6 true else i6 t w_ x6 (x3 != x6.2.2.eX)))))
def EG(t:Table)(w_:Int):=
 (idx t.aM w_).bind λx1=>(idx t.aW x1.cD).bind λx30=>E8 t w_ x30.Head x30.eX x30.gH
def aXG(x5:Int):=
 some x5
def IJ(x4 x6:Int):Option (Step (Int×Int) Int):=
 some (.next (x6,aE (x4+1)))
def X0(l:List aP)(n:Int):(Int×Int)->Option (Step (Int×Int) Int)
 |(x3,x4)=>(if decide (x4<(((l.take ((if(if(l.length:Int)<n then(l.length:Int) else n)<0 then 0 else(if(l.length:Int)<n then(l.length:Int) else n)).toNat)).drop 0).length:Int)) then(idx ((l.take ((if(if(l.length:Int)<n then(l.length:Int) else n)<0 then 0 else(if(l.length:Int)<n then(l.length:Int) else n)).toNat)).drop 0) x4).bind λx7=>(if !x7.GQ then IJ x4 (aE (x3+1)) else IJ x4 x3) else some (.stop (x3)))
def aXH:Int->Option Int
 |x5=>aXG x5
def V5(l:List aP)(n:Int):=
 need (0<=(if(if(l.length:Int)<n then(l.length:Int) else n)<0 then 0 else(if(l.length:Int)<n then(l.length:Int) else n):Int)/\(if(if(l.length:Int)<n then(l.length:Int) else n)<0 then 0 else(if(l.length:Int)<n then(l.length:Int) else n):Int)<=(l.length:Int)) ((loop (X0 l n) (0,0)).bind (aXH))
def CM(x11:Table):=
 some x11
def CN(w_:Int)(x10:Table):=
 (idx x10.aM w_).bind λx12=>(lS 1 16).bind λx13=>CM ({x10 with aM:=x10.aM.set w_.toNat ({x12 with K:=aE (x12.K+1),Sub:=x13}:aH)}:Table)
def gU(w_:Int)(x6:Bool)(x7:Table):=
 (if x6 then(idx x7.aM w_).bind λx8=>(cT x8 x8.Sub.Code).bind λx9=>some ({x7 with aM:=x7.aM.set w_.toNat x9}:Table) else(idx x7.aM w_).bind λx14=>need (x14.cR.length+([x14.Sub.Out]).length<=1073741824)<|CN w_ ({x7 with aM:=x7.aM.set w_.toNat ({x14 with cR:=x14.cR++([x14.Sub.Out])}:aH)}:Table))
def CP(t:Table)(w_:Int)(x2:Bool):=
 (if x2 then(idx t.aM w_).bind λx3=>some ({t with aM:=t.aM.set w_.toNat ({x3 with Pc:=7,K:=0}:aH)}:Table) else(idx t.aM w_).bind λx4=>(rG x4.Sub t.aA w_).bind λx5=>(if !x5.1.jN then some ({t with aA:=x5.2,aM:=t.aM.set w_.toNat ({x4 with Sub:=x5.1}:aH)}:Table) else(if x5.1.Code != 0 then gU w_ true ({t with aA:=x5.2,aM:=t.aM.set w_.toNat ({x4 with Sub:=x5.1}:aH)}:Table) else(iW x5.1.Out).bind λx15=>(if !x15 then gU w_ true ({t with aA:=x5.2,aM:=t.aM.set w_.toNat ({x4 with Sub:=x5.1}:aH)}:Table) else gU w_ (decide (6<=(x4.cR.length:Int))) ({t with aA:=x5.2,aM:=t.aM.set w_.toNat ({x4 with Sub:=x5.1}:aH)}:Table)))))
def BI(t:Table)(w_:Int):=
 (idx t.aM w_).bind λx1=>(V5 x1.aI (x1.aI.length:Int)).bind λx16=>CP t w_ (decide (x16<=x1.K))
def cmp_isNaN_int(x:Int):=
 some (x != x)
def wK(x1:Bool):=
 some x1
def cmp_Less_int(x y:Int):=
 (cmp_isNaN_int x).bind λx2=>(if x2 then(cmp_isNaN_int y).bind λx3=>(if !x3 then wK true else wK (decide (x<y))) else wK (decide (x<y)))
def i7(data x5:List Int):=
 need (x5.length=data.length) (some x5)
def oH(data:List Int)(x4:Int)(x10:List Int):Option (Step ((List Int)×Int) (List Int)):=
 need (x10.length=data.length) (some (.next (x10,aE (x4+1))))
def jA(data:List Int)(x9:Int)(x12:List Int):Option (Step ((List Int)×Int) (List Int)):=
 need (x12.length=data.length) (some (.next (x12,aE (x9-1))))
def dQ(data x8:List Int)(x9:Int)(x11:Bool):Option (Step ((List Int)×Int) (List Int)):=
 need (x8.length=data.length) ((if x11 then(idx x8 (aE (x9-1))).bind λx13=>(idx x8 x9).bind λx14=>(idx (x8.set x9.toNat x13) (aE (x9-1))).bind λx15=>jA data x9 ((x8.set x9.toNat x13).set ((aE (x9-1)).toNat) x14) else some (.stop (x8))))
def dR(data:List Int)(a_:Int):((List Int)×Int)->Option (Step ((List Int)×Int) (List Int))
 |(x8,x9)=>need (x8.length=data.length) ((if decide (a_<x9) then(idx x8 x9).bind λx16=>(idx x8 (aE (x9-1))).bind λx17=>(cmp_Less_int x16 x17).bind λx18=>dQ data x8 x9 x18 else dQ data x8 x9 false))
def oJ(data:List Int)(x4:Int):(List Int)->Option (Step ((List Int)×Int) (List Int))
 |x10=>oH data x4 x10
def dA(data:List Int)(a_ b:Int):((List Int)×Int)->Option (Step ((List Int)×Int) (List Int))
 |(x3,x4)=>need (x3.length=data.length) ((if decide (x4<b) then(loop (dR data a_) (x3,x4)).bind (oJ data x4) else some (.stop (x3))))
def jB(data:List Int):(List Int)->Option (List Int)
 |x5=>i7 data x5
def hU(data:List Int)(a_ b:Int):=
 (loop (dA data a_ b) (data,aE (a_+1))).bind (jB data)
def wL(data:List Int)(a_ b limit:Int):Unit->Option (Step Unit (List Int))
 |()=>(if decide ((aE (b-a_))<=12) then(hU data a_ b).bind λx1=>some (.stop (x1)) else(if limit == 0 then none else none))
def M1:(List Int)->Option (List Int)
 |r=>some r
def o8(data:List Int)(a_ b limit:Int):=
 (loop (wL data a_ b limit) ()).bind (M1)
def E9(x5 x6:Int):=
 (idx ([0,1,2,2,3,3,3,3,4,4,4,4,4,4,4,4,5,5,5,5,5,5,5,5,5,5,5,5,5,5,5,5,6,6,6,6,6,6,6,6,6,6,6,6,6,6,6,6,6,6,6,6,6,6,6,6,6,6,6,6,6,6,6,6,7,7,7,7,7,7,7,7,7,7,7,7,7,7,7,7,7,7,7,7,7,7,7,7,7,7,7,7,7,7,7,7,7,7,7,7,7,7,7,7,7,7,7,7,7,7,7,7,7,7,7,7,7,7,7,7,7,7,7,7,7,7,7,7,8,8,8,8,8,8,8,8,8,8,8,8,8,8,8,8,8,8,8,8,8,8,8,8,8,8,8,8,8,8,8,8,8,8,8,8,8,8,8,8,8,8,8,8,8,8,8,8,8,8,8,8,8,8,8,8,8,8,8,8,8,8,8,8,8,8,8,8,8,8,8,8,8,8,8,8,8,8,8,8,8,8,8,8,8,8,8,8,8,8,8,8,8,8,8,8,8,8,8,8,8,8,8,8,8,8,8,8,8,8,8,8,8,8,8,8,8,8,8,8,8,8,8,8,8,8,8,8]:List UInt8) ((u8 x5).toNat:Int)).bind λx7=>some (aE (x6+(x7.toNat:Int)))
def FA(x3 x4:Int):=
 (if decide (256<=x3) then E9 (CY .u64 x3 8) (aE (x4+8)) else E9 x3 x4)
def FB(x1 x2:Int):=
 (if decide (65536<=x1) then FA (CY .u64 x1 16) (aE (x2+16)) else FA x1 x2)
def ZN(x:Int):=
 (if decide (4294967296<=x) then FB (CY .u64 x 32) 32 else FB x 0)
def DF(x:Int):=
 (ZN x).bind λx1=>some x1
def EH(x:List Int):=
 (DF (IntKind.u64.wrap (x.length:Int))).bind λx1=>(o8 x 0 (x.length:Int) x1).bind λx2=>some x2
def M3(x5:List Int):=
 (EH x5).bind λx6=>(slices_Compact_int x6).bind λx7=>some x7
def EI(x4:Int)(x8:List Int):Option (Step ((List Int)×Int) (List Int)):=
 some (.next (x8,aE (x4+1)))
def M4(l:List aP):((List Int)×Int)->Option (Step ((List Int)×Int) (List Int))
 |(x3,x4)=>(if decide (x4<(l.length:Int)) then(idx l x4).bind λx9=>(J5 x9.Key).bind λx10=>(if decide (0<=x10) then need (x3.length+([x10]).length<=1073741824) (EI x4 (x3++([x10]))) else EI x4 x3) else some (.stop (x3)))
def ZO:(List Int)->Option (List Int)
 |x5=>M3 x5
def O5(l:List aP):=
 (loop (M4 l) (([]:List Int),0)).bind (ZO)
def iX(s:List Seen)(f:(Seen->Option Bool)):=
 (eR s f).bind λx1=>some (decide (0<=x1))
def qR(x1:Bool):=
 some x1
def yE(s:Seen)(k0:Int)(k1:cD):=
 (if s.cD == k0 then qR (s.eX != k1.eX) else qR false)
def uY(t:Table)(w_:Int)(x3:List cD)(x4:List aH)(x5:aH):=
 (idx x4 w_).bind λx6=>some ({t with aW:=x3,aM:=x4.set w_.toNat ({x6 with Pc:=8,K:=0}:aH),Log:=t.Log++([(⟨2,w_,x5.aK,0,[],[]⟩:iB)])}:Table)
def oK(t:Table)(w_:Int)(x2:(List Int))(x3:List cD)(x4:List aH):=
 (idx x4 w_).bind λx5=>(if decide ((x2.length:Int)<=x5.K) then need (t.Log.length+([(⟨2,w_,x5.aK,0,[],[]⟩:iB)]).length<=1073741824)<|uY t w_ x3 x4 x5 else some ({t with aW:=x3,aM:=x4}:Table))
def oL(t:Table)(w_:Int)(x2:(List Int))(x7:Int)(x12:cD)(x15:List aH):=
 (idx x15 w_).bind λx16=>oK t w_ x2 (t.aW.set x7.toNat ({x12 with gH:=aE (w_+1)}:cD)) (x15.set w_.toNat ({x16 with K:=aE (x16.K+1)}:aH))
def FC(t:Table)(w_:Int)(x2:(List Int))(x7:Int)(x12:cD)(x17:aH):=
 oL t w_ x2 x7 x12 (t.aM.set w_.toNat ({x17 with bC:=x17.bC++([x7])}:aH))
def iD(t:Table)(w_:Int)(x2:(List Int))(x7:Int)(x9:Bool):=
 (if x9 then(idx t.aM w_).bind λx10=>(cT x10 7).bind λx11=>some ({t with aM:=t.aM.set w_.toNat x11}:Table) else(idx t.aW x7).bind λx12=>(if x12.eX == 1000000 then(idx t.aM w_).bind λx13=>(cT x13 3).bind λx14=>some ({t with aM:=t.aM.set w_.toNat x14}:Table) else(idx t.aM w_).bind λx17=>(mO x17.bC x7).bind λx18=>(if !x18 then need (x17.bC.length+([x7]).length<=1073741824)<|FC t w_ x2 x7 x12 x17 else oL t w_ x2 x7 x12 t.aM)))
def EJ(t:Table)(w_:Int):=
 (idx t.aM w_).bind λx1=>(O5 x1.aI).bind λx2=>(if decide (x1.K<(x2.length:Int)) then(idx x2 x1.K).bind λx7=>(idx t.aW x7).bind λx8=>(if x8.gH != 0 then iD t w_ x2 x7 true else(iX x1.Reads (λy0=>yE y0 x7 x8)).bind λx19=>iD t w_ x2 x7 x19) else oK t w_ x2 t.aW t.aM)
def fK(t:Table)(w_:Int)(x8:Bool):=
 (if x8 then(idx t.aM w_).bind λx9=>(cT x9 7).bind λx10=>some ({t with aM:=t.aM.set w_.toNat x10}:Table) else(idx t.aM w_).bind λx11=>some ({t with aM:=t.aM.set w_.toNat ({x11 with K:=aE (x11.K+1)}:aH)}:Table))
def uZ(t:Table)(w_ x4 x5 x6 x7:Int):=
 (if x7 != 0 then(if x7 != (aE (w_+1)) then fK t w_ true else fK t w_ (x6 != x4)) else fK t w_ (x6 != x4))
def vA(t:Table)(w_ x3 x4:Int):=
 (idx t.aW x3).bind λx12=>uZ t w_ x4 x12.Head x12.eX x12.gH
def vB(t:Table)(w_:Int)(x1:aH):=
 (if decide ((x1.Reads.length:Int)<=x1.K) then(idx t.aM w_).bind λx2=>some ({t with aM:=t.aM.set w_.toNat ({x2 with Pc:=9,K:=0}:aH)}:Table) else(idx t.aM w_).bind λx13=>(idx x13.Reads x13.K).bind λx14=>vA t w_ x14.cD x14.eX)
def rX(t:Table)(w_:Int):=
 (idx t.aM w_).bind λx1=>vB t w_ x1
def pT(j:aH)(x:aP):=
 (if x.GQ then some ({j with Pc:=9,K:=aE (j.K+1)}:aH) else some ({j with Pc:=12}:aH))
def vC(m:Mem):=
 (xG m.Heap).bind λx1=>(iV m.aD).bind λx2=>some (⟨x1,x2⟩:Mem)
def aIV:=
 some true
def BJ(x2:Int)(x4:Bool):Option (Step Int (Out Unit Bool)):=
 (if x4 then some (.stop (Out.ret false)) else some (.next (aE (x2+1))))
def nJ(h:Heap)(s:aU)(c:Int):Int->Option (Step Int (Out Unit Bool))
 |x2=>(if decide (x2<(s.aV.length:Int)) then(idx s.aV x2).bind λx3=>(lI h x3).bind λx5=>(if x5 != c then BJ x2 true else(E2 h x3).bind λx6=>BJ x2 (decide (6<x6))) else some (.stop (Out.brk ())))
def aIW:(Out Unit Bool)->Option Bool
 |.brk ()=>aIV
 |.ret r=>some r
def DG(h:Heap)(s:aU)(c:Int):=
 (loop (nJ h s c) 0).bind (aIW)
def aTK:=
 some true
def xI(m:Mem):Int->Option (Step Int (Out Unit Bool))
 |x5=>(if decide (x5<(m.aD.Own.length:Int)) then(idx m.aD.Own x5).bind λx6=>(DG m.Heap x6 (Int.tmod x5 3)).bind λx7=>(if !x7 then some (.stop (Out.ret false)) else some (.next (aE (x5+1)))) else some (.stop (Out.brk ())))
def aTL:(Out Unit Bool)->Option Bool
 |.brk ()=>aTK
 |.ret r=>some r
def aD8(m:Mem):=
 (loop (xI m) 0).bind (aTL)
def xJ(m:Mem):Int->Option (Step Int (Out Unit Bool))
 |x3=>(if decide (x3<(m.aD.Global.length:Int)) then(idx m.aD.Global x3).bind λx8=>(DG m.Heap x8 x3).bind λx9=>(if !x9 then some (.stop (Out.ret false)) else some (.next (aE (x3+1)))) else some (.stop (Out.brk ())))
def aD9(m:Mem):(Out Unit Bool)->Option Bool
 |.brk ()=>aD8 m
 |.ret r=>some r
def K6(m:Mem)(x1:Bool):=
 (if x1 then some false else(loop (xJ m) 0).bind (aD9 m))
def J6(m:Mem):=
 (L5 m.Heap).bind λx10=>(if !x10 then K6 m true else(qJ m.aD).bind λx11=>K6 m (!x11))
def IK(x1:Bool):=
 some x1
def MA(h:Int):=
 (if h == 0 then IK true else(iW h).bind λx2=>IK x2)
def DH(m:Mem)(h:Int):Option Int:=
 (FW m h).bind λx1=>(if !x1 then some 4 else(IF m.Heap (Int.tmod h 32)).bind λx2=>(if !x2 then some 2 else some 0))
def QK(x4:Int)(x5:Mem):=
 some (x5,x4)
def aBT(x4:Int)(x6:Mem):=
 QK x4 x6
def IL(m:Mem)(h next_:Int)(x2:Bool)(x3:Mem):=
 (if x2 then some (x3,1) else(DH m h).bind λx4=>(if x4 == 0 then(BH m.Heap (Int.tmod h 32)).bind λx7=>(mG next_ 4).bind λx8=>(m7 x3.Heap.Bytes (aE (x7+6)) x8).bind λx9=>aBT x4 (⟨(⟨x9,x3.Heap.Class⟩:Heap),x3.aD⟩:Mem) else QK x4 x3))
def TD(m:Mem)(h next_:Int):=
 (vC m).bind λx1=>(J6 m).bind λx10=>(if !x10 then IL m h next_ true x1 else(MA next_).bind λx11=>IL m h next_ (!x11) x1)
def zX(x1:Bool):=
 some x1
def TE(n:dX):=
 (cK n.Key 0 99).bind λx2=>(if x2 then(cK n.eO 0 65535).bind λx3=>(if x3 then(MA n.Next).bind λx4=>zX x4 else zX false) else zX false)
def M5(x4:Int)(x5:Mem):=
 some (x5,x4)
def ZP(x4:Int)(x6:Mem):=
 M5 x4 x6
def EK(m:Mem)(h:Int)(n:dX)(x2:Bool)(x3:Mem):=
 (if x2 then some (x3,1) else(DH m h).bind λx4=>(if x4 == 0 then(BH m.Heap (Int.tmod h 32)).bind λx7=>(mG n.Key 2).bind λx8=>(mG n.eO 4).bind λx9=>need (x8.length+x9.length<=9223372036854775807)<|(mG n.Next 4).bind λx10=>need ((x8++x9).length+x10.length<=9223372036854775807)<|(m7 x3.Heap.Bytes x7 ((x8++x9)++x10)).bind λx11=>ZP x4 (⟨(⟨x11,x3.Heap.Class⟩:Heap),x3.aD⟩:Mem) else M5 x4 x3))
def O6(m:Mem)(h:Int)(n:dX):=
 (vC m).bind λx1=>(J6 m).bind λx12=>(if !x12 then EK m h n true x1 else(TE n).bind λx13=>EK m h n (!x13) x1)
def FD(t:Table)(j:aH)(b:cD)(x3:Table):=
 some (({x3 with aW:=t.aW,aM:=t.aM}:Table),({j with Pc:=13}:aH),b)
def M6(t:Table)(j:aH)(x:aP)(b:cD):=
 (V5 j.aI j.K).bind λx1=>(if decide ((j.cR.length:Int)<=x1) then(cT j 1).bind λx2=>some (t,x2,b) else(if j.Pc == 12 then(idx j.cR x1).bind λx4=>(O6 t.aA.Mem x4 ({x with Next:=b.Head}:dX)).bind λx5=>FD t j b ({t with aA:=(⟨x5.1,t.aA.aJ,t.aA.bB,t.aA.i5⟩:aA)}:Table) else(idx j.cR x1).bind λx6=>some (t,({j with Pc:=9,K:=aE (j.K+1)}:aH),({b with Head:=x6}:cD))))
def CQ(t:Table)(x13:List aH):=
 some ({t with aM:=x13}:Table)
def mR(w_ x3:Int)(x4:Bool)(x5:Int)(x16:Table):=
 (idx x16.aM w_).bind λx17=>(pT x17 (⟨x3,x4,x5⟩:aP)).bind λx18=>some ({x16 with aM:=x16.aM.set w_.toNat x18}:Table)
def CR(w_ x3:Int)(x4:Bool)(x5:Int)(x21:Table):=
 mR w_ x3 x4 x5 x21
def rY(w_ x3:Int)(x4:Bool)(x5:Int)(x19:Bool)(x20:Table):=
 (if x19 then(idx x20.aM w_).bind λx22=>need (x22.bL.length+([x22.H]).length<=1073741824)<|CR w_ x3 x4 x5 ({x20 with aM:=x20.aM.set w_.toNat ({x22 with bL:=x22.bL++([x22.H])}:aH)}:Table) else mR w_ x3 x4 x5 x20)
def mS(w_ x3:Int)(x4:Bool)(x5:Int)(x15:Table):=
 (idx x15.aM w_).bind λx23=>(iW x23.H).bind λx24=>(if x24 then rY w_ x3 x4 x5 (decide ((x23.bL.length:Int)<6)) x15 else rY w_ x3 x4 x5 false x15)
def CS(w_ x3:Int)(x4:Bool)(x5:Int)(x26:Table):=
 mS w_ x3 x4 x5 x26
def CT(t:Table)(w_ x3:Int)(x4:Bool)(x5:Int):=
 (J5 x3).bind λx6=>(idx t.aW x6).bind λx7=>(idx t.aM w_).bind λx8=>(if x8.Pc == 9 then(if x7.Head == 0 then(pT ({x8 with Pc:=10,H:=x7.Head,g8:=0}:aH) (⟨x3,x4,x5⟩:aP)).bind λx9=>some ({t with aM:=t.aM.set w_.toNat x9}:Table) else some ({t with aM:=t.aM.set w_.toNat ({x8 with Pc:=10,H:=x7.Head,g8:=0}:aH)}:Table)) else(if x8.Pc == 10 then(L9 t.aA.Mem x8.H).bind λx10=>(if x10.1.Key == x3 then some ({t with aM:=t.aM.set w_.toNat ({x8 with Pc:=11,Node:=x10.1}:aH)}:Table) else(gT x10.1).bind λx11=>(if x11 == 0 then(pT ({x8 with Node:=x10.1}:aH) (⟨x3,x4,x5⟩:aP)).bind λx12=>some ({t with aM:=t.aM.set w_.toNat x12}:Table) else(gT x10.1).bind λx14=>CQ t (t.aM.set w_.toNat ({x8 with H:=x14,g8:=x8.H,Node:=x10.1}:aH)))) else(if x8.Pc == 11 then(if x8.g8 == 0 then(gT x8.Node).bind λx25=>mS w_ x3 x4 x5 ({t with aW:=t.aW.set x6.toNat ({x7 with Head:=x25}:cD)}:Table) else(gT x8.Node).bind λx27=>(TD t.aA.Mem x8.g8 x27).bind λx28=>CS w_ x3 x4 x5 ({t with aA:=(⟨x28.1,t.aA.aJ,t.aA.bB,t.aA.i5⟩:aA)}:Table)) else(M6 t x8 (⟨x3,x4,x5⟩:aP) x7).bind λx29=>some (⟨x29.1.aA,t.aW.set x6.toNat x29.2.2,t.aM.set w_.toNat x29.2.1,x29.1.bJ,x29.1.Log,x29.1.aK⟩:Table))))
def CU(t:Table)(w_:Int)(x1:aH):=
 (if decide ((x1.aI.length:Int)<=x1.K) then(idx t.aM w_).bind λx2=>some ({t with aM:=t.aM.set w_.toNat ({x2 with Pc:=14}:aH)}:Table) else(idx t.aM w_).bind λx30=>(idx x30.aI x30.K).bind λx31=>CT t w_ x31.Key x31.GQ x31.eO)
def BK(t:Table)(w_:Int):=
 (idx t.aM w_).bind λx1=>CU t w_ x1
def qS(s:List Int)(i j:Int):=
 need (0<=(i:Int)/\(i:Int)<=(j:Int)/\(j:Int)<=((s.length:Int):Int)/\((s.length:Int):Int)<=(s.length:Int)) ((if i == j then some s else need (0<=(i:Int)/\(i:Int)<=(s.length:Int)) (need (0<=(j:Int)/\(j:Int)<=(s.length:Int)) (need (i.toNat<=j.toNat) (need (0<=(((((cW s i.toNat (s.drop j.toNat)).take (i.toNat+(s.length-j.toNat))).drop 0).length:Int):Int)/\(((((cW s i.toNat (s.drop j.toNat)).take (i.toNat+(s.length-j.toNat))).drop 0).length:Int):Int)<=((s.length:Int):Int)/\((s.length:Int):Int)<=((cW s i.toNat (s.drop j.toNat)).length:Int)) (some (((cW s i.toNat (s.drop j.toNat)).take (i.toNat+(s.length-j.toNat))).drop 0)))))))
def tJ(x1:aH):=
 some x1
def lU(j:aH):=
 (if decide (j.K<(j.bL.length:Int)) then(idx j.bL j.K).bind λx2=>(lS 2 x2).bind λx3=>tJ ({j with Sub:=x3}:aH) else some j)
def lV(t:Table)(w_:Int)(x4:List cD):=
 (idx t.aM w_).bind λx5=>(qS x5.bC 0 1).bind λx6=>some ({t with aW:=x4,aM:=t.aM.set w_.toNat ({x5 with bC:=x6}:aH)}:Table)
def yF(t:Table)(w_:Int):=
 (idx t.aM w_).bind λx1=>(if decide (0<(x1.bC.length:Int)) then(idx x1.bC 0).bind λx2=>(idx t.aW x2).bind λx3=>(if x1.Pc == 14 then lV t w_ (t.aW.set x2.toNat (⟨x3.Head,if 1000000<(aE (x3.eX+1)) then 1000000 else(aE (x3.eX+1)),0⟩:cD)) else lV t w_ (t.aW.set x2.toNat ({x3 with gH:=0}:cD))) else(if x1.Pc == 16 then some ({t with aM:=t.aM.set w_.toNat ({x1 with Pc:=17}:aH)}:Table) else(lU ({x1 with Pc:=15,K:=0}:aH)).bind λx7=>some ({t with aM:=t.aM.set w_.toNat x7}:Table)))
def zY(t:Table)(w_:Int)(x1:aH):=
 (if decide ((x1.bL.length:Int)<=x1.K) then(idx t.aM w_).bind λx2=>some ({t with aM:=t.aM.set w_.toNat ({x2 with Pc:=18}:aH)}:Table) else(idx t.aM w_).bind λx3=>(rG x3.Sub t.aA w_).bind λx4=>(if x4.1.jN then(lU ({x3 with K:=aE (x3.K+1),Sub:=x4.1}:aH)).bind λx5=>some ({t with aA:=x4.2,aM:=t.aM.set w_.toNat x5}:Table) else some ({t with aA:=x4.2,aM:=t.aM.set w_.toNat ({x3 with Sub:=x4.1}:aH)}:Table)))
def yG(t:Table)(w_:Int):=
 (idx t.aM w_).bind λx1=>zY t w_ x1
def EL(m:Mem)(w_ h:Int)(x1:Bool):Option (Mem×Int):=
 (if x1 then(vC m).bind λx2=>some (x2,1) else(FW m h).bind λx3=>(if !x3 then(vC m).bind λx4=>some (x4,4) else(QI m w_ h).bind λx5=>some (x5,0)))
def O7(m:Mem)(w_ h:Int):Option (Mem×Int):=
 (J6 m).bind λx6=>(if !x6 then EL m w_ h true else(gO w_).bind λx7=>EL m w_ h (!x7))
def EM(t:Table)(w_:Int):=
 (idx t.aM w_).bind λx1=>(if(x1.cR.length:Int) == 0 then some ({t with aM:=t.aM.set w_.toNat ({x1 with Pc:=18}:aH)}:Table) else(idx x1.cR 0).bind λx2=>(qS x1.cR 0 1).bind λx3=>(H4 t.aA.bB (Int.tmod x2 32)).bind λx4=>(if !x4 then(O7 t.aA.Mem w_ x2).bind λx5=>some ({t with aA:=(⟨x5.1,t.aA.aJ,t.aA.bB,t.aA.i5⟩:aA),aM:=t.aM.set w_.toNat ({x1 with cR:=x3}:aH)}:Table) else some ({t with aM:=t.aM.set w_.toNat ({x1 with cR:=x3}:aH)}:Table)))
def DI(w_:Int)(x1:aJ)(x2:Bool):=
 (if x2 then some (x1,false) else(idx x1.bS w_).bind λx3=>some ((⟨x1.aQ,x1.bS.set w_.toNat (⟨false,0,false,0⟩:lF)⟩:aJ),true))
def X2(c:aJ)(w_:Int):=
 (oG c).bind λx1=>(uV c).bind λx4=>(if !x4 then DI w_ x1 true else(gO w_).bind λx5=>(if !x5 then DI w_ x1 true else(idx c.bS w_).bind λx6=>DI w_ x1 (!x6.On)))
def EN(b:aA)(w_:Int):=
 (X2 b.aJ w_).bind λx1=>some (x1.2,({b with aJ:=x1.1}:aA))
def JK(t:Table)(w_:Int)(x1:aH):=
 some ({t with aM:=t.aM.set w_.toNat (⟨false,(⟨false,[]⟩:Batch),0,0,0,0,0,0,0,0,(⟨0,0,0⟩:dX),false,0,(⟨0,0,0,0,0,0,0,0,0,false⟩:Sub),[],[],[],[],[],[]⟩:aH),Log:=t.Log++([({x1 with Kind:=3,Who:=w_,bD:=[]}:iB)])}:Table)
def JL(t:Table)(w_:Int)(x1:aH):=
 some ({t with aM:=t.aM.set w_.toNat (⟨false,(⟨false,[]⟩:Batch),0,0,0,0,0,0,0,0,(⟨0,0,0⟩:dX),false,0,(⟨0,0,0,0,0,0,0,0,0,false⟩:Sub),[],[],[],[],[],[]⟩:aH),Log:=t.Log++([(⟨3,w_,x1.aK,x1.Code,[],[]⟩:iB)])}:Table)
def vD(t:Table)(w_:Int):=
 (idx t.aM w_).bind λx1=>(if x1.Code == 0 then need (t.Log.length+([({x1 with Kind:=3,Who:=w_,bD:=[]}:iB)]).length<=1073741824)<|JK t w_ x1 else need (t.Log.length+([(⟨3,w_,x1.aK,x1.Code,[],[]⟩:iB)]).length<=1073741824)<|JL t w_ x1)
def kV(t:Table)(w_:Int)(x1:aH)(x14:Bool):=
 (if x14 then(yF t w_).bind λx15=>some x15 else(if x1.Pc == 15 then(yG t w_).bind λx16=>some x16 else(if x1.Pc == 17 then(EM t w_).bind λx17=>some x17 else(if x1.Pc == 18 then(EN t.aA w_).bind λx18=>(idx t.aM w_).bind λx19=>some ({t with aA:=x18.2,aM:=t.aM.set w_.toNat ({x19 with Pc:=19}:aH)}:Table) else(if x1.Pc == 19 then(vD t w_).bind λx20=>some x20 else(idx t.aM w_).bind λx21=>(cT x21 1).bind λx22=>some ({t with aM:=t.aM.set w_.toNat x22}:Table))))))
def jC(t:Table)(w_:Int)(x1:aH)(x3:Bool):=
 (if x3 then(uW t w_).bind λx4=>some x4 else(if x1.Pc == 1 then(idx t.aM w_).bind λx5=>(IE x5).bind λx6=>some ({t with aM:=t.aM.set w_.toNat x6}:Table) else(cK x1.Pc 2 5).bind λx7=>(if x7 then(EG t w_).bind λx8=>some x8 else(if x1.Pc == 6 then(BI t w_).bind λx9=>some x9 else(if x1.Pc == 7 then(EJ t w_).bind λx10=>some x10 else(if x1.Pc == 8 then(rX t w_).bind λx11=>some x11 else(cK x1.Pc 9 13).bind λx12=>(if x12 then(BK t w_).bind λx13=>some x13 else(if x1.Pc == 14 then kV t w_ x1 true else kV t w_ x1 (x1.Pc == 16)))))))))
def EO(t:Table)(w_:Int):=
 (idx t.aM w_).bind λx1=>(if !x1.nE then(A7 t w_).bind λx2=>some x2 else(if x1.Pc == 0 then jC t w_ x1 true else(if x1.Pc == 20 then jC t w_ x1 true else jC t w_ x1 (x1.Pc == 21))))
def aGW(x6:Table):=
 some x6
def yH(x4:Int)(x7:Table):Option (Step (Int×Table) Table):=
 some (.next (aE (x4+1),x7))
def qT(x:eQ):(Int×Table)->Option (Step (Int×Table) Table)
 |(x4,x5)=>(if decide (x4<(((x.dC.take ((if 400<(x.dC.length:Int) then 400 else(x.dC.length:Int)).toNat)).drop 0).length:Int)) then(idx ((x.dC.take ((if 400<(x.dC.length:Int) then 400 else(x.dC.length:Int)).toNat)).drop 0) x4).bind λx8=>(gO x8).bind λx9=>(if x9 then(EO x5 x8).bind λx10=>yH x4 x10 else yH x4 x5) else some (.stop (x5)))
def aGX:Table->Option Table
 |x6=>aGW x6
def oN(x:eQ):=
 (KY x.bJ).bind λx1=>(if(x1.aM.length:Int) == 0 then some x1 else need (0<=(if 400<(x.dC.length:Int) then 400 else(x.dC.length:Int):Int)/\(if 400<(x.dC.length:Int) then 400 else(x.dC.length:Int):Int)<=(x.dC.length:Int)) ((loop (qT x) (0,x1)).bind (aGX)))
def TF(a_ b:Heap):=
 (lP a_.Bytes b.Bytes).bind λx1=>(if !x1 then some false else(lP a_.Class b.Class).bind λx2=>(if !x2 then some false else some true))
def O8(a_ b:aU):=
 (lP a_.aV b.aV).bind λx1=>(if !x1 then some false else some true)
def V6:=
 some true
def tK(a_ b:List aU):Int->Option (Step Int (Out Unit Bool))
 |x2=>(if decide (x2<(a_.length:Int)) then(idx a_ x2).bind λx3=>(idx b x2).bind λx4=>(O8 x3 x4).bind λx5=>(if !x5 then some (.stop (Out.ret false)) else some (.next (aE (x2+1)))) else some (.stop (Out.brk ())))
def V7:(Out Unit Bool)->Option Bool
 |.brk ()=>V6
 |.ret r=>some r
def DJ(a_ b:List aU):=
 (if(a_.length:Int) != (b.length:Int) then some false else(loop (tK a_ b) 0).bind (V7))
def O9(a_ b:aD):=
 (DJ a_.Global b.Global).bind λx1=>(if !x1 then some false else(DJ a_.Own b.Own).bind λx2=>(if !x2 then some false else some true))
def X3(a_ b:Mem):=
 (TF a_.Heap b.Heap).bind λx1=>(if !x1 then some false else(O9 a_.aD b.aD).bind λx2=>(if !x2 then some false else some true))
def X4(a_ b:lF):=
 (if !(a_.On == b.On) then some false else(if a_.aQ != b.aQ then some false else(if !(a_.gN == b.gN) then some false else(if a_.Seen != b.Seen then some false else some true))))
def aBU:=
 some true
def zZ(a_ b:List lF):Int->Option (Step Int (Out Unit Bool))
 |x2=>(if decide (x2<(a_.length:Int)) then(idx a_ x2).bind λx3=>(idx b x2).bind λx4=>(X4 x3 x4).bind λx5=>(if !x5 then some (.stop (Out.ret false)) else some (.next (aE (x2+1)))) else some (.stop (Out.brk ())))
def aBV:(Out Unit Bool)->Option Bool
 |.brk ()=>aBU
 |.ret r=>some r
def TG(a_ b:List lF):=
 (if(a_.length:Int) != (b.length:Int) then some false else(loop (zZ a_ b) 0).bind (aBV))
def PA(a_ b:aJ):=
 (if a_.aQ != b.aQ then some false else(TG a_.bS b.bS).bind λx1=>(if !x1 then some false else some true))
def TH(a_ b:cQ):=
 (if a_.Handle != b.Handle then some false else(if a_.aQ != b.aQ then some false else some true))
def ZQ:=
 some true
def wM(a_ b:List cQ):Int->Option (Step Int (Out Unit Bool))
 |x2=>(if decide (x2<(a_.length:Int)) then(idx a_ x2).bind λx3=>(idx b x2).bind λx4=>(TH x3 x4).bind λx5=>(if !x5 then some (.stop (Out.ret false)) else some (.next (aE (x2+1)))) else some (.stop (Out.brk ())))
def ZR:(Out Unit Bool)->Option Bool
 |.brk ()=>ZQ
 |.ret r=>some r
def PB(a_ b:List cQ):=
 (if(a_.length:Int) != (b.length:Int) then some false else(loop (wM a_ b) 0).bind (ZR))
def PC(a_ b:bE):=
 (PB a_.Rows b.Rows).bind λx1=>(if !x1 then some false else some true)
def V8:=
 some true
def tL(a_ b:List bE):Int->Option (Step Int (Out Unit Bool))
 |x2=>(if decide (x2<(a_.length:Int)) then(idx a_ x2).bind λx3=>(idx b x2).bind λx4=>(PC x3 x4).bind λx5=>(if !x5 then some (.stop (Out.ret false)) else some (.next (aE (x2+1)))) else some (.stop (Out.brk ())))
def V9:(Out Unit Bool)->Option Bool
 |.brk ()=>V8
 |.ret r=>some r
def K7(a_ b:List bE):=
 (if(a_.length:Int) != (b.length:Int) then some false else(loop (tL a_ b) 0).bind (V9))
def TJ(a_ b:aA):=
 (X3 a_.Mem b.Mem).bind λx1=>(if !x1 then some false else(PA a_.aJ b.aJ).bind λx2=>(if !x2 then some false else(K7 a_.bB b.bB).bind λx3=>(if !x3 then some false else(lP a_.i5 b.i5).bind λx4=>(if !x4 then some false else some true))))
def X5(a_ b:cD):=
 (if a_.Head != b.Head then some false else(if a_.eX != b.eX then some false else(if a_.gH != b.gH then some false else some true)))
def aBW:=
 some true
def z7(a_ b:List cD):Int->Option (Step Int (Out Unit Bool))
 |x2=>(if decide (x2<(a_.length:Int)) then(idx a_ x2).bind λx3=>(idx b x2).bind λx4=>(X5 x3 x4).bind λx5=>(if !x5 then some (.stop (Out.ret false)) else some (.next (aE (x2+1)))) else some (.stop (Out.brk ())))
def aBX:(Out Unit Bool)->Option Bool
 |.brk ()=>aBW
 |.ret r=>some r
def TL(a_ b:List cD):=
 (if(a_.length:Int) != (b.length:Int) then some false else(loop (z7 a_ b) 0).bind (aBX))
def TM(a_ b:dX):=
 (if a_.Key != b.Key then some false else(if a_.eO != b.eO then some false else(if a_.Next != b.Next then some false else some true)))
def X6(a_ b:Sub):=
 (if a_.Kind != b.Kind then some false else(if a_.A != b.A then some false else(if a_.Pc != b.Pc then some false else(if a_.E != b.E then some false else(if a_.Row != b.Row then some false else(if a_.B != b.B then some false else(if a_.H != b.H then some false else(if a_.Out != b.Out then some false else(if a_.Code != b.Code then some false else(if !(a_.jN == b.jN) then some false else some true))))))))))
def TN(a_ b:Seen):=
 (if a_.cD != b.cD then some false else(if a_.eX != b.eX then some false else some true))
def ZS:=
 some true
def wN(a_ b:List Seen):Int->Option (Step Int (Out Unit Bool))
 |x2=>(if decide (x2<(a_.length:Int)) then(idx a_ x2).bind λx3=>(idx b x2).bind λx4=>(TN x3 x4).bind λx5=>(if !x5 then some (.stop (Out.ret false)) else some (.next (aE (x2+1)))) else some (.stop (Out.brk ())))
def ZT:(Out Unit Bool)->Option Bool
 |.brk ()=>ZS
 |.ret r=>some r
def PD(a_ b:List Seen):=
 (if(a_.length:Int) != (b.length:Int) then some false else(loop (wN a_ b) 0).bind (ZT))
def PE(a_ b:aP):=
 (if a_.Key != b.Key then some false else(if !(a_.GQ == b.GQ) then some false else(if a_.eO != b.eO then some false else some true)))
def WA:=
 some true
def tM(a_ b:List aP):Int->Option (Step Int (Out Unit Bool))
 |x2=>(if decide (x2<(a_.length:Int)) then(idx a_ x2).bind λx3=>(idx b x2).bind λx4=>(PE x3 x4).bind λx5=>(if !x5 then some (.stop (Out.ret false)) else some (.next (aE (x2+1)))) else some (.stop (Out.brk ())))
def WB:(Out Unit Bool)->Option Bool
 |.brk ()=>WA
 |.ret r=>some r
def K8(a_ b:List aP):=
 (if(a_.length:Int) != (b.length:Int) then some false else(loop (tM a_ b) 0).bind (WB))
def X7(a_ b:cC):=
 (if !(a_.Is == b.Is) then some false else(if a_.eO != b.eO then some false else some true))
def aBY:=
 some true
def z8(a_ b:List cC):Int->Option (Step Int (Out Unit Bool))
 |x2=>(if decide (x2<(a_.length:Int)) then(idx a_ x2).bind λx3=>(idx b x2).bind λx4=>(X7 x3 x4).bind λx5=>(if !x5 then some (.stop (Out.ret false)) else some (.next (aE (x2+1)))) else some (.stop (Out.brk ())))
def aBZ:(Out Unit Bool)->Option Bool
 |.brk ()=>aBY
 |.ret r=>some r
def MB(a_ b:List cC):=
 (if(a_.length:Int) != (b.length:Int) then some false else(loop (z8 a_ b) 0).bind (aBZ))
def TO(a_ b:aH):=
 (if !(a_.nE == b.nE) then some false else(GW a_.Batch b.Batch).bind λx1=>(if !x1 then some false else(if a_.aK != b.aK then some false else(if a_.Pc != b.Pc then some false else(if a_.At != b.At then some false else(if a_.K != b.K then some false else(if a_.cD != b.cD then some false else(if a_.eX != b.eX then some false else(if a_.H != b.H then some false else(if a_.g8 != b.g8 then some false else(TM a_.Node b.Node).bind λx2=>(if !x2 then some false else(if !(a_.Found == b.Found) then some false else(if a_.Code != b.Code then some false else(X6 a_.Sub b.Sub).bind λx3=>(if !x3 then some false else(PD a_.Reads b.Reads).bind λx4=>(if !x4 then some false else(K8 a_.aI b.aI).bind λx5=>(if !x5 then some false else(MB a_.cC b.cC).bind λx6=>(if !x6 then some false else(lP a_.cR b.cR).bind λx7=>(if !x7 then some false else(lP a_.bC b.bC).bind λx8=>(if !x8 then some false else(lP a_.bL b.bL).bind λx9=>(if !x9 then some false else some true))))))))))))))))))))
def ZU:=
 some true
def wO(a_ b:List aH):Int->Option (Step Int (Out Unit Bool))
 |x2=>(if decide (x2<(a_.length:Int)) then(idx a_ x2).bind λx3=>(idx b x2).bind λx4=>(TO x3 x4).bind λx5=>(if !x5 then some (.stop (Out.ret false)) else some (.next (aE (x2+1)))) else some (.stop (Out.brk ())))
def ZV:(Out Unit Bool)->Option Bool
 |.brk ()=>ZU
 |.ret r=>some r
def PF(a_ b:List aH):=
 (if(a_.length:Int) != (b.length:Int) then some false else(loop (wO a_ b) 0).bind (ZV))
def X8(a_ b:iB):=
 (if a_.Kind != b.Kind then some false else(if a_.Who != b.Who then some false else(if a_.aK != b.aK then some false else(if a_.Code != b.Code then some false else(LV a_.bD b.bD).bind λx1=>(if !x1 then some false else(MB a_.cC b.cC).bind λx2=>(if !x2 then some false else some true))))))
def aB0:=
 some true
def AA(a_ b:List iB):Int->Option (Step Int (Out Unit Bool))
 |x2=>(if decide (x2<(a_.length:Int)) then(idx a_ x2).bind λx3=>(idx b x2).bind λx4=>(X8 x3 x4).bind λx5=>(if !x5 then some (.stop (Out.ret false)) else some (.next (aE (x2+1)))) else some (.stop (Out.brk ())))
def aB1:(Out Unit Bool)->Option Bool
 |.brk ()=>aB0
 |.ret r=>some r
def TP(a_ b:List iB):=
 (if(a_.length:Int) != (b.length:Int) then some false else(loop (AA a_ b) 0).bind (aB1))
def vF(a_ b:Table):=
 (TJ a_.aA b.aA).bind λx1=>(if !x1 then some false else(TL a_.aW b.aW).bind λx2=>(if !x2 then some false else(PF a_.aM b.aM).bind λx3=>(if !x3 then some false else(yW a_.bJ b.bJ).bind λx4=>(if !x4 then some false else(TP a_.Log b.Log).bind λx5=>(if !x5 then some false else(if a_.aK != b.aK then some false else some true))))))
def WC(a_ x7:List iF)(x8:Int):=
 need (x7.length=a_.length) (some (x8,x7))
def BL(a_:List iF):((List iF)×Int×Int)->Option (Step ((List iF)×Int×Int) ((List iF)×Int))
 |(x4,x5,x6)=>need (x4.length=a_.length) ((if decide (x6<(x4.length:Int)) then(idx x4 x6).bind λx9=>some (.next (x4.set x6.toNat (⟨x5,aE (x5+1),aE ((aE (x5+1))+1)⟩:iF),aE ((aE ((aE (x5+1))+1))+1),aE (x6+1))) else some (.stop ((x4,x5)))))
def WD(a_:List iF):((List iF)×Int)->Option (Int×(List iF))
 |(x7,x8)=>WC a_ x7 x8
def xK(a_:List iF)(k:Int):=
 (loop (BL a_) (a_,k,0)).bind (WD a_)
def QL(a_ x7:List Batch)(x8:Int):=
 need (x7.length=a_.length) (some (x8,x7))
def vG(a_:List Batch):((List Batch)×Int×Int)->Option (Step ((List Batch)×Int×Int) ((List Batch)×Int))
 |(x4,x5,x6)=>need (x4.length=a_.length) ((if decide (x6<(x4.length:Int)) then(idx x4 x6).bind λx9=>(xK x9.bD (aE (x5+1))).bind λx10=>some (.next (x4.set x6.toNat (⟨(Int.tmod x5 3) == 0,x10.2⟩:Batch),x10.1,aE (x6+1))) else some (.stop ((x4,x5)))))
def QM(a_:List Batch):((List Batch)×Int)->Option (Int×(List Batch))
 |(x7,x8)=>QL a_ x7 x8
def EP(a_:List Batch)(k:Int):=
 (loop (vG a_) (a_,k,0)).bind (QM a_)
def NR(a_ x7:List aO)(x8:Int):=
 need (x7.length=a_.length) (some (x8,x7))
def rZ(a_:List aO):((List aO)×Int×Int)->Option (Step ((List aO)×Int×Int) ((List aO)×Int))
 |(x4,x5,x6)=>need (x4.length=a_.length) ((if decide (x6<(x4.length:Int)) then(idx x4 x6).bind λx9=>(EP x9.List x5).bind λx10=>some (.next (x4.set x6.toNat (⟨x10.2⟩:aO),x10.1,aE (x6+1))) else some (.stop ((x4,x5)))))
def NS(a_:List aO):((List aO)×Int)->Option (Int×(List aO))
 |(x7,x8)=>NR a_ x7 x8
def tN(a_:List aO)(k:Int):=
 (loop (rZ a_) (a_,k,0)).bind (NS a_)
def WE(a_ x7:List Int)(x8:Int):=
 need (x7.length=a_.length) (some (x8,x7))
def BM(a_:List Int):((List Int)×Int×Int)->Option (Step ((List Int)×Int×Int) ((List Int)×Int))
 |(x4,x5,x6)=>need (x4.length=a_.length) ((if decide (x6<(x4.length:Int)) then(idx x4 x6).bind λx9=>some (.next (x4.set x6.toNat x5,aE (x5+1),aE (x6+1))) else some (.stop ((x4,x5)))))
def WG(a_:List Int):((List Int)×Int)->Option (Int×(List Int))
 |(x7,x8)=>WE a_ x7 x8
def iY(a_:List Int)(k:Int):=
 (loop (BM a_) (a_,k,0)).bind (WG a_)
def BN(a_:eQ)(k:Int):=
 (tN a_.bJ k).bind λx1=>(iY a_.dC x1.1).bind λx2=>some (x2.1,x1.2,x2.2)
def K9(a_:Heap)(k:Int):=
 (iY a_.Bytes k).bind λx1=>(iY a_.Class x1.1).bind λx2=>some (x2.1,x1.2,x2.2)
def QN(a_ x7:List aU)(x8:Int):=
 need (x7.length=a_.length) (some (x8,x7))
def vH(a_:List aU):((List aU)×Int×Int)->Option (Step ((List aU)×Int×Int) ((List aU)×Int))
 |(x4,x5,x6)=>need (x4.length=a_.length) ((if decide (x6<(x4.length:Int)) then(idx x4 x6).bind λx9=>(iY x9.aV x5).bind λx10=>some (.next (x4.set x6.toNat (⟨x10.2⟩:aU),x10.1,aE (x6+1))) else some (.stop ((x4,x5)))))
def QO(a_:List aU):((List aU)×Int)->Option (Int×(List aU))
 |(x7,x8)=>QN a_ x7 x8
def wP(a_:List aU)(k:Int):=
 (loop (vH a_) (a_,k,0)).bind (QO a_)
def IM(a_:aD)(k:Int):=
 (wP a_.Global k).bind λx1=>(wP a_.Own x1.1).bind λx2=>some (x2.1,x1.2,x2.2)
def PG(a_:Mem)(k:Int):=
 (K9 a_.Heap k).bind λx1=>(IM a_.aD x1.1).bind λx2=>some (x2.1,x1.2.1,x1.2.2,x2.2.1,x2.2.2)
def WH(a_ x7:List lF)(x8:Int):=
 need (x7.length=a_.length) (some (x8,x7))
def BO(a_:List lF):((List lF)×Int×Int)->Option (Step ((List lF)×Int×Int) ((List lF)×Int))
 |(x4,x5,x6)=>need (x4.length=a_.length) ((if decide (x6<(x4.length:Int)) then(idx x4 x6).bind λx9=>some (.next (x4.set x6.toNat (⟨(Int.tmod x5 3) == 0,aE (x5+1),(Int.tmod (aE ((aE (x5+1))+1)) 3) == 0,aE ((aE ((aE (x5+1))+1))+1)⟩:lF),aE ((aE ((aE ((aE (x5+1))+1))+1))+1),aE (x6+1))) else some (.stop ((x4,x5)))))
def WI(a_:List lF):((List lF)×Int)->Option (Int×(List lF))
 |(x7,x8)=>WH a_ x7 x8
def LA(a_:List lF)(k:Int):=
 (loop (BO a_) (a_,k,0)).bind (WI a_)
def IN(a_:aJ)(k:Int):=
 (LA a_.bS k).bind λx1=>some (x1.1,x1.2)
def TQ(a_ x7:List cQ)(x8:Int):=
 need (x7.length=a_.length) (some (x8,x7))
def yI(a_:List cQ):((List cQ)×Int×Int)->Option (Step ((List cQ)×Int×Int) ((List cQ)×Int))
 |(x4,x5,x6)=>need (x4.length=a_.length) ((if decide (x6<(x4.length:Int)) then(idx x4 x6).bind λx9=>some (.next (x4.set x6.toNat (⟨x5,aE (x5+1)⟩:cQ),aE ((aE (x5+1))+1),aE (x6+1))) else some (.stop ((x4,x5)))))
def TS(a_:List cQ):((List cQ)×Int)->Option (Int×(List cQ))
 |(x7,x8)=>TQ a_ x7 x8
def IP(a_:List cQ)(k:Int):=
 (loop (yI a_) (a_,k,0)).bind (TS a_)
def QP(a_ x7:List bE)(x8:Int):=
 need (x7.length=a_.length) (some (x8,x7))
def vI(a_:List bE):((List bE)×Int×Int)->Option (Step ((List bE)×Int×Int) ((List bE)×Int))
 |(x4,x5,x6)=>need (x4.length=a_.length) ((if decide (x6<(x4.length:Int)) then(idx x4 x6).bind λx9=>(IP x9.Rows x5).bind λx10=>some (.next (x4.set x6.toNat (⟨x10.2⟩:bE),x10.1,aE (x6+1))) else some (.stop ((x4,x5)))))
def QQ(a_:List bE):((List bE)×Int)->Option (Int×(List bE))
 |(x7,x8)=>QP a_ x7 x8
def ER(a_:List bE)(k:Int):=
 (loop (vI a_) (a_,k,0)).bind (QQ a_)
def LB(a_:aA)(k:Int):=
 (PG a_.Mem k).bind λx1=>(IN a_.aJ x1.1).bind λx2=>(ER a_.bB x2.1).bind λx3=>(iY a_.i5 x3.1).bind λx4=>some (x4.1,x1.2.1,x1.2.2.1,x1.2.2.2.1,x1.2.2.2.2,x2.2,x3.2,x4.2)
def WJ(a_ x7:List cD)(x8:Int):=
 need (x7.length=a_.length) (some (x8,x7))
def BP(a_:List cD):((List cD)×Int×Int)->Option (Step ((List cD)×Int×Int) ((List cD)×Int))
 |(x4,x5,x6)=>need (x4.length=a_.length) ((if decide (x6<(x4.length:Int)) then(idx x4 x6).bind λx9=>some (.next (x4.set x6.toNat (⟨x5,aE (x5+1),aE ((aE (x5+1))+1)⟩:cD),aE ((aE ((aE (x5+1))+1))+1),aE (x6+1))) else some (.stop ((x4,x5)))))
def WK(a_:List cD):((List cD)×Int)->Option (Int×(List cD))
 |(x7,x8)=>WJ a_ x7 x8
def LC(a_:List cD)(k:Int):=
 (loop (BP a_) (a_,k,0)).bind (WK a_)
def TU(a_ x7:List Seen)(x8:Int):=
 need (x7.length=a_.length) (some (x8,x7))
def yJ(a_:List Seen):((List Seen)×Int×Int)->Option (Step ((List Seen)×Int×Int) ((List Seen)×Int))
 |(x4,x5,x6)=>need (x4.length=a_.length) ((if decide (x6<(x4.length:Int)) then(idx x4 x6).bind λx9=>some (.next (x4.set x6.toNat (⟨x5,aE (x5+1)⟩:Seen),aE ((aE (x5+1))+1),aE (x6+1))) else some (.stop ((x4,x5)))))
def TW(a_:List Seen):((List Seen)×Int)->Option (Int×(List Seen))
 |(x7,x8)=>TU a_ x7 x8
def IQ(a_:List Seen)(k:Int):=
 (loop (yJ a_) (a_,k,0)).bind (TW a_)
def QT(a_ x7:List aP)(x8:Int):=
 need (x7.length=a_.length) (some (x8,x7))
def vJ(a_:List aP):((List aP)×Int×Int)->Option (Step ((List aP)×Int×Int) ((List aP)×Int))
 |(x4,x5,x6)=>need (x4.length=a_.length) ((if decide (x6<(x4.length:Int)) then(idx x4 x6).bind λx9=>some (.next (x4.set x6.toNat (⟨x5,(Int.tmod (aE (x5+1)) 3) == 0,aE ((aE (x5+1))+1)⟩:aP),aE ((aE ((aE (x5+1))+1))+1),aE (x6+1))) else some (.stop ((x4,x5)))))
def QU(a_:List aP):((List aP)×Int)->Option (Int×(List aP))
 |(x7,x8)=>QT a_ x7 x8
def ES(a_:List aP)(k:Int):=
 (loop (vJ a_) (a_,k,0)).bind (QU a_)
def WL(a_ x7:List cC)(x8:Int):=
 need (x7.length=a_.length) (some (x8,x7))
def BQ(a_:List cC):((List cC)×Int×Int)->Option (Step ((List cC)×Int×Int) ((List cC)×Int))
 |(x4,x5,x6)=>need (x4.length=a_.length) ((if decide (x6<(x4.length:Int)) then(idx x4 x6).bind λx9=>some (.next (x4.set x6.toNat (⟨(Int.tmod x5 3) == 0,aE (x5+1)⟩:cC),aE ((aE (x5+1))+1),aE (x6+1))) else some (.stop ((x4,x5)))))
def WM(a_:List cC):((List cC)×Int)->Option (Int×(List cC))
 |(x7,x8)=>WL a_ x7 x8
def DK(a_:List cC)(k:Int):=
 (loop (BQ a_) (a_,k,0)).bind (WM a_)
def TX(a_ x7:List aH)(x8:Int):=
 need (x7.length=a_.length) (some (x8,x7))
def yK(a_:List aH):((List aH)×Int×Int)->Option (Step ((List aH)×Int×Int) ((List aH)×Int))
 |(x4,x5,x6)=>need (x4.length=a_.length) ((if decide (x6<(x4.length:Int)) then(idx x4 x6).bind λx9=>(xK x9.Batch.bD (aE ((aE (x5+1))+1))).bind λx10=>(IQ x9.Reads (aE ((aE ((aE ((aE ((aE ((aE ((aE ((aE ((aE ((aE ((aE ((aE ((aE ((aE ((aE ((aE ((aE ((aE ((aE ((aE ((aE ((aE ((aE (x10.1+1))+1))+1))+1))+1))+1))+1))+1))+1))+1))+1))+1))+1))+1))+1))+1))+1))+1))+1))+1))+1))+1))+1))).bind λx11=>(ES x9.aI x11.1).bind λx12=>(DK x9.cC x12.1).bind λx13=>(iY x9.cR x13.1).bind λx14=>(iY x9.bC x14.1).bind λx15=>(iY x9.bL x15.1).bind λx16=>some (.next (x4.set x6.toNat (⟨(Int.tmod x5 3) == 0,(⟨(Int.tmod (aE (x5+1)) 3) == 0,x10.2⟩:Batch),x10.1,aE (x10.1+1),aE ((aE (x10.1+1))+1),aE ((aE ((aE (x10.1+1))+1))+1),aE ((aE ((aE ((aE (x10.1+1))+1))+1))+1),aE ((aE ((aE ((aE ((aE (x10.1+1))+1))+1))+1))+1),aE ((aE ((aE ((aE ((aE ((aE (x10.1+1))+1))+1))+1))+1))+1),aE ((aE ((aE ((aE ((aE ((aE ((aE (x10.1+1))+1))+1))+1))+1))+1))+1),(⟨aE ((aE ((aE ((aE ((aE ((aE ((aE ((aE (x10.1+1))+1))+1))+1))+1))+1))+1))+1),aE ((aE ((aE ((aE ((aE ((aE ((aE ((aE ((aE (x10.1+1))+1))+1))+1))+1))+1))+1))+1))+1),aE ((aE ((aE ((aE ((aE ((aE ((aE ((aE ((aE ((aE (x10.1+1))+1))+1))+1))+1))+1))+1))+1))+1))+1)⟩:dX),(Int.tmod (aE ((aE ((aE ((aE ((aE ((aE ((aE ((aE ((aE ((aE ((aE (x10.1+1))+1))+1))+1))+1))+1))+1))+1))+1))+1))+1)) 3) == 0,aE ((aE ((aE ((aE ((aE ((aE ((aE ((aE ((aE ((aE ((aE ((aE (x10.1+1))+1))+1))+1))+1))+1))+1))+1))+1))+1))+1))+1),(⟨aE ((aE ((aE ((aE ((aE ((aE ((aE ((aE ((aE ((aE ((aE ((aE ((aE (x10.1+1))+1))+1))+1))+1))+1))+1))+1))+1))+1))+1))+1))+1),aE ((aE ((aE ((aE ((aE ((aE ((aE ((aE ((aE ((aE ((aE ((aE ((aE ((aE (x10.1+1))+1))+1))+1))+1))+1))+1))+1))+1))+1))+1))+1))+1))+1),aE ((aE ((aE ((aE ((aE ((aE ((aE ((aE ((aE ((aE ((aE ((aE ((aE ((aE ((aE (x10.1+1))+1))+1))+1))+1))+1))+1))+1))+1))+1))+1))+1))+1))+1))+1),aE ((aE ((aE ((aE ((aE ((aE ((aE ((aE ((aE ((aE ((aE ((aE ((aE ((aE ((aE ((aE (x10.1+1))+1))+1))+1))+1))+1))+1))+1))+1))+1))+1))+1))+1))+1))+1))+1),aE ((aE ((aE ((aE ((aE ((aE ((aE ((aE ((aE ((aE ((aE ((aE ((aE ((aE ((aE ((aE ((aE (x10.1+1))+1))+1))+1))+1))+1))+1))+1))+1))+1))+1))+1))+1))+1))+1))+1))+1),aE ((aE ((aE ((aE ((aE ((aE ((aE ((aE ((aE ((aE ((aE ((aE ((aE ((aE ((aE ((aE ((aE ((aE (x10.1+1))+1))+1))+1))+1))+1))+1))+1))+1))+1))+1))+1))+1))+1))+1))+1))+1))+1),aE ((aE ((aE ((aE ((aE ((aE ((aE ((aE ((aE ((aE ((aE ((aE ((aE ((aE ((aE ((aE ((aE ((aE ((aE (x10.1+1))+1))+1))+1))+1))+1))+1))+1))+1))+1))+1))+1))+1))+1))+1))+1))+1))+1))+1),aE ((aE ((aE ((aE ((aE ((aE ((aE ((aE ((aE ((aE ((aE ((aE ((aE ((aE ((aE ((aE ((aE ((aE ((aE ((aE (x10.1+1))+1))+1))+1))+1))+1))+1))+1))+1))+1))+1))+1))+1))+1))+1))+1))+1))+1))+1))+1),aE ((aE ((aE ((aE ((aE ((aE ((aE ((aE ((aE ((aE ((aE ((aE ((aE ((aE ((aE ((aE ((aE ((aE ((aE ((aE ((aE (x10.1+1))+1))+1))+1))+1))+1))+1))+1))+1))+1))+1))+1))+1))+1))+1))+1))+1))+1))+1))+1))+1),(Int.tmod (aE ((aE ((aE ((aE ((aE ((aE ((aE ((aE ((aE ((aE ((aE ((aE ((aE ((aE ((aE ((aE ((aE ((aE ((aE ((aE ((aE ((aE (x10.1+1))+1))+1))+1))+1))+1))+1))+1))+1))+1))+1))+1))+1))+1))+1))+1))+1))+1))+1))+1))+1))+1)) 3) == 0⟩:Sub),x11.2,x12.2,x13.2,x14.2,x15.2,x16.2⟩:aH),x16.1,aE (x6+1))) else some (.stop ((x4,x5)))))
def TY(a_:List aH):((List aH)×Int)->Option (Int×(List aH))
 |(x7,x8)=>TX a_ x7 x8
def IS(a_:List aH)(k:Int):=
 (loop (yK a_) (a_,k,0)).bind (TY a_)
def WN(a_ x7:List iB)(x8:Int):=
 need (x7.length=a_.length) (some (x8,x7))
def BR(a_:List iB):((List iB)×Int×Int)->Option (Step ((List iB)×Int×Int) ((List iB)×Int))
 |(x4,x5,x6)=>need (x4.length=a_.length) ((if decide (x6<(x4.length:Int)) then(idx x4 x6).bind λx9=>(xK x9.bD (aE ((aE ((aE ((aE (x5+1))+1))+1))+1))).bind λx10=>(DK x9.cC x10.1).bind λx11=>some (.next (x4.set x6.toNat (⟨x5,aE (x5+1),aE ((aE (x5+1))+1),aE ((aE ((aE (x5+1))+1))+1),x10.2,x11.2⟩:iB),x11.1,aE (x6+1))) else some (.stop ((x4,x5)))))
def WO(a_:List iB):((List iB)×Int)->Option (Int×(List iB))
 |(x7,x8)=>WN a_ x7 x8
def LD(a_:List iB)(k:Int):=
 (loop (BR a_) (a_,k,0)).bind (WO a_)
def AB(a_:Table)(k:Int):=
 (LB a_.aA k).bind λx1=>(LC a_.aW x1.1).bind λx2=>(IS a_.aM x2.1).bind λx3=>(tN a_.bJ x3.1).bind λx4=>(LD a_.Log x4.1).bind λx5=>some (x5.1,x1.2.1,x1.2.2.1,x1.2.2.2.1,x1.2.2.2.2.1,x1.2.2.2.2.2.1,x1.2.2.2.2.2.2.1,x1.2.2.2.2.2.2.2,x2.2,x3.2,x4.2,x5.2)
def aIX(x5:Int):=
 some x5
def nK(a_:List Int):(Int×Int)->Option (Step (Int×Int) (Out Int Int))
 |(x3,x4)=>(if decide (x4<(a_.length:Int)) then(idx a_ x4).bind λx6=>(if x6 != x3 then some (.stop (Out.ret (-1))) else some (.next (aE (x3+1),aE (x4+1)))) else some (.stop (Out.brk x3)))
def aIY:(Out Int Int)->Option Int
 |.brk x5=>aIX x5
 |.ret r=>some r
def jQ(a_:List Int)(k:Int):=
 (loop (nK a_) (k,0)).bind (aIY)
def LF(a_:Heap)(k:Int):=
 (jQ a_.Bytes k).bind λx1=>(if decide (x1<0) then some (-1) else(jQ a_.Class x1).bind λx2=>(if decide (x2<0) then some (-1) else some x2))
def aE6(x5:Int):=
 some x5
def kW(a_:List aU):(Int×Int)->Option (Step (Int×Int) (Out Int Int))
 |(x3,x4)=>(if decide (x4<(a_.length:Int)) then(idx a_ x4).bind λx6=>(jQ x6.aV x3).bind λx7=>(if decide (x7<0) then some (.stop (Out.ret (-1))) else some (.next (x7,aE (x4+1)))) else some (.stop (Out.brk x3)))
def aE7:(Out Int Int)->Option Int
 |.brk x5=>aE6 x5
 |.ret r=>some r
def wQ(a_:List aU)(k:Int):=
 (loop (kW a_) (k,0)).bind (aE7)
def IT(a_:aD)(k:Int):=
 (wQ a_.Global k).bind λx1=>(if decide (x1<0) then some (-1) else(wQ a_.Own x1).bind λx2=>(if decide (x2<0) then some (-1) else some x2))
def PH(a_:Mem)(k:Int):=
 (LF a_.Heap k).bind λx1=>(if decide (x1<0) then some (-1) else(IT a_.aD x1).bind λx2=>(if decide (x2<0) then some (-1) else some x2))
def aIZ(x5:Int):=
 some x5
def nL(a_:List lF):(Int×Int)->Option (Step (Int×Int) (Out Int Int))
 |(x3,x4)=>(if decide (x4<(a_.length:Int)) then(idx a_ x4).bind λx6=>(if !(x6.On == ((Int.tmod x3 3) == 0)) then some (.stop (Out.ret (-1))) else(idx a_ x4).bind λx7=>(if x7.aQ != (aE (x3+1)) then some (.stop (Out.ret (-1))) else(idx a_ x4).bind λx8=>(if !(x8.gN == ((Int.tmod (aE ((aE (x3+1))+1)) 3) == 0)) then some (.stop (Out.ret (-1))) else(idx a_ x4).bind λx9=>(if x9.Seen != (aE ((aE ((aE (x3+1))+1))+1)) then some (.stop (Out.ret (-1))) else some (.next (aE ((aE ((aE ((aE (x3+1))+1))+1))+1),aE (x4+1))))))) else some (.stop (Out.brk x3)))
def aI0:(Out Int Int)->Option Int
 |.brk x5=>aIZ x5
 |.ret r=>some r
def LG(a_:List lF)(k:Int):=
 (loop (nL a_) (k,0)).bind (aI0)
def IU(a_:aJ)(k:Int):=
 (LG a_.bS k).bind λx1=>(if decide (x1<0) then some (-1) else some x1)
def aGY(x5:Int):=
 some x5
def l9(a_:List cQ):(Int×Int)->Option (Step (Int×Int) (Out Int Int))
 |(x3,x4)=>(if decide (x4<(a_.length:Int)) then(idx a_ x4).bind λx6=>(if x6.Handle != x3 then some (.stop (Out.ret (-1))) else(idx a_ x4).bind λx7=>(if x7.aQ != (aE (x3+1)) then some (.stop (Out.ret (-1))) else some (.next (aE ((aE (x3+1))+1),aE (x4+1))))) else some (.stop (Out.brk x3)))
def aGZ:(Out Int Int)->Option Int
 |.brk x5=>aGY x5
 |.ret r=>some r
def IV(a_:List cQ)(k:Int):=
 (loop (l9 a_) (k,0)).bind (aGZ)
def aE8(x5:Int):=
 some x5
def kX(a_:List bE):(Int×Int)->Option (Step (Int×Int) (Out Int Int))
 |(x3,x4)=>(if decide (x4<(a_.length:Int)) then(idx a_ x4).bind λx6=>(IV x6.Rows x3).bind λx7=>(if decide (x7<0) then some (.stop (Out.ret (-1))) else some (.next (x7,aE (x4+1)))) else some (.stop (Out.brk x3)))
def aE9:(Out Int Int)->Option Int
 |.brk x5=>aE8 x5
 |.ret r=>some r
def ET(a_:List bE)(k:Int):=
 (loop (kX a_) (k,0)).bind (aE9)
def LH(a_:aA)(k:Int):=
 (PH a_.Mem k).bind λx1=>(if decide (x1<0) then some (-1) else(IU a_.aJ x1).bind λx2=>(if decide (x2<0) then some (-1) else(ET a_.bB x2).bind λx3=>(if decide (x3<0) then some (-1) else(jQ a_.i5 x3).bind λx4=>(if decide (x4<0) then some (-1) else some x4))))
def aI1(x5:Int):=
 some x5
def nM(a_:List cD):(Int×Int)->Option (Step (Int×Int) (Out Int Int))
 |(x3,x4)=>(if decide (x4<(a_.length:Int)) then(idx a_ x4).bind λx6=>(if x6.Head != x3 then some (.stop (Out.ret (-1))) else(idx a_ x4).bind λx7=>(if x7.eX != (aE (x3+1)) then some (.stop (Out.ret (-1))) else(idx a_ x4).bind λx8=>(if x8.gH != (aE ((aE (x3+1))+1)) then some (.stop (Out.ret (-1))) else some (.next (aE ((aE ((aE (x3+1))+1))+1),aE (x4+1)))))) else some (.stop (Out.brk x3)))
def aI2:(Out Int Int)->Option Int
 |.brk x5=>aI1 x5
 |.ret r=>some r
def LI(a_:List cD)(k:Int):=
 (loop (nM a_) (k,0)).bind (aI2)
def aI3(x5:Int):=
 some x5
def nN(a_:List iF):(Int×Int)->Option (Step (Int×Int) (Out Int Int))
 |(x3,x4)=>(if decide (x4<(a_.length:Int)) then(idx a_ x4).bind λx6=>(if x6.Kind != x3 then some (.stop (Out.ret (-1))) else(idx a_ x4).bind λx7=>(if x7.Key != (aE (x3+1)) then some (.stop (Out.ret (-1))) else(idx a_ x4).bind λx8=>(if x8.eO != (aE ((aE (x3+1))+1)) then some (.stop (Out.ret (-1))) else some (.next (aE ((aE ((aE (x3+1))+1))+1),aE (x4+1)))))) else some (.stop (Out.brk x3)))
def aI4:(Out Int Int)->Option Int
 |.brk x5=>aI3 x5
 |.ret r=>some r
def xL(a_:List iF)(k:Int):=
 (loop (nN a_) (k,0)).bind (aI4)
def aG0(x5:Int):=
 some x5
def mA(a_:List Seen):(Int×Int)->Option (Step (Int×Int) (Out Int Int))
 |(x3,x4)=>(if decide (x4<(a_.length:Int)) then(idx a_ x4).bind λx6=>(if x6.cD != x3 then some (.stop (Out.ret (-1))) else(idx a_ x4).bind λx7=>(if x7.eX != (aE (x3+1)) then some (.stop (Out.ret (-1))) else some (.next (aE ((aE (x3+1))+1),aE (x4+1))))) else some (.stop (Out.brk x3)))
def aG1:(Out Int Int)->Option Int
 |.brk x5=>aG0 x5
 |.ret r=>some r
def IW(a_:List Seen)(k:Int):=
 (loop (mA a_) (k,0)).bind (aG1)
def aFA(x5:Int):=
 some x5
def kY(a_:List aP):(Int×Int)->Option (Step (Int×Int) (Out Int Int))
 |(x3,x4)=>(if decide (x4<(a_.length:Int)) then(idx a_ x4).bind λx6=>(if x6.Key != x3 then some (.stop (Out.ret (-1))) else(idx a_ x4).bind λx7=>(if !(x7.GQ == ((Int.tmod (aE (x3+1)) 3) == 0)) then some (.stop (Out.ret (-1))) else(idx a_ x4).bind λx8=>(if x8.eO != (aE ((aE (x3+1))+1)) then some (.stop (Out.ret (-1))) else some (.next (aE ((aE ((aE (x3+1))+1))+1),aE (x4+1)))))) else some (.stop (Out.brk x3)))
def aFB:(Out Int Int)->Option Int
 |.brk x5=>aFA x5
 |.ret r=>some r
def EU(a_:List aP)(k:Int):=
 (loop (kY a_) (k,0)).bind (aFB)
def aI5(x5:Int):=
 some x5
def nO(a_:List cC):(Int×Int)->Option (Step (Int×Int) (Out Int Int))
 |(x3,x4)=>(if decide (x4<(a_.length:Int)) then(idx a_ x4).bind λx6=>(if !(x6.Is == ((Int.tmod x3 3) == 0)) then some (.stop (Out.ret (-1))) else(idx a_ x4).bind λx7=>(if x7.eO != (aE (x3+1)) then some (.stop (Out.ret (-1))) else some (.next (aE ((aE (x3+1))+1),aE (x4+1))))) else some (.stop (Out.brk x3)))
def aI6:(Out Int Int)->Option Int
 |.brk x5=>aI5 x5
 |.ret r=>some r
def DL(a_:List cC)(k:Int):=
 (loop (nO a_) (k,0)).bind (aI6)
def aG2(x5:Int):=
 some x5
def mB(a_:List aH):(Int×Int)->Option (Step (Int×Int) (Out Int Int))
 |(x3,x4)=>(if decide (x4<(a_.length:Int)) then(idx a_ x4).bind λx6=>(if !(x6.nE == ((Int.tmod x3 3) == 0)) then some (.stop (Out.ret (-1))) else(idx a_ x4).bind λx7=>(if !(x7.Batch.Collect == ((Int.tmod (aE (x3+1)) 3) == 0)) then some (.stop (Out.ret (-1))) else(idx a_ x4).bind λx8=>(xL x8.Batch.bD (aE ((aE (x3+1))+1))).bind λx9=>(if decide (x9<0) then some (.stop (Out.ret (-1))) else(idx a_ x4).bind λx10=>(if x10.aK != x9 then some (.stop (Out.ret (-1))) else(idx a_ x4).bind λx11=>(if x11.Pc != (aE (x9+1)) then some (.stop (Out.ret (-1))) else(idx a_ x4).bind λx12=>(if x12.At != (aE ((aE (x9+1))+1)) then some (.stop (Out.ret (-1))) else(idx a_ x4).bind λx13=>(if x13.K != (aE ((aE ((aE (x9+1))+1))+1)) then some (.stop (Out.ret (-1))) else(idx a_ x4).bind λx14=>(if x14.cD != (aE ((aE ((aE ((aE (x9+1))+1))+1))+1)) then some (.stop (Out.ret (-1))) else(idx a_ x4).bind λx15=>(if x15.eX != (aE ((aE ((aE ((aE ((aE (x9+1))+1))+1))+1))+1)) then some (.stop (Out.ret (-1))) else(idx a_ x4).bind λx16=>(if x16.H != (aE ((aE ((aE ((aE ((aE ((aE (x9+1))+1))+1))+1))+1))+1)) then some (.stop (Out.ret (-1))) else(idx a_ x4).bind λx17=>(if x17.g8 != (aE ((aE ((aE ((aE ((aE ((aE ((aE (x9+1))+1))+1))+1))+1))+1))+1)) then some (.stop (Out.ret (-1))) else(idx a_ x4).bind λx18=>(if x18.Node.Key != (aE ((aE ((aE ((aE ((aE ((aE ((aE ((aE (x9+1))+1))+1))+1))+1))+1))+1))+1)) then some (.stop (Out.ret (-1))) else(idx a_ x4).bind λx19=>(if x19.Node.eO != (aE ((aE ((aE ((aE ((aE ((aE ((aE ((aE ((aE (x9+1))+1))+1))+1))+1))+1))+1))+1))+1)) then some (.stop (Out.ret (-1))) else(idx a_ x4).bind λx20=>(if x20.Node.Next != (aE ((aE ((aE ((aE ((aE ((aE ((aE ((aE ((aE ((aE (x9+1))+1))+1))+1))+1))+1))+1))+1))+1))+1)) then some (.stop (Out.ret (-1))) else(idx a_ x4).bind λx21=>(if !(x21.Found == ((Int.tmod (aE ((aE ((aE ((aE ((aE ((aE ((aE ((aE ((aE ((aE ((aE (x9+1))+1))+1))+1))+1))+1))+1))+1))+1))+1))+1)) 3) == 0)) then some (.stop (Out.ret (-1))) else(idx a_ x4).bind λx22=>(if x22.Code != (aE ((aE ((aE ((aE ((aE ((aE ((aE ((aE ((aE ((aE ((aE ((aE (x9+1))+1))+1))+1))+1))+1))+1))+1))+1))+1))+1))+1)) then some (.stop (Out.ret (-1))) else(idx a_ x4).bind λx23=>(if x23.Sub.Kind != (aE ((aE ((aE ((aE ((aE ((aE ((aE ((aE ((aE ((aE ((aE ((aE ((aE (x9+1))+1))+1))+1))+1))+1))+1))+1))+1))+1))+1))+1))+1)) then some (.stop (Out.ret (-1))) else(idx a_ x4).bind λx24=>(if x24.Sub.A != (aE ((aE ((aE ((aE ((aE ((aE ((aE ((aE ((aE ((aE ((aE ((aE ((aE ((aE (x9+1))+1))+1))+1))+1))+1))+1))+1))+1))+1))+1))+1))+1))+1)) then some (.stop (Out.ret (-1))) else(idx a_ x4).bind λx25=>(if x25.Sub.Pc != (aE ((aE ((aE ((aE ((aE ((aE ((aE ((aE ((aE ((aE ((aE ((aE ((aE ((aE ((aE (x9+1))+1))+1))+1))+1))+1))+1))+1))+1))+1))+1))+1))+1))+1))+1)) then some (.stop (Out.ret (-1))) else(idx a_ x4).bind λx26=>(if x26.Sub.E != (aE ((aE ((aE ((aE ((aE ((aE ((aE ((aE ((aE ((aE ((aE ((aE ((aE ((aE ((aE ((aE (x9+1))+1))+1))+1))+1))+1))+1))+1))+1))+1))+1))+1))+1))+1))+1))+1)) then some (.stop (Out.ret (-1))) else(idx a_ x4).bind λx27=>(if x27.Sub.Row != (aE ((aE ((aE ((aE ((aE ((aE ((aE ((aE ((aE ((aE ((aE ((aE ((aE ((aE ((aE ((aE ((aE (x9+1))+1))+1))+1))+1))+1))+1))+1))+1))+1))+1))+1))+1))+1))+1))+1))+1)) then some (.stop (Out.ret (-1))) else(idx a_ x4).bind λx28=>(if x28.Sub.B != (aE ((aE ((aE ((aE ((aE ((aE ((aE ((aE ((aE ((aE ((aE ((aE ((aE ((aE ((aE ((aE ((aE ((aE (x9+1))+1))+1))+1))+1))+1))+1))+1))+1))+1))+1))+1))+1))+1))+1))+1))+1))+1)) then some (.stop (Out.ret (-1))) else(idx a_ x4).bind λx29=>(if x29.Sub.H != (aE ((aE ((aE ((aE ((aE ((aE ((aE ((aE ((aE ((aE ((aE ((aE ((aE ((aE ((aE ((aE ((aE ((aE ((aE (x9+1))+1))+1))+1))+1))+1))+1))+1))+1))+1))+1))+1))+1))+1))+1))+1))+1))+1))+1)) then some (.stop (Out.ret (-1))) else(idx a_ x4).bind λx30=>(if x30.Sub.Out != (aE ((aE ((aE ((aE ((aE ((aE ((aE ((aE ((aE ((aE ((aE ((aE ((aE ((aE ((aE ((aE ((aE ((aE ((aE ((aE (x9+1))+1))+1))+1))+1))+1))+1))+1))+1))+1))+1))+1))+1))+1))+1))+1))+1))+1))+1))+1)) then some (.stop (Out.ret (-1))) else(idx a_ x4).bind λx31=>(if x31.Sub.Code != (aE ((aE ((aE ((aE ((aE ((aE ((aE ((aE ((aE ((aE ((aE ((aE ((aE ((aE ((aE ((aE ((aE ((aE ((aE ((aE ((aE (x9+1))+1))+1))+1))+1))+1))+1))+1))+1))+1))+1))+1))+1))+1))+1))+1))+1))+1))+1))+1))+1)) then some (.stop (Out.ret (-1))) else(idx a_ x4).bind λx32=>(if !(x32.Sub.jN == ((Int.tmod (aE ((aE ((aE ((aE ((aE ((aE ((aE ((aE ((aE ((aE ((aE ((aE ((aE ((aE ((aE ((aE ((aE ((aE ((aE ((aE ((aE ((aE (x9+1))+1))+1))+1))+1))+1))+1))+1))+1))+1))+1))+1))+1))+1))+1))+1))+1))+1))+1))+1))+1))+1)) 3) == 0)) then some (.stop (Out.ret (-1))) else(idx a_ x4).bind λx33=>(IW x33.Reads (aE ((aE ((aE ((aE ((aE ((aE ((aE ((aE ((aE ((aE ((aE ((aE ((aE ((aE ((aE ((aE ((aE ((aE ((aE ((aE ((aE ((aE ((aE (x9+1))+1))+1))+1))+1))+1))+1))+1))+1))+1))+1))+1))+1))+1))+1))+1))+1))+1))+1))+1))+1))+1))+1))).bind λx34=>(if decide (x34<0) then some (.stop (Out.ret (-1))) else(idx a_ x4).bind λx35=>(EU x35.aI x34).bind λx36=>(if decide (x36<0) then some (.stop (Out.ret (-1))) else(idx a_ x4).bind λx37=>(DL x37.cC x36).bind λx38=>(if decide (x38<0) then some (.stop (Out.ret (-1))) else(idx a_ x4).bind λx39=>(jQ x39.cR x38).bind λx40=>(if decide (x40<0) then some (.stop (Out.ret (-1))) else(idx a_ x4).bind λx41=>(jQ x41.bC x40).bind λx42=>(if decide (x42<0) then some (.stop (Out.ret (-1))) else(idx a_ x4).bind λx43=>(jQ x43.bL x42).bind λx44=>(if decide (x44<0) then some (.stop (Out.ret (-1))) else some (.next (x44,aE (x4+1))))))))))))))))))))))))))))))))))) else some (.stop (Out.brk x3)))
def aG3:(Out Int Int)->Option Int
 |.brk x5=>aG2 x5
 |.ret r=>some r
def IX(a_:List aH)(k:Int):=
 (loop (mB a_) (k,0)).bind (aG3)
def aFC(x5:Int):=
 some x5
def kZ(a_:List Batch):(Int×Int)->Option (Step (Int×Int) (Out Int Int))
 |(x3,x4)=>(if decide (x4<(a_.length:Int)) then(idx a_ x4).bind λx6=>(if !(x6.Collect == ((Int.tmod x3 3) == 0)) then some (.stop (Out.ret (-1))) else(idx a_ x4).bind λx7=>(xL x7.bD (aE (x3+1))).bind λx8=>(if decide (x8<0) then some (.stop (Out.ret (-1))) else some (.next (x8,aE (x4+1))))) else some (.stop (Out.brk x3)))
def aFD:(Out Int Int)->Option Int
 |.brk x5=>aFC x5
 |.ret r=>some r
def EV(a_:List Batch)(k:Int):=
 (loop (kZ a_) (k,0)).bind (aFD)
def aDL(x5:Int):=
 some x5
def jX(a_:List aO):(Int×Int)->Option (Step (Int×Int) (Out Int Int))
 |(x3,x4)=>(if decide (x4<(a_.length:Int)) then(idx a_ x4).bind λx6=>(EV x6.List x3).bind λx7=>(if decide (x7<0) then some (.stop (Out.ret (-1))) else some (.next (x7,aE (x4+1)))) else some (.stop (Out.brk x3)))
def aDM:(Out Int Int)->Option Int
 |.brk x5=>aDL x5
 |.ret r=>some r
def BS(a_:List aO)(k:Int):=
 (loop (jX a_) (k,0)).bind (aDM)
def aI7(x5:Int):=
 some x5
def nP(a_:List iB):(Int×Int)->Option (Step (Int×Int) (Out Int Int))
 |(x3,x4)=>(if decide (x4<(a_.length:Int)) then(idx a_ x4).bind λx6=>(if x6.Kind != x3 then some (.stop (Out.ret (-1))) else(idx a_ x4).bind λx7=>(if x7.Who != (aE (x3+1)) then some (.stop (Out.ret (-1))) else(idx a_ x4).bind λx8=>(if x8.aK != (aE ((aE (x3+1))+1)) then some (.stop (Out.ret (-1))) else(idx a_ x4).bind λx9=>(if x9.Code != (aE ((aE ((aE (x3+1))+1))+1)) then some (.stop (Out.ret (-1))) else(idx a_ x4).bind λx10=>(xL x10.bD (aE ((aE ((aE ((aE (x3+1))+1))+1))+1))).bind λx11=>(if decide (x11<0) then some (.stop (Out.ret (-1))) else(idx a_ x4).bind λx12=>(DL x12.cC x11).bind λx13=>(if decide (x13<0) then some (.stop (Out.ret (-1))) else some (.next (x13,aE (x4+1))))))))) else some (.stop (Out.brk x3)))
def aI8:(Out Int Int)->Option Int
 |.brk x5=>aI7 x5
 |.ret r=>some r
def LJ(a_:List iB)(k:Int):=
 (loop (nP a_) (k,0)).bind (aI8)
def tO(a_:Table)(k:Int):=
 (LH a_.aA k).bind λx1=>(if decide (x1<0) then some (-1) else(LI a_.aW x1).bind λx2=>(if decide (x2<0) then some (-1) else(IX a_.aM x2).bind λx3=>(if decide (x3<0) then some (-1) else(BS a_.bJ x3).bind λx4=>(if decide (x4<0) then some (-1) else(LJ a_.Log x4).bind λx5=>(if decide (x5<0) then some (-1) else some x5)))))
def lL(aX:eQ)(x10:Bool)(x11 x12:Table):=
 (if x10 then some false else(AB x12 1).bind λx13=>(tO (⟨(⟨(⟨(⟨x13.2.1,x13.2.2.1⟩:Heap),(⟨x13.2.2.2.1,x13.2.2.2.2.1⟩:aD)⟩:Mem),(⟨x12.aA.aJ.aQ,x13.2.2.2.2.2.1⟩:aJ),x13.2.2.2.2.2.2.1,x13.2.2.2.2.2.2.2.1⟩:aA),x13.2.2.2.2.2.2.2.2.1,x13.2.2.2.2.2.2.2.2.2.1,x13.2.2.2.2.2.2.2.2.2.2.1,x13.2.2.2.2.2.2.2.2.2.2.2,x12.aK⟩:Table) 1).bind λx14=>(if decide (x14<0) then some false else(if x14 != x13.1 then some false else(nV aX).bind λx15=>(oN x15).bind λx16=>(vF x16 x11).bind λx17=>(if !x17 then some false else(tO (⟨(⟨(⟨(⟨x13.2.1,x13.2.2.1⟩:Heap),(⟨x13.2.2.2.1,x13.2.2.2.2.1⟩:aD)⟩:Mem),(⟨x12.aA.aJ.aQ,x13.2.2.2.2.2.1⟩:aJ),x13.2.2.2.2.2.2.1,x13.2.2.2.2.2.2.2.1⟩:aA),x13.2.2.2.2.2.2.2.2.1,x13.2.2.2.2.2.2.2.2.2.1,x13.2.2.2.2.2.2.2.2.2.2.1,x13.2.2.2.2.2.2.2.2.2.2.2,x12.aK⟩:Table) 1).bind λx18=>(if decide (x18<0) then some false else(if x18 != x13.1 then some false else some true))))))
def xP(aX:eQ):=
 (GS aX 1048576).bind λx1=>(if decide (x1<0) then some true else(nV aX).bind λx2=>(zL x2).bind λx3=>(nV aX).bind λx4=>(oN x4).bind λx5=>(vF x5 x3).bind λx6=>(if !x6 then some false else(nV aX).bind λx7=>(GX x4 x7).bind λx8=>(if !x8 then some false else(BN x4 1).bind λx9=>(if decide (x9.1<0) then lL aX true x3 x5 else(vF x5 x3).bind λx19=>lL aX (!x19) x3 x5))))
end
end Go.Gv
end
noncomputable section
set_option maxHeartbeats 4000000
set_option maxRecDepth 100000
namespace Go.Proofs.YtonkeoekmfkaoaaGreat
open Go.Gv Tryz
theorem MC:Inf prog 137 3 (.agg #[.int .i64 0,.int .i64 0,.int .i64 0]):=CF (b:=24) (by kernel_rfl) rfl
theorem rI:Inf prog 62 2 (.agg #[.bool false,.slice none 0 0]):=CF (b:=32) (by kernel_rfl) rfl
theorem AD:Inf prog 125 1 (.agg #[.slice none 0 0]):=CF (b:=24) (by kernel_rfl) rfl
theorem bK:Inf prog 3 1 (.int .i64 0):=CF (b:=8) (by kernel_rfl) rfl
theorem gI:Inf prog 248 1 (.agg #[.slice none 0 0]):=CF (b:=24) (by kernel_rfl) rfl
theorem FY:Inf prog 193 4 (.agg #[.bool false,.int .i64 0,.bool false,.int .i64 0]):=CF (b:=32) (by kernel_rfl) rfl
theorem uE:Inf prog 130 1 (.agg #[.slice none 0 0]):=CF (b:=24) (by kernel_rfl) rfl
theorem FE:Inf prog 74 3 (.agg #[.int .i64 0,.int .i64 0,.int .i64 0]):=CF (b:=24) (by kernel_rfl) rfl
theorem X9:Inf prog 71 32 (.agg #[.bool false,.bool false,.slice none 0 0,.int .i64 0,.int .i64 0,.int .i64 0,.int .i64 0,.int .i64 0,.int .i64 0,.int .i64 0,.int .i64 0,.int .i64 0,.int .i64 0,.int .i64 0,.bool false,.int .i64 0,.int .i64 0,.int .i64 0,.int .i64 0,.int .i64 0,.int .i64 0,.int .i64 0,.int .i64 0,.int .i64 0,.int .i64 0,.bool false,.slice none 0 0,.slice none 0 0,.slice none 0 0,.slice none 0 0,.slice none 0 0,.slice none 0 0]):=CF (b:=368) (by kernel_rfl) rfl
theorem dL:Inf prog 143 6 (.agg #[.int .i64 0,.int .i64 0,.int .i64 0,.int .i64 0,.slice none 0 0,.slice none 0 0]):=CF (b:=80) (by kernel_rfl) rfl
theorem lW:Inf prog 153 2 (.agg #[.int .i64 0,.int .i64 0]):=CF (b:=16) (by kernel_rfl) rfl
theorem gW:Inf prog 159 3 (.agg #[.int .i64 0,.bool false,.int .i64 0]):=CF (b:=24) (by kernel_rfl) rfl
theorem m8:Inf prog 187 2 (.agg #[.bool false,.int .i64 0]):=CF (b:=16) (by kernel_rfl) rfl
theorem m9:Inf prog 157 2 (.agg #[.int .i64 0,.int .i64 0]):=CF (b:=16) (by kernel_rfl) rfl
theorem a2O:Inf prog 40 1 (.slice none 0 0):=CF (b:=24) (by kernel_rfl) rfl
theorem a67:Inf prog 5 1 (.int .u8 0):=CF (b:=1) (by kernel_rfl) rfl
theorem aC:prog.follows .mixedOrders=true:=by kernel_rfl
theorem aKW(D:Nat)(d d':lF)(w:World):(Op.eqFields (D+2) #[.bool (d.On),.int .i64 (d.aQ),.bool (d.gN),.int .i64 (d.Seen)] #[.bool (d'.On),.int .i64 (d'.aQ),.bool (d'.gN),.int .i64 (d'.Seen)] (match prog.underlying 193 with|some (.struct fs)=>fs|_=>#[]).toList).run prog w=.ok (decide (d=d')) w:=by
 rw[underlying193];have h:(d.On == d'.On && (d.aQ == d'.aQ && (d.gN == d'.gN && (d.Seen == d'.Seen && true))))=decide (d=d'):=by cases d;cases d';rw[XF];simp
 rw[<-h];exact aF0 _ _ _ _ _ rfl (aKQ isAgg4 rfl) (aKQ isAgg4 rfl) (a4K underlying4)<|
  aF0 _ _ _ _ _ rfl (aKQ isAgg3 rfl) (aKQ isAgg3 rfl) (a88 underlying3)<|
  aF0 _ _ _ _ _ rfl (aKQ isAgg4 rfl) (aKQ isAgg4 rfl) (a4K underlying4)<|
  aF0 _ _ _ _ _ rfl (aKQ isAgg3 rfl) (aKQ isAgg3 rfl) (a88 underlying3)<|
  bED _ _ _
section
open Go.RowKit Go.Shelf Go.Lib Go.Gv
set_option maxRecDepth 100000
set_option maxHeartbeats 4000000
theorem aZ5(b off n c i vb:Nat)(cs vs:List Value)(w:World)(hi:i<n)(hroom:n+1<=c)(hc63:c<=9223372036854775807)(hvb:vb≠b)(hcl:cs.length=n*3)(hvl:vs.length=3)
  (hcs:bP w b off cs) (hsp:∀j,j<c*3->(w.cell? ⟨b,off+j,none⟩).isSome=true) (hfz:∀j,j<c*3->w.frozen? ⟨b,off+j,none⟩=false)
  (hvs:bP w vb 0 vs) (h1c:∀v∈cs,v.oneCell'=true) (h1v:∀v∈vs,v.oneCell'=true)
  (tA tB:TypeId) (kA kB:Nat) (hsa:w.shape? vb=some (tA,kA)) (hsb:w.shape? b=some (tB,kB)) (hkB:kB≠0) (hfa:w.frozen? ⟨vb,0,none⟩=false) (hfe:w.frozen? ⟨vb,kA,none⟩=false) :
  Calls prog 396 #[.slice (some ⟨b,off,none⟩) n c,.int .i64 i,.slice (some ⟨vb,0,none⟩) 1 1] w λe w'=>
   e=.returned (.slice (some ⟨b,off,none⟩) (n+1) c)/\w'=(w.drew.setCells b (off+(i+1)*3) (cs.drop (i*3))).setCells b (off+i*3) vs:=by
 have u0:=run_underlying underlying68;have hz2:¬((i:Int)=(n:Int)):=aa
 have hsz:(prog.info? 159).map (·.size)=some 3:=by kernel_rfl
 have hov:∀lb cb,(callFunc 443 #[.slice (some ⟨vb,0,none⟩) 1 1,.slice (some ⟨b,off+(i+1)*3,none⟩) lb cb]).run prog w=.ok (.value (.bool false)) w:=λlb cb=>by
  rw[run_callFunc_extern func443 (by kernel_rfl) (by kernel_rfl) (by kernel_rfl) (e:=Extern.SlicesOverlaps.overlaps #[68,68] #[4]) (by kernel_rfl),
   Lib.run_overlaps_apart w 68 4 159 underlying68 3 sizeOf159 ⟨vb,0,none⟩ ⟨b,off+(i+1)*3,none⟩ 1 1 lb cb hvb tA tB kA kB hsa hsb hkB hfa hfe]
  rfl
 have hdl:(cs.drop (i*3)).length=(n-i)*3:=by rw[aKO,hcl];omega
 have mixed:=aC;have hw1:IntKind.i64.wrap ((i:Int)+1)=(i:Int)+1:=by rw[IntKind.wrap_i64];omega
 have hw2:IntKind.i64.wrap ((n:Int)+1)=(n:Int)+1:=by rw[IntKind.wrap_i64];omega
 have hb1:(0:Int)<=(i:Int)+1:=aa
 have hin:i<=n:=aa
 have htn:((i:Int)+1).toNat=i+1:=aa
 have htm:((n:Int)+1).toNat=n+1:=aa
 have hb2:¬(c=i+1):=aa
 have hb3:(i:Int)<=(n:Int)+1:=aa
 have hb4:¬(c=i):=aa
 have hcp1:∀ty dc sc,(Builtin.copy_ #[68,68] ty #[.slice (some ⟨b,off+(i+1)*3,none⟩) (n-i) dc,.slice (some ⟨b,off+i*3,none⟩) (n+1-i) sc]).run prog w.drew=.ok (goInt (n-i:Nat)) (w.drew.setCells b (off+(i+1)*3) (cs.drop (i*3))):=λty dc sc=>
  XQ w.drew _ _ ty 159 3 b (off+(i+1)*3) (n-i) dc ⟨b,off+i*3,none⟩ (n+1-i) sc (n-i) (cs.drop (i*3)) underlying68 hsz (by simp only[Nat.min_def];split<;>omega) hdl
   (λj v hj=>by rw[Addr.add_lit,aAZ];exact hcs (i*3+j) v (by rwa [List.getElem?_drop] at hj))
   (λj hj=>by rw[aAZ];exact hsp _ aa) (λj hj=>by rw[aAZ];exact hfz _ aa) (λv hv=>h1c v (aOM hv))
 obtain⟨W1,hW1⟩:∃W1,W1=w.drew.setCells b (off+(i+1)*3) (cs.drop (i*3)):=⟨_,rfl⟩;have hsp1:∀k,k<c*3->(W1.cell? ⟨b,off+k,none⟩).isSome=true:=λk hk=>by rw[hW1];exact isSome_setCells b _ _ _ (λj hj=>by rw[aAZ];exact hsp _ aa) _ (hsp k hk)
 have hcp2:∀(W:World),(∀x,W.cell? x=W1.cell? x)->(∀x,W.frozen? x=W1.frozen? x)->∀ty dc,(Builtin.copy_ #[68,68] ty #[.slice (some ⟨b,off+i*3,none⟩) (n+1-i) dc,.slice (some ⟨vb,0,none⟩) 1 1]).run prog W=.ok (goInt 1) (W.setCells b (off+i*3) vs):=λW hWc hWf ty dc=>
  XQ W _ _ ty 159 3 b (off+i*3) (n+1-i) dc ⟨vb,0,none⟩ 1 1 1 vs underlying68 hsz (by simp only[Nat.min_def];split<;>omega) (by rw[hvl])
   (λj v hj=>by
    rw[Addr.add_lit,hWc,hW1,World.cell?_setCells_out b _ _ _ _ (λh _=>absurd h hvb)];exact hvs j v hj)
   (λj hj=>by rw[hWc,aAZ];exact hsp1 _ aa) (λj hj=>by rw[hWf,hW1,World.frozen?_setCells,aAZ];exact hfz _ aa) h1v
 rw[<-hW1] at hcp1
 go_enter func396,ntmps396
 go_wp2_with (simp only[hov])
 go_region_law_o (refine step_copy_runI rfl _ _ 68 68 rfl _ _ (by simp[Act.eval,Act.put]) (by simp[Act.eval,Act.put]) (hcp1 _ _ _) ?_)
 go_wp2_with (at_builtin;refine wpList_copy_runI _ rfl _ _ 68 68 rfl _ _ rfl rfl (hcp2 _ (λ_=>rfl) (λ_=>rfl) _ _) ?_)
 go_ret
 first|exact⟨rfl,rfl⟩|exact⟨rfl,by rw[hW1]⟩
end
section
open Go.RowKit Go.Shelf Go.Lib Go.Gv
set_option maxRecDepth 100000
set_option maxHeartbeats 4000000
theorem a2P(b off n c vb:Nat)(vs:List Value)(w:World)(hroom:n+1<=c)(hc63:c<=9223372036854775807)(hvl:vs.length=3)
  (hsp:∀j,j<c*3->(w.cell? ⟨b,off+j,none⟩).isSome=true) (hfz:∀j,j<c*3->w.frozen? ⟨b,off+j,none⟩=false) (hvs:bP w vb 0 vs) (h1v:∀v∈vs,v.oneCell'=true) :
  Calls prog 396 #[.slice (some ⟨b,off,none⟩) n c,.int .i64 n,.slice (some ⟨vb,0,none⟩) 1 1] w λe w'=>
   e=.returned (.slice (some ⟨b,off,none⟩) (n+1) c)/\w'=w.setCells b (off+n*3) vs:=by
 have u0:=run_underlying underlying68;have mixed:=aC;obtain⟨i0,hi0,hz0,hzs,hzb⟩:=gW;have hsrc:Src prog i0.size 68 (.slice (some ⟨vb,0,none⟩) 1 1) 1 vs w:=by rw[hzs];exact Src.ofSlice w underlying68 ⟨vb,0,none⟩ 1 1 vs aa (λj u hj=>by rw[Addr.add_lit];exact hvs j u hj) h1v
 have hrun:=run_append_room_src w 68 68 68 159 i0 underlying68 hi0 b off n c (.slice (some ⟨vb,0,none⟩) 1 1) 1 vs hsrc hroom (by rw[hzs,hvl];exact λj hj=>by rw[aAZ];exact hsp _ aa) (by rw[hzs,hvl];exact λj hj=>by rw[aAZ];exact hfz _ aa);rw[hzs] at hrun
 go_enter func396,ntmps396
 go_wp2_with (at_builtin;refine Lib.wpList_append_run _ rfl _ _ _ _ rfl _ _ rfl rfl _ _ hrun ?_)
 go_ret
 exact⟨rfl,rfl⟩
theorem a68(base:Option Addr)(n c vb:Nat)(cs vs:List Value)(w:World)(hnc:n<=c)(hroom:c<n+1)(hbig:n+1<=1073741824)(hcl:cs.length=n*3)(hvl:vs.length=3)(hnil:base=none->n=0)
  (hcs:∀a,base=some a->∀j v,cs[j]?=some v->w.cell? (a.add j)=some v) (hvs:bP w vb 0 vs) (h1v:∀v∈vs,v.oneCell'=true) :
  Calls prog 396 #[.slice base n c,.int .i64 n,.slice (some ⟨vb,0,none⟩) 1 1] w λe w'=>
   e=.returned (.slice (some ⟨w.heap.size,0,none⟩) (n+1) (grownCap w (n+1) c 159)) /\
   w'=w.drew.alloc (.cells ((cs++vs).toArray++Builtin.zeroCells (.agg #[.int .i64 0,.bool false,.int .i64 0]:Value).cells (grownCap w (n+1) c 159-(n+1))) 159):=by
 have u0:=run_underlying underlying68;have mixed:=aC;obtain⟨i0,hi0,hz0,hzs,hzb⟩:=gW;have hsrc:Src prog i0.size 68 (.slice (some ⟨vb,0,none⟩) 1 1) 1 vs w:=by rw[hzs];exact Src.ofSlice w underlying68 ⟨vb,0,none⟩ 1 1 vs aa (λj u hj=>by rw[Addr.add_lit];exact hvs j u hj) h1v
 have hold:(Builtin.firstCells i0.size n (.slice base n c)).run prog w.drew=.ok cs.toArray w.drew:=by
  rw[hzs];cases base with
  |none=>
   have h0:=hnil rfl;subst h0;rw[List.length_eq_zero_iff.1 (by omega:cs.length=0)];exact run_firstCells_none w.drew 3 0 0 c
  |some a=>exact run_firstCells_some w.drew 3 n a n c cs hcl (λj v hj=>hcs a rfl j v hj)
 have hfit:Builtin.nextslicecap (n+1) c*i0.bytes<=281474976710656:=growslice_fits hroom (iI (Nat.mul_le_mul hbig hzb) ai);have hrun:=run_append_grow_src w 68 68 68 159 i0 _ underlying68 hi0 hz0 base n c cs hold _ 1 vs hsrc hroom aa hfit
 go_enter func396,ntmps396
 cases base with
 |none=>
  have h0:=hnil rfl;subst h0
  go_wp2_with (at_builtin;refine Lib.wpList_append_run _ rfl _ _ _ _ rfl _ _ rfl rfl _ _ hrun ?_)
  go_ret
  exact⟨rfl,rfl⟩
 |some a=>
  obtain⟨ab,ao,asp⟩:=a
  go_wp2_with (at_builtin;refine Lib.wpList_append_run _ rfl _ _ _ _ rfl _ _ rfl rfl _ _ hrun ?_)
  all_goals (go_ret;exact⟨rfl,rfl⟩)
theorem a2Q(b off n c i vb:Nat)(cs vs:List Value)(w:World)(hi:i<n)(hnc:n<=c)(hroom:c<n+1)(hbig:n+1<=1073741824)(hcl:cs.length=n*3)(hvl:vs.length=3)
  (hcs:bP w b off cs) (hvs:bP w vb 0 vs) (h1c:∀v∈cs,v.oneCell'=true) (h1v:∀v∈vs,v.oneCell'=true) :
  Calls prog 396 #[.slice (some ⟨b,off,none⟩) n c,.int .i64 i,.slice (some ⟨vb,0,none⟩) 1 1] w λe w'=>
   e=.returned (.slice (some ⟨w.heap.size,0,none⟩) (n+1) (grownCap w (n+1) c 159)) /\
   w'=(((w.alloc (.cells ((cs.take (i*3)).toArray++Builtin.zeroCells (.agg #[.int .i64 0,.bool false,.int .i64 0]:Value).cells (n+1-i)++Builtin.zeroCells (.agg #[.int .i64 0,.bool false,.int .i64 0]:Value).cells (grownCap w (n+1) c 159-(n+1))) 159)).drew.setCells w.heap.size (i*3) vs).drew).setCells w.heap.size ((i+1)*3) (cs.drop (i*3)):=by
 have u0:=run_underlying underlying68;have u3:=run_underlying underlying3;have mixed:=aC;obtain⟨i0,hi0,hz0,hzs,hzb⟩:=gW;have hz2:¬((i:Int)=(n:Int)):=aa
 have hz3:(c:Int)<(n:Int)+1:=aa
 have hsz:(prog.info? 159).map (·.size)=some 3:=by rw[hi0];simp[hzs]
 have hbw:b<w.heap.size:=block_lt_of_cell (hcs 0 _ (lO aa));have hvw:vb<w.heap.size:=block_lt_of_cell (hvs 0 _ (lO aa));have hkk:(n:Int)+1-(i:Int)=((n+1-i:Nat):Int):=aa
 have hik:i+(n+1-i)=n+1:=aa
 have htl:(cs.take (i*3)).length=i*3:=by rw[aFV];omega
 have hold:(Builtin.firstCells i0.size i (.slice (some ⟨b,off,none⟩) i c)).run prog w.drew=.ok (cs.take (i*3)).toArray w.drew:=by
  rw[hzs];exact run_firstCells_some w.drew 3 i ⟨b,off,none⟩ i c (cs.take (i*3)) htl (λj v hj=>by
   rw[Addr.add_lit];rw[aKM] at hj;split at hj
   ·exact hcs j v hj
   ·cases hj)
 have hfit:Builtin.nextslicecap (n+1) c*i0.bytes<=281474976710656:=growslice_fits hroom (iI (Nat.mul_le_mul hbig hzb) ai);have hrz:∀ty,(Builtin.append_ #[68,3] ty #[.slice (some ⟨b,off,none⟩) i c,.int .i64 ((n:Int)+1-(i:Int))]).run prog w =
   .ok (.slice (some ⟨w.heap.size,0,none⟩) (n+1) (grownCap w (n+1) c 159)) (w.drew.alloc (.cells ((cs.take (i*3)).toArray++Builtin.zeroCells (.agg #[.int .i64 0,.bool false,.int .i64 0]:Value).cells (n+1-i)++Builtin.zeroCells (.agg #[.int .i64 0,.bool false,.int .i64 0]:Value).cells (grownCap w (n+1) c 159-(n+1))) 159)):=λty=>by
  have h:=Lib.run_append_grow_zeros w 68 3 ty 159 i0 _ .i64 .i64 underlying68 underlying3 hi0 hz0 (some ⟨b,off,none⟩) i c (cs.take (i*3)) hold (n+1-i) aa aa aa aa (iI (Nat.mul_le_mul (show n+1-i<=1073741824 by omega) hzb) ai) (by rw[hik];exact hfit);rw[hik] at h;rw[hkk];exact h
 obtain⟨G,hG⟩:∃G,G=grownCap w (n+1) c 159:=⟨_,rfl⟩;obtain⟨ROW,hROW⟩:∃ROW:Array Value,ROW=(cs.take (i*3)).toArray++Builtin.zeroCells (.agg #[.int .i64 0,.bool false,.int .i64 0]:Value).cells (n+1-i)++Builtin.zeroCells (.agg #[.int .i64 0,.bool false,.int .i64 0]:Value).cells (G-(n+1)):=⟨_,rfl⟩;rw[<-hG] at hrz ⊢;rw[<-hROW] at hrz ⊢;have hRl:(n+1)*3<=ROW.size:=by rw[hROW];simp only[Array.size_append,List.size_toArray,htl,size_zeroCells];have:(.agg #[.int .i64 0,.bool false,.int .i64 0]:Value).cells.size=3:=rfl;rw[this];omega
 obtain⟨W1,hW1⟩:∃W1,W1=w.drew.alloc (.cells ROW 159):=⟨_,rfl⟩;rw[<-hW1] at hrz;have hN:∀j,j<(n+1)*3->(W1.cell? ⟨w.heap.size,j,none⟩).isSome=true:=λj hj=>by rw[hW1,World.cell?_alloc_at (w:=w.drew) ROW _ w.heap.size j rfl,Array.getElem?_eq_getElem aa];rfl
 have hNf:∀j,W1.frozen? ⟨w.heap.size,j,none⟩=false:=λj=>by rw[hW1];exact World.frozen?_alloc_at (w:=w.drew) ROW _ w.heap.size j rfl
 have hOb:∀j v,w.cell? ⟨b,j,none⟩=some v->W1.cell? ⟨b,j,none⟩=some v:=λj v h=>by rw[hW1,World.cell?_alloc_past (w:=w.drew) _ b j hbw];exact h
 have hOv:∀j v,w.cell? ⟨vb,j,none⟩=some v->W1.cell? ⟨vb,j,none⟩=some v:=λj v h=>by rw[hW1,World.cell?_alloc_past (w:=w.drew) _ vb j hvw];exact h
 have hcpA:∀(W:World),(∀x,W.cell? x=W1.cell? x)->(∀x,W.frozen? x=W1.frozen? x)->∀ty dc,(Builtin.copy_ #[68,68] ty #[.slice (some ⟨w.heap.size,i*3,none⟩) (n+1-i) dc,.slice (some ⟨vb,0,none⟩) 1 1]).run prog W=.ok (goInt 1) (W.setCells w.heap.size (i*3) vs):=λW hWc hWf ty dc=>
  XQ W _ _ ty 159 3 w.heap.size (i*3) (n+1-i) dc ⟨vb,0,none⟩ 1 1 1 vs underlying68 hsz (by simp only[Nat.min_def];split<;>omega) (by rw[hvl])
   (λj v hj=>by rw[Addr.add_lit,hWc];exact hOv _ v (hvs j v hj))
   (λj hj=>by rw[hWc];exact hN _ aa) (λj hj=>by rw[hWf];exact hNf _) h1v
 have hGn:n+1<=G:=by rw[hG];exact grownCap_ge w _ _ _
 have hG63:G<=9223372036854775807:=by have:=grownCap_le_maxLen w (n+1) c 159 (by unfold maxLen;omega);rw[<-hG] at this;unfold maxLen at this;omega
 have hGi:¬(G=i):=aa
 have hGim:¬(G=i+1):=aa
 have hci:¬(c=i):=aa
 have hbN:b≠w.heap.size:=aa
 have hdl:(cs.drop (i*3)).length=(n-i)*3:=by rw[aKO,hcl];omega
 have hcpB:∀(W:World),(∀x,W.cell? x=(W1.setCells w.heap.size (i*3) vs).cell? x)->(∀x,W.frozen? x=(W1.setCells w.heap.size (i*3) vs).frozen? x)->∀ty dc sc,(Builtin.copy_ #[68,68] ty #[.slice (some ⟨w.heap.size,(i+1)*3,none⟩) (n-i) dc,.slice (some ⟨b,off+i*3,none⟩) (n-i) sc]).run prog W=.ok (goInt (n-i:Nat)) (W.setCells w.heap.size ((i+1)*3) (cs.drop (i*3))):=λW hWc hWf ty dc sc=>
  XQ W _ _ ty 159 3 w.heap.size ((i+1)*3) (n-i) dc ⟨b,off+i*3,none⟩ (n-i) sc (n-i) (cs.drop (i*3)) underlying68 hsz (by simp only[Nat.min_def];split<;>omega) hdl
   (λj v hj=>by
    rw[Addr.add_lit,hWc,World.cell?_setCells_out _ _ _ _ _ (λh _=>absurd h hbN),aAZ];exact hOb _ v (hcs (i*3+j) v (by rwa [List.getElem?_drop] at hj)))
   (λj hj=>by rw[hWc];exact isSome_setCells _ _ _ _ (λt ht=>hN _ aa) _ (hN _ aa))
   (λj hj=>by rw[hWf,World.frozen?_setCells];exact hNf _) (λv hv=>h1c v (aOM hv))
 subst hW1;have hE1:∀x,((w.alloc (.cells ROW 159)).drew).cell? x=(w.drew.alloc (.cells ROW 159)).cell? x:=λx=>rfl;have hE2:∀x,((w.alloc (.cells ROW 159)).drew).frozen? x=(w.drew.alloc (.cells ROW 159)).frozen? x:=λx=>rfl;have hF1:∀x,(((w.alloc (.cells ROW 159)).drew.setCells w.heap.size (i*3) vs).drew).cell? x=((w.drew.alloc (.cells ROW 159)).setCells w.heap.size (i*3) vs).cell? x:=λx=>rfl;have hF2:∀x,(((w.alloc (.cells ROW 159)).drew.setCells w.heap.size (i*3) vs).drew).frozen? x=((w.drew.alloc (.cells ROW 159)).setCells w.heap.size (i*3) vs).frozen? x:=λx=>rfl;have hw1:IntKind.i64.wrap ((i:Int)+1)=(i:Int)+1:=by rw[IntKind.wrap_i64];omega
 have hw2:IntKind.i64.wrap ((n:Int)+1)=(n:Int)+1:=by rw[IntKind.wrap_i64];omega
 have hw3:IntKind.i64.wrap ((n:Int)+1-(i:Int))=(n:Int)+1-(i:Int):=by rw[IntKind.wrap_i64];omega
 have hb1:(0:Int)<=(i:Int)+1:=aa
 have hin:i<=n:=aa
 have htn:((i:Int)+1).toNat=i+1:=aa
 have hb3:(i:Int)<=(n:Int):=aa
 clear hkk hik hold hROW hG hRl htl
 go_enter func396,ntmps396
 go_wp2_with (first
  |(at_builtin;refine Lib.wpList_append_run _ rfl _ _ _ _ rfl _ _ rfl rfl _ _ (hrz _) ?_)
  |(at_builtin;refine wpList_copy_runI _ rfl _ _ 68 68 rfl _ _ rfl rfl (hcpA _ hE1 hE2 _ _) ?_)
  |(at_builtin;refine wpList_copy_runI _ rfl _ _ 68 68 rfl _ _ rfl rfl (hcpB _ (λ_=>rfl) (λ_=>rfl) _ _ _) ?_))
 go_region_law_o (refine step_copy_runI rfl _ _ 68 68 rfl (.slice (some ⟨w.heap.size,(i+1)*3,none⟩) (n-i) (G-(i+1))) (.slice (some ⟨b,off+i*3,none⟩) (n-i) (c-i)) (by simp[Act.eval,Act.put]) (by simp[Act.eval,Act.put]) (hcpB _ hF1 hF2 3 (G-(i+1)) (c-i)) ?_)
 go_wp2
 go_ret
 exact⟨rfl,rfl⟩
end
end Go.Proofs.YtonkeoekmfkaoaaGreat
end
