import Derived.Test.YtonkeoekmfkaoaaGreatXTC
import Derived.Test.YtonkeoekmfkaoaaGreatProg
set_option linter.unusedVariables false
set_option linter.unusedSimpArgs false
set_option linter.unusedSectionVars false
set_option linter.constructorNameAsVariable false
set_option linter.unnecessarySimpa false
noncomputable section
namespace Go.Gv
section
def MI(a_:List jJ)(left:Int):=
 (if decide ((bC (left-(a_.length:Int)))<0) then some (-1) else some (bC (left-(a_.length:Int))))
def I7(a_:Batch)(left:Int):=
 (MI a_.bI left).bind λx1=>(if decide (x1<0) then some (-1) else some x1)
def O3(x5:Int):=
 some x5
def wZ(a_:List Batch):(Int×Int)->Option (Step (Int×Int) (Out Int Int))
 |(x3,x4)=>(if decide (x4<(a_.length:Int)) then(idx a_ x4).bind λx6=>(I7 x6 x3).bind λx7=>(if decide (x7<0) then some (.stop (Out.ret (-1))) else some (.next (x7,bC (x4+1)))) else some (.stop (Out.brk x3)))
def O4:(Out Int Int)->Option Int
 |.brk x5=>O3 x5
 |.ret r=>some r
def F9(a_:List Batch)(left:Int):=
 (if decide ((bC (left-(a_.length:Int)))<0) then some (-1) else(loop (wZ a_) (bC (left-(a_.length:Int)),0)).bind (O4))
def GA(a_:aP)(left:Int):=
 (F9 a_.List left).bind λx1=>(if decide (x1<0) then some (-1) else some x1)
def MJ(x5:Int):=
 some x5
def uL(a_:List aP):(Int×Int)->Option (Step (Int×Int) (Out Int Int))
 |(x3,x4)=>(if decide (x4<(a_.length:Int)) then(idx a_ x4).bind λx6=>(GA x6 x3).bind λx7=>(if decide (x7<0) then some (.stop (Out.ret (-1))) else some (.next (x7,bC (x4+1)))) else some (.stop (Out.brk x3)))
def MK:(Out Int Int)->Option Int
 |.brk x5=>MJ x5
 |.ret r=>some r
def C0(a_:List aP)(left:Int):=
 (if decide ((bC (left-(a_.length:Int)))<0) then some (-1) else(loop (uL a_) (bC (left-(a_.length:Int)),0)).bind (MK))
def ML(a_:List Int)(left:Int):=
 (if decide ((bC (left-(a_.length:Int)))<0) then some (-1) else some (bC (left-(a_.length:Int))))
def C1(a_:gH)(left:Int):=
 (C0 a_.bL left).bind λx1=>(if decide (x1<0) then some (-1) else(ML a_.dK x1).bind λx2=>(if decide (x2<0) then some (-1) else some x2))
def I8(x1:Bool):=
 some x1
def b9(x low high:Int):=
 (if decide (low<=x) then I8 (decide (x<=high)) else I8 false)
def GB(c:jJ)(x2:Bool):=
 (if x2 then(b9 c.fE 0 65535).bind λx3=>some x3 else some (c.fE == 0))
def GC(c:jJ)(x1:Bool):=
 (if x1 then some false else(if c.Kind == 2 then GB c true else GB c (c.Kind == 4)))
def QF(c:jJ):=
 (b9 c.Kind 1 4).bind λx4=>(if !x4 then GC c true else(b9 c.Key 0 99).bind λx5=>GC c (!x5))
def RU(b:Batch):=
 (b9 (b.bI.length:Int) 1 6).bind λx3=>some x3
def nB(b:Batch):Int->Option (Step Int (Out Unit Bool))
 |x2=>(if decide (x2<(b.bI.length:Int)) then(idx b.bI x2).bind λx4=>(QF x4).bind λx5=>(if !x5 then some (.stop (Out.ret false)) else some (.next (bC (x2+1)))) else some (.stop (Out.brk ())))
def RV(b:Batch):(Out Unit Bool)->Option Bool
 |.brk ()=>RU b
 |.ret r=>some r
def I9(b:Batch):=
 (if b.Collect then some ((b.bI.length:Int) == 0) else(loop (nB b) 0).bind (RV b))
def RW(todo:List aP):=
 some ((todo.length:Int) == 3)
def RX(x2:Int):Option (Step Int (Out Unit Bool)):=
 some (.next (bC (x2+1)))
def nC(todo:List aP)(x2:Int):Int->Option (Step Int (Out Unit Bool))
 |x5=>(idx todo x2).bind λx6=>(if decide (x5<(x6.List.length:Int)) then(idx todo x2).bind λx7=>(idx x7.List x5).bind λx8=>(I9 x8).bind λx9=>(if !x9 then some (.stop (Out.ret false)) else some (.next (bC (x5+1)))) else some (.stop (Out.brk ())))
def RY(x2:Int):(Out Unit Bool)->Option (Step Int (Out Unit Bool))
 |.brk ()=>RX x2
 |.ret r=>some (.stop (Out.ret r))
def nD(todo:List aP):Int->Option (Step Int (Out Unit Bool))
 |x2=>(if decide (x2<(todo.length:Int)) then(idx todo x2).bind λx3=>(if decide (12<(x3.List.length:Int)) then some (.stop (Out.ret false)) else(loop (nC todo x2) 0).bind (RY x2)) else some (.stop (Out.brk ())))
def RZ(todo:List aP):(Out Unit Bool)->Option Bool
 |.brk ()=>RW todo
 |.ret r=>some r
def JA(todo:List aP):=
 (loop (nD todo) 0).bind (RZ todo)
def aCL(x5:List Int):=
 some (⟨List.replicate ((384:Int).toNat) 0,x5⟩:Heap)
def sM:(Int×(List Int))->Option (Step (Int×(List Int)) (List Int))
 |(x3,x4)=>(if decide (x3<6) then need (x4.length+([(-1)]).length<=1073741824) (some (.next (bC (x3+1),x4++([(-1)])))) else some (.stop (x4)))
def aCM:(List Int)->Option Heap
 |x5=>aCL x5
def JC:=
 need (0<=(384:Int)/\(384:Int)<=4294967296) ((loop (sM) (0,[])).bind (aCM))
def O5:=
 some (⟨List.replicate ((3:Int).toNat) (⟨[]⟩:aW),List.replicate ((9:Int).toNat) (⟨[]⟩:aW)⟩:aD)
def NR:=
 need (0<=(3:Int)/\(3:Int)<=4294967296)<|need (0<=(9:Int)/\(9:Int)<=4294967296)<|O5
def T3:=
 (JC).bind λx1=>(NR).bind λx2=>some (⟨x1,x2⟩:Mem)
def NS:=
 need (0<=(3:Int)/\(3:Int)<=4294967296) (some (⟨0,List.replicate ((3:Int).toNat) (⟨false,0,false,0⟩:vC)⟩:aI))
def NT:=
 need (0<=(3:Int)/\(3:Int)<=4294967296) (some (List.replicate ((3:Int).toNat) (⟨[]⟩:bR)))
def T4:Option (List Int):=
 need (0<=(3:Int)/\(3:Int)<=4294967296) (some (List.replicate ((3:Int).toNat) 0))
def JD:Option aA:=
 (T3).bind λx1=>(NS).bind λx2=>(NT).bind λx3=>(T4).bind λx4=>some (⟨x1,x2,x3,x4⟩:aA)
def xA(l:List jJ):=
 need (([]:List jJ).length+l.length<=1073741824) (some (([]:List jJ)++l))
def tR(b:Batch):=
 (xA b.bI).bind λx1=>some (⟨b.Collect,x1⟩:Batch)
def Y1(x5:List aP):=
 some x5
def MM(x3:List aP)(x4:Int)(x10:List Batch):Option (Step ((List aP)×Int) (List aP)):=
 need (x3.length+([(⟨x10⟩:aP)]).length<=1073741824) (some (.next (x3++([(⟨x10⟩:aP)]),bC (x4+1))))
def C2(x8:Int)(x12:List Batch):Option (Step (Int×(List Batch)) (List Batch)):=
 some (.next (bC (x8+1),x12))
def C3(l:List aP)(x4:Int):(Int×(List Batch))->Option (Step (Int×(List Batch)) (List Batch))
 |(x8,x9)=>(idx l x4).bind λx11=>(if decide (x8<(x11.List.length:Int)) then(idx l x4).bind λx13=>(idx x13.List x8).bind λx14=>(tR x14).bind λx15=>need (x9.length+([x15]).length<=1073741824)<|C2 x8 (x9++([x15])) else some (.stop (x9)))
def MN(x3:List aP)(x4:Int):(List Batch)->Option (Step ((List aP)×Int) (List aP))
 |x10=>MM x3 x4 x10
def C4(l:List aP):((List aP)×Int)->Option (Step ((List aP)×Int) (List aP))
 |(x3,x4)=>(if decide (x4<(l.length:Int)) then(loop (C3 l x4) (0,[])).bind (MN x3 x4) else some (.stop (x3)))
def Y2:(List aP)->Option (List aP)
 |x5=>Y1 x5
def C5(l:List aP):=
 (loop (C4 l) (([]:List aP),0)).bind (Y2)
def O6(x2:Table):=
 some ({x2 with Log:=[]}:Table)
def GD(todo:List aP):=
 (JA todo).bind λx1=>(if !x1 then some (⟨(⟨(⟨(⟨[],[]⟩:Heap),(⟨[],[]⟩:aD)⟩:Mem),(⟨0,[]⟩:aI),[],[]⟩:aA),[],[],[],[],0⟩:Table) else(JD).bind λx3=>need (0<=(2:Int)/\(2:Int)<=4294967296)<|need (0<=(3:Int)/\(3:Int)<=4294967296)<|(C5 todo).bind λx4=>O6 (⟨x3,List.replicate ((2:Int).toNat) (⟨0,0,0⟩:cM),List.replicate ((3:Int).toNat) (⟨false,(⟨false,[]⟩:Batch),0,0,0,0,0,0,0,0,(⟨0,0,0⟩:dW),false,0,(⟨0,0,0,0,0,0,0,0,0,false⟩:Sub),[],[],[],[],[],[]⟩:aE),x4,[],0⟩:Table))
def lQ(kind a_:Int):=
 some (⟨kind,a_,0,0,0,0,0,0,0,false⟩:Sub)
def FJ(t:Table)(w_:Int)(x2:aP)(x5:aE)(x7:List qZ):=
 some (⟨t.aA,t.aT,t.aM.set w_.toNat ({x5 with Reads:=[],aH:=[],cV:=[],cT:=[],bA:=[],bG:=[]}:aE),t.bL.set w_.toNat (⟨(x2.List.take x2.List.length).drop (1:Int).toNat⟩:aP),x7,bC (t.aK+1)⟩:Table)
def pR(t:Table)(w_:Int)(x2:aP)(x3:Batch)(x5:aE):=
 (idx t.aM w_).bind λx6=>(xA x3.bI).bind λx8=>need (t.Log.length+([(⟨1,w_,bC (t.aK+1),0,x8,[]⟩:qZ)]).length<=1073741824)<|FJ t w_ x2 x5 (t.Log++([(⟨1,w_,bC (t.aK+1),0,x8,[]⟩:qZ)]))
def FK(t:Table)(w_:Int)(x2:aP)(x3:Batch)(x4:aE):=
 (if x3.Collect then(lQ 3 0).bind λx9=>pR t w_ x2 x3 ({x4 with Pc:=20,Sub:=x9,Reads:=[],aH:=[],cV:=[],cT:=[],bA:=[],bG:=[]}:aE) else pR t w_ x2 x3 ({x4 with Reads:=[],aH:=[],cV:=[],cT:=[],bA:=[],bG:=[]}:aE))
def pS(t:Table)(w_:Int)(x1:Bool):=
 (if x1 then some t else(idx t.bL w_).bind λx2=>(idx x2.List 0).bind λx3=>need (0<=(1:Int)/\(1:Int)<=(x2.List.length:Int)) ((tR x3).bind λx10=>(lQ 5 0).bind λx11=>FK t w_ x2 x3 (⟨true,x10,bC (t.aK+1),0,0,0,0,0,0,0,(⟨0,0,0⟩:dW),false,0,x11,[],[],[],[],[],[]⟩:aE)))
def GF(t:Table)(w_:Int):=
 (idx t.bL w_).bind λx12=>(if(x12.List.length:Int) == 0 then pS t w_ true else pS t w_ (t.aK == 1000000))
def zE(w_ c:Int)(x1:Bool):=
 (if x1 then some (-1) else some (bC ((bC (w_*3))+c)))
def vH(w_ c:Int):=
 (b9 w_ 0 2).bind λx2=>(if !x2 then zE w_ c true else(b9 c 0 2).bind λx3=>zE w_ c (!x3))
def bN(s:Sub)(code:Int):=
 some ({s with Code:=code,jC:=true}:Sub)
def B3(c:Int):Option Int:=
 (if c == 0 then some 8 else(if c == 1 then some 16 else(if c == 2 then some 40 else some 0)))
def aCN:=
 some (-1)
def fJ(size:Int):Int->Option (Step Int (Out Unit Int))
 |x2=>(if decide (x2<3) then(B3 x2).bind λx3=>(b9 size 1 x3).bind λx4=>(if x4 then some (.stop (Out.ret x2)) else some (.next (bC (x2+1)))) else some (.stop (Out.brk ())))
def aCO:(Out Unit Int)->Option Int
 |.brk ()=>aCN
 |.ret r=>some r
def xB(size:Int):=
 (loop (fJ size) 0).bind (aCO)
def GG(s:aW)(x1:Int):=
 some ((⟨(s.aR.take ((bC ((s.aR.length:Int)-1)).toNat)).drop 0⟩:aW),x1)
def oW(s:aW):=
 (if(s.aR.length:Int) == 0 then some (s,(-1)) else need (0<=(bC ((s.aR.length:Int)-1):Int)/\(bC ((s.aR.length:Int)-1):Int)<=(s.aR.length:Int)) ((idx s.aR (bC ((s.aR.length:Int)-1))).bind λx2=>GG s x2))
def aCP(x7:List Int):=
 some x7
def kP(at_:Int):((List Int)×Int×Int)->Option (Step ((List Int)×Int×Int) (List Int))
 |(x4,x5,x6)=>(if decide (0<=x6) then(idx x4 (bC (at_+x6))).bind λx8=>some (.next (x4.set ((bC (at_+x6)).toNat) (Int.tmod x5 256),bC (Int.tdiv x5 256),bC (x6-1))) else some (.stop (x4)))
def aCQ:(List Int)->Option (List Int)
 |x7=>aCP x7
def gW(b:List Int)(at_ width n:Int):=
 (loop (kP at_) (b,n,bC (width-1))).bind (aCQ)
def zF(c:Int):=
 (b9 c 0 2).bind λx1=>(if !x1 then some 0 else(B3 c).bind λx2=>some (bC (4+x2)))
def lK(c:Int):=
 (b9 c 0 2).bind λx1=>(if !x1 then some 0 else(zF c).bind λx2=>need (x2≠0) (some (bC (Int.tdiv 56 x2))))
def B4(slot:Int):=
 (b9 slot 0 23).bind λx1=>(if !x1 then some (-1) else some (bC (Int.tdiv slot 4)))
def xC(slot:Int):=
 (b9 slot 0 23).bind λx1=>(if !x1 then some (-1) else some (Int.tmod slot 4))
def GH(slot c:Int)(x1:Bool):=
 (if x1 then some (-1) else(B4 slot).bind λx2=>(xC slot).bind λx3=>(zF c).bind λx4=>some (bC ((bC ((bC (x2*64))+8))+(bC (x3*x4)))))
def vI(slot c:Int):=
 (B4 slot).bind λx5=>(if decide (x5<0) then GH slot c true else(xC slot).bind λx6=>(lK c).bind λx7=>(b9 x6 0 (bC (x7-1))).bind λx8=>GH slot c (!x8))
def vJ(page index:Int)(x1:Bool):=
 (if x1 then some (-1) else some (bC ((bC (page*4))+index)))
def rD(page index:Int):=
 (b9 page 0 5).bind λx2=>(if !x2 then vJ page index true else(b9 index 0 3).bind λx3=>vJ page index (!x3))
def aCR(h:Heap):=
 some (h,([]:List Int))
def AA(x2:Int):Option (Step Int (Out Unit (Heap×(List Int)))):=
 some (.next (bC (x2+1)))
def aCS(h:Heap)(c x2:Int)(x14 x15:List Int):Option (Step Int (Out Unit (Heap×(List Int)))):=
 some (.stop (Out.ret ((⟨x15,h.Class.set x2.toNat c⟩:Heap),x14)))
def H4(x2:Int)(x11:List Int)(x12:Int)(x17:List Int):Option (Step ((List Int)×Int×(List Int)) ((List Int)×(List Int))):=
 (rD x2 x12).bind λx18=>need (x11.length+([x18]).length<=1073741824) (some (.next (x11++([x18]),bC (x12+1),x17)))
def AB(c x2:Int):((List Int)×Int×(List Int))->Option (Step ((List Int)×Int×(List Int)) ((List Int)×(List Int)))
 |(x11,x12,x13)=>(lK c).bind λx16=>(if decide (x12<x16) then(rD x2 x12).bind λx19=>(vI x19 c).bind λx20=>(gW x13 x20 4 1).bind λx21=>H4 x2 x11 x12 x21 else some (.stop ((x11,x13))))
def aCT(h:Heap)(c x2:Int):((List Int)×(List Int))->Option (Step Int (Out Unit (Heap×(List Int))))
 |(x14,x15)=>aCS h c x2 x14 x15
def eQ(h:Heap)(c:Int):Int->Option (Step Int (Out Unit (Heap×(List Int))))
 |x2=>(if decide (x2<6) then(idx h.Class x2).bind λx3=>(if x3 != (-1) then AA x2 else(idx h.Bytes (bC (x2*64))).bind λx4=>(idx (h.Bytes.set ((bC (x2*64)).toNat) 171) (bC ((bC (x2*64))+1))).bind λx5=>(lK c).bind λx6=>(idx ((h.Bytes.set ((bC (x2*64)).toNat) 171).set ((bC ((bC (x2*64))+1)).toNat) c) (bC ((bC (x2*64))+2))).bind λx7=>(loop (AB c x2) (([]:List Int),0,((h.Bytes.set ((bC (x2*64)).toNat) 171).set ((bC ((bC (x2*64))+1)).toNat) c).set ((bC ((bC (x2*64))+2)).toNat) x6)).bind (aCT h c x2)) else some (.stop (Out.brk ())))
def aCU(h:Heap):(Out Unit (Heap×(List Int)))->Option (Heap×(List Int))
 |.brk ()=>aCR h
 |.ret r=>some r
def nW(h:Heap)(c:Int):=
 (loop (eQ h c) 0).bind (aCU h)
def AD(m:Mem)(c:Int)(x1:Heap×(List Int))(x2:aW)(x3:Int):=
 some ((⟨x1.1,(⟨m.aD.Global.set c.toNat (⟨x2.aR++((x1.2.take x1.2.length).drop ((1:Int).toNat))⟩:aW),m.aD.Own⟩:aD)⟩:Mem),x3)
def xD(m:Mem)(c:Int):=
 (nW m.Heap c).bind λx1=>(if(x1.2.length:Int) == 0 then some ((⟨x1.1,m.aD⟩:Mem),(-1)) else(idx m.aD.Global c).bind λx2=>need (0<=(1:Int)/\(1:Int)<=(x1.2.length:Int)) (need (x2.aR.length+((x1.2.take x1.2.length).drop ((1:Int).toNat)).length<=1073741824) ((idx x1.2 0).bind λx4=>AD m c x1 x2 x4)))
def sN(h:Heap)(x1:Int)(x2:Bool):=
 (if x2 then some (-1) else(idx h.Class x1).bind λx3=>some x3)
def lL(h:Heap)(slot:Int):=
 (B4 slot).bind λx1=>(if decide (x1<0) then sN h x1 true else(idx h.Class x1).bind λx4=>(if decide (x4<0) then sN h x1 true else(idx h.Class x1).bind λx5=>(xC slot).bind λx6=>(lK x5).bind λx7=>sN h x1 (decide (x7<=x6))))
def aF1(x5:Int):=
 some x5
def vK(b:List Int)(at_ width:Int):(Int×Int)->Option (Step (Int×Int) Int)
 |(x3,x4)=>(if decide (x4<width) then(idx b (bC (at_+x4))).bind λx6=>some (.next (bC ((bC (x3*256))+x6),bC (x4+1))) else some (.stop (x3)))
def aF2:Int->Option Int
 |x5=>aF1 x5
def rE(b:List Int)(at_ width:Int):=
 (loop (vK b at_ width) (0,0)).bind (aF2)
def vL(h:Heap)(slot:Int):=
 (lL h slot).bind λx1=>(vI slot x1).bind λx2=>(rE h.Bytes x2 4).bind λx3=>some x3
def pT(slot gen:Int)(x1:Bool):=
 (if x1 then some 0 else some (bC ((bC (gen*32))+slot)))
def GI(slot gen:Int):=
 (b9 slot 0 23).bind λx2=>(if !x2 then pT slot gen true else(b9 gen 1 6).bind λx3=>pT slot gen (!x3))
def tS(m:Mem)(slot:Int):=
 (vL m.Heap slot).bind λx1=>(GI slot x1).bind λx2=>some x2
def JE(b:aA)(s:Sub)(slot pc:Int):=
 (if decide (0<=slot) then(tS b.Mem slot).bind λx1=>(bN ({s with Out:=x1}:Sub) 0).bind λx2=>some x2 else some ({s with Pc:=pc}:Sub))
def pU(s:Sub)(x3:Int)(x5:Bool)(x6:aA):=
 (if x5 then(bN s 3).bind λx7=>some (x6,x7) else(JE x6 s x3 (bC (s.Pc+1))).bind λx8=>some (x6,x8))
def gX(s:Sub)(x3:Int)(x4:aA):=
 (if decide (x3<0) then pU s x3 (s.Pc == 3) x4 else pU s x3 false x4)
def pV(b:aA)(s:Sub)(x1:Int)(x12:Bool):=
 (if x12 then(idx b.Mem.aD.Global x1).bind λx13=>(oW x13).bind λx14=>gX s x14.2 ({b with Mem:=(⟨b.Mem.Heap,(⟨b.Mem.aD.Global.set x1.toNat x14.1,b.Mem.aD.Own⟩:aD)⟩:Mem)}:aA) else(if s.Pc == 2 then(xD b.Mem x1).bind λx15=>gX s x15.2 ({b with Mem:=x15.1}:aA) else(bN s 1).bind λx16=>some (b,x16)))
def tT(b:aA)(w_:Int)(s:Sub):=
 (xB s.A).bind λx1=>(if decide (x1<0) then(bN s 2).bind λx2=>some (b,x2) else(if s.Pc == 0 then(vH w_ x1).bind λx9=>(idx b.Mem.aD.Own x9).bind λx10=>(oW x10).bind λx11=>gX s x11.2 ({b with Mem:=(⟨b.Mem.Heap,(⟨b.Mem.aD.Global,b.Mem.aD.Own.set x9.toNat x11.1⟩:aD)⟩:Mem)}:aA) else(if s.Pc == 1 then pV b s x1 true else pV b s x1 (s.Pc == 3))))
def xE(x1:Bool):=
 some x1
def gR(h:Int):=
 (b9 h 32 223).bind λx2=>(if x2 then xE (decide ((Int.tmod h 32)<24)) else xE false)
def eR(h:Int):=
 (gR h).bind λx1=>(if !x1 then some (-1) else some (Int.tmod h 32))
def aJB:=
 some false
def tU(l:List Int)(x:Int):Int->Option (Step Int (Out Unit Bool))
 |x2=>(if decide (x2<(l.length:Int)) then(idx l x2).bind λx3=>(if x3 == x then some (.stop (Out.ret true)) else some (.next (bC (x2+1)))) else some (.stop (Out.brk ())))
def aJC:(Out Unit Bool)->Option Bool
 |.brk ()=>aJB
 |.ret r=>some r
def FL(l:List Int)(x:Int):=
 (loop (tU l x) 0).bind (aJC)
def aJD(x10:List Int):=
 some x10
def zG(l:aD):((List Int)×Int)->Option (Step ((List Int)×Int) (List Int))
 |(x8,x9)=>(if decide (x9<(l.Own.length:Int)) then(idx l.Own x9).bind λx11=>need (x8.length+x11.aR.length<=1073741824) (some (.next (x8++x11.aR,bC (x9+1)))) else some (.stop (x8)))
def aJE:(List Int)->Option (List Int)
 |x10=>aJD x10
def WU(l:aD)(x5:List Int):=
 (loop (zG l) (x5,0)).bind (aJE)
def zH(l:aD):((List Int)×Int)->Option (Step ((List Int)×Int) (List Int))
 |(x3,x4)=>(if decide (x4<(l.Global.length:Int)) then(idx l.Global x4).bind λx12=>need (x3.length+x12.aR.length<=1073741824) (some (.next (x3++x12.aR,bC (x4+1)))) else some (.stop (x3)))
def WV(l:aD):(List Int)->Option (List Int)
 |x5=>WU l x5
def KO(l:aD):=
 (loop (zH l) (([]:List Int),0)).bind (WV l)
def MO(l:aD)(slot:Int):=
 (KO l).bind λx1=>(FL x1 slot).bind λx2=>some x2
def JF(m:Mem)(slot:Int):Option Int:=
 (lL m.Heap slot).bind λx1=>(if decide (x1<0) then some 0 else(MO m.aD slot).bind λx2=>(if x2 then some 1 else(vL m.Heap slot).bind λx3=>(if decide (6<x3) then some 2 else some 3)))
def C6(h:Int):=
 (gR h).bind λx1=>(if !x1 then some 0 else some (bC (Int.tdiv h 32)))
def sO(x1:Bool):=
 some x1
def rO(m:Mem)(h:Int):=
 (gR h).bind λx2=>(if x2 then(eR h).bind λx3=>(JF m x3).bind λx4=>(if x4 == 3 then(eR h).bind λx5=>(vL m.Heap x5).bind λx6=>(C6 h).bind λx7=>sO (x6 == x7) else sO false) else sO false)
def aF3(x5:List eA):=
 some x5
def vM(l:List bR):((List eA)×Int)->Option (Step ((List eA)×Int) (List eA))
 |(x3,x4)=>(if decide (x4<(l.length:Int)) then(idx l x4).bind λx6=>need (x3.length+x6.Rows.length<=1073741824) (some (.next (x3++x6.Rows,bC (x4+1)))) else some (.stop (x3)))
def aF4:(List eA)->Option (List eA)
 |x5=>aF3 x5
def HD(l:List bR):=
 (loop (vM l) (([]:List eA),0)).bind (aF4)
def aCV:=
 some false
def sP(x3:Int)(x4:Bool):Option (Step Int (Out Unit Bool)):=
 (if x4 then some (.stop (Out.ret true)) else some (.next (bC (x3+1))))
def nE(slot:Int)(x1:(List eA)):Int->Option (Step Int (Out Unit Bool))
 |x3=>(if decide (x3<(x1.length:Int)) then(idx x1 x3).bind λx5=>(gR x5.Handle).bind λx6=>(if x6 then(eR x5.Handle).bind λx7=>sP x3 (x7 == slot) else sP x3 false) else some (.stop (Out.brk ())))
def aCW:(Out Unit Bool)->Option Bool
 |.brk ()=>aCV
 |.ret r=>some r
def C7(l:List bR)(slot:Int):=
 (HD l).bind λx1=>(loop (nE slot x1) 0).bind (aCW)
def uM(b:aA)(s:Sub)(x5:List bR):=
 (bN s 0).bind λx6=>some (({b with a8:=x5}:aA),x6)
def nX(b:aA)(w_:Int)(s:Sub)(x3:Bool):=
 (if x3 then(bN s 4).bind λx4=>some (b,x4) else(idx b.a8 w_).bind λx7=>need (x7.Rows.length+([(⟨s.A,s.E⟩:eA)]).length<=1073741824)<|uM b s (b.a8.set w_.toNat (⟨x7.Rows++([(⟨s.A,s.E⟩:eA)])⟩:bR)))
def pW(b:aA)(w_:Int)(s:Sub):=
 (if s.Pc == 0 then some (b,({s with Pc:=1,E:=b.aI.aO}:Sub)) else(if s.Pc == 1 then(b9 s.E 0 b.aI.aO).bind λx1=>(if !x1 then(bN s 1).bind λx2=>some (b,x2) else(rO b.Mem s.A).bind λx8=>(if !x8 then nX b w_ s true else(eR s.A).bind λx9=>(C7 b.a8 x9).bind λx10=>nX b w_ s x10)) else(bN s 1).bind λx11=>some (b,x11)))
def R0:=
 some true
def kQ(x3:Int)(x5:Bool):Option (Step Int (Out Unit Bool)):=
 (if x5 then some (.stop (Out.ret false)) else some (.next (bC (x3+1))))
def sQ(c:aI):Int->Option (Step Int (Out Unit Bool))
 |x3=>(if decide (x3<3) then(idx c.bX x3).bind λx4=>(if !x4.On then(if !(decide (x4=(⟨false,0,false,0⟩:vC))) then kQ x3 true else(b9 x4.aO 0 c.aO).bind λx6=>(if !x6 then kQ x3 true else(b9 x4.Seen 0 2).bind λx7=>kQ x3 (!x7))) else(b9 x4.aO 0 c.aO).bind λx8=>(if !x8 then kQ x3 true else(b9 x4.Seen 0 2).bind λx9=>kQ x3 (!x9))) else some (.stop (Out.brk ())))
def H5:(Out Unit Bool)->Option Bool
 |.brk ()=>R0
 |.ret r=>some r
def nF(c:aI)(x1:Bool):=
 (if x1 then some false else(loop (sQ c) 0).bind (H5))
def rP(c:aI):=
 (b9 c.aO 0 100000).bind λx10=>(if !x10 then nF c true else nF c ((c.bX.length:Int) != 3))
def rQ(c:aI):=
 need (([]:List vC).length+c.bX.length<=1073741824) (some (⟨c.aO,([]:List vC)++c.bX⟩:aI))
def mA(w_:Int)(x1:aI)(x3:vC)(x4:Bool):=
 (if x4 then some (x1,true) else(if x3.Seen == 2 then(idx x1.bX w_).bind λx5=>some ((⟨x1.aO,x1.bX.set w_.toNat ({x5 with g9:=true,Seen:=0}:vC)⟩:aI),true) else(idx x1.bX w_).bind λx6=>some ((⟨x1.aO,x1.bX.set w_.toNat ({x6 with Seen:=bC (x3.Seen+1)}:vC)⟩:aI),false)))
def vN(c:aI)(w_ e_:Int)(x1:aI)(x2:Bool):=
 (if x2 then some (x1,false) else(idx c.bX w_).bind λx3=>(if !x3.On then mA w_ x1 x3 true else(if x3.g9 then mA w_ x1 x3 true else mA w_ x1 x3 (x3.aO == e_))))
def B5(c:aI)(w_ e_:Int):=
 (rQ c).bind λx1=>(rP c).bind λx7=>(if !x7 then vN c w_ e_ x1 true else(b9 w_ 0 2).bind λx8=>vN c w_ e_ x1 (!x8))
def xF(e_:Int)(x1:aI)(x2:Bool):=
 (if x2 then some (x1,false) else some ((⟨bC (e_+1),x1.bX⟩:aI),true))
def KJ(c:aI)(e_:Int):=
 (rQ c).bind λx1=>(rP c).bind λx3=>(if !x3 then xF e_ x1 true else(if c.aO != e_ then xF e_ x1 true else xF e_ x1 (e_ == 100000)))
def mB(b:aA)(s:Sub)(x3:aI×Bool)(x5:Int):=
 some (({b with aI:=x3.1}:aA),({s with Pc:=x5,B:=bC (s.B+1)}:Sub))
def mC(b:aA)(s:Sub)(x6:aI×Bool)(x7:Int):=
 (bN ({s with Out:=x7}:Sub) 0).bind λx8=>some (({b with aI:=x6.1}:aA),x8)
def nG(b:aA)(s:Sub):=
 (if s.Pc == 0 then some (b,({s with Pc:=1,E:=b.aI.aO,B:=0}:Sub)) else(if s.Pc == 1 then(b9 s.B 0 2).bind λx1=>(if !x1 then(bN s 1).bind λx2=>some (b,x2) else(B5 b.aI s.B s.E).bind λx3=>(if !x3.2 then(bN s 8).bind λx4=>some (({b with aI:=x3.1}:aA),x4) else(if(bC (s.B+1)) == 3 then mB b s x3 2 else mB b s x3 s.Pc))) else(if s.Pc == 2 then(KJ b.aI s.E).bind λx6=>(if x6.2 then mC b s x6 1 else mC b s x6 s.Out) else(bN s 1).bind λx9=>some (b,x9))))
def C8(x2 x3:List aW):=
 some (⟨x2,x3⟩:aD)
def KP(x:aD)(slot x1:Int)(x4:aW):=
 C8 x.Global (x.Own.set x1.toNat (⟨x4.aR++([slot])⟩:aW))
def KQ(x:aD)(x5:List aW):=
 C8 x5 x.Own
def MP(x:aD)(w_ c slot:Int):=
 (vH w_ c).bind λx1=>(idx x.Own x1).bind λx4=>(if decide ((x4.aR.length:Int)<2) then need (x4.aR.length+([slot]).length<=1073741824)<|KP x slot x1 x4 else(idx x.Global c).bind λx6=>need (x6.aR.length+([slot]).length<=1073741824)<|KQ x (x.Global.set c.toNat (⟨x6.aR++([slot])⟩:aW)))
def C9(x:Mem)(x3:List Int)(x4 x5:List aW):=
 some (⟨(⟨x3,x.Heap.Class⟩:Heap),(⟨x4,x5⟩:aD)⟩:Mem)
def DA(x:Mem)(w_ slot x1 x2:Int)(x3:List Int):=
 (if decide ((bC (x2+1))<=6) then(MP x.aD w_ x1 slot).bind λx6=>C9 x x3 x6.Global x6.Own else C9 x x3 x.aD.Global x.aD.Own)
def vO(x:Mem)(w_ slot:Int):=
 (lL x.Heap slot).bind λx1=>(vL x.Heap slot).bind λx2=>(vI slot x1).bind λx7=>(gW x.Heap.Bytes x7 4 (bC (x2+1))).bind λx8=>DA x w_ slot x1 x2 x8
def DB(x1:Bool):=
 some x1
def FM(r_:eA)(e_:Int):=
 (if decide (2<=e_) then DB (decide (r_.aO<=(bC (e_-2)))) else DB false)
def aCX:=
 some (-1)
def eS(l:List eA)(e_:Int):Int->Option (Step Int (Out Unit Int))
 |x2=>(if decide (x2<(l.length:Int)) then(idx l x2).bind λx3=>(FM x3 e_).bind λx4=>(if x4 then some (.stop (Out.ret x2)) else some (.next (bC (x2+1)))) else some (.stop (Out.brk ())))
def aCY:(Out Unit Int)->Option Int
 |.brk ()=>aCX
 |.ret r=>some r
def rR(l:List eA)(from_ e_:Int):=
 (loop (eS l e_) (if 0<from_ then from_ else 0)).bind (aCY)
def mD(b:aA)(s:Sub)(x8:Int):=
 some (b,({s with Pc:=x8,B:=bC (s.B+1)}:Sub))
def eC(b:aA)(s:Sub)(x5:Bool):=
 (if x5 then(bN s 1).bind λx6=>some (b,x6) else(idx b.kZ s.B).bind λx7=>(if x7 == s.H then some (b,({s with Pc:=1,Row:=bC (s.Row+1)}:Sub)) else(if(bC (s.B+1)) == 3 then mD b s 3 else mD b s s.Pc)))
def rS(s:Sub)(x14:aA):=
 some (x14,({s with Pc:=1,Out:=bC (s.Out+1)}:Sub))
def eD(b:aA)(w_:Int)(s:Sub)(x1:bR)(x12:Bool):=
 (if x12 then(bN s 1).bind λx13=>some (b,x13) else need (0<=(s.Row:Int)/\(s.Row:Int)<=(x1.Rows.length:Int)) (need (0<=(bC (s.Row+1):Int)/\(bC (s.Row+1):Int)<=(x1.Rows.length:Int)) (need (s.Row.toNat<=(bC (s.Row+1)).toNat) ((eR s.H).bind λx15=>(vO b.Mem w_ x15).bind λx16=>rS s ({b with Mem:=x16,a8:=b.a8.set w_.toNat (⟨((cO x1.Rows s.Row.toNat (x1.Rows.drop ((bC (s.Row+1)).toNat))).take (s.Row.toNat+(x1.Rows.length-((bC (s.Row+1)).toNat)))).drop 0⟩:bR)}:aA)))))
def nH(b:aA)(w_:Int)(s:Sub):=
 (idx b.a8 w_).bind λx1=>(if s.Pc == 0 then some (b,({s with Pc:=1,E:=b.aI.aO,Row:=0}:Sub)) else(if s.Pc == 1 then(rR x1.Rows s.Row s.E).bind λx2=>(if decide (x2<0) then(bN s 0).bind λx3=>some (b,x3) else(idx x1.Rows x2).bind λx4=>some (b,({s with Pc:=2,Row:=x2,B:=0,H:=x4.Handle}:Sub))) else(if s.Pc == 2 then(b9 s.B 0 2).bind λx9=>(if !x9 then eC b s true else(b9 s.Row 0 (bC ((x1.Rows.length:Int)-1))).bind λx10=>(if !x10 then eC b s true else(idx x1.Rows s.Row).bind λx11=>eC b s (x11.Handle != s.H))) else(if s.Pc == 3 then(b9 s.Row 0 (bC ((x1.Rows.length:Int)-1))).bind λx17=>(if !x17 then eD b w_ s x1 true else(idx x1.Rows s.Row).bind λx18=>(if x18.Handle != s.H then eD b w_ s x1 true else(FM x18 s.E).bind λx19=>eD b w_ s x1 (!x19))) else(bN s 1).bind λx20=>some (b,x20)))))
def tV(w_ e_:Int)(x1:aI)(x2:Bool):=
 (if x2 then some (x1,false) else(idx x1.bX w_).bind λx3=>some ((⟨x1.aO,x1.bX.set w_.toNat (⟨true,e_,false,0⟩:vC)⟩:aI),true))
def FN(c:aI)(w_ e_:Int):=
 (rQ c).bind λx1=>(rP c).bind λx4=>(if !x4 then tV w_ e_ x1 true else(b9 w_ 0 2).bind λx5=>(if !x5 then tV w_ e_ x1 true else(b9 e_ 0 c.aO).bind λx6=>tV w_ e_ x1 (!x6)))
def B6(b:aA)(w_:Int)(s:Sub):=
 (if s.Pc == 0 then some (b,({s with Pc:=1,E:=b.aI.aO}:Sub)) else(if s.Pc == 1 then(FN b.aI w_ s.E).bind λx1=>(if !x1.2 then(bN s 1).bind λx2=>some (({b with aI:=x1.1}:aA),x2) else some (({b with aI:=x1.1}:aA),({s with Pc:=2}:Sub))) else(if s.Pc == 2 then(if b.aI.aO == s.E then(bN s 0).bind λx3=>some (b,x3) else some (b,({s with Pc:=0}:Sub))) else(bN s 1).bind λx4=>some (b,x4))))
def FO(b:aA)(w_:Int)(s:Sub):=
 (if s.jC then some (b,s) else(if s.Kind == 1 then(tT b w_ s).bind λx1=>some (x1.1,x1.2) else(if s.Kind == 2 then(pW b w_ s).bind λx2=>some (x2.1,x2.2) else(if s.Kind == 3 then(nG b s).bind λx3=>some (x3.1,x3.2) else(if s.Kind == 4 then(nH b w_ s).bind λx4=>some (x4.1,x4.2) else(if s.Kind == 5 then(B6 b w_ s).bind λx5=>some (x5.1,x5.2) else(bN s 1).bind λx6=>some (b,x6)))))))
def B7(t:Table)(w_:Int)(j:aE):=
 (FO t.aA w_ j.Sub).bind λx1=>some (({t with aA:=x1.1}:Table),({j with Sub:=x1.2}:aE),x1.2.jC)
def xG(t x2:Table)(x3:aE):=
 some (({x2 with aM:=t.aM,bL:=t.bL}:Table),x3)
def GJ(t:Table)(w_:Int)(j:aE):=
 (B7 t w_ j).bind λx1=>(if !x1.2.2 then some ((⟨x1.1.aA,x1.1.aT,t.aM,t.bL,x1.1.Log,x1.1.aK⟩:Table),x1.2.1) else(if x1.2.1.Pc == 0 then xG t (⟨x1.1.aA,x1.1.aT,t.aM,t.bL,x1.1.Log,x1.1.aK⟩:Table) (⟨x1.2.1.m0,x1.2.1.Batch,x1.2.1.aK,1,x1.2.1.At,x1.2.1.K,x1.2.1.cM,x1.2.1.fF,x1.2.1.H,x1.2.1.gO,x1.2.1.Node,x1.2.1.Found,x1.2.1.Code,x1.2.1.Sub,x1.2.1.Reads,x1.2.1.aH,x1.2.1.cV,x1.2.1.cT,x1.2.1.bA,x1.2.1.bG⟩:aE) else(if x1.2.1.Pc == 20 then(lQ 4 0).bind λx4=>xG t (⟨x1.1.aA,x1.1.aT,t.aM,t.bL,x1.1.Log,x1.1.aK⟩:Table) (⟨x1.2.1.m0,x1.2.1.Batch,x1.2.1.aK,21,x1.2.1.At,x1.2.1.K,x1.2.1.cM,x1.2.1.fF,x1.2.1.H,x1.2.1.gO,x1.2.1.Node,x1.2.1.Found,x1.2.1.Code,x4,x1.2.1.Reads,x1.2.1.aH,x1.2.1.cV,x1.2.1.cT,x1.2.1.bA,x1.2.1.bG⟩:aE) else xG t (⟨x1.1.aA,x1.1.aT,t.aM,t.bL,x1.1.Log,x1.1.aK⟩:Table) (⟨x1.2.1.m0,x1.2.1.Batch,x1.2.1.aK,19,x1.2.1.At,x1.2.1.K,x1.2.1.cM,x1.2.1.fF,x1.2.1.H,x1.2.1.gO,x1.2.1.Node,x1.2.1.Found,x1.2.1.Code,x1.2.1.Sub,x1.2.1.Reads,x1.2.1.aH,x1.2.1.cV,x1.2.1.cT,x1.2.1.bA,x1.2.1.bG⟩:aE))))
def eU(j:aE)(code:Int):=
 some ({j with Pc:=16,Code:=code}:aE)
def pX(x9:List aQ):=
 some x9
def FP(w_:aQ)(x7:List aQ)(x8:Bool):=
 (if !x8 then need (x7.length+([w_]).length<=1073741824) (pX (x7++([w_]))) else pX x7)
def xH(x6:Int)(x10:List aQ)(x11:Bool):Option (Step ((List aQ)×Bool×Int) ((List aQ)×Bool)):=
 some (.next (x10,x11,bC (x6+1)))
def xI(l:List aQ)(x6:Int)(x13:List aQ)(x14:Bool):Option (Step ((List aQ)×Bool×Int) ((List aQ)×Bool)):=
 (idx l x6).bind λx15=>need (x13.length+([x15]).length<=1073741824) (xH x6 (x13++([x15])) x14)
def xJ(l:List aQ)(w_:aQ)(x4:List aQ)(x5:Bool)(x6:Int)(x16:Bool):Option (Step ((List aQ)×Bool×Int) ((List aQ)×Bool)):=
 (if x16 then need (x4.length+([w_]).length<=1073741824) (xI l x6 (x4++([w_])) true) else xI l x6 x4 x5)
def lX(l:List aQ)(w_:aQ):((List aQ)×Bool×Int)->Option (Step ((List aQ)×Bool×Int) ((List aQ)×Bool))
 |(x4,x5,x6)=>(if decide (x6<(l.length:Int)) then(idx l x6).bind λx12=>(if x12.Key == w_.Key then xH x6 x4 x5 else(if !x5 then(idx l x6).bind λx17=>xJ l w_ x4 x5 x6 (decide (w_.Key<x17.Key)) else xJ l w_ x4 x5 x6 false)) else some (.stop ((x4,x5))))
def xK(w_:aQ):((List aQ)×Bool)->Option (List aQ)
 |(x7,x8)=>FP w_ x7 x8
def GK(l:List aQ)(w_:aQ):=
 (loop (lX l w_) (([]:List aQ),false,0)).bind (xK w_)
def zI(j:aE)(x:aQ):=
 (GK j.aH x).bind λx1=>(if decide (6<(x1.length:Int)) then(eU j 1).bind λx2=>some x2 else some ({j with aH:=x1}:aE))
def aCZ:=
 some ((⟨0,false,0⟩:aQ),false)
def sS(l:List aQ)(key:Int):Int->Option (Step Int (Out Unit (aQ×Bool)))
 |x2=>(if decide (x2<(l.length:Int)) then(idx l x2).bind λx3=>(if x3.Key == key then(idx l x2).bind λx4=>some (.stop (Out.ret (x4,true))) else some (.next (bC (x2+1)))) else some (.stop (Out.brk ())))
def aC0:(Out Unit (aQ×Bool))->Option (aQ×Bool)
 |.brk ()=>aCZ
 |.ret r=>some r
def JG(l:List aQ)(key:Int):=
 (loop (sS l key) 0).bind (aC0)
def MQ(a_ b:Int):=
 some (Int.tmod (bC ((bC ((Int.tmod a_ 65536)+(Int.tmod b 65536)))+65536)) 65536)
def nY(x3:aE)(x4:Bool)(x5:Int):=
 need (x3.cV.length+([(⟨x4,x5⟩:cV)]).length<=1073741824) (some ({x3 with Pc:=1,At:=bC (x3.At+1),cV:=x3.cV++([(⟨x4,x5⟩:cV)])}:aE))
def nZ(j:aE)(is:Bool)(x1:jJ)(x2:Int):=
 (if x1.Kind == 4 then(MQ x2 x1.fE).bind λx6=>(zI j (⟨x1.Key,false,x6⟩:aQ)).bind λx7=>(if x7.Pc == 16 then some x7 else nY x7 true x6) else nY j is x2)
def vP(j:aE)(is:Bool)(v:Int):=
 (idx j.Batch.bI j.At).bind λx1=>(if !is then nZ j is x1 0 else nZ j is x1 v)
def BE(key:Int):=
 (b9 key 0 99).bind λx1=>(if !x1 then some (-1) else some (Int.tmod key 2))
def jP(j:aE)(x2:jJ)(x3:Bool):=
 (if x3 then(zI j ({x2 with F8:=x2.Kind == 3}:aQ)).bind λx4=>(if x4.Pc == 16 then some x4 else need (x4.cV.length+([(⟨false,0⟩:cV)]).length<=1073741824) (some ({x4 with At:=bC (x4.At+1),cV:=x4.cV++([(⟨false,0⟩:cV)])}:aE))) else(JG j.aH x2.Key).bind λx5=>(if x5.2 then(vP j (!x5.1.F8) x5.1.fE).bind λx6=>some x6 else(BE x2.Key).bind λx7=>some ({j with Pc:=2,cM:=x7}:aE)))
def AE(j:aE):=
 (if decide ((j.Batch.bI.length:Int)<=j.At) then(lQ 1 16).bind λx1=>some ({j with Pc:=6,K:=0,Sub:=x1}:aE) else(idx j.Batch.bI j.At).bind λx2=>(if x2.Kind == 2 then jP j x2 true else jP j x2 (x2.Kind == 3)))
def JH(slot c:Int):=
 (vI slot c).bind λx1=>(if decide (x1<0) then some (-1) else some (bC (x1+4)))
def AF(m:Mem)(h:Int)(x1:Bool):Option (Int×Int):=
 (if x1 then some (0,4) else(eR h).bind λx2=>(lL m.Heap x2).bind λx3=>(B3 x3).bind λx4=>(if decide (x4<10) then some (0,2) else(eR h).bind λx5=>(JH x5 x3).bind λx6=>some (x6,0)))
def xL(m:Mem)(h:Int):Option (Int×Int):=
 (gR h).bind λx7=>(if !x7 then AF m h true else(eR h).bind λx8=>(lL m.Heap x8).bind λx9=>AF m h (decide (x9<0)))
def QG(m:Mem)(at_:Int):=
 (rE m.Heap.Bytes at_ 2).bind λx1=>(rE m.Heap.Bytes (bC (at_+2)) 4).bind λx2=>(rE m.Heap.Bytes (bC (at_+6)) 4).bind λx3=>some (⟨x1,x2,x3⟩:dW)
def HE(m:Mem)(h:Int):=
 (xL m h).bind λx1=>(if x1.2 != 0 then some (⟨0,0,0⟩:dW) else(QG m x1.1).bind λx2=>some x2)
def oA(n:dW):=
 (gR n.Next).bind λx1=>(if x1 then some n.Next else some 0)
def R1(l:List Seen)(b v:Int):=
 need ((([]:List Seen)++l).length+([(⟨b,v⟩:Seen)]).length<=1073741824) (some ((([]:List Seen)++l)++([(⟨b,v⟩:Seen)]),true))
def sU(l:List Seen)(b v:Int):Int->Option (Step Int (Out Unit ((List Seen)×Bool)))
 |x2=>(if decide (x2<(l.length:Int)) then(idx l x2).bind λx3=>(if x3.cM == b then(idx l x2).bind λx4=>some (.stop (Out.ret (([]:List Seen)++l,x4.fF == v))) else some (.next (bC (x2+1)))) else some (.stop (Out.brk ())))
def R3(l:List Seen)(b v:Int):(Out Unit ((List Seen)×Bool))->Option ((List Seen)×Bool)
 |.brk ()=>R1 l b v
 |.ret r=>some r
def JI(l:List Seen)(b v:Int):=
 need (([]:List Seen).length+l.length<=1073741824) ((loop (sU l b v) 0).bind (R3 l b v))
def kR(x3:aE):=
 some x3
def AG(j:aE)(x9:Bool)(x10:Int)(x11:Bool):=
 (if x11 then kR ({j with Pc:=5,H:=x10,Found:=x9}:aE) else kR ({j with Pc:=3,H:=x10,Found:=x9}:aE))
def H6(j:aE)(x9:Bool):=
 (oA j.Node).bind λx10=>(if x9 then AG j x9 x10 true else AG j x9 x10 (x10 == 0))
def nI(j:aE)(x6:Bool):=
 (if x6 then(eU j 6).bind λx7=>some x7 else(if decide ((j.Batch.bI.length:Int)<=j.At) then(eU j 1).bind λx8=>some x8 else(idx j.Batch.bI j.At).bind λx12=>H6 j (j.Node.Key == x12.Key)))
def sV(j:aE)(x13:Bool):=
 (if x13 then(eU j 7).bind λx14=>some x14 else(JI j.Reads j.cM j.fF).bind λx15=>(if !x15.2 then(eU ({j with Reads:=x15.1}:aE) 7).bind λx16=>some x16 else(if decide ((j.Batch.bI.length:Int)<=j.At) then(eU ({j with Reads:=x15.1}:aE) 1).bind λx17=>some x17 else(vP ({j with Reads:=x15.1}:aE) j.Found j.Node.fE).bind λx18=>some x18)))
def JJ(t:Table)(w_:Int)(j:aE):=
 (idx t.aT j.cM).bind λx1=>(idx t.aA.aI.bX w_).bind λx2=>(if j.Pc == 2 then(if x1.gG != 0 then(eU j 7).bind λx4=>some x4 else(if x1.Head == 0 then kR ({j with Pc:=5,fF:=x1.fF,H:=x1.Head,Node:=(⟨0,0,0⟩:dW),Found:=false}:aE) else kR ({j with Pc:=3,fF:=x1.fF,H:=x1.Head,Node:=(⟨0,0,0⟩:dW),Found:=false}:aE))) else(if j.Pc == 3 then(HE t.aA.Mem j.H).bind λx5=>kR ({j with Pc:=4,Node:=x5}:aE) else(if j.Pc == 4 then(if !x2.On then nI j true else nI j x2.g9) else(if x1.gG != 0 then sV j true else sV j (x1.fF != j.fF)))))
def aMV(x5:Int):=
 some x5
def JK(x4 x7:Int):Option (Step (Int×Int) Int):=
 some (.next (x7,bC (x4+1)))
def DC(l:List aQ)(x3 x4:Int)(x6:Bool):Option (Step (Int×Int) Int):=
 (if x6 then(idx l x4).bind λx8=>(if !x8.F8 then JK x4 (bC (x3+1)) else JK x4 x3) else some (.stop (x3)))
def DD(l:List aQ)(n:Int):(Int×Int)->Option (Step (Int×Int) Int)
 |(x3,x4)=>(if decide (x4<(l.length:Int)) then DC l x3 x4 (decide (x4<n)) else DC l x3 x4 false)
def aMW:Int->Option Int
 |x5=>aMV x5
def O7(l:List aQ)(n:Int):=
 (loop (DD l n) (0,0)).bind (aMW)
def lY(t:Table)(x3:Bool)(x4:Table)(x5:aE):=
 (if x3 then(eU x5 x5.Sub.Code).bind λx6=>some (({x4 with aM:=t.aM,bL:=t.bL}:Table),x6) else need (x5.cT.length+([x5.Sub.Out]).length<=1073741824) ((lQ 1 16).bind λx7=>some (({x4 with aM:=t.aM,bL:=t.bL}:Table),({x5 with K:=bC (x5.K+1),Sub:=x7,cT:=x5.cT++([x5.Sub.Out])}:aE))))
def GL(t:Table)(w_:Int)(j:aE):=
 (O7 j.aH (j.aH.length:Int)).bind λx1=>(if decide (x1<=j.K) then some (t,({j with Pc:=7,K:=0}:aE)) else(B7 t w_ j).bind λx2=>(if !x2.2.2 then some ((⟨x2.1.aA,x2.1.aT,t.aM,t.bL,x2.1.Log,x2.1.aK⟩:Table),x2.2.1) else(if x2.2.1.Sub.Code != 0 then lY t true (⟨x2.1.aA,x2.1.aT,t.aM,t.bL,x2.1.Log,x2.1.aK⟩:Table) x2.2.1 else(gR x2.2.1.Sub.Out).bind λx8=>(if !x8 then lY t true (⟨x2.1.aA,x2.1.aT,t.aM,t.bL,x2.1.Log,x2.1.aK⟩:Table) x2.2.1 else lY t (decide (6<=(x2.2.1.cT.length:Int))) (⟨x2.1.aA,x2.1.aT,t.aM,t.bL,x2.1.Log,x2.1.aK⟩:Table) x2.2.1))))
def vQ(x9:List Int):=
 some x9
def KR(x:Int)(x7:List Int)(x8:Bool):=
 (if !x8 then need (x7.length+([x]).length<=1073741824) (vQ (x7++([x]))) else vQ x7)
def pY(l:List Int)(x6:Int)(x11:List Int)(x12:Bool):Option (Step ((List Int)×Bool×Int) (Out ((List Int)×Bool) (List Int))):=
 (idx l x6).bind λx13=>need (x11.length+([x13]).length<=1073741824) (some (.next (x11++([x13]),x12,bC (x6+1))))
def pZ(l:List Int)(x:Int)(x4:List Int)(x5:Bool)(x6:Int)(x14:Bool):Option (Step ((List Int)×Bool×Int) (Out ((List Int)×Bool) (List Int))):=
 (if x14 then need (x4.length+([x]).length<=1073741824) (pY l x6 (x4++([x])) true) else pY l x6 x4 x5)
def iZ(l:List Int)(x:Int):((List Int)×Bool×Int)->Option (Step ((List Int)×Bool×Int) (Out ((List Int)×Bool) (List Int)))
 |(x4,x5,x6)=>(if decide (x6<(l.length:Int)) then(idx l x6).bind λx10=>(if x10 == x then some (.stop (Out.ret l)) else(if !x5 then pZ l x x4 x5 x6 (decide (x<x10)) else pZ l x x4 x5 x6 false)) else some (.stop (Out.brk (x4,x5))))
def vR(x:Int):(Out ((List Int)×Bool) (List Int))->Option (List Int)
 |.brk (x7,x8)=>KR x x7 x8
 |.ret r=>some r
def MR(l:List Int)(x:Int):=
 (loop (iZ l x) (([]:List Int),false,0)).bind (vR x)
def aC1(x5:List Int):=
 some x5
def AI(x4:Int)(x6:List Int):Option (Step ((List Int)×Int) (List Int)):=
 some (.next (x6,bC (x4+1)))
def sW(l:List aQ):((List Int)×Int)->Option (Step ((List Int)×Int) (List Int))
 |(x3,x4)=>(if decide (x4<(l.length:Int)) then(idx l x4).bind λx7=>(BE x7.Key).bind λx8=>(if decide (0<=x8) then(idx l x4).bind λx9=>(BE x9.Key).bind λx10=>(MR x3 x10).bind λx11=>AI x4 x11 else AI x4 x3) else some (.stop (x3)))
def aC2:(List Int)->Option (List Int)
 |x5=>aC1 x5
def JL(l:List aQ):=
 (loop (sW l) (([]:List Int),0)).bind (aC2)
def zJ(t:Table)(w_:Int)(j:aE):=
 need (t.Log.length+([(⟨2,w_,j.aK,0,[],[]⟩:qZ)]).length<=1073741824) (some (({t with Log:=t.Log++([(⟨2,w_,j.aK,0,[],[]⟩:qZ)])}:Table),({j with Pc:=8,K:=0}:aE)))
def sY(t:Table)(w_:Int)(j:aE)(x1:(List Int))(x3:Int)(x8:cM)(x10:List Int):=
 (if(bC (j.K+1)) == (x1.length:Int) then(zJ ({t with aT:=t.aT.set x3.toNat ({x8 with gG:=bC (w_+1)}:cM)}:Table) w_ ({j with K:=bC (j.K+1),bA:=x10}:aE)).bind λx11=>some ((⟨x11.1.aA,x11.1.aT,t.aM,t.bL,x11.1.Log,x11.1.aK⟩:Table),x11.2) else some (({t with aT:=t.aT.set x3.toNat ({x8 with gG:=bC (w_+1)}:cM)}:Table),({j with K:=bC (j.K+1),bA:=x10}:aE)))
def R4(t:Table)(w_:Int)(j:aE)(x1:(List Int))(x3:Int):=
 (idx t.aT x3).bind λx8=>(if x8.fF == 1000000 then(eU j 3).bind λx9=>some (t,x9) else(FL j.bA x3).bind λx12=>(if !x12 then need (j.bA.length+([x3]).length<=1073741824) (sY t w_ j x1 x3 x8 (j.bA++([x3]))) else sY t w_ j x1 x3 x8 j.bA))
def sZ(t:Table)(j:aE)(x7:Int)(x13:Bool):Option (Step Int (Out Unit (Table×aE))):=
 (if x13 then(eU j 7).bind λx14=>some (.stop (Out.ret (t,x14))) else some (.next (bC (x7+1))))
def nJ(t:Table)(j:aE)(x3:Int):Int->Option (Step Int (Out Unit (Table×aE)))
 |x7=>(if decide (x7<(j.Reads.length:Int)) then(idx j.Reads x7).bind λx15=>(if x15.cM == x3 then(idx t.aT x3).bind λx16=>sZ t j x7 (x15.fF != x16.fF) else sZ t j x7 false) else some (.stop (Out.brk ())))
def H7(t:Table)(w_:Int)(j:aE)(x1:(List Int))(x3:Int):(Out Unit (Table×aE))->Option (Table×aE)
 |.brk ()=>R4 t w_ j x1 x3
 |.ret r=>some r
def JM(t:Table)(w_:Int)(j:aE):=
 (JL j.aH).bind λx1=>(if decide ((x1.length:Int)<=j.K) then(zJ t w_ j).bind λx2=>some ((⟨x2.1.aA,x2.1.aT,t.aM,t.bL,x2.1.Log,x2.1.aK⟩:Table),x2.2) else(idx x1 j.K).bind λx3=>(idx t.aT x3).bind λx4=>(if x4.gG != 0 then(eU j 7).bind λx5=>some (t,x5) else(loop (nJ t j x3) 0).bind (H7 t w_ j x1 x3)))
def jQ(j:aE)(x3:Bool):=
 (if x3 then(eU j 7).bind λx4=>some x4 else some ({j with K:=bC (j.K+1)}:aE))
def GM(t:Table)(w_:Int)(j:aE):=
 (if decide ((j.Reads.length:Int)<=j.K) then some ({j with Pc:=9,K:=0}:aE) else(idx j.Reads j.K).bind λx1=>(idx t.aT x1.cM).bind λx2=>(if x2.gG != 0 then(if x2.gG != (bC (w_+1)) then jQ j true else jQ j (x2.fF != x1.fF)) else jQ j (x2.fF != x1.fF)))
def oX(j:aE):=
 (idx j.aH j.K).bind λx1=>(if x1.F8 then some ({j with Pc:=9,K:=bC (j.K+1)}:aE) else some ({j with Pc:=12}:aE))
def R5(b:List Int):=
 some (decide ((b.length:Int)<=1000))
def nK(b:List Int):Int->Option (Step Int (Out Unit Bool))
 |x2=>(if decide (x2<(b.length:Int)) then(idx b x2).bind λx3=>(b9 x3 0 255).bind λx4=>(if !x4 then some (.stop (Out.ret false)) else some (.next (bC (x2+1)))) else some (.stop (Out.brk ())))
def H8(b:List Int):(Out Unit Bool)->Option Bool
 |.brk ()=>R5 b
 |.ret r=>some r
def JN(b:List Int):=
 (loop (nK b) 0).bind (H8 b)
def aC3:=
 some true
def nL(h:Heap):Int->Option (Step Int (Out Unit Bool))
 |x3=>(if decide (x3<6) then(idx h.Class x3).bind λx4=>(b9 x4 (-1) 2).bind λx5=>(if !x5 then some (.stop (Out.ret false)) else some (.next (bC (x3+1)))) else some (.stop (Out.brk ())))
def aC4:(Out Unit Bool)->Option Bool
 |.brk ()=>aC3
 |.ret r=>some r
def tC(h:Heap)(x1:Bool):=
 (if x1 then some false else(loop (nL h) 0).bind (aC4))
def JO(h:Heap):=
 (if(h.Bytes.length:Int) != 384 then tC h true else(if(h.Class.length:Int) != 6 then tC h true else(JN h.Bytes).bind λx6=>tC h (!x6)))
def aF5:=
 some true
def p5(h:Heap)(p:Int):Int->Option (Step Int (Out Unit Bool))
 |x3=>(if decide (x3<(bC ((bC (p*64))+64))) then(idx h.Bytes x3).bind λx4=>(if x4 != 0 then some (.stop (Out.ret false)) else some (.next (bC (x3+1)))) else some (.stop (Out.brk ())))
def aF6:(Out Unit Bool)->Option Bool
 |.brk ()=>aF5
 |.ret r=>some r
def aF7:=
 some true
def qA(h:Heap)(p x1:Int):Int->Option (Step Int (Out Unit Bool))
 |x9=>(lK x1).bind λx10=>(if decide (x9<x10) then(rD p x9).bind λx11=>(vI x11 x1).bind λx12=>(rE h.Bytes x12 4).bind λx13=>(b9 x13 1 7).bind λx14=>(if !x14 then some (.stop (Out.ret false)) else some (.next (bC (x9+1)))) else some (.stop (Out.brk ())))
def aF8:(Out Unit Bool)->Option Bool
 |.brk ()=>aF7
 |.ret r=>some r
def T5(h:Heap)(p x1:Int):=
 (loop (qA h p x1) 0).bind (aF8)
def qB(h:Heap)(p:Int):Int->Option (Step Int (Out Unit Bool))
 |x7=>(if decide (x7<(bC ((bC (p*64))+8))) then(idx h.Bytes x7).bind λx15=>(if x15 != 0 then some (.stop (Out.ret false)) else some (.next (bC (x7+1)))) else some (.stop (Out.brk ())))
def T6(h:Heap)(p x1:Int):(Out Unit Bool)->Option Bool
 |.brk ()=>T5 h p x1
 |.ret r=>some r
def j4(h:Heap)(p x1:Int)(x5:Bool):=
 (if x5 then some false else(loop (qB h p) (bC ((bC (p*64))+3))).bind (T6 h p x1))
def MS(h:Heap)(p:Int):=
 (idx h.Class p).bind λx1=>(if decide (x1<0) then(loop (p5 h p) (bC (p*64))).bind (aF6) else(idx h.Bytes (bC (p*64))).bind λx16=>(if x16 != 171 then j4 h p x1 true else(idx h.Bytes (bC ((bC (p*64))+1))).bind λx17=>(if x17 != x1 then j4 h p x1 true else(idx h.Bytes (bC ((bC (p*64))+2))).bind λx18=>(lK x1).bind λx19=>j4 h p x1 (x18 != x19))))
def aF9:=
 some true
def vS(h:Heap):Int->Option (Step Int (Out Unit Bool))
 |x3=>(if decide (x3<6) then(MS h x3).bind λx4=>(if !x4 then some (.stop (Out.ret false)) else some (.next (bC (x3+1)))) else some (.stop (Out.brk ())))
def aGA:(Out Unit Bool)->Option Bool
 |.brk ()=>aF9
 |.ret r=>some r
def MT(h:Heap):=
 (JO h).bind λx1=>(if !x1 then some false else(loop (vS h) 0).bind (aGA))
def aC5:=
 some true
def AJ(x6:Int)(x7:Bool):Option (Step Int (Out Unit Bool)):=
 (if x7 then some (.stop (Out.ret false)) else some (.next (bC (x6+1))))
def nM(x4:(List Int)):Int->Option (Step Int (Out Unit Bool))
 |x6=>(if decide (x6<(x4.length:Int)) then(idx x4 x6).bind λx8=>(b9 x8 0 23).bind λx9=>(if !x9 then AJ x6 true else need (0<=(x6:Int)/\(x6:Int)<=(x4.length:Int)) ((FL ((x4.take x6.toNat).drop 0) x8).bind λx10=>AJ x6 x10)) else some (.stop (Out.brk ())))
def aC6:(Out Unit Bool)->Option Bool
 |.brk ()=>aC5
 |.ret r=>some r
def R6(l:aD):=
 (KO l).bind λx4=>(loop (nM x4) 0).bind (aC6)
def nN(l:aD):Int->Option (Step Int (Out Unit Bool))
 |x3=>(if decide (x3<(l.Own.length:Int)) then(idx l.Own x3).bind λx11=>(if decide (2<(x11.aR.length:Int)) then some (.stop (Out.ret false)) else some (.next (bC (x3+1)))) else some (.stop (Out.brk ())))
def R7(l:aD):(Out Unit Bool)->Option Bool
 |.brk ()=>R6 l
 |.ret r=>some r
def AK(l:aD)(x1:Bool):=
 (if x1 then some false else(loop (nN l) 0).bind (R7 l))
def JQ(l:aD):=
 (if(l.Global.length:Int) != 3 then AK l true else AK l ((l.Own.length:Int) != 9))
def aAT:=
 some true
def xM(x2:Int)(x3:Bool):Option (Step Int (Out Unit Bool)):=
 (if x3 then some (.stop (Out.ret false)) else some (.next (bC (x2+1))))
def lZ(h:Heap)(l:List Int)(c:Int):Int->Option (Step Int (Out Unit Bool))
 |x2=>(if decide (x2<(l.length:Int)) then(idx l x2).bind λx4=>(lL h x4).bind λx5=>(if x5 != c then xM x2 true else(idx l x2).bind λx6=>(vL h x6).bind λx7=>xM x2 (decide (6<x7))) else some (.stop (Out.brk ())))
def aAU:(Out Unit Bool)->Option Bool
 |.brk ()=>aAT
 |.ret r=>some r
def zK(h:Heap)(l:List Int)(c:Int):=
 (loop (lZ h l c) 0).bind (aAU)
def aJF:=
 some true
def WW(x3:Int):Option (Step Int (Out Unit Bool)):=
 some (.next (bC (x3+1)))
def zL(m:Mem)(x3:Int):Int->Option (Step Int (Out Unit Bool))
 |x7=>(if decide (x7<3) then(vH x7 x3).bind λx8=>(idx m.aD.Own x8).bind λx9=>(zK m.Heap x9.aR x3).bind λx10=>(if !x10 then some (.stop (Out.ret false)) else some (.next (bC (x7+1)))) else some (.stop (Out.brk ())))
def WX(x3:Int):(Out Unit Bool)->Option (Step Int (Out Unit Bool))
 |.brk ()=>WW x3
 |.ret r=>some (.stop (Out.ret r))
def zN(m:Mem):Int->Option (Step Int (Out Unit Bool))
 |x3=>(if decide (x3<3) then(idx m.aD.Global x3).bind λx4=>(zK m.Heap x4.aR x3).bind λx5=>(if !x5 then some (.stop (Out.ret false)) else(loop (zL m x3) 0).bind (WX x3)) else some (.stop (Out.brk ())))
def aJG:(Out Unit Bool)->Option Bool
 |.brk ()=>aJF
 |.ret r=>some r
def GN(m:Mem)(x1:Bool):=
 (if x1 then some false else(loop (zN m) 0).bind (aJG))
def FQ(m:Mem):=
 (MT m.Heap).bind λx11=>(if !x11 then GN m true else(JQ m.aD).bind λx12=>GN m (!x12))
def AL(x1:Bool):=
 some x1
def DE(h:Int):=
 (if h == 0 then AL true else(gR h).bind λx2=>AL x2)
def rF(b:List Int):=
 need (([]:List Int).length+b.length<=1073741824) (some (([]:List Int)++b))
def MU(h:Heap):=
 (rF h.Bytes).bind λx1=>(rF h.Class).bind λx2=>some (⟨x1,x2⟩:Heap)
def aGB(x5:List aW):=
 some x5
def KS(l:List aW):((List aW)×Int)->Option (Step ((List aW)×Int) (List aW))
 |(x3,x4)=>(if decide (x4<(l.length:Int)) then(idx l x4).bind λx6=>(rF x6.aR).bind λx7=>need (x3.length+([(⟨x7⟩:aW)]).length<=1073741824) (some (.next (x3++([(⟨x7⟩:aW)]),bC (x4+1)))) else some (.stop (x3)))
def aGC:(List aW)->Option (List aW)
 |x5=>aGB x5
def HF(l:List aW):=
 (loop (KS l) (([]:List aW),0)).bind (aGC)
def MV(l:aD):=
 (HF l.Global).bind λx1=>(HF l.Own).bind λx2=>some (⟨x1,x2⟩:aD)
def B8(m:Mem):=
 (MU m.Heap).bind λx1=>(MV m.aD).bind λx2=>some (⟨x1,x2⟩:Mem)
def DF(m:Mem)(h next_:Int)(x2:Bool)(x3:Mem):Option (Mem×Int):=
 (if x2 then some (x3,1) else(rO m h).bind λx4=>(if !x4 then some (x3,4) else(xL m h).bind λx5=>(if x5.2 != 0 then some (x3,x5.2) else(gW x3.Heap.Bytes (bC (x5.1+6)) 4 next_).bind λx6=>some ((⟨(⟨x6,x3.Heap.Class⟩:Heap),x3.aD⟩:Mem),0))))
def MW(m:Mem)(h next_:Int):Option (Mem×Int):=
 (B8 m).bind λx1=>(FQ m).bind λx7=>(if !x7 then DF m h next_ true x1 else(DE next_).bind λx8=>DF m h next_ (!x8) x1)
def vT(x1:Bool):=
 some x1
def MX(n:dW):=
 (b9 n.Key 0 99).bind λx2=>(if x2 then(b9 n.fE 0 65535).bind λx3=>(if x3 then(DE n.Next).bind λx4=>vT x4 else vT false) else vT false)
def T7(m:Mem)(at_:Int)(n:dW):=
 (gW m.Heap.Bytes at_ 2 n.Key).bind λx1=>(gW x1 (bC (at_+2)) 4 n.fE).bind λx2=>(gW x2 (bC (at_+6)) 4 n.Next).bind λx3=>some (⟨(⟨x3,m.Heap.Class⟩:Heap),m.aD⟩:Mem)
def AM(m:Mem)(h:Int)(n:dW)(x2:Bool)(x3:Mem):Option (Mem×Int):=
 (if x2 then some (x3,1) else(rO m h).bind λx4=>(if !x4 then some (x3,4) else(xL m h).bind λx5=>(if x5.2 != 0 then some (x3,x5.2) else(T7 x3 x5.1 n).bind λx6=>some (x6,0))))
def JR(m:Mem)(h:Int)(n:dW):Option (Mem×Int):=
 (B8 m).bind λx1=>(FQ m).bind λx7=>(if !x7 then AM m h n true x1 else(MX n).bind λx8=>AM m h n (!x8) x1)
def mE(t:Table)(x3:List cM)(x4:aE):=
 some (({t with aT:=x3}:Table),x4)
def mF(t:Table)(j:aE)(x12:Table)(x13:List Int):=
 (oX ({j with bG:=x13}:aE)).bind λx14=>some (({x12 with aM:=t.aM,bL:=t.bL}:Table),x14)
def rT(t:Table)(j:aE)(x15:Bool)(x16:Table):=
 (if x15 then need (j.bG.length+([j.H]).length<=1073741824) (mF t j ({x16 with aM:=t.aM,bL:=t.bL}:Table) (j.bG++([j.H]))) else mF t j ({x16 with aM:=t.aM,bL:=t.bL}:Table) j.bG)
def mG(t:Table)(j:aE)(x11:Table):=
 (if decide ((j.bG.length:Int)<6) then(gR j.H).bind λx17=>rT t j x17 ({x11 with aM:=t.aM,bL:=t.bL}:Table) else rT t j false ({x11 with aM:=t.aM,bL:=t.bL}:Table))
def BF(t:Table)(j:aE)(x20:Table):=
 mG t j ({x20 with aM:=t.aM,bL:=t.bL}:Table)
def KT(t:Table)(j:aE)(x25:Table):=
 some (({x25 with aM:=t.aM,bL:=t.bL}:Table),({j with Pc:=13}:aE))
def AN(t:Table)(j:aE):=
 (if decide ((j.aH.length:Int)<=j.K) then some (t,({j with Pc:=14}:aE)) else(idx j.aH j.K).bind λx1=>(BE x1.Key).bind λx2=>(if j.Pc == 9 then(idx t.aT x2).bind λx5=>(if x5.Head == 0 then(oX ({j with H:=x5.Head,gO:=0}:aE)).bind λx6=>some (t,x6) else mE t t.aT ({j with Pc:=10,H:=x5.Head,gO:=0}:aE)) else(if j.Pc == 10 then(HE t.aA.Mem j.H).bind λx7=>(if x7.Key == x1.Key then mE t t.aT ({j with Pc:=11,Node:=x7}:aE) else(oA x7).bind λx8=>(if x8 == 0 then(oX ({j with Node:=x7}:aE)).bind λx9=>some (t,x9) else(oA x7).bind λx10=>mE t t.aT ({j with H:=x10,gO:=j.H,Node:=x7}:aE))) else(if j.Pc == 11 then(if j.gO == 0 then(oA j.Node).bind λx18=>(idx t.aT x2).bind λx19=>mG t j ({t with aT:=t.aT.set x2.toNat ({x19 with Head:=x18}:cM)}:Table) else(oA j.Node).bind λx21=>(MW t.aA.Mem j.gO x21).bind λx22=>BF t j ({t with aA:=(⟨x22.1,t.aA.aI,t.aA.a8,t.aA.kZ⟩:aA)}:Table)) else(O7 j.aH j.K).bind λx23=>(if decide ((j.cT.length:Int)<=x23) then(eU j 1).bind λx24=>some (t,x24) else(if j.Pc == 12 then(idx j.cT x23).bind λx26=>(idx t.aT x2).bind λx27=>(JR t.aA.Mem x26 ({x1 with Next:=x27.Head}:dW)).bind λx28=>KT t j ({t with aA:=(⟨x28.1,t.aA.aI,t.aA.a8,t.aA.kZ⟩:aA)}:Table) else(idx j.cT x23).bind λx29=>(idx t.aT x2).bind λx30=>mE t (t.aT.set x2.toNat ({x30 with Head:=x29}:cM)) ({j with Pc:=9,K:=bC (j.K+1)}:aE)))))))
def DG(t:Table)(x1:aE):=
 some (t,x1)
def uN(t:Table)(j:aE)(x5:(List Int))(x7:List cM):=
 some (({t with aT:=x7}:Table),({j with bA:=x5}:aE))
def DH(t:Table)(j:aE):=
 (if(j.bA.length:Int) == 0 then(if j.Pc == 16 then some (t,({j with Pc:=17}:aE)) else(if decide (0<(j.bG.length:Int)) then(idx j.bG 0).bind λx2=>(lQ 2 x2).bind λx3=>DG t ({j with Pc:=15,K:=0,Sub:=x3}:aE) else DG t ({j with Pc:=15,K:=0}:aE))) else(idx j.bA 0).bind λx4=>need (0<=(1:Int)/\(1:Int)<=(j.bA.length:Int)) ((rF ((j.bA.take j.bA.length).drop (1:Int).toNat)).bind λx5=>(idx t.aT x4).bind λx6=>(if j.Pc == 14 then(idx (t.aT.set x4.toNat ({x6 with gG:=0}:cM)) x4).bind λx8=>uN t j x5 ((t.aT.set x4.toNat ({x6 with gG:=0}:cM)).set x4.toNat ({x8 with fF:=if 1000000<(bC (x8.fF+1)) then 1000000 else(bC (x8.fF+1))}:cM)) else uN t j x5 (t.aT.set x4.toNat ({x6 with gG:=0}:cM)))))
def uO(t x2:Table)(x3:aE):=
 some (({x2 with aM:=t.aM,bL:=t.bL}:Table),x3)
def DI(t:Table)(w_:Int)(j:aE):=
 (if decide ((j.bG.length:Int)<=j.K) then some (t,({j with Pc:=18}:aE)) else(B7 t w_ j).bind λx1=>(if x1.2.2 then(if decide ((bC (x1.2.1.K+1))<(x1.2.1.bG.length:Int)) then(idx x1.2.1.bG (bC (x1.2.1.K+1))).bind λx4=>(lQ 2 x4).bind λx5=>uO t (⟨x1.1.aA,x1.1.aT,t.aM,t.bL,x1.1.Log,x1.1.aK⟩:Table) (⟨x1.2.1.m0,x1.2.1.Batch,x1.2.1.aK,x1.2.1.Pc,x1.2.1.At,bC (x1.2.1.K+1),x1.2.1.cM,x1.2.1.fF,x1.2.1.H,x1.2.1.gO,x1.2.1.Node,x1.2.1.Found,x1.2.1.Code,x5,x1.2.1.Reads,x1.2.1.aH,x1.2.1.cV,x1.2.1.cT,x1.2.1.bA,x1.2.1.bG⟩:aE) else uO t (⟨x1.1.aA,x1.1.aT,t.aM,t.bL,x1.1.Log,x1.1.aK⟩:Table) (⟨x1.2.1.m0,x1.2.1.Batch,x1.2.1.aK,x1.2.1.Pc,x1.2.1.At,bC (x1.2.1.K+1),x1.2.1.cM,x1.2.1.fF,x1.2.1.H,x1.2.1.gO,x1.2.1.Node,x1.2.1.Found,x1.2.1.Code,x1.2.1.Sub,x1.2.1.Reads,x1.2.1.aH,x1.2.1.cV,x1.2.1.cT,x1.2.1.bA,x1.2.1.bG⟩:aE)) else uO t (⟨x1.1.aA,x1.1.aT,t.aM,t.bL,x1.1.Log,x1.1.aK⟩:Table) x1.2.1))
def AO(m:Mem)(w_ h:Int)(x2:Bool)(x3:Mem):Option (Mem×Int):=
 (if x2 then some (x3,1) else(rO m h).bind λx4=>(if !x4 then some (x3,4) else(eR h).bind λx5=>(vO x3 w_ x5).bind λx6=>some (x6,0)))
def JS(m:Mem)(w_ h:Int):Option (Mem×Int):=
 (B8 m).bind λx1=>(FQ m).bind λx7=>(if !x7 then AO m w_ h true x1 else(b9 w_ 0 2).bind λx8=>AO m w_ h (!x8) x1)
def QH(b:aA)(w_ h:Int):Option (Mem×Int):=
 (eR h).bind λx1=>(C7 b.a8 x1).bind λx2=>(if x2 then some (b.Mem,4) else(JS b.Mem w_ h).bind λx3=>some (x3.1,x3.2))
def tW(w_:Int)(x1:aI)(x2:Bool):=
 (if x2 then some (x1,false) else(idx x1.bX w_).bind λx3=>some ((⟨x1.aO,x1.bX.set w_.toNat (⟨false,0,false,0⟩:vC)⟩:aI),true))
def FR(c:aI)(w_:Int):=
 (rQ c).bind λx1=>(rP c).bind λx4=>(if !x4 then tW w_ x1 true else(b9 w_ 0 2).bind λx5=>(if !x5 then tW w_ x1 true else(idx c.bX w_).bind λx6=>tW w_ x1 (!x6.On)))
def T8(l:List cV):=
 need (([]:List cV).length+l.length<=1073741824) (some (([]:List cV)++l))
def DJ(t:Table)(j:aE)(x1:Table)(x2:Int)(x3:List Int):=
 some (({x1 with aM:=t.aM,bL:=t.bL}:Table),({j with Pc:=x2,cT:=x3}:aE))
def DK(t:Table)(j:aE)(x4:Table):=
 need (0<=(1:Int)/\(1:Int)<=(j.cT.length:Int)) ((rF ((j.cT.take j.cT.length).drop ((1:Int).toNat))).bind λx5=>DJ t j ({x4 with aM:=t.aM,bL:=t.bL}:Table) j.Pc x5)
def vU(t:Table)(w_:Int)(j:aE)(x9:List cV):=
 need (t.Log.length+([(⟨3,w_,j.aK,j.Code,[],x9⟩:qZ)]).length<=1073741824) (some (({t with Log:=t.Log++([(⟨3,w_,j.aK,j.Code,[],x9⟩:qZ)])}:Table),(⟨false,(⟨false,[]⟩:Batch),0,0,0,0,0,0,0,0,(⟨0,0,0⟩:dW),false,0,(⟨0,0,0,0,0,0,0,0,0,false⟩:Sub),[],[],[],[],[],[]⟩:aE)))
def rG(t:Table)(w_:Int)(j:aE):=
 (if j.Pc == 17 then(if(j.cT.length:Int) == 0 then some (t,({j with Pc:=18}:aE)) else(idx j.cT 0).bind λx6=>(QH t.aA w_ x6).bind λx7=>DK t j ({t with aA:=(⟨x7.1,t.aA.aI,t.aA.a8,t.aA.kZ⟩:aA)}:Table)) else(if j.Pc == 18 then(FR t.aA.aI w_).bind λx8=>DJ t j ({t with aA:=(⟨t.aA.Mem,x8.1,t.aA.a8,t.aA.kZ⟩:aA)}:Table) 19 j.cT else(if j.Code == 0 then(T8 j.cV).bind λx10=>vU t w_ j x10 else vU t w_ j ([]))))
def fN(t:Table)(w_:Int)(x3:Table)(x4:aE):=
 some ({x3 with aM:=t.aM.set w_.toNat x4,bL:=t.bL}:Table)
def lR(t:Table)(w_:Int)(x1:aE)(x22:Bool)(x23:aE):=
 (if x22 then(rG t w_ ({x23 with Batch:=(⟨x23.Batch.Collect,x1.Batch.bI⟩:Batch),Reads:=x1.Reads,aH:=x1.aH,cV:=x1.cV,cT:=x1.cT,bA:=x1.bA,bG:=x1.bG}:aE)).bind λx24=>fN t w_ (⟨x24.1.aA,x24.1.aT,t.aM,t.bL,x24.1.Log,x24.1.aK⟩:Table) x24.2 else(eU ({x23 with Batch:=(⟨x23.Batch.Collect,x1.Batch.bI⟩:Batch),Reads:=x1.Reads,aH:=x1.aH,cV:=x1.cV,cT:=x1.cT,bA:=x1.bA,bG:=x1.bG}:aE) 1).bind λx25=>fN t w_ t x25)
def tX(t:Table)(w_:Int)(x1:aE)(x18:Bool)(x19:aE):=
 (if x18 then(DH t ({x19 with Batch:=(⟨x19.Batch.Collect,x1.Batch.bI⟩:Batch),Reads:=x1.Reads,aH:=x1.aH,cV:=x1.cV,cT:=x1.cT,bA:=x1.bA,bG:=x1.bG}:aE)).bind λx20=>fN t w_ (⟨x20.1.aA,x20.1.aT,t.aM,t.bL,x20.1.Log,x20.1.aK⟩:Table) x20.2 else(if x1.Pc == 15 then(DI t w_ ({x19 with Batch:=(⟨x19.Batch.Collect,x1.Batch.bI⟩:Batch),Reads:=x1.Reads,aH:=x1.aH,cV:=x1.cV,cT:=x1.cT,bA:=x1.bA,bG:=x1.bG}:aE)).bind λx21=>fN t w_ (⟨x21.1.aA,x21.1.aT,t.aM,t.bL,x21.1.Log,x21.1.aK⟩:Table) x21.2 else(if x1.Pc == 17 then lR t w_ x1 true ({x19 with Batch:=(⟨x19.Batch.Collect,x1.Batch.bI⟩:Batch),Reads:=x1.Reads,aH:=x1.aH,cV:=x1.cV,cT:=x1.cT,bA:=x1.bA,bG:=x1.bG}:aE) else(if x1.Pc == 18 then lR t w_ x1 true ({x19 with Batch:=(⟨x19.Batch.Collect,x1.Batch.bI⟩:Batch),Reads:=x1.Reads,aH:=x1.aH,cV:=x1.cV,cT:=x1.cT,bA:=x1.bA,bG:=x1.bG}:aE) else lR t w_ x1 (x1.Pc == 19) ({x19 with Batch:=(⟨x19.Batch.Collect,x1.Batch.bI⟩:Batch),Reads:=x1.Reads,aH:=x1.aH,cV:=x1.cV,cT:=x1.cT,bA:=x1.bA,bG:=x1.bG}:aE)))))
def jW(t:Table)(w_:Int)(x1:aE)(x15:Bool)(x16:aE):=
 (if x15 then(AN t ({x16 with Batch:=(⟨x16.Batch.Collect,x1.Batch.bI⟩:Batch),Reads:=x1.Reads,aH:=x1.aH,cV:=x1.cV,cT:=x1.cT,bA:=x1.bA,bG:=x1.bG}:aE)).bind λx17=>fN t w_ (⟨x17.1.aA,x17.1.aT,t.aM,t.bL,x17.1.Log,x17.1.aK⟩:Table) x17.2 else(if x1.Pc == 14 then tX t w_ x1 true ({x16 with Batch:=(⟨x16.Batch.Collect,x1.Batch.bI⟩:Batch),Reads:=x1.Reads,aH:=x1.aH,cV:=x1.cV,cT:=x1.cT,bA:=x1.bA,bG:=x1.bG}:aE) else tX t w_ x1 (x1.Pc == 16) ({x16 with Batch:=(⟨x16.Batch.Collect,x1.Batch.bI⟩:Batch),Reads:=x1.Reads,aH:=x1.aH,cV:=x1.cV,cT:=x1.cT,bA:=x1.bA,bG:=x1.bG}:aE)))
def lS(t:Table)(w_:Int)(x1:aE)(x9:Bool)(x10:aE):=
 (if x9 then(JJ t w_ ({x10 with Batch:=(⟨x10.Batch.Collect,x1.Batch.bI⟩:Batch),Reads:=x1.Reads,aH:=x1.aH,cV:=x1.cV,cT:=x1.cT,bA:=x1.bA,bG:=x1.bG}:aE)).bind λx11=>fN t w_ t x11 else(if x1.Pc == 6 then(GL t w_ ({x10 with Batch:=(⟨x10.Batch.Collect,x1.Batch.bI⟩:Batch),Reads:=x1.Reads,aH:=x1.aH,cV:=x1.cV,cT:=x1.cT,bA:=x1.bA,bG:=x1.bG}:aE)).bind λx12=>fN t w_ (⟨x12.1.aA,x12.1.aT,t.aM,t.bL,x12.1.Log,x12.1.aK⟩:Table) x12.2 else(if x1.Pc == 7 then(JM t w_ ({x10 with Batch:=(⟨x10.Batch.Collect,x1.Batch.bI⟩:Batch),Reads:=x1.Reads,aH:=x1.aH,cV:=x1.cV,cT:=x1.cT,bA:=x1.bA,bG:=x1.bG}:aE)).bind λx13=>fN t w_ (⟨x13.1.aA,x13.1.aT,t.aM,t.bL,x13.1.Log,x13.1.aK⟩:Table) x13.2 else(if x1.Pc == 8 then(GM t w_ ({x10 with Batch:=(⟨x10.Batch.Collect,x1.Batch.bI⟩:Batch),Reads:=x1.Reads,aH:=x1.aH,cV:=x1.cV,cT:=x1.cT,bA:=x1.bA,bG:=x1.bG}:aE)).bind λx14=>fN t w_ t x14 else(if x1.Pc == 9 then jW t w_ x1 true ({x10 with Batch:=(⟨x10.Batch.Collect,x1.Batch.bI⟩:Batch),Reads:=x1.Reads,aH:=x1.aH,cV:=x1.cV,cT:=x1.cT,bA:=x1.bA,bG:=x1.bG}:aE) else(if x1.Pc == 10 then jW t w_ x1 true ({x10 with Batch:=(⟨x10.Batch.Collect,x1.Batch.bI⟩:Batch),Reads:=x1.Reads,aH:=x1.aH,cV:=x1.cV,cT:=x1.cT,bA:=x1.bA,bG:=x1.bG}:aE) else(if x1.Pc == 11 then jW t w_ x1 true ({x10 with Batch:=(⟨x10.Batch.Collect,x1.Batch.bI⟩:Batch),Reads:=x1.Reads,aH:=x1.aH,cV:=x1.cV,cT:=x1.cT,bA:=x1.bA,bG:=x1.bG}:aE) else(if x1.Pc == 12 then jW t w_ x1 true ({x10 with Batch:=(⟨x10.Batch.Collect,x1.Batch.bI⟩:Batch),Reads:=x1.Reads,aH:=x1.aH,cV:=x1.cV,cT:=x1.cT,bA:=x1.bA,bG:=x1.bG}:aE) else jW t w_ x1 (x1.Pc == 13) ({x10 with Batch:=(⟨x10.Batch.Collect,x1.Batch.bI⟩:Batch),Reads:=x1.Reads,aH:=x1.aH,cV:=x1.cV,cT:=x1.cT,bA:=x1.bA,bG:=x1.bG}:aE)))))))))
def oY(t:Table)(w_:Int)(x1:aE)(x5:Bool)(x6:aE):=
 (if x5 then(GJ t w_ ({x6 with Batch:=(⟨x6.Batch.Collect,x1.Batch.bI⟩:Batch),Reads:=x1.Reads,aH:=x1.aH,cV:=x1.cV,cT:=x1.cT,bA:=x1.bA,bG:=x1.bG}:aE)).bind λx7=>fN t w_ (⟨x7.1.aA,x7.1.aT,t.aM,t.bL,x7.1.Log,x7.1.aK⟩:Table) x7.2 else(if x1.Pc == 1 then(AE ({x6 with Batch:=(⟨x6.Batch.Collect,x1.Batch.bI⟩:Batch),Reads:=x1.Reads,aH:=x1.aH,cV:=x1.cV,cT:=x1.cT,bA:=x1.bA,bG:=x1.bG}:aE)).bind λx8=>fN t w_ t x8 else(if x1.Pc == 2 then lS t w_ x1 true ({x6 with Batch:=(⟨x6.Batch.Collect,x1.Batch.bI⟩:Batch),Reads:=x1.Reads,aH:=x1.aH,cV:=x1.cV,cT:=x1.cT,bA:=x1.bA,bG:=x1.bG}:aE) else(if x1.Pc == 3 then lS t w_ x1 true ({x6 with Batch:=(⟨x6.Batch.Collect,x1.Batch.bI⟩:Batch),Reads:=x1.Reads,aH:=x1.aH,cV:=x1.cV,cT:=x1.cT,bA:=x1.bA,bG:=x1.bG}:aE) else(if x1.Pc == 4 then lS t w_ x1 true ({x6 with Batch:=(⟨x6.Batch.Collect,x1.Batch.bI⟩:Batch),Reads:=x1.Reads,aH:=x1.aH,cV:=x1.cV,cT:=x1.cT,bA:=x1.bA,bG:=x1.bG}:aE) else lS t w_ x1 (x1.Pc == 5) ({x6 with Batch:=(⟨x6.Batch.Collect,x1.Batch.bI⟩:Batch),Reads:=x1.Reads,aH:=x1.aH,cV:=x1.cV,cT:=x1.cT,bA:=x1.bA,bG:=x1.bG}:aE))))))
def QI(t:Table)(w_:Int):=
 (idx t.aM w_).bind λx1=>(if !x1.m0 then(GF t w_).bind λx2=>some x2 else(if x1.Pc == 0 then oY t w_ x1 true x1 else(if x1.Pc == 20 then oY t w_ x1 true x1 else oY t w_ x1 (x1.Pc == 21) x1)))
def DL(l:List bR):=
 (HD l).bind λx1=>some (x1.length:Int)
def Y3(x8:Int):=
 some x8
def oB(x6 x11:Int)(x12:Table):Option (Step (Int×Int×Table) Int):=
 some (.next (x11,bC (x6+1),x12))
def kJ(x:gH)(x5 x6:Int)(x9:Bool)(x10:Table):Option (Step (Int×Int×Table) Int):=
 (if x9 then(idx x.dK x6).bind λx13=>(b9 x13 0 2).bind λx14=>(if x14 then(idx x.dK x6).bind λx15=>(QI x10 x15).bind λx16=>(DL x16.aA.a8).bind λx17=>oB x6 (if x5<x17 then x17 else x5) x16 else oB x6 x5 x10) else some (.stop (x5)))
def oC(x:gH):(Int×Int×Table)->Option (Step (Int×Int×Table) Int)
 |(x5,x6,x7)=>(if decide (x6<(x.dK.length:Int)) then kJ x x5 x6 (decide (x6<400)) x7 else kJ x x5 x6 false x7)
def Y4:Int->Option Int
 |x8=>Y3 x8
def DM(x:gH):=
 (GD x.bL).bind λx1=>(if(x1.aM.length:Int) == 0 then some 0 else(loop (oC x) (0,0,x1)).bind (Y4))
def XU(a_:jJ):=
 some a_
def T9(x5:List jJ):=
 some x5
def KU(a_:List jJ):((List jJ)×Int)->Option (Step ((List jJ)×Int) (List jJ))
 |(x3,x4)=>(if decide (x4<(a_.length:Int)) then(idx a_ x4).bind λx6=>(XU x6).bind λx7=>(idx x3 x4).bind λx8=>some (.next (x3.set x4.toNat x7,bC (x4+1))) else some (.stop (x3)))
def UA:(List jJ)->Option (List jJ)
 |x5=>T9 x5
def MY(a_:List jJ):=
 need (0<=((a_.length:Int):Int)/\((a_.length:Int):Int)<=4294967296) ((loop (KU a_) (List.replicate ((a_.length:Int).toNat) (⟨0,0,0⟩:jJ),0)).bind (UA))
def JT(a_:Batch):=
 (MY a_.bI).bind λx1=>some (⟨a_.Collect,x1⟩:Batch)
def O8(x5:List Batch):=
 some x5
def FT(a_:List Batch):((List Batch)×Int)->Option (Step ((List Batch)×Int) (List Batch))
 |(x3,x4)=>(if decide (x4<(a_.length:Int)) then(idx a_ x4).bind λx6=>(JT x6).bind λx7=>(idx x3 x4).bind λx8=>some (.next (x3.set x4.toNat x7,bC (x4+1))) else some (.stop (x3)))
def O9:(List Batch)->Option (List Batch)
 |x5=>O8 x5
def GO(a_:List Batch):=
 need (0<=((a_.length:Int):Int)/\((a_.length:Int):Int)<=4294967296) ((loop (FT a_) (List.replicate ((a_.length:Int).toNat) (⟨false,[]⟩:Batch),0)).bind (O9))
def GP(a_:aP):=
 (GO a_.List).bind λx1=>some (⟨x1⟩:aP)
def MZ(x5:List aP):=
 some x5
def DN(a_:List aP):((List aP)×Int)->Option (Step ((List aP)×Int) (List aP))
 |(x3,x4)=>(if decide (x4<(a_.length:Int)) then(idx a_ x4).bind λx6=>(GP x6).bind λx7=>(idx x3 x4).bind λx8=>some (.next (x3.set x4.toNat x7,bC (x4+1))) else some (.stop (x3)))
def M0:(List aP)->Option (List aP)
 |x5=>MZ x5
def DO(a_:List aP):=
 need (0<=((a_.length:Int):Int)/\((a_.length:Int):Int)<=4294967296) ((loop (DN a_) (List.replicate ((a_.length:Int).toNat) (⟨[]⟩:aP),0)).bind (M0))
def UB(x5:List Int):=
 some x5
def KV(a_:List Int):((List Int)×Int)->Option (Step ((List Int)×Int) (List Int))
 |(x3,x4)=>(if decide (x4<(a_.length:Int)) then(idx a_ x4).bind λx6=>(idx x3 x4).bind λx7=>some (.next (x3.set x4.toNat x6,bC (x4+1))) else some (.stop (x3)))
def UC:(List Int)->Option (List Int)
 |x5=>UB x5
def M1(a_:List Int):=
 need (0<=((a_.length:Int):Int)/\((a_.length:Int):Int)<=4294967296) ((loop (KV a_) (List.replicate ((a_.length:Int).toNat) 0,0)).bind (UC))
def qC(a_:gH):=
 (DO a_.bL).bind λx1=>(M1 a_.dK).bind λx2=>some (⟨x1,x2⟩:gH)
def KW:=
 some (-1)
def mH(s:List aP)(f:(aP->Option Bool)):Int->Option (Step Int (Out Unit Int))
 |x2=>(if decide (x2<(s.length:Int)) then(idx s x2).bind λx3=>(f x3).bind λx4=>(if x4 then some (.stop (Out.ret x2)) else some (.next (bC (x2+1)))) else some (.stop (Out.brk ())))
def vV:(Out Unit Int)->Option Int
 |.brk ()=>KW
 |.ret r=>some r
def B9(s:List aP)(f:(aP->Option Bool)):=
 (loop (mH s f) 0).bind (vV)
def mI(s:List aP)(f:(aP->Option Bool)):=
 (B9 s f).bind λx1=>some (decide (0<=x1))
def LY:=
 some (-1)
def m4(s:List Batch)(f:(Batch->Option Bool)):Int->Option (Step Int (Out Unit Int))
 |x2=>(if decide (x2<(s.length:Int)) then(idx s x2).bind λx3=>(f x3).bind λx4=>(if x4 then some (.stop (Out.ret x2)) else some (.next (bC (x2+1)))) else some (.stop (Out.brk ())))
def yI:(Out Unit Int)->Option Int
 |.brk ()=>LY
 |.ret r=>some r
def DP(s:List Batch)(f:(Batch->Option Bool)):=
 (loop (m4 s f) 0).bind (yI)
def m5(s:List Batch)(f:(Batch->Option Bool)):=
 (DP s f).bind λx1=>some (decide (0<=x1))
def DQ(x1:Bool):=
 some x1
def cC(n low high:Int):=
 (if decide (low<=n) then DQ (decide (n<=high)) else DQ false)
def PA:=
 some (-1)
def qD(s:List jJ)(f:(jJ->Option Bool)):Int->Option (Step Int (Out Unit Int))
 |x2=>(if decide (x2<(s.length:Int)) then(idx s x2).bind λx3=>(f x3).bind λx4=>(if x4 then some (.stop (Out.ret x2)) else some (.next (bC (x2+1)))) else some (.stop (Out.brk ())))
def CA:(Out Unit Int)->Option Int
 |.brk ()=>PA
 |.ret r=>some r
def HH(s:List jJ)(f:(jJ->Option Bool)):=
 (loop (qD s f) 0).bind (CA)
def qE(s:List jJ)(f:(jJ->Option Bool)):=
 (HH s f).bind λx1=>some (decide (0<=x1))
def oZ(x2:Bool):=
 some x2
def tY(c:jJ)(x1:Bool):=
 (cC c.Kind 1 4).bind λx3=>(if x3 then(cC c.Key 0 99).bind λx4=>(if x4 then(if x1 then(cC c.fE 0 65535).bind λx5=>(if x5 then oZ true else oZ (c.fE == 0)) else oZ (c.fE == 0)) else oZ false) else oZ false)
def QJ(c:jJ):=
 (if c.Kind == 2 then tY c true else tY c (c.Kind == 4))
def KX(c:jJ):=
 (QJ c).bind λx1=>some (!x1)
def tD(x1:Bool):=
 some x1
def JU(b:Batch):=
 (if b.Collect then some ((b.bI.length:Int) == 0) else(cC (b.bI.length:Int) 1 6).bind λx2=>(if x2 then(qE b.bI (λy0=>KX y0)).bind λx3=>tD (!x3) else tD false))
def FU(b:Batch):=
 (JU b).bind λx1=>some (!x1)
def uP(x1:Bool):=
 some x1
def DR(q:aP):=
 (if decide (12<(q.List.length:Int)) then uP true else(m5 q.List (λy0=>FU y0)).bind λx2=>uP x2)
def AP(x1:Bool):=
 some x1
def JV(todo:List aP):=
 (if(todo.length:Int) == 3 then(mI todo (λy0=>DR y0)).bind λx2=>AP (!x2) else AP false)
def R8(x y:Int):=
 some (IntKind.u64.wrap ((IntKind.u64.wrap ((IntKind.u64.wrap ((zA .u64 x 32)*(zA .u64 y 32)))+(zA .u64 (IntKind.u64.wrap ((IntKind.u64.wrap ((zA .u64 x 32)*(pO .and .u64 y 4294967295)))+(zA .u64 (IntKind.u64.wrap ((pO .and .u64 x 4294967295)*(pO .and .u64 y 4294967295))) 32))) 32)))+(zA .u64 (IntKind.u64.wrap ((pO .and .u64 (IntKind.u64.wrap ((IntKind.u64.wrap ((zA .u64 x 32)*(pO .and .u64 y 4294967295)))+(zA .u64 (IntKind.u64.wrap ((pO .and .u64 x 4294967295)*(pO .and .u64 y 4294967295))) 32))) 4294967295)+(IntKind.u64.wrap ((pO .and .u64 x 4294967295)*(zA .u64 y 32))))) 32)),IntKind.u64.wrap (x*y))
def NU(x y:Int):=
 (R8 x y).bind λx1=>some (x1.1,x1.2)
def UD(x7:List Int):=
 some x7
def j5:((List Int)×Int)->Option (Step ((List Int)×Int) (List Int))
 |(x5,x6)=>(if decide (x6<(x5.length:Int)) then need (0<=(x6:Int)/\(x6:Int)<=(x5.length:Int)) (need (0<=(x6:Int)/\(x6:Int)<=(x5.length:Int)) (some (.next (cO x5 x6.toNat ((x5.take x6.toNat).drop 0),bC (x6+((min ((x5.take x6.toNat).drop 0).length (x5.length-x6.toNat):Nat):Int)))))) else some (.stop (x5)))
def UE:(List Int)->Option (List Int)
 |x7=>UD x7
def oD(x:List Int)(x1:Int×Int)(x2:Bool):=
 (if x2 then none else need (0<=(IntKind.i64.wrap x1.2:Int)/\(IntKind.i64.wrap x1.2:Int)<=4294967296) ((loop (j5) (cO (List.replicate ((IntKind.i64.wrap x1.2).toNat) 0) 0 x,((min x.length ((List.replicate ((IntKind.i64.wrap x1.2).toNat) 0:List Int).length-0):Nat):Int))).bind (UE)))
def uQ(x:List Int)(count:Int):=
 (if decide (count<0) then none else(NU (IntKind.u64.wrap (x.length:Int)) (IntKind.u64.wrap count)).bind λx1=>(if decide (0<x1.1) then oD x x1 true else oD x x1 (decide (9223372036854775807<x1.2))))
def R9(x1:List Int):=
 some (⟨List.replicate ((384:Int).toNat) 0,x1⟩:Heap)
def JW:=
 need (0<=(384:Int)/\(384:Int)<=4294967296)<|(uQ ([(-1)]) 6).bind λx2=>R9 x2
def PB:=
 some (⟨List.replicate ((3:Int).toNat) (⟨[]⟩:aW),List.replicate ((9:Int).toNat) (⟨[]⟩:aW)⟩:aD)
def NV:=
 need (0<=(3:Int)/\(3:Int)<=4294967296)<|need (0<=(9:Int)/\(9:Int)<=4294967296)<|PB
def UF:=
 (JW).bind λx1=>(NV).bind λx2=>some (⟨x1,x2⟩:Mem)
def NW:=
 need (0<=(3:Int)/\(3:Int)<=4294967296) (some (⟨0,List.replicate ((3:Int).toNat) (⟨false,0,false,0⟩:vC)⟩:aI))
def NX:=
 need (0<=(3:Int)/\(3:Int)<=4294967296) (some (List.replicate ((3:Int).toNat) (⟨[]⟩:bR)))
def UG:Option (List Int):=
 need (0<=(3:Int)/\(3:Int)<=4294967296) (some (List.replicate ((3:Int).toNat) 0))
def JX:Option aA:=
 (UF).bind λx1=>(NW).bind λx2=>(NX).bind λx3=>(UG).bind λx4=>some (⟨x1,x2,x3,x4⟩:aA)
def qF(s:List jJ):=
 need (([]:List jJ).length+s.length<=1073741824) (some (([]:List jJ)++s))
def DS(b:Batch):=
 (qF b.bI).bind λx1=>some (⟨b.Collect,x1⟩:Batch)
def Y5(x5:List aP):=
 some x5
def M3(x3:List aP)(x4:Int)(x11:List Batch):Option (Step ((List aP)×Int) (List aP)):=
 need (x3.length+([(⟨x11⟩:aP)]).length<=1073741824) (some (.next (x3++([(⟨x11⟩:aP)]),bC (x4+1))))
def DT(x9:Int)(x13:List Batch):Option (Step (Int×(List Batch)) (List Batch)):=
 some (.next (bC (x9+1),x13))
def DU(x6:aP):(Int×(List Batch))->Option (Step (Int×(List Batch)) (List Batch))
 |(x9,x10)=>(if decide (x9<(x6.List.length:Int)) then(idx x6.List x9).bind λx12=>(DS x12).bind λx14=>need (x10.length+([x14]).length<=1073741824)<|DT x9 (x10++([x14])) else some (.stop (x10)))
def M4(x3:List aP)(x4:Int):(List Batch)->Option (Step ((List aP)×Int) (List aP))
 |x11=>M3 x3 x4 x11
def DV(todo:List aP):((List aP)×Int)->Option (Step ((List aP)×Int) (List aP))
 |(x3,x4)=>(if decide (x4<(todo.length:Int)) then(idx todo x4).bind λx6=>(loop (DU x6) (0,[])).bind (M4 x3 x4) else some (.stop (x3)))
def Y6:(List aP)->Option (List aP)
 |x5=>Y5 x5
def DW(todo:List aP):=
 (loop (DV todo) (([]:List aP),0)).bind (Y6)
def PC(x2:Table):=
 some ({x2 with Log:=[]}:Table)
def GQ(todo:List aP):=
 (JV todo).bind λx1=>(if !x1 then some (⟨(⟨(⟨(⟨[],[]⟩:Heap),(⟨[],[]⟩:aD)⟩:Mem),(⟨0,[]⟩:aI),[],[]⟩:aA),[],[],[],[],0⟩:Table) else(JX).bind λx3=>need (0<=(2:Int)/\(2:Int)<=4294967296)<|need (0<=(3:Int)/\(3:Int)<=4294967296)<|(DW todo).bind λx4=>PC (⟨x3,List.replicate ((2:Int).toNat) (⟨0,0,0⟩:cM),List.replicate ((3:Int).toNat) (⟨false,(⟨false,[]⟩:Batch),0,0,0,0,0,0,0,0,(⟨0,0,0⟩:dW),false,0,(⟨0,0,0,0,0,0,0,0,0,false⟩:Sub),[],[],[],[],[],[]⟩:aE),x4,[],0⟩:Table))
def fX(w_:Int):=
 (cC w_ 0 2).bind λx1=>some x1
def IW(s:List Batch)(i j:Int):=
 need (0<=i/\i<=j/\j<=(s.length:Int)) (some (s.take i.toNat++s.drop j.toNat))
def j6(kind a_:Int):=
 some (⟨kind,a_,0,0,0,0,0,0,0,false⟩:Sub)
def yQ(t:Table)(w_:Int)(x2:aP)(x3:Batch)(x6:aE)(x8:List qZ):=
 some (⟨t.aA,t.aT,t.aM.set w_.toNat ({x6 with Batch:=(⟨x6.Batch.Collect,x3.bI⟩:Batch),Reads:=[],aH:=[],cV:=[],cT:=[],bA:=[],bG:=[]}:aE),t.bL.set w_.toNat (⟨x2.List.drop 1⟩:aP),x8,bC (t.aK+1)⟩:Table)
def lA(t:Table)(w_:Int)(x2:aP)(x3:Batch)(x6:aE):=
 (idx t.aM w_).bind λx7=>(qF x3.bI).bind λx9=>need (t.Log.length+([(⟨1,w_,x6.aK,0,x9,[]⟩:qZ)]).length<=1073741824)<|yQ t w_ x2 x3 x6 (t.Log++([(⟨1,w_,x6.aK,0,x9,[]⟩:qZ)]))
def yR(t:Table)(w_:Int)(x2:aP)(x3:Batch)(x5:aE):=
 (if x3.Collect then(j6 3 0).bind λx10=>lA t w_ x2 x3 ({x5 with Batch:=(⟨x5.Batch.Collect,x3.bI⟩:Batch),Pc:=20,Sub:=x10,Reads:=[],aH:=[],cV:=[],cT:=[],bA:=[],bG:=[]}:aE) else lA t w_ x2 x3 ({x5 with Batch:=(⟨x5.Batch.Collect,x3.bI⟩:Batch),Reads:=[],aH:=[],cV:=[],cT:=[],bA:=[],bG:=[]}:aE))
def lB(t:Table)(w_:Int)(x1:Bool):=
 (if x1 then some t else(idx t.bL w_).bind λx2=>(idx x2.List 0).bind λx3=>(IW x2.List 0 1).bind λx4=>(j6 5 0).bind λx11=>yR t w_ x2 x3 (⟨true,x3,bC (t.aK+1),0,0,0,0,0,0,0,(⟨0,0,0⟩:dW),false,0,x11,[],[],[],[],[],[]⟩:aE))
def xN(t:Table)(w_:Int):=
 (idx t.bL w_).bind λx12=>(if(x12.List.length:Int) == 0 then lB t w_ true else lB t w_ (t.aK == 1000000))
def bJ(s:Sub)(code:Int):=
 some ({s with Code:=code,jC:=true}:Sub)
def jX(c:Int):=
 (cC c 0 2).bind λx1=>some x1
def CB(c:Int):=
 (jX c).bind λx1=>(if !x1 then some 0 else(idx ([8,16,40]:List Int) c).bind λx2=>some x2)
def aC7:=
 some (-1)
def AQ(x2:Int)(x3:Bool):Option (Step Int (Out Unit Int)):=
 (if x3 then some (.stop (Out.ret x2)) else some (.next (bC (x2+1))))
def jD(size:Int):Int->Option (Step Int (Out Unit Int))
 |x2=>(if decide (x2<3) then(if decide (1<=size) then(CB x2).bind λx4=>AQ x2 (decide (size<=x4)) else AQ x2 false) else some (.stop (Out.brk ())))
def aC8:(Out Unit Int)->Option Int
 |.brk ()=>aC7
 |.ret r=>some r
def JY(size:Int):=
 (loop (jD size) 0).bind (aC8)
def jR(s:List Int):=
 need (([]:List Int).length+s.length<=1073741824) (some (([]:List Int)++s))
def Y7(x5 x10:List aW):=
 some (⟨x5,x10⟩:aD)
def DX(x8:Int)(x12:List aW):Option (Step (Int×(List aW)) (List aW)):=
 some (.next (bC (x8+1),x12))
def DY(l:aD):(Int×(List aW))->Option (Step (Int×(List aW)) (List aW))
 |(x8,x9)=>(if decide (x8<(l.Own.length:Int)) then(idx l.Own x8).bind λx11=>(jR x11.aR).bind λx13=>need (x9.length+([(⟨x13⟩:aW)]).length<=1073741824)<|DX x8 (x9++([(⟨x13⟩:aW)])) else some (.stop (x9)))
def Y8(x5:List aW):(List aW)->Option aD
 |x10=>Y7 x5 x10
def M5(l:aD)(x5:List aW):=
 (loop (DY l) (0,[])).bind (Y8 x5)
def DZ(x3:Int)(x15:List aW):Option (Step (Int×(List aW)) (List aW)):=
 some (.next (bC (x3+1),x15))
def D0(l:aD):(Int×(List aW))->Option (Step (Int×(List aW)) (List aW))
 |(x3,x4)=>(if decide (x3<(l.Global.length:Int)) then(idx l.Global x3).bind λx14=>(jR x14.aR).bind λx16=>need (x4.length+([(⟨x16⟩:aW)]).length<=1073741824)<|DZ x3 (x4++([(⟨x16⟩:aW)])) else some (.stop (x4)))
def M6(l:aD):(List aW)->Option aD
 |x5=>M5 l x5
def iB(l:aD):=
 (loop (D0 l) (0,[])).bind (M6 l)
def rH(slot:Int):=
 (cC slot 0 23).bind λx1=>some x1
def QK(x11:List Raw):=
 some x11
def lM(slices:List (List Raw)):((List Raw)×Int)->Option (Step ((List Raw)×Int) (List Raw))
 |(x9,x10)=>(if decide (x10<(slices.length:Int)) then(idx slices x10).bind λx12=>need (x9.length+x12.length<=1073741824) (some (.next (x9++x12,bC (x10+1)))) else some (.stop (x9)))
def QL:(List Raw)->Option (List Raw)
 |x11=>QK x11
def D1(slices:List (List Raw))(x5:Int):=
 (aTD Raw x5).bind λx6=>(loop (lM slices) (x6,0)).bind (QL)
def i4(slices:List (List Raw)):(Int×Int)->Option (Step (Int×Int) Int)
 |(x3,x4)=>(if decide (x4<(slices.length:Int)) then(idx slices x4).bind λx13=>(if decide ((bC (x3+(x13.length:Int)))<0) then none else some (.next (bC (x3+(x13.length:Int)),bC (x4+1)))) else some (.stop (x3)))
def D2(slices:List (List Raw)):Int->Option (List Raw)
 |x5=>D1 slices x5
def yS(slices:List (List Raw)):=
 (loop (i4 slices) (0,0)).bind (D2 slices)
def aC9:=
 some true
def SA(x4:Int)(x12:List Bool):Option (Step (Int×(List Bool)) (Out Unit Bool)):=
 some (.next (bC (x4+1),x12))
def tE(x10:Int)(x11:List Bool)(x13:Int)(x14:Bool):Option (Step (Int×(List Bool)) (Out (List Bool) Bool)):=
 (if x14 then some (.stop (Out.ret false)) else need (0<=(x13:Int)/\(x13:Int)<24) ((idx (x11:List Bool) x13).bind λx15=>some (.next (bC (x10+1),x11.set (x13.toNat) true))))
def tF(x6:aW):(Int×(List Bool))->Option (Step (Int×(List Bool)) (Out (List Bool) Bool))
 |(x10,x11)=>(if decide (x10<(x6.aR.length:Int)) then(idx x6.aR x10).bind λx13=>(rH x13).bind λx16=>(if !x16 then tE x10 x11 x13 true else need (0<=(x13:Int)/\(x13:Int)<24) ((idx (x11:List Bool) x13).bind λx17=>tE x10 x11 x13 x17)) else some (.stop (Out.brk x11)))
def SB(x4:Int):(Out (List Bool) Bool)->Option (Step (Int×(List Bool)) (Out Unit Bool))
 |.brk x12=>SA x4 x12
 |.ret r=>some (.stop (Out.ret r))
def nO(x4:Int)(x5:List Bool)(x6:aW)(x7:Bool):=
 (if x7 then some (.stop (Out.ret false)) else(loop (tF x6) (0,x5)).bind (SB x4))
def tG(l:aD):(Int×(List Bool))->Option (Step (Int×(List Bool)) (Out Unit Bool))
 |(x4,x5)=>(if decide (x4<((l.Own++l.Global).length:Int)) then(idx (l.Own++l.Global) x4).bind λx6=>(if decide (x4<(l.Own.length:Int)) then nO x4 x5 x6 (decide (2<(x6.aR.length:Int))) else nO x4 x5 x6 false) else some (.stop (Out.brk ())))
def aDA:(Out Unit Bool)->Option Bool
 |.brk ()=>aC9
 |.ret r=>some r
def AR(l:aD)(x1:Bool):=
 (if x1 then some false else need (l.Own.length+l.Global.length<=1073741824) ((loop (tG l) (0,List.replicate 24 false)).bind (aDA)))
def oE(l:aD):=
 (if(l.Global.length:Int) != 3 then AR l true else AR l ((l.Own.length:Int) != 9))
def GR(w_ c:Int)(x1:Bool):=
 (if x1 then some (-1) else some (bC ((bC (w_*3))+c)))
def KY(w_ c:Int):=
 (fX w_).bind λx2=>(if !x2 then GR w_ c true else(jX c).bind λx3=>GR w_ c (!x3))
def vW(s:aW):=
 (if decide ((bC ((s.aR.length:Int)-1))<0) then some ((-1),s) else(idx s.aR (bC ((s.aR.length:Int)-1))).bind λx1=>need (0<=(bC ((s.aR.length:Int)-1):Int)/\(bC ((s.aR.length:Int)-1):Int)<=(bC ((s.aR.length:Int)-1):Int)/\(bC ((s.aR.length:Int)-1):Int)<=(s.aR.length:Int)) (some (x1,(⟨(s.aR.take ((bC ((s.aR.length:Int)-1)).toNat)).drop 0⟩:aW))))
def AS(x1:aD)(x2:Int)(x3:Bool):=
 (if x3 then some (x1,(-1)) else(idx x1.Own x2).bind λx4=>(vW x4).bind λx5=>some ((⟨x1.Global,x1.Own.set x2.toNat x5.2⟩:aD),x5.1))
def JZ(l:aD)(w_ c:Int):=
 (iB l).bind λx1=>(KY w_ c).bind λx2=>(oE l).bind λx6=>(if !x6 then AS x1 x2 true else AS x1 x2 (decide (x2<0)))
def rU(c:Int)(x1:aD)(x2:Bool):=
 (if x2 then some (x1,(-1)) else(idx x1.Global c).bind λx3=>(vW x3).bind λx4=>some ((⟨x1.Global.set c.toNat x4.2,x1.Own⟩:aD),x4.1))
def AT(l:aD)(c:Int):=
 (iB l).bind λx1=>(oE l).bind λx5=>(if !x5 then rU c x1 true else(jX c).bind λx6=>rU c x1 (!x6))
def IX:=
 some (-1)
def eM(s:List Int)(v:Int):Int->Option (Step Int (Out Unit Int))
 |x2=>(if decide (x2<(s.length:Int)) then(idx s x2).bind λx3=>(if v == x3 then some (.stop (Out.ret x2)) else some (.next (bC (x2+1)))) else some (.stop (Out.brk ())))
def yT:(Out Unit Int)->Option Int
 |.brk ()=>IX
 |.ret r=>some r
def l4(s:List Int)(v:Int):=
 (loop (eM s v) 0).bind (yT)
def KZ(b x5:List Int):=
 need (x5.length=b.length) (some x5)
def j7(b:List Int)(at_:Int)(text:List UInt8):((List Int)×Int)->Option (Step ((List Int)×Int) (List Int))
 |(x3,x4)=>need (x3.length=b.length) ((if decide (x4<(text.length:Int)) then(idx text x4).bind λx6=>(idx x3 (bC (at_+x4))).bind λx7=>some (.next (x3.set ((bC (at_+x4)).toNat) (x6.toNat:Int),bC (x4+1))) else some (.stop (x3))))
def K0(b:List Int):(List Int)->Option (List Int)
 |x5=>KZ b x5
def lT(b:List Int)(at_:Int)(text:List UInt8):=
 (loop (j7 b at_ text) (b,0)).bind (K0 b)
def xO(width:Int):=
 (cC width 1 7).bind λx1=>some x1
def aJH(x8:List UInt8):=
 some x8
def o4:(Int×(List UInt8)×Int)->Option (Step (Int×(List UInt8)×Int) (List UInt8))
 |(x5,x6,x7)=>(if decide (0<=x7) then(idx x6 x7).bind λx9=>some (.next (zA .i64 x5 8,x6.set x7.toNat (u8 x5),bC (x7-1))) else some (.stop (x6)))
def aJI:(List UInt8)->Option (List UInt8)
 |x8=>aJH x8
def tZ(n width:Int)(x1:Bool):=
 (if x1 then some ([]) else need (0<=(width:Int)/\(width:Int)<=4294967296) ((loop (o4) (n,List.replicate (width.toNat) 0,bC (width-1))).bind (aJI)))
def kS(n width:Int):=
 (xO width).bind λx10=>(if !x10 then tZ n width true else(if decide (n<0) then tZ n width true else need (0<=(IntKind.u64.wrap (bC (8*width)):Int)) (tZ n width (decide ((aFB .i64 1 (IntKind.u64.wrap (bC (8*width))))<=n)))))
def uA(h:Heap):=
 (jR h.Bytes).bind λx1=>(jR h.Class).bind λx2=>some (⟨x1,x2⟩:Heap)
def CC:=
 some (-1)
def iP(s:List Int)(f:(Int->Option Bool)):Int->Option (Step Int (Out Unit Int))
 |x2=>(if decide (x2<(s.length:Int)) then(idx s x2).bind λx3=>(f x3).bind λx4=>(if x4 then some (.stop (Out.ret x2)) else some (.next (bC (x2+1)))) else some (.stop (Out.brk ())))
def qG:(Out Unit Int)->Option Int
 |.brk ()=>CC
 |.ret r=>some r
def vX(s:List Int)(f:(Int->Option Bool)):=
 (loop (iP s f) 0).bind (qG)
def gJ(s:List Int)(f:(Int->Option Bool)):=
 (vX s f).bind λx1=>some (decide (0<=x1))
def UH(x:Int):=
 (cC x 0 255).bind λx1=>some x1
def D3(x:Int):=
 (UH x).bind λx1=>some (!x1)
def AU(x1:Bool):=
 some x1
def J0(b:List Int):=
 (if decide ((b.length:Int)<=1000) then(gJ b (λy0=>D3 y0)).bind λx2=>AU (!x2) else AU false)
def GS(c:Int):=
 (cC c (-1) 2).bind λx1=>some (!x1)
def qH(x1:Bool):=
 some x1
def HI(h:Heap):=
 (if(h.Bytes.length:Int) == 384 then(J0 h.Bytes).bind λx2=>(if x2 then(if(h.Class.length:Int) == 6 then(gJ h.Class (λy0=>GS y0)).bind λx3=>qH (!x3) else qH false) else qH false) else qH false)
def aDB(x5:Int):=
 some x5
def tH(b:List Int)(at_ width:Int):(Int×Int)->Option (Step (Int×Int) Int)
 |(x3,x4)=>(if decide (x4<(((b.take ((bC (at_+width)).toNat)).drop at_.toNat).length:Int)) then(idx ((b.take ((bC (at_+width)).toNat)).drop at_.toNat) x4).bind λx6=>some (.next (bC ((bC (256*x3))+x6),bC (x4+1))) else some (.stop (x3)))
def aDC:Int->Option Int
 |x5=>aDB x5
def oF(b:List Int)(at_ width:Int):=
 need (0<=(at_:Int)/\(at_:Int)<=(bC (at_+width):Int)/\(bC (at_+width):Int)<=(b.length:Int)) ((loop (tH b at_ width) (0,0)).bind (aDC))
def uB(c:Int):=
 (jX c).bind λx1=>(if !x1 then some 0 else(CB c).bind λx2=>some (bC (4+x2)))
def oG(c:Int):=
 (jX c).bind λx1=>(if !x1 then some 0 else(uB c).bind λx2=>need (x2≠0) (some (bC (Int.tdiv 56 x2))))
def GU(x:Int):=
 some (x != 0)
def HJ(b:List Int):=
 (gJ b (λy0=>GU y0)).bind λx1=>some (!x1)
def aGD:=
 some true
def qI(h:Heap)(page x1 x4:Int):Int->Option (Step Int (Out Unit Bool))
 |x6=>(if decide (x6<x4) then(uB x1).bind λx7=>(oF ((h.Bytes.take ((bC ((bC (page+1))*64)).toNat)).drop ((bC (page*64)).toNat)) (bC (8+(bC (x6*x7)))) 4).bind λx8=>(cC x8 1 7).bind λx9=>(if !x9 then some (.stop (Out.ret false)) else some (.next (bC (x6+1)))) else some (.stop (Out.brk ())))
def aGE:(Out Unit Bool)->Option Bool
 |.brk ()=>aGD
 |.ret r=>some r
def i5(h:Heap)(page x1:Int)(x3:Bool):=
 (if x3 then some false else(oG x1).bind λx4=>(loop (qI h page x1 x4) 0).bind (aGE))
def M7(h:Heap)(page:Int):=
 (idx h.Class page).bind λx1=>need (0<=(bC (page*64):Int)/\(bC (page*64):Int)<=(bC ((bC (page+1))*64):Int)/\(bC ((bC (page+1))*64):Int)<=(h.Bytes.length:Int)) ((if decide (x1<0) then(HJ ((h.Bytes.take ((bC ((bC (page+1))*64)).toNat)).drop ((bC (page*64)).toNat))).bind λx2=>some x2 else(idx ((h.Bytes.take ((bC ((bC (page+1))*64)).toNat)).drop ((bC (page*64)).toNat)) 0).bind λx10=>(if x10 != 171 then i5 h page x1 true else(idx ((h.Bytes.take ((bC ((bC (page+1))*64)).toNat)).drop ((bC (page*64)).toNat)) 1).bind λx11=>(if x11 != x1 then i5 h page x1 true else(idx ((h.Bytes.take ((bC ((bC (page+1))*64)).toNat)).drop ((bC (page*64)).toNat)) 2).bind λx12=>(oG x1).bind λx13=>(if x12 != x13 then i5 h page x1 true else need (0<=(3:Int)/\(3:Int)<=(8:Int)/\(8:Int)<=(((h.Bytes.take ((bC ((bC (page+1))*64)).toNat)).drop ((bC (page*64)).toNat)).length:Int)) ((HJ ((((h.Bytes.take ((bC ((bC (page+1))*64)).toNat)).drop ((bC (page*64)).toNat)).take ((8:Int).toNat)).drop ((3:Int).toNat))).bind λx14=>i5 h page x1 (!x14)))))))
def aGF:=
 some true
def vY(h:Heap):Int->Option (Step Int (Out Unit Bool))
 |x3=>(if decide (x3<6) then(M7 h x3).bind λx4=>(if !x4 then some (.stop (Out.ret false)) else some (.next (bC (x3+1)))) else some (.stop (Out.brk ())))
def aGG:(Out Unit Bool)->Option Bool
 |.brk ()=>aGF
 |.ret r=>some r
def HK(h:Heap):=
 (HI h).bind λx1=>(if !x1 then some false else(loop (vY h) 0).bind (aGG))
def zO(slot c:Int)(x1:Bool):=
 (if x1 then some (-1) else(uB c).bind λx2=>some (bC ((bC ((bC ((bC (Int.tdiv slot 4))*64))+8))+(bC ((Int.tmod slot 4)*x2)))))
def vZ(slot c:Int):=
 (rH slot).bind λx3=>(if !x3 then zO slot c true else(jX c).bind λx4=>(if !x4 then zO slot c true else(oG c).bind λx5=>zO slot c (decide (x5<=(Int.tmod slot 4)))))
def D4(page index:Int)(x1:Bool):=
 (if x1 then some (-1) else some (bC ((bC (page*4))+index)))
def M8(page index:Int):=
 (cC page 0 5).bind λx2=>(if !x2 then D4 page index true else(cC index 0 3).bind λx3=>D4 page index (!x3))
def aJJ(c:Int)(x1:Heap)(x2:Int)(x13 x14:List Int):=
 some ((⟨x14,x1.Class.set x2.toNat c⟩:Heap),x13)
def NY(x10:List Int)(x11 x15:Int)(x16:List Int):Option (Step ((List Int)×Int×(List Int)) ((List Int)×(List Int))):=
 need (x10.length+([x15]).length<=1073741824) (some (.next (x10++([x15]),bC (x11+1),x16)))
def GV(c x2 x6:Int):((List Int)×Int×(List Int))->Option (Step ((List Int)×Int×(List Int)) ((List Int)×(List Int)))
 |(x10,x11,x12)=>(if decide (x11<x6) then(M8 x2 x11).bind λx15=>(vZ x15 c).bind λx17=>(kS 1 4).bind λx18=>(lT x12 x17 x18).bind λx19=>NY x10 x11 x15 x19 else some (.stop ((x10,x12))))
def aJK(c:Int)(x1:Heap)(x2:Int):((List Int)×(List Int))->Option (Heap×(List Int))
 |(x13,x14)=>aJJ c x1 x2 x13 x14
def NZ(c:Int)(x1:Heap)(x2:Int)(x5:List Int):=
 (oG c).bind λx6=>(loop (GV c x2 x6) (([]:List Int),0,x5)).bind (aJK c x1 x2)
def zP(c:Int)(x1:Heap)(x2:Int)(x3:Bool):=
 (if x3 then some (x1,([]:List Int)) else(idx x1.Class x2).bind λx4=>need (0<=(bC (x2*64):Int)/\(bC (x2*64):Int)<=(x1.Bytes.length:Int))<|(oG c).bind λx20=>NZ c x1 x2 (cO x1.Bytes ((bC (x2*64)).toNat) ([171,c,x20]:List Int)))
def FV(h:Heap)(c:Int):=
 (uA h).bind λx1=>(l4 h.Class (-1)).bind λx2=>(HK h).bind λx21=>(if !x21 then zP c x1 x2 true else(jX c).bind λx22=>(if !x22 then zP c x1 x2 true else zP c x1 x2 (decide (x2<0))))
def H9(x4:Int)(x5:Mem):=
 some (x5,x4)
def IA(c:Int)(x1:Heap×(List Int))(x2:Mem):=
 (if(x1.2.length:Int) == 0 then some (x2,(-1)) else(idx x2.aD.Global c).bind λx3=>need (0<=(1:Int)/\(1:Int)<=(x1.2.length:Int)) (need (x3.aR.length+((x1.2.take x1.2.length).drop ((1:Int).toNat)).length<=1073741824) ((idx x1.2 0).bind λx6=>H9 x6 (⟨x2.Heap,(⟨x2.aD.Global.set c.toNat (⟨x3.aR++((x1.2.take x1.2.length).drop ((1:Int).toNat))⟩:aW),x2.aD.Own⟩:aD)⟩:Mem))))
def J1(m:Mem)(c:Int):=
 (FV m.Heap c).bind λx1=>(iB m.aD).bind λx7=>IA c x1 (⟨x1.1,x7⟩:Mem)
def AV(h:Heap)(slot:Int)(x1:Bool):=
 (if x1 then some (-1) else(idx h.Class (bC (Int.tdiv slot 4))).bind λx2=>some x2)
def jY(h:Heap)(slot:Int):=
 (rH slot).bind λx3=>(if !x3 then AV h slot true else(idx h.Class (bC (Int.tdiv slot 4))).bind λx4=>(vZ slot x4).bind λx5=>AV h slot (decide (x5<0)))
def D5(h:Heap)(slot:Int):=
 (HI h).bind λx1=>(if !x1 then some (-1) else(jY h slot).bind λx2=>some x2)
def BG(h:Heap)(slot:Int):=
 (D5 h slot).bind λx1=>(if decide (x1<0) then some 0 else(vZ slot x1).bind λx2=>(oF h.Bytes x2 4).bind λx3=>some x3)
def xP(slot gen:Int)(x1:Bool):=
 (if x1 then some 0 else some (bC ((bC (gen*32))+slot)))
def N0(slot gen:Int):=
 (rH slot).bind λx2=>(if !x2 then xP slot gen true else(cC gen 1 6).bind λx3=>xP slot gen (!x3))
def GW(m:Mem)(slot:Int):=
 (BG m.Heap slot).bind λx1=>(N0 slot x1).bind λx2=>some x2
def iA(s:Sub)(x3:Int)(x4:aA):=
 (if decide (0<=x3) then(GW x4.Mem x3).bind λx5=>(bJ ({s with Out:=x5}:Sub) 0).bind λx6=>some (x6,x4) else(if s.Pc == 3 then(bJ s 3).bind λx7=>some (x7,x4) else some (({s with Pc:=bC (s.Pc+1)}:Sub),x4)))
def mU(s:Sub)(b:aA)(x1:Int)(x9:Bool):=
 (if x9 then(AT b.Mem.aD x1).bind λx10=>iA s x10.2 ({b with Mem:=(⟨b.Mem.Heap,x10.1⟩:Mem)}:aA) else(if s.Pc == 2 then(J1 b.Mem x1).bind λx11=>iA s x11.2 ({b with Mem:=x11.1}:aA) else(bJ s 1).bind λx12=>some (x12,b)))
def rV(s:Sub)(b:aA)(w_:Int):=
 (JY s.A).bind λx1=>(if decide (x1<0) then(bJ s 2).bind λx2=>some (x2,b) else(if s.Pc == 0 then(JZ b.Mem.aD w_ x1).bind λx8=>iA s x8.2 ({b with Mem:=(⟨b.Mem.Heap,x8.1⟩:Mem)}:aA) else(if s.Pc == 1 then mU s b x1 true else mU s b x1 (s.Pc == 3))))
def yJ:=
 some (-1)
def jK(s:List bR)(f:(bR->Option Bool)):Int->Option (Step Int (Out Unit Int))
 |x2=>(if decide (x2<(s.length:Int)) then(idx s x2).bind λx3=>(f x3).bind λx4=>(if x4 then some (.stop (Out.ret x2)) else some (.next (bC (x2+1)))) else some (.stop (Out.brk ())))
def yK:(Out Unit Int)->Option Int
 |.brk ()=>yJ
 |.ret r=>some r
def rW(s:List bR)(f:(bR->Option Bool)):=
 (loop (jK s f) 0).bind (yK)
def jL(s:List bR)(f:(bR->Option Bool)):=
 (rW s f).bind λx1=>some (decide (0<=x1))
def zQ:=
 some (-1)
def jZ(s:List eA)(f:(eA->Option Bool)):Int->Option (Step Int (Out Unit Int))
 |x2=>(if decide (x2<(s.length:Int)) then(idx s x2).bind λx3=>(f x3).bind λx4=>(if x4 then some (.stop (Out.ret x2)) else some (.next (bC (x2+1)))) else some (.stop (Out.brk ())))
def zR:(Out Unit Int)->Option Int
 |.brk ()=>zQ
 |.ret r=>some r
def uG(s:List eA)(f:(eA->Option Bool)):=
 (loop (jZ s f) 0).bind (zR)
def j3(s:List eA)(f:(eA->Option Bool)):=
 (uG s f).bind λx1=>some (decide (0<=x1))
def xQ(x1:Bool):=
 some x1
def iC(h:Int):=
 (cC h 32 223).bind λx2=>(if x2 then xQ (decide ((Int.tmod h 32)<24)) else xQ false)
def pI(x1:Bool):=
 some x1
def qJ(r_:eA)(k0:Int):=
 (iC r_.Handle).bind λx2=>(if x2 then pI ((Int.tmod r_.Handle 32) == k0) else pI false)
def D6(own:bR)(k0:Int):=
 (j3 own.Rows (λy0=>qJ y0 k0)).bind λx1=>some x1
def D7(l:List bR)(slot:Int):=
 (jL l (λy0=>D6 y0 slot)).bind λx1=>some x1
def lC(s:List Int)(v:Int):=
 (l4 s v).bind λx1=>some (decide (0<=x1))
def o5(s:aW)(k0:Int):=
 (lC s.aR k0).bind λx1=>some x1
def yL:=
 some (-1)
def jM(s:List aW)(f:(aW->Option Bool)):Int->Option (Step Int (Out Unit Int))
 |x2=>(if decide (x2<(s.length:Int)) then(idx s x2).bind λx3=>(f x3).bind λx4=>(if x4 then some (.stop (Out.ret x2)) else some (.next (bC (x2+1)))) else some (.stop (Out.brk ())))
def yN:(Out Unit Int)->Option Int
 |.brk ()=>yL
 |.ret r=>some r
def rX(s:List aW)(f:(aW->Option Bool)):=
 (loop (jM s f) 0).bind (yN)
def g7(s:List aW)(f:(aW->Option Bool)):=
 (rX s f).bind λx1=>some (decide (0<=x1))
def D8(x1:Bool):=
 some x1
def HL(l:aD)(slot:Int):=
 (g7 l.Global (λy0=>o5 y0 slot)).bind λx2=>(if x2 then D8 true else(g7 l.Own (λy0=>o5 y0 slot)).bind λx3=>D8 x3)
def J2(m:Mem)(slot:Int):Option Int:=
 (jY m.Heap slot).bind λx1=>(if decide (x1<0) then some 0 else(HL m.aD slot).bind λx2=>(if x2 then some 1 else(BG m.Heap slot).bind λx3=>(if decide (6<x3) then some 2 else some 3)))
def v7(x1:Bool):=
 some x1
def CD(m:Mem)(h:Int):=
 (iC h).bind λx2=>(if x2 then(J2 m (Int.tmod h 32)).bind λx3=>(if x3 == 3 then(BG m.Heap (Int.tmod h 32)).bind λx4=>v7 (x4 == (bC (Int.tdiv h 32))) else v7 false) else v7 false)
def uR(s:List eA):=
 need (([]:List eA).length+s.length<=1073741824) (some (([]:List eA)++s))
def Y9(x5:List bR):=
 some x5
def D9(l:List bR):((List bR)×Int)->Option (Step ((List bR)×Int) (List bR))
 |(x3,x4)=>(if decide (x4<(l.length:Int)) then(idx l x4).bind λx6=>(uR x6.Rows).bind λx7=>need (x3.length+([(⟨x7⟩:bR)]).length<=1073741824) (some (.next (x3++([(⟨x7⟩:bR)]),bC (x4+1)))) else some (.stop (x3)))
def ZA:(List bR)->Option (List bR)
 |x5=>Y9 x5
def mJ(l:List bR):=
 (loop (D9 l) (([]:List bR),0)).bind (ZA)
def ZB(x5:Int):=
 some x5
def oH(l:List bR):(Int×Int)->Option (Step (Int×Int) Int)
 |(x3,x4)=>(if decide (x4<(l.length:Int)) then(idx l x4).bind λx6=>some (.next (bC (x3+(x6.Rows.length:Int)),bC (x4+1))) else some (.stop (x3)))
def ZC:Int->Option Int
 |x5=>ZB x5
def qK(l:List bR):=
 (loop (oH l) (0,0)).bind (ZC)
def SC(l:List bR):=
 (qK l).bind λx5=>some (decide (x5<=24))
def SD(x3:Int)(x11:List Bool):Option (Step (Int×(List Bool)) (Out Unit Bool)):=
 some (.next (bC (x3+1),x11))
def kU(x9:Int)(x10:List Bool)(x12:eA)(x13:Bool):Option (Step (Int×(List Bool)) (Out (List Bool) Bool)):=
 (if x13 then some (.stop (Out.ret false)) else need (0<=(Int.tmod x12.Handle 32:Int)/\(Int.tmod x12.Handle 32:Int)<24) ((idx (x10:List Bool) (Int.tmod x12.Handle 32)).bind λx14=>some (.next (bC (x9+1),x10.set ((Int.tmod x12.Handle 32).toNat) true))))
def tI(x6:bR):(Int×(List Bool))->Option (Step (Int×(List Bool)) (Out (List Bool) Bool))
 |(x9,x10)=>(if decide (x9<(x6.Rows.length:Int)) then(idx x6.Rows x9).bind λx12=>(iC x12.Handle).bind λx15=>(if !x15 then kU x9 x10 x12 true else(cC x12.aO 0 100000).bind λx16=>(if !x16 then kU x9 x10 x12 true else need (0<=(Int.tmod x12.Handle 32:Int)/\(Int.tmod x12.Handle 32:Int)<24) ((idx (x10:List Bool) (Int.tmod x12.Handle 32)).bind λx17=>kU x9 x10 x12 x17))) else some (.stop (Out.brk x10)))
def SF(x3:Int):(Out (List Bool) Bool)->Option (Step (Int×(List Bool)) (Out Unit Bool))
 |.brk x11=>SD x3 x11
 |.ret r=>some (.stop (Out.ret r))
def tJ(l:List bR):(Int×(List Bool))->Option (Step (Int×(List Bool)) (Out Unit Bool))
 |(x3,x4)=>(if decide (x3<(l.length:Int)) then(idx l x3).bind λx6=>(loop (tI x6) (0,x4)).bind (SF x3) else some (.stop (Out.brk ())))
def SG(l:List bR):(Out Unit Bool)->Option Bool
 |.brk ()=>SC l
 |.ret r=>some r
def xR(l:List bR):=
 (if(l.length:Int) != 3 then some false else(loop (tJ l) (0,List.replicate 24 false)).bind (SG l))
def xS(l:List bR)(w_ h e_:Int)(x1:Bool):=
 (if x1 then(mJ l).bind λx2=>some (x2,false) else(mJ l).bind λx3=>(idx x3 w_).bind λx4=>need (x4.Rows.length+([(⟨h,e_⟩:eA)]).length<=1073741824) ((xR (x3.set w_.toNat (⟨x4.Rows++([(⟨h,e_⟩:eA)])⟩:bR))).bind λx5=>(if !x5 then(mJ l).bind λx6=>some (x6,false) else some (x3.set w_.toNat (⟨x4.Rows++([(⟨h,e_⟩:eA)])⟩:bR),true))))
def GX(l:List bR)(w_ h e_:Int):=
 (xR l).bind λx7=>(if !x7 then xS l w_ h e_ true else(fX w_).bind λx8=>xS l w_ h e_ (!x8))
def lN(s:Sub)(b:aA)(w_:Int)(x3:Bool):=
 (if x3 then(bJ s 4).bind λx4=>some (x4,b) else(GX b.a8 w_ s.A s.E).bind λx5=>(bJ s 0).bind λx6=>some (x6,({b with a8:=x5.1}:aA)))
def lO(s:Sub)(b:aA)(w_:Int)(x1:Bool):=
 (if x1 then(bJ s 1).bind λx2=>some (x2,b) else(CD b.Mem s.A).bind λx7=>(if !x7 then lN s b w_ true else(D7 b.a8 (Int.tmod s.A 32)).bind λx8=>lN s b w_ x8))
def pJ(s:Sub)(b:aA)(w_:Int):=
 (if s.Pc == 0 then some (({s with Pc:=1,E:=b.aI.aO}:Sub),b) else(if s.Pc != 1 then lO s b w_ true else(cC s.E 0 b.aI.aO).bind λx9=>lO s b w_ (!x9)))
def xT(s:List vC):=
 need (([]:List vC).length+s.length<=1073741824) (some (([]:List vC)++s))
def mK(c:aI):=
 (xT c.bX).bind λx1=>some (⟨c.aO,x1⟩:aI)
def CE:=
 some (-1)
def iQ(s:List vC)(f:(vC->Option Bool)):Int->Option (Step Int (Out Unit Int))
 |x2=>(if decide (x2<(s.length:Int)) then(idx s x2).bind λx3=>(f x3).bind λx4=>(if x4 then some (.stop (Out.ret x2)) else some (.next (bC (x2+1)))) else some (.stop (Out.brk ())))
def qL:(Out Unit Int)->Option Int
 |.brk ()=>CE
 |.ret r=>some r
def v8(s:List vC)(f:(vC->Option Bool)):=
 (loop (iQ s f) 0).bind (qL)
def kK(s:List vC)(f:(vC->Option Bool)):=
 (v8 s f).bind λx1=>some (decide (0<=x1))
def kL(x1:Bool):=
 some x1
def wA(p:vC)(k0:aI):=
 (cC p.aO 0 k0.aO).bind λx2=>(if !x2 then kL true else(cC p.Seen 0 2).bind λx3=>(if !x3 then kL true else(if !p.On then kL (!(decide (p=(⟨false,0,false,0⟩:vC)))) else kL false)))
def tK(x1:Bool):=
 some x1
def rY(c:aI):=
 (cC c.aO 0 100000).bind λx2=>(if x2 then(if(c.bX.length:Int) == 3 then(kK c.bX (λy0=>wA y0 c)).bind λx3=>tK (!x3) else tK false) else tK false)
def qM(w_:Int)(x1:aI)(x4:Bool):=
 (if x4 then some (x1,true) else(idx x1.bX w_).bind λx5=>(if decide (x5.Seen<2) then some ((⟨x1.aO,x1.bX.set w_.toNat ({x5 with Seen:=bC (x5.Seen+1)}:vC)⟩:aI),false) else some ((⟨x1.aO,x1.bX.set w_.toNat ({x5 with g9:=true,Seen:=0}:vC)⟩:aI),true)))
def EA(w_ e_:Int)(x1:aI)(x2:Bool):=
 (if x2 then some (x1,false) else(idx x1.bX w_).bind λx3=>(if !x3.On then qM w_ x1 true else(if x3.g9 then qM w_ x1 true else qM w_ x1 (x3.aO == e_))))
def M9(c:aI)(w_ e_:Int):=
 (mK c).bind λx1=>(rY c).bind λx6=>(if !x6 then EA w_ e_ x1 true else(fX w_).bind λx7=>EA w_ e_ x1 (!x7))
def EB(x1:aI)(x2:Bool):=
 (if x2 then some (x1,false) else some ((⟨bC (x1.aO+1),x1.bX⟩:aI),true))
def VX(c:aI)(e_:Int):=
 (mK c).bind λx1=>(rY c).bind λx3=>(if !x3 then EB x1 true else(if c.aO != e_ then EB x1 true else EB x1 (c.aO == 100000)))
def kM(s:Sub)(b:aA)(x4:aI×Bool)(x5:Int):=
 (bJ ({s with Out:=x5}:Sub) 0).bind λx6=>some (x6,({b with aI:=x4.1}:aA))
def kN(s:Sub)(b:aA)(x1:Bool):=
 (if x1 then(M9 b.aI s.B s.E).bind λx2=>(if !x2.2 then(bJ s 8).bind λx3=>some (x3,({b with aI:=x2.1}:aA)) else(if(bC (s.B+1)) == 3 then some (({s with Pc:=2,B:=bC (s.B+1)}:Sub),({b with aI:=x2.1}:aA)) else some (({s with B:=bC (s.B+1)}:Sub),({b with aI:=x2.1}:aA)))) else(if s.Pc == 2 then(VX b.aI s.E).bind λx4=>(if x4.2 then kM s b x4 1 else kM s b x4 s.Out) else(bJ s 1).bind λx7=>some (x7,b)))
def oJ(s:Sub)(b:aA):=
 (if s.Pc == 0 then some (({s with Pc:=1,E:=b.aI.aO,B:=0}:Sub),b) else(if s.Pc == 1 then(fX s.B).bind λx8=>kN s b x8 else kN s b false))
def K1(x3 x5:List Int):=
 some ((⟨x5,x3⟩:Heap),true)
def EC(slot gen x1:Int)(x2 x3:List Int)(x4:Bool):=
 (if x4 then some ((⟨x2,x3⟩:Heap),false) else(vZ slot x1).bind λx6=>(kS gen 4).bind λx7=>(lT x2 x6 x7).bind λx8=>K1 x3 x8)
def K2(slot gen x1:Int)(x2 x3:List Int):=
 (if decide (x1<0) then EC slot gen x1 x2 x3 true else(cC gen 1 7).bind λx9=>EC slot gen x1 x2 x3 (!x9))
def UI(h:Heap)(slot gen:Int):=
 (uA h).bind λx10=>(D5 h slot).bind λx11=>K2 slot gen x11 x10.Bytes x10.Class
def xU(c slot:Int)(x1:aD)(x2:Int)(x3:Bool):=
 (if x3 then some (x1,false) else(idx x1.Own x2).bind λx4=>(if decide (2<=(x4.aR.length:Int)) then(idx x1.Global c).bind λx5=>need (x5.aR.length+([slot]).length<=1073741824) (some ((⟨x1.Global.set c.toNat (⟨x5.aR++([slot])⟩:aW),x1.Own⟩:aD),true)) else need (x4.aR.length+([slot]).length<=1073741824) (some ((⟨x1.Global,x1.Own.set x2.toNat (⟨x4.aR++([slot])⟩:aW)⟩:aD),true))))
def aAV(l:aD)(w_ c slot:Int):=
 (iB l).bind λx1=>(KY w_ c).bind λx2=>(oE l).bind λx6=>(if !x6 then xU c slot x1 x2 true else(if decide (x2<0) then xU c slot x1 x2 true else(rH slot).bind λx7=>(if !x7 then xU c slot x1 x2 true else(HL l slot).bind λx8=>xU c slot x1 x2 x8)))
def N2(x3:Mem):=
 some x3
def N3(m:Mem)(w_ h:Int)(x2:Mem):=
 (if decide ((bC ((bC (Int.tdiv h 32))+1))<=6) then(jY m.Heap (Int.tmod h 32)).bind λx4=>(aAV m.aD w_ x4 (Int.tmod h 32)).bind λx5=>N2 (⟨x2.Heap,x5.1⟩:Mem) else N2 x2)
def K3(m:Mem)(w_ h:Int):=
 (UI m.Heap (Int.tmod h 32) (bC ((bC (Int.tdiv h 32))+1))).bind λx1=>(iB m.aD).bind λx6=>N3 m w_ h (⟨x1.1,x6⟩:Mem)
def ED(x1:Bool):=
 some x1
def HM(l:List bR)(w_ i:Int):=
 (fX w_).bind λx2=>(if x2 then(idx l w_).bind λx3=>(cC i 0 (bC ((x3.Rows.length:Int)-1))).bind λx4=>ED x4 else ED false)
def J3(x1:Bool):=
 some x1
def PD(r_:eA)(e_:Int):=
 (if decide (2<=e_) then J3 (decide (r_.aO<=(bC (e_-2)))) else J3 false)
def HN(s:Sub)(b:aA):=
 (bJ s 0).bind λx3=>some (x3,b)
def eV(s:Sub)(b:aA)(w_:Int):Int->Option (Step Int (Out Unit (Sub×aA)))
 |x2=>(idx b.a8 w_).bind λx4=>(if decide (x2<(x4.Rows.length:Int)) then(idx x4.Rows x2).bind λx5=>(PD x5 s.E).bind λx6=>(if x6 then some (.stop (Out.ret (({s with Pc:=2,Row:=x2,B:=0,H:=x5.Handle}:Sub),b))) else some (.next (bC (x2+1)))) else some (.stop (Out.brk ())))
def UJ(s:Sub)(b:aA):(Out Unit (Sub×aA))->Option (Sub×aA)
 |.brk ()=>HN s b
 |.ret r=>some r
def oK(s:Sub)(b:aA)(w_:Int):=
 (loop (eV s b w_) (if s.Row<0 then 0 else s.Row)).bind (UJ s b)
def BH(s:List eA)(i j:Int):=
 need (0<=(i:Int)/\(i:Int)<=(j:Int)/\(j:Int)<=((s.length:Int):Int)/\((s.length:Int):Int)<=(s.length:Int)) ((if i == j then some s else need (0<=(i:Int)/\(i:Int)<=(s.length:Int)) (need (0<=(j:Int)/\(j:Int)<=(s.length:Int)) (need (i.toNat<=j.toNat) (need (0<=(((((cO s i.toNat (s.drop j.toNat)).take (i.toNat+(s.length-j.toNat))).drop 0).length:Int):Int)/\(((((cO s i.toNat (s.drop j.toNat)).take (i.toNat+(s.length-j.toNat))).drop 0).length:Int):Int)<=((s.length:Int):Int)/\((s.length:Int):Int)<=((cO s i.toNat (s.drop j.toNat)).length:Int)) (some (((cO s i.toNat (s.drop j.toNat)).take (i.toNat+(s.length-j.toNat))).drop 0)))))))
def AW(w_ i:Int)(x1:(List bR))(x2:Bool):=
 (if x2 then some (x1,false) else(idx x1 w_).bind λx3=>(BH x3.Rows i (bC (i+1))).bind λx4=>some (x1.set w_.toNat (⟨x4⟩:bR),true))
def J4(l:List bR)(w_ i:Int):=
 (mJ l).bind λx1=>(xR l).bind λx5=>(if !x5 then AW w_ i x1 true else(HM l w_ i).bind λx6=>AW w_ i x1 (!x6))
def dC(s:Sub)(b:aA)(w_:Int)(x5:Bool):=
 (if x5 then(J4 b.a8 w_ s.Row).bind λx6=>(K3 b.Mem w_ s.H).bind λx7=>some (({s with Pc:=1,Out:=bC (s.Out+1)}:Sub),({b with Mem:=x7,a8:=x6.1}:aA)) else(bJ s 1).bind λx8=>some (x8,b))
def eH(s:Sub)(b:aA)(w_:Int)(x1 x3:Bool):=
 (if x3 then(idx b.kZ s.B).bind λx4=>(if x4 == s.H then some (({s with Pc:=1,Row:=bC (s.Row+1)}:Sub),b) else(if(bC (s.B+1)) == 3 then some (({s with Pc:=3,B:=bC (s.B+1)}:Sub),b) else some (({s with B:=bC (s.B+1)}:Sub),b))) else(if s.Pc == 3 then(if x1 then(idx b.a8 w_).bind λx9=>(idx x9.Rows s.Row).bind λx10=>(PD x10 s.E).bind λx11=>dC s b w_ x11 else dC s b w_ false) else dC s b w_ false))
def fK(s:Sub)(b:aA)(w_:Int)(x1:Bool):=
 (if s.Pc == 0 then some (({s with Pc:=1,E:=b.aI.aO,Row:=0}:Sub),b) else(if s.Pc == 1 then(oK s b w_).bind λx2=>some (x2.1,x2.2) else(if s.Pc == 2 then(fX s.B).bind λx12=>(if x12 then eH s b w_ x1 x1 else eH s b w_ x1 false) else eH s b w_ x1 false)))
def oL(s:Sub)(b:aA)(w_:Int):=
 (HM b.a8 w_ s.Row).bind λx13=>(if x13 then(idx b.a8 w_).bind λx14=>(idx x14.Rows s.Row).bind λx15=>fK s b w_ (x15.Handle == s.H) else fK s b w_ false)
def zS(w_ e_:Int)(x1:aI)(x2:Bool):=
 (if x2 then some (x1,false) else(idx x1.bX w_).bind λx3=>some ((⟨x1.aO,x1.bX.set w_.toNat (⟨true,e_,false,0⟩:vC)⟩:aI),true))
def QM(c:aI)(w_ e_:Int):=
 (mK c).bind λx1=>(rY c).bind λx4=>(if !x4 then zS w_ e_ x1 true else(fX w_).bind λx5=>(if !x5 then zS w_ e_ x1 true else(cC e_ 0 c.aO).bind λx6=>zS w_ e_ x1 (!x6)))
def yU(s:Sub)(b:aA)(x1:Bool)(x2:Int)(x3:List vC):=
 (if !x1 then(bJ s 1).bind λx4=>some (x4,b) else some (({s with Pc:=2}:Sub),({b with aI:=(⟨x2,x3⟩:aI)}:aA)))
def xV(s:Sub)(b:aA)(w_:Int):=
 (if s.Pc == 0 then some (({s with Pc:=1,E:=b.aI.aO}:Sub),b) else(if s.Pc == 1 then(QM b.aI w_ s.E).bind λx5=>yU s b x5.2 x5.1.aO x5.1.bX else(if s.Pc == 2 then(if b.aI.aO == s.E then(bJ s 0).bind λx6=>some (x6,b) else some (({s with Pc:=0}:Sub),b)) else(bJ s 1).bind λx7=>some (x7,b))))
def o6(s:Sub)(b:aA)(w_:Int):=
 (if s.jC then some (s,b) else(if s.Kind == 1 then(rV s b w_).bind λx1=>some (x1.1,x1.2) else(if s.Kind == 2 then(pJ s b w_).bind λx2=>some (x2.1,x2.2) else(if s.Kind == 3 then(oJ s b).bind λx3=>some (x3.1,x3.2) else(if s.Kind == 4 then(oL s b w_).bind λx4=>some (x4.1,x4.2) else(if s.Kind == 5 then(xV s b w_).bind λx5=>some (x5.1,x5.2) else(bJ s 1).bind λx6=>some (x6,b)))))))
def rZ(t:Table)(w_:Int):=
 (idx t.aM w_).bind λx1=>(o6 x1.Sub t.aA w_).bind λx2=>(if !x2.1.jC then some ({t with aA:=x2.2,aM:=t.aM.set w_.toNat ({x1 with Sub:=x2.1}:aE)}:Table) else(if x1.Pc == 0 then some ({t with aA:=x2.2,aM:=t.aM.set w_.toNat ({x1 with Pc:=1,Sub:=x2.1}:aE)}:Table) else(if x1.Pc == 20 then(j6 4 0).bind λx3=>some ({t with aA:=x2.2,aM:=t.aM.set w_.toNat ({x1 with Pc:=21,Sub:=x3}:aE)}:Table) else some ({t with aA:=x2.2,aM:=t.aM.set w_.toNat ({x1 with Pc:=19,Sub:=x2.1}:aE)}:Table))))
def oN(j:aE):=
 (cC j.At 0 (bC ((j.Batch.bI.length:Int)-1))).bind λx1=>(if !x1 then some ((⟨0,0,0⟩:jJ),false,j) else(idx j.Batch.bI j.At).bind λx2=>some (x2,true,j))
def cJ(j:aE)(code:Int):=
 some ({j with Pc:=16,Code:=code}:aE)
def BI(s:List aQ):=
 need (([]:List aQ).length+s.length<=1073741824) (some (([]:List aQ)++s))
def LZ:=
 some (-1)
def m6(s:List aQ)(f:(aQ->Option Bool)):Int->Option (Step Int (Out Unit Int))
 |x2=>(if decide (x2<(s.length:Int)) then(idx s x2).bind λx3=>(f x3).bind λx4=>(if x4 then some (.stop (Out.ret x2)) else some (.next (bC (x2+1)))) else some (.stop (Out.brk ())))
def L4:(Out Unit Int)->Option Int
 |.brk ()=>LZ
 |.ret r=>some r
def cQ(s:List aQ)(f:(aQ->Option Bool)):=
 (loop (m6 s f) 0).bind (L4)
def wB(x8:List aQ)(x9:Int):=
 need (0<=(x9:Int)/\(x9:Int)<=(x8.length:Int)) (need (0<=(x9:Int)/\(x9:Int)<=((cO x8 x9.toNat (List.replicate (x8.length-x9.toNat) (⟨0,false,0⟩:aQ))).length:Int)) (some (((cO x8 x9.toNat (List.replicate (x8.length-x9.toNat) (⟨0,false,0⟩:aQ))).take x9.toNat).drop 0)))
def gP(x7:Int)(x10:List aQ)(x11:Int):Option (Step ((List aQ)×Int×Int) ((List aQ)×Int)):=
 some (.next (x10,x11,bC (x7+1)))
def i6(del:(aQ->Option Bool)):((List aQ)×Int×Int)->Option (Step ((List aQ)×Int×Int) ((List aQ)×Int))
 |(x5,x6,x7)=>(if decide (x7<(x5.length:Int)) then(idx x5 x7).bind λx12=>(del x12).bind λx13=>(if !x13 then(idx x5 x6).bind λx14=>gP x7 (x5.set x6.toNat x12) (bC (x6+1)) else gP x7 x5 x6) else some (.stop ((x5,x6))))
def wC:((List aQ)×Int)->Option (List aQ)
 |(x8,x9)=>wB x8 x9
def iS(s:List aQ)(del:(aQ->Option Bool)):=
 (cQ s del).bind λx1=>(if x1 == (-1) then some s else(loop (i6 del) (s,x1,bC (x1+1))).bind (wC))
def IB(x k0:aQ):=
 some (x.Key == k0.Key)
def AX(x k0:aQ):=
 some (decide (k0.Key<x.Key))
def pK(s:List aQ)(i:Int)(v:List aQ):=
 need (0<=i/\i<=(s.length:Int)/\s.length+v.length<=1073741824) (some (s.take i.toNat++v++s.drop i.toNat))
def qN(w_:aQ)(x2:(List aQ))(x4:Int):=
 (pK x2 x4 ([w_])).bind λx5=>some x5
def GY(l:List aQ)(w_:aQ):=
 (BI l).bind λx1=>(iS x1 (λy0=>IB y0 w_)).bind λx2=>(cQ x2 (λy0=>AX y0 w_)).bind λx3=>(if decide (x3<0) then qN w_ x2 (x2.length:Int) else qN w_ x2 x3)
def qO(j:aE)(x:aQ):=
 (GY j.aH x).bind λx1=>(if decide (6<(x1.length:Int)) then(cJ j 1).bind λx2=>some (false,x2) else some (true,({j with aH:=x1}:aE)))
def EE(x:aQ)(k0:Int):=
 some (x.Key == k0)
def J5(l:List aQ)(key:Int):=
 (cQ l (λy0=>EE y0 key)).bind λx1=>(if decide (x1<0) then some ((⟨0,false,0⟩:aQ),false) else(idx l x1).bind λx2=>some (x2,true))
def XV(a_ b:Int):=
 some (Int.tmod (bC (a_+b)) 65536)
def pL(x5:aE):=
 some ({x5 with Pc:=1,At:=bC (x5.At+1)}:aE)
def lD(x2:aE)(x3:Bool)(x4:Int):=
 need (x2.cV.length+([(⟨x3,x4⟩:cV)]).length<=1073741824)<|pL ({x2 with cV:=x2.cV++([(⟨x3,x4⟩:cV)])}:aE)
def lE(j:aE)(c:jJ)(is:Bool)(x1:Int):=
 (if c.Kind == 4 then(XV x1 c.fE).bind λx6=>(qO j (⟨c.Key,false,x6⟩:aQ)).bind λx7=>(if !x7.1 then some x7.2 else lD x7.2 true x6) else lD j is x1)
def qP(j:aE)(c:jJ)(val:Int)(is:Bool):=
 (if !is then lE j c is 0 else lE j c is val)
def FW(key:Int):=
 (cC key 0 99).bind λx1=>(if !x1 then some (-1) else some (Int.tmod key 2))
def EF(x1:jJ×Bool×aE)(x6:Bool)(x7:aE)(x8:Int)(x9:Bool)(x10:Int):=
 (if x6 then(qP x7 x1.1 x10 (!x9)).bind λx11=>some x11 else(FW x1.1.Key).bind λx12=>some ({x7 with Pc:=2,cM:=x12}:aE))
def i7(x1:jJ×Bool×aE)(x3:Bool)(x4:aE):=
 (if x3 then(qO x4 (⟨x1.1.Key,x1.1.Kind == 3,x1.1.fE⟩:aQ)).bind λx5=>(if x5.1 then need (x5.2.cV.length+([(⟨false,0⟩:cV)]).length<=1073741824) (some (⟨x5.2.m0,x5.2.Batch,x5.2.aK,x5.2.Pc,bC (x5.2.At+1),x5.2.K,x5.2.cM,x5.2.fF,x5.2.H,x5.2.gO,x5.2.Node,x5.2.Found,x5.2.Code,x5.2.Sub,x5.2.Reads,x5.2.aH,x5.2.cV++([(⟨false,0⟩:cV)]),x5.2.cT,x5.2.bA,x5.2.bG⟩:aE)) else some x5.2) else(J5 x4.aH x1.1.Key).bind λx13=>EF x1 x13.2 x4 x13.1.Key x13.1.F8 x13.1.fE)
def EG(j:aE):=
 (oN j).bind λx1=>(if !x1.2.1 then(j6 1 16).bind λx2=>some (⟨x1.2.2.m0,x1.2.2.Batch,x1.2.2.aK,6,x1.2.2.At,0,x1.2.2.cM,x1.2.2.fF,x1.2.2.H,x1.2.2.gO,x1.2.2.Node,x1.2.2.Found,x1.2.2.Code,x2,x1.2.2.Reads,x1.2.2.aH,x1.2.2.cV,x1.2.2.cT,x1.2.2.bA,x1.2.2.bG⟩:aE) else(if x1.1.Kind == 2 then i7 x1 true x1.2.2 else i7 x1 (x1.1.Kind == 3) x1.2.2))
def EH(h:Heap)(slot:Int):=
 (jY h slot).bind λx1=>(CB x1).bind λx2=>some (decide (10<=x2))
def J6(slot c:Int):=
 (vZ slot c).bind λx1=>(if decide (x1<0) then some (-1) else some (bC (x1+4)))
def xW(h:Heap)(slot:Int):=
 (jY h slot).bind λx1=>(J6 slot x1).bind λx2=>some x2
def NA(h:Heap)(slot:Int):=
 (xW h slot).bind λx1=>(oF h.Bytes x1 2).bind λx2=>(oF h.Bytes (bC (x1+2)) 4).bind λx3=>(oF h.Bytes (bC (x1+6)) 4).bind λx4=>some (⟨x2,x3,x4⟩:dW)
def EI(m:Mem)(h:Int)(x1:Bool):Option (dW×Int):=
 (if x1 then some ((⟨0,0,0⟩:dW),4) else(EH m.Heap (Int.tmod h 32)).bind λx2=>(if !x2 then some ((⟨0,0,0⟩:dW),2) else(NA m.Heap (Int.tmod h 32)).bind λx3=>some (x3,0)))
def HO(m:Mem)(h:Int):Option (dW×Int):=
 (iC h).bind λx4=>(if !x4 then EI m h true else(jY m.Heap (Int.tmod h 32)).bind λx5=>EI m h (decide (x5<0)))
def mV(x1:Bool):=
 some x1
def BJ(p:vC):=
 (if p.On then mV (!p.g9) else mV false)
def gC(n:dW):=
 (iC n.Next).bind λx1=>(if !x1 then some 0 else some n.Next)
def EJ(s:List Seen):=
 need (([]:List Seen).length+s.length<=1073741824) (some (([]:List Seen)++s))
def N4:=
 some (-1)
def o7(s:List Seen)(f:(Seen->Option Bool)):Int->Option (Step Int (Out Unit Int))
 |x2=>(if decide (x2<(s.length:Int)) then(idx s x2).bind λx3=>(f x3).bind λx4=>(if x4 then some (.stop (Out.ret x2)) else some (.next (bC (x2+1)))) else some (.stop (Out.brk ())))
def N5:(Out Unit Int)->Option Int
 |.brk ()=>N4
 |.ret r=>some r
def eG(s:List Seen)(f:(Seen->Option Bool)):=
 (loop (o7 s f) 0).bind (N5)
def EK(s:Seen)(k0:Int):=
 some (s.cM == k0)
def J7(l:List Seen)(b v:Int):=
 (EJ l).bind λx1=>(eG l (λy0=>EK y0 b)).bind λx2=>(if decide (x2<0) then need (x1.length+([(⟨b,v⟩:Seen)]).length<=1073741824) (some (x1++([(⟨b,v⟩:Seen)]),true)) else(idx l x2).bind λx3=>some (x1,x3.fF == v))
def sA(t:Table)(w_:Int)(x13:List aE)(x14:Bool):=
 (if x14 then(idx x13 w_).bind λx15=>some ({t with aM:=x13.set w_.toNat ({x15 with Pc:=5}:aE)}:Table) else some ({t with aM:=x13}:Table))
def BK(t:Table)(w_:Int)(x13:List aE):=
 (idx x13 w_).bind λx16=>(if x16.Found then sA t w_ x13 true else sA t w_ x13 (x16.H == 0))
def K4(t:Table)(x26:List aE):=
 some ({t with aM:=x26}:Table)
def BL(t:Table)(w_:Int)(x6:jJ×Bool×aE)(x21:List Seen)(x22:Bool):=
 (idx (t.aM.set w_.toNat x6.2.2) w_).bind λx23=>(if !x22 then(cJ ({x23 with Reads:=x21}:aE) 7).bind λx24=>some ({t with aM:=(t.aM.set w_.toNat x6.2.2).set w_.toNat x24}:Table) else(if !x6.2.1 then(cJ ({x23 with Reads:=x21}:aE) 1).bind λx25=>some ({t with aM:=(t.aM.set w_.toNat x6.2.2).set w_.toNat x25}:Table) else(qP ({x23 with Reads:=x21}:aE) x6.1 x23.Node.fE x23.Found).bind λx27=>K4 t ((t.aM.set w_.toNat x6.2.2).set w_.toNat x27)))
def iI(t:Table)(w_:Int)(x6:jJ×Bool×aE)(x18:Bool):=
 (if x18 then(idx (t.aM.set w_.toNat x6.2.2) w_).bind λx19=>(cJ x19 7).bind λx20=>some ({t with aM:=(t.aM.set w_.toNat x6.2.2).set w_.toNat x20}:Table) else(idx (t.aM.set w_.toNat x6.2.2) w_).bind λx28=>(J7 x28.Reads x28.cM x28.fF).bind λx29=>BL t w_ x6 x29.1 x29.2)
def BM(t:Table)(w_ x2 x3 x4:Int):=
 (idx t.aM w_).bind λx5=>(oN x5).bind λx6=>(if x6.2.2.Pc == 2 then(if x4 != 0 then(cJ x6.2.2 7).bind λx7=>some ({t with aM:=t.aM.set w_.toNat x7}:Table) else(if x2 == 0 then some ({t with aM:=t.aM.set w_.toNat (⟨x6.2.2.m0,x6.2.2.Batch,x6.2.2.aK,5,x6.2.2.At,x6.2.2.K,x6.2.2.cM,x3,x2,x6.2.2.gO,(⟨0,0,0⟩:dW),false,x6.2.2.Code,x6.2.2.Sub,x6.2.2.Reads,x6.2.2.aH,x6.2.2.cV,x6.2.2.cT,x6.2.2.bA,x6.2.2.bG⟩:aE)}:Table) else some ({t with aM:=t.aM.set w_.toNat (⟨x6.2.2.m0,x6.2.2.Batch,x6.2.2.aK,3,x6.2.2.At,x6.2.2.K,x6.2.2.cM,x3,x2,x6.2.2.gO,(⟨0,0,0⟩:dW),false,x6.2.2.Code,x6.2.2.Sub,x6.2.2.Reads,x6.2.2.aH,x6.2.2.cV,x6.2.2.cT,x6.2.2.bA,x6.2.2.bG⟩:aE)}:Table))) else(if x6.2.2.Pc == 3 then(HO t.aA.Mem x6.2.2.H).bind λx8=>some ({t with aM:=t.aM.set w_.toNat (⟨x6.2.2.m0,x6.2.2.Batch,x6.2.2.aK,4,x6.2.2.At,x6.2.2.K,x6.2.2.cM,x6.2.2.fF,x6.2.2.H,x6.2.2.gO,x8.1,x6.2.2.Found,x6.2.2.Code,x6.2.2.Sub,x6.2.2.Reads,x6.2.2.aH,x6.2.2.cV,x6.2.2.cT,x6.2.2.bA,x6.2.2.bG⟩:aE)}:Table) else(if x6.2.2.Pc == 4 then(idx t.aA.aI.bX w_).bind λx9=>(BJ x9).bind λx10=>(if !x10 then(cJ x6.2.2 6).bind λx11=>some ({t with aM:=t.aM.set w_.toNat x11}:Table) else(if !x6.2.1 then(cJ x6.2.2 1).bind λx12=>some ({t with aM:=t.aM.set w_.toNat x12}:Table) else(gC x6.2.2.Node).bind λx17=>BK t w_ (t.aM.set w_.toNat (⟨x6.2.2.m0,x6.2.2.Batch,x6.2.2.aK,3,x6.2.2.At,x6.2.2.K,x6.2.2.cM,x6.2.2.fF,x17,x6.2.2.gO,x6.2.2.Node,x6.2.2.Node.Key == x6.1.Key,x6.2.2.Code,x6.2.2.Sub,x6.2.2.Reads,x6.2.2.aH,x6.2.2.cV,x6.2.2.cT,x6.2.2.bA,x6.2.2.bG⟩:aE)))) else(if x4 != 0 then iI t w_ x6 true else iI t w_ x6 (x3 != x6.2.2.fF)))))
def AY(t:Table)(w_:Int):=
 (idx t.aM w_).bind λx1=>(idx t.aT x1.cM).bind λx30=>BM t w_ x30.Head x30.fF x30.gG
def aMX(x5:Int):=
 some x5
def EL(x4 x6:Int):Option (Step (Int×Int) Int):=
 some (.next (x6,bC (x4+1)))
def QN(l:List aQ)(n:Int):(Int×Int)->Option (Step (Int×Int) Int)
 |(x3,x4)=>(if decide (x4<(((l.take ((if(if(l.length:Int)<n then(l.length:Int) else n)<0 then 0 else(if(l.length:Int)<n then(l.length:Int) else n)).toNat)).drop 0).length:Int)) then(idx ((l.take ((if(if(l.length:Int)<n then(l.length:Int) else n)<0 then 0 else(if(l.length:Int)<n then(l.length:Int) else n)).toNat)).drop 0) x4).bind λx7=>(if !x7.F8 then EL x4 (bC (x3+1)) else EL x4 x3) else some (.stop (x3)))
def aMY:Int->Option Int
 |x5=>aMX x5
def PE(l:List aQ)(n:Int):=
 need (0<=(if(if(l.length:Int)<n then(l.length:Int) else n)<0 then 0 else(if(l.length:Int)<n then(l.length:Int) else n):Int)/\(if(if(l.length:Int)<n then(l.length:Int) else n)<0 then 0 else(if(l.length:Int)<n then(l.length:Int) else n):Int)<=(l.length:Int)) ((loop (QN l n) (0,0)).bind (aMY))
def yV(x11:Table):=
 some x11
def yW(w_:Int)(x10:Table):=
 (idx x10.aM w_).bind λx12=>(j6 1 16).bind λx13=>yV ({x10 with aM:=x10.aM.set w_.toNat ({x12 with K:=bC (x12.K+1),Sub:=x13}:aE)}:Table)
def gD(w_:Int)(x6:Bool)(x7:Table):=
 (if x6 then(idx x7.aM w_).bind λx8=>(cJ x8 x8.Sub.Code).bind λx9=>some ({x7 with aM:=x7.aM.set w_.toNat x9}:Table) else(idx x7.aM w_).bind λx14=>need (x14.cT.length+([x14.Sub.Out]).length<=1073741824)<|yW w_ ({x7 with aM:=x7.aM.set w_.toNat ({x14 with cT:=x14.cT++([x14.Sub.Out])}:aE)}:Table))
def yX(t:Table)(w_:Int)(x2:Bool):=
 (if x2 then(idx t.aM w_).bind λx3=>some ({t with aM:=t.aM.set w_.toNat ({x3 with Pc:=7,K:=0}:aE)}:Table) else(idx t.aM w_).bind λx4=>(o6 x4.Sub t.aA w_).bind λx5=>(if !x5.1.jC then some ({t with aA:=x5.2,aM:=t.aM.set w_.toNat ({x4 with Sub:=x5.1}:aE)}:Table) else(if x5.1.Code != 0 then gD w_ true ({t with aA:=x5.2,aM:=t.aM.set w_.toNat ({x4 with Sub:=x5.1}:aE)}:Table) else(iC x5.1.Out).bind λx15=>(if !x15 then gD w_ true ({t with aA:=x5.2,aM:=t.aM.set w_.toNat ({x4 with Sub:=x5.1}:aE)}:Table) else gD w_ (decide (6<=(x4.cT.length:Int))) ({t with aA:=x5.2,aM:=t.aM.set w_.toNat ({x4 with Sub:=x5.1}:aE)}:Table)))))
def xX(t:Table)(w_:Int):=
 (idx t.aM w_).bind λx1=>(PE x1.aH (x1.aH.length:Int)).bind λx16=>yX t w_ (decide (x16<=x1.K))
def cmp_isNaN_int(x:Int):=
 some (x != x)
def tL(x1:Bool):=
 some x1
def cmp_Less_int(x y:Int):=
 (cmp_isNaN_int x).bind λx2=>(if x2 then(cmp_isNaN_int y).bind λx3=>(if !x3 then tL true else tL (decide (x<y))) else tL (decide (x<y)))
def iJ(data x5:List Int):=
 need (x5.length=data.length) (some x5)
def mL(data:List Int)(x4:Int)(x10:List Int):Option (Step ((List Int)×Int) (List Int)):=
 need (x10.length=data.length) (some (.next (x10,bC (x4+1))))
def iK(data:List Int)(x9:Int)(x12:List Int):Option (Step ((List Int)×Int) (List Int)):=
 need (x12.length=data.length) (some (.next (x12,bC (x9-1))))
def dE(data x8:List Int)(x9:Int)(x11:Bool):Option (Step ((List Int)×Int) (List Int)):=
 need (x8.length=data.length) ((if x11 then(idx x8 (bC (x9-1))).bind λx13=>(idx x8 x9).bind λx14=>(idx (x8.set x9.toNat x13) (bC (x9-1))).bind λx15=>iK data x9 ((x8.set x9.toNat x13).set ((bC (x9-1)).toNat) x14) else some (.stop (x8))))
def dF(data:List Int)(a_:Int):((List Int)×Int)->Option (Step ((List Int)×Int) (List Int))
 |(x8,x9)=>need (x8.length=data.length) ((if decide (a_<x9) then(idx x8 x9).bind λx16=>(idx x8 (bC (x9-1))).bind λx17=>(cmp_Less_int x16 x17).bind λx18=>dE data x8 x9 x18 else dE data x8 x9 false))
def mM(data:List Int)(x4:Int):(List Int)->Option (Step ((List Int)×Int) (List Int))
 |x10=>mL data x4 x10
def cR(data:List Int)(a_ b:Int):((List Int)×Int)->Option (Step ((List Int)×Int) (List Int))
 |(x3,x4)=>need (x3.length=data.length) ((if decide (x4<b) then(loop (dF data a_) (x3,x4)).bind (mM data x4) else some (.stop (x3))))
def iL(data:List Int):(List Int)->Option (List Int)
 |x5=>iJ data x5
def gL(data:List Int)(a_ b:Int):=
 (loop (cR data a_ b) (data,bC (a_+1))).bind (iL data)
def tM(data:List Int)(a_ b limit:Int):Unit->Option (Step Unit (List Int))
 |()=>(if decide ((bC (b-a_))<=12) then(gL data a_ b).bind λx1=>some (.stop (x1)) else(if limit == 0 then none else none))
def IC:(List Int)->Option (List Int)
 |r=>some r
def m7(data:List Int)(a_ b limit:Int):=
 (loop (tM data a_ b limit) ()).bind (IC)
def BN(x5 x6:Int):=
 (idx ([0,1,2,2,3,3,3,3,4,4,4,4,4,4,4,4,5,5,5,5,5,5,5,5,5,5,5,5,5,5,5,5,6,6,6,6,6,6,6,6,6,6,6,6,6,6,6,6,6,6,6,6,6,6,6,6,6,6,6,6,6,6,6,6,7,7,7,7,7,7,7,7,7,7,7,7,7,7,7,7,7,7,7,7,7,7,7,7,7,7,7,7,7,7,7,7,7,7,7,7,7,7,7,7,7,7,7,7,7,7,7,7,7,7,7,7,7,7,7,7,7,7,7,7,7,7,7,7,8,8,8,8,8,8,8,8,8,8,8,8,8,8,8,8,8,8,8,8,8,8,8,8,8,8,8,8,8,8,8,8,8,8,8,8,8,8,8,8,8,8,8,8,8,8,8,8,8,8,8,8,8,8,8,8,8,8,8,8,8,8,8,8,8,8,8,8,8,8,8,8,8,8,8,8,8,8,8,8,8,8,8,8,8,8,8,8,8,8,8,8,8,8,8,8,8,8,8,8,8,8,8,8,8,8,8,8,8,8,8,8,8,8,8,8,8,8,8,8,8,8,8,8,8,8,8,8]:List UInt8) ((u8 x5).toNat:Int)).bind λx7=>some (bC (x6+(x7.toNat:Int)))
def BO(x3 x4:Int):=
 (if decide (256<=x3) then BN (zA .u64 x3 8) (bC (x4+8)) else BN x3 x4)
def BP(x1 x2:Int):=
 (if decide (65536<=x1) then BO (zA .u64 x1 16) (bC (x2+16)) else BO x1 x2)
def SH(x:Int):=
 (if decide (4294967296<=x) then BP (zA .u64 x 32) 32 else BP x 0)
def zT(x:Int):=
 (SH x).bind λx1=>some x1
def AZ(x:List Int):=
 (zT (IntKind.u64.wrap (x.length:Int))).bind λx1=>(m7 x 0 (x.length:Int) x1).bind λx2=>some x2
def ID(x5:List Int):=
 (AZ x5).bind λx6=>(slices_Compact_int x6).bind λx7=>some x7
def A0(x4:Int)(x8:List Int):Option (Step ((List Int)×Int) (List Int)):=
 some (.next (x8,bC (x4+1)))
def IE(l:List aQ):((List Int)×Int)->Option (Step ((List Int)×Int) (List Int))
 |(x3,x4)=>(if decide (x4<(l.length:Int)) then(idx l x4).bind λx9=>(FW x9.Key).bind λx10=>(if decide (0<=x10) then need (x3.length+([x10]).length<=1073741824) (A0 x4 (x3++([x10]))) else A0 x4 x3) else some (.stop (x3)))
def SI:(List Int)->Option (List Int)
 |x5=>ID x5
def J8(l:List aQ):=
 (loop (IE l) (([]:List Int),0)).bind (SI)
def iD(s:List Seen)(f:(Seen->Option Bool)):=
 (eG s f).bind λx1=>some (decide (0<=x1))
def oO(x1:Bool):=
 some x1
def uS(s:Seen)(k0:Int)(k1:cM):=
 (if s.cM == k0 then oO (s.fF != k1.fF) else oO false)
def sB(t:Table)(w_:Int)(x3:List cM)(x4:List aE)(x5:aE):=
 (idx x4 w_).bind λx6=>some ({t with aT:=x3,aM:=x4.set w_.toNat ({x6 with Pc:=8,K:=0}:aE),Log:=t.Log++([(⟨2,w_,x5.aK,0,[],[]⟩:qZ)])}:Table)
def mN(t:Table)(w_:Int)(x2:(List Int))(x3:List cM)(x4:List aE):=
 (idx x4 w_).bind λx5=>(if decide ((x2.length:Int)<=x5.K) then need (t.Log.length+([(⟨2,w_,x5.aK,0,[],[]⟩:qZ)]).length<=1073741824)<|sB t w_ x3 x4 x5 else some ({t with aT:=x3,aM:=x4}:Table))
def mO(t:Table)(w_:Int)(x2:(List Int))(x7:Int)(x12:cM)(x15:List aE):=
 (idx x15 w_).bind λx16=>mN t w_ x2 (t.aT.set x7.toNat ({x12 with gG:=bC (w_+1)}:cM)) (x15.set w_.toNat ({x16 with K:=bC (x16.K+1)}:aE))
def BQ(t:Table)(w_:Int)(x2:(List Int))(x7:Int)(x12:cM)(x17:aE):=
 mO t w_ x2 x7 x12 (t.aM.set w_.toNat ({x17 with bA:=x17.bA++([x7])}:aE))
def gQ(t:Table)(w_:Int)(x2:(List Int))(x7:Int)(x9:Bool):=
 (if x9 then(idx t.aM w_).bind λx10=>(cJ x10 7).bind λx11=>some ({t with aM:=t.aM.set w_.toNat x11}:Table) else(idx t.aT x7).bind λx12=>(if x12.fF == 1000000 then(idx t.aM w_).bind λx13=>(cJ x13 3).bind λx14=>some ({t with aM:=t.aM.set w_.toNat x14}:Table) else(idx t.aM w_).bind λx17=>(lC x17.bA x7).bind λx18=>(if !x18 then need (x17.bA.length+([x7]).length<=1073741824)<|BQ t w_ x2 x7 x12 x17 else mO t w_ x2 x7 x12 t.aM)))
def A1(t:Table)(w_:Int):=
 (idx t.aM w_).bind λx1=>(J8 x1.aH).bind λx2=>(if decide (x1.K<(x2.length:Int)) then(idx x2 x1.K).bind λx7=>(idx t.aT x7).bind λx8=>(if x8.gG != 0 then gQ t w_ x2 x7 true else(iD x1.Reads (λy0=>uS y0 x7 x8)).bind λx19=>gQ t w_ x2 x7 x19) else mN t w_ x2 t.aT t.aM)
def eW(t:Table)(w_:Int)(x8:Bool):=
 (if x8 then(idx t.aM w_).bind λx9=>(cJ x9 7).bind λx10=>some ({t with aM:=t.aM.set w_.toNat x10}:Table) else(idx t.aM w_).bind λx11=>some ({t with aM:=t.aM.set w_.toNat ({x11 with K:=bC (x11.K+1)}:aE)}:Table))
def sC(t:Table)(w_ x4 x5 x6 x7:Int):=
 (if x7 != 0 then(if x7 != (bC (w_+1)) then eW t w_ true else eW t w_ (x6 != x4)) else eW t w_ (x6 != x4))
def sD(t:Table)(w_ x3 x4:Int):=
 (idx t.aT x3).bind λx12=>sC t w_ x4 x12.Head x12.fF x12.gG
def sE(t:Table)(w_:Int)(x1:aE):=
 (if decide ((x1.Reads.length:Int)<=x1.K) then(idx t.aM w_).bind λx2=>some ({t with aM:=t.aM.set w_.toNat ({x2 with Pc:=9,K:=0}:aE)}:Table) else(idx t.aM w_).bind λx13=>(idx x13.Reads x13.K).bind λx14=>sD t w_ x14.cM x14.fF)
def pM(t:Table)(w_:Int):=
 (idx t.aM w_).bind λx1=>sE t w_ x1
def nP(j:aE)(x:aQ):=
 (if x.F8 then some ({j with Pc:=9,K:=bC (j.K+1)}:aE) else some ({j with Pc:=12}:aE))
def sG(m:Mem):=
 (uA m.Heap).bind λx1=>(iB m.aD).bind λx2=>some (⟨x1,x2⟩:Mem)
def aAW:=
 some true
def xY(x2:Int)(x4:Bool):Option (Step Int (Out Unit Bool)):=
 (if x4 then some (.stop (Out.ret false)) else some (.next (bC (x2+1))))
def l5(h:Heap)(s:aW)(c:Int):Int->Option (Step Int (Out Unit Bool))
 |x2=>(if decide (x2<(s.aR.length:Int)) then(idx s.aR x2).bind λx3=>(jY h x3).bind λx5=>(if x5 != c then xY x2 true else(BG h x3).bind λx6=>xY x2 (decide (6<x6))) else some (.stop (Out.brk ())))
def aAX:(Out Unit Bool)->Option Bool
 |.brk ()=>aAW
 |.ret r=>some r
def zU(h:Heap)(s:aW)(c:Int):=
 (loop (l5 h s c) 0).bind (aAX)
def aJL:=
 some true
def uC(m:Mem):Int->Option (Step Int (Out Unit Bool))
 |x5=>(if decide (x5<(m.aD.Own.length:Int)) then(idx m.aD.Own x5).bind λx6=>(zU m.Heap x6 (Int.tmod x5 3)).bind λx7=>(if !x7 then some (.stop (Out.ret false)) else some (.next (bC (x5+1)))) else some (.stop (Out.brk ())))
def aJM:(Out Unit Bool)->Option Bool
 |.brk ()=>aJL
 |.ret r=>some r
def WY(m:Mem):=
 (loop (uC m) 0).bind (aJM)
def uD(m:Mem):Int->Option (Step Int (Out Unit Bool))
 |x3=>(if decide (x3<(m.aD.Global.length:Int)) then(idx m.aD.Global x3).bind λx8=>(zU m.Heap x8 x3).bind λx9=>(if !x9 then some (.stop (Out.ret false)) else some (.next (bC (x3+1)))) else some (.stop (Out.brk ())))
def WZ(m:Mem):(Out Unit Bool)->Option Bool
 |.brk ()=>WY m
 |.ret r=>some r
def GZ(m:Mem)(x1:Bool):=
 (if x1 then some false else(loop (uD m) 0).bind (WZ m))
def FX(m:Mem):=
 (HK m.Heap).bind λx10=>(if !x10 then GZ m true else(oE m.aD).bind λx11=>GZ m (!x11))
def EM(x1:Bool):=
 some x1
def HP(h:Int):=
 (if h == 0 then EM true else(iC h).bind λx2=>EM x2)
def zV(m:Mem)(h:Int):Option Int:=
 (CD m h).bind λx1=>(if !x1 then some 4 else(EH m.Heap (Int.tmod h 32)).bind λx2=>(if !x2 then some 2 else some 0))
def K5(x4:Int)(x5:Mem):=
 some (x5,x4)
def UK(x4:Int)(x6:Mem):=
 K5 x4 x6
def EN(m:Mem)(h next_:Int)(x2:Bool)(x3:Mem):=
 (if x2 then some (x3,1) else(zV m h).bind λx4=>(if x4 == 0 then(xW m.Heap (Int.tmod h 32)).bind λx7=>(kS next_ 4).bind λx8=>(lT x3.Heap.Bytes (bC (x7+6)) x8).bind λx9=>UK x4 (⟨(⟨x9,x3.Heap.Class⟩:Heap),x3.aD⟩:Mem) else K5 x4 x3))
def NB(m:Mem)(h next_:Int):=
 (sG m).bind λx1=>(FX m).bind λx10=>(if !x10 then EN m h next_ true x1 else(HP next_).bind λx11=>EN m h next_ (!x11) x1)
def wD(x1:Bool):=
 some x1
def NC(n:dW):=
 (cC n.Key 0 99).bind λx2=>(if x2 then(cC n.fE 0 65535).bind λx3=>(if x3 then(HP n.Next).bind λx4=>wD x4 else wD false) else wD false)
def IF(x4:Int)(x5:Mem):=
 some (x5,x4)
def SJ(x4:Int)(x6:Mem):=
 IF x4 x6
def A2(m:Mem)(h:Int)(n:dW)(x2:Bool)(x3:Mem):=
 (if x2 then some (x3,1) else(zV m h).bind λx4=>(if x4 == 0 then(xW m.Heap (Int.tmod h 32)).bind λx7=>(kS n.Key 2).bind λx8=>(kS n.fE 4).bind λx9=>need (x8.length+x9.length<=9223372036854775807)<|(kS n.Next 4).bind λx10=>need ((x8++x9).length+x10.length<=9223372036854775807)<|(lT x3.Heap.Bytes x7 ((x8++x9)++x10)).bind λx11=>SJ x4 (⟨(⟨x11,x3.Heap.Class⟩:Heap),x3.aD⟩:Mem) else IF x4 x3))
def J9(m:Mem)(h:Int)(n:dW):=
 (sG m).bind λx1=>(FX m).bind λx12=>(if !x12 then A2 m h n true x1 else(NC n).bind λx13=>A2 m h n (!x13) x1)
def BR(t:Table)(j:aE)(b:cM)(x3:Table):=
 some (({x3 with aT:=t.aT,aM:=t.aM}:Table),({j with Pc:=13}:aE),b)
def IG(t:Table)(j:aE)(x:aQ)(b:cM):=
 (PE j.aH j.K).bind λx1=>(if decide ((j.cT.length:Int)<=x1) then(cJ j 1).bind λx2=>some (t,x2,b) else(if j.Pc == 12 then(idx j.cT x1).bind λx4=>(J9 t.aA.Mem x4 ({x with Next:=b.Head}:dW)).bind λx5=>BR t j b ({t with aA:=(⟨x5.1,t.aA.aI,t.aA.a8,t.aA.kZ⟩:aA)}:Table) else(idx j.cT x1).bind λx6=>some (t,({j with Pc:=9,K:=bC (j.K+1)}:aE),({b with Head:=x6}:cM))))
def yY(t:Table)(x13:List aE):=
 some ({t with aM:=x13}:Table)
def lF(w_ x3:Int)(x4:Bool)(x5:Int)(x16:Table):=
 (idx x16.aM w_).bind λx17=>(nP x17 (⟨x3,x4,x5⟩:aQ)).bind λx18=>some ({x16 with aM:=x16.aM.set w_.toNat x18}:Table)
def yZ(w_ x3:Int)(x4:Bool)(x5:Int)(x21:Table):=
 lF w_ x3 x4 x5 x21
def pN(w_ x3:Int)(x4:Bool)(x5:Int)(x19:Bool)(x20:Table):=
 (if x19 then(idx x20.aM w_).bind λx22=>need (x22.bG.length+([x22.H]).length<=1073741824)<|yZ w_ x3 x4 x5 ({x20 with aM:=x20.aM.set w_.toNat ({x22 with bG:=x22.bG++([x22.H])}:aE)}:Table) else lF w_ x3 x4 x5 x20)
def lG(w_ x3:Int)(x4:Bool)(x5:Int)(x15:Table):=
 (idx x15.aM w_).bind λx23=>(iC x23.H).bind λx24=>(if x24 then pN w_ x3 x4 x5 (decide ((x23.bG.length:Int)<6)) x15 else pN w_ x3 x4 x5 false x15)
def y5(w_ x3:Int)(x4:Bool)(x5:Int)(x26:Table):=
 lG w_ x3 x4 x5 x26
def y6(t:Table)(w_ x3:Int)(x4:Bool)(x5:Int):=
 (FW x3).bind λx6=>(idx t.aT x6).bind λx7=>(idx t.aM w_).bind λx8=>(if x8.Pc == 9 then(if x7.Head == 0 then(nP ({x8 with Pc:=10,H:=x7.Head,gO:=0}:aE) (⟨x3,x4,x5⟩:aQ)).bind λx9=>some ({t with aM:=t.aM.set w_.toNat x9}:Table) else some ({t with aM:=t.aM.set w_.toNat ({x8 with Pc:=10,H:=x7.Head,gO:=0}:aE)}:Table)) else(if x8.Pc == 10 then(HO t.aA.Mem x8.H).bind λx10=>(if x10.1.Key == x3 then some ({t with aM:=t.aM.set w_.toNat ({x8 with Pc:=11,Node:=x10.1}:aE)}:Table) else(gC x10.1).bind λx11=>(if x11 == 0 then(nP ({x8 with Node:=x10.1}:aE) (⟨x3,x4,x5⟩:aQ)).bind λx12=>some ({t with aM:=t.aM.set w_.toNat x12}:Table) else(gC x10.1).bind λx14=>yY t (t.aM.set w_.toNat ({x8 with H:=x14,gO:=x8.H,Node:=x10.1}:aE)))) else(if x8.Pc == 11 then(if x8.gO == 0 then(gC x8.Node).bind λx25=>lG w_ x3 x4 x5 ({t with aT:=t.aT.set x6.toNat ({x7 with Head:=x25}:cM)}:Table) else(gC x8.Node).bind λx27=>(NB t.aA.Mem x8.gO x27).bind λx28=>y5 w_ x3 x4 x5 ({t with aA:=(⟨x28.1,t.aA.aI,t.aA.a8,t.aA.kZ⟩:aA)}:Table)) else(IG t x8 (⟨x3,x4,x5⟩:aQ) x7).bind λx29=>some (⟨x29.1.aA,t.aT.set x6.toNat x29.2.2,t.aM.set w_.toNat x29.2.1,x29.1.bL,x29.1.Log,x29.1.aK⟩:Table))))
def y7(t:Table)(w_:Int)(x1:aE):=
 (if decide ((x1.aH.length:Int)<=x1.K) then(idx t.aM w_).bind λx2=>some ({t with aM:=t.aM.set w_.toNat ({x2 with Pc:=14}:aE)}:Table) else(idx t.aM w_).bind λx30=>(idx x30.aH x30.K).bind λx31=>y6 t w_ x31.Key x31.F8 x31.fE)
def xZ(t:Table)(w_:Int):=
 (idx t.aM w_).bind λx1=>y7 t w_ x1
def oP(s:List Int)(i j:Int):=
 need (0<=(i:Int)/\(i:Int)<=(j:Int)/\(j:Int)<=((s.length:Int):Int)/\((s.length:Int):Int)<=(s.length:Int)) ((if i == j then some s else need (0<=(i:Int)/\(i:Int)<=(s.length:Int)) (need (0<=(j:Int)/\(j:Int)<=(s.length:Int)) (need (i.toNat<=j.toNat) (need (0<=(((((cO s i.toNat (s.drop j.toNat)).take (i.toNat+(s.length-j.toNat))).drop 0).length:Int):Int)/\(((((cO s i.toNat (s.drop j.toNat)).take (i.toNat+(s.length-j.toNat))).drop 0).length:Int):Int)<=((s.length:Int):Int)/\((s.length:Int):Int)<=((cO s i.toNat (s.drop j.toNat)).length:Int)) (some (((cO s i.toNat (s.drop j.toNat)).take (i.toNat+(s.length-j.toNat))).drop 0)))))))
def qQ(x1:aE):=
 some x1
def j8(j:aE):=
 (if decide (j.K<(j.bG.length:Int)) then(idx j.bG j.K).bind λx2=>(j6 2 x2).bind λx3=>qQ ({j with Sub:=x3}:aE) else some j)
def j9(t:Table)(w_:Int)(x4:List cM):=
 (idx t.aM w_).bind λx5=>(oP x5.bA 0 1).bind λx6=>some ({t with aT:=x4,aM:=t.aM.set w_.toNat ({x5 with bA:=x6}:aE)}:Table)
def uU(t:Table)(w_:Int):=
 (idx t.aM w_).bind λx1=>(if decide (0<(x1.bA.length:Int)) then(idx x1.bA 0).bind λx2=>(idx t.aT x2).bind λx3=>(if x1.Pc == 14 then j9 t w_ (t.aT.set x2.toNat (⟨x3.Head,if 1000000<(bC (x3.fF+1)) then 1000000 else(bC (x3.fF+1)),0⟩:cM)) else j9 t w_ (t.aT.set x2.toNat ({x3 with gG:=0}:cM))) else(if x1.Pc == 16 then some ({t with aM:=t.aM.set w_.toNat ({x1 with Pc:=17}:aE)}:Table) else(j8 ({x1 with Pc:=15,K:=0}:aE)).bind λx7=>some ({t with aM:=t.aM.set w_.toNat x7}:Table)))
def wE(t:Table)(w_:Int)(x1:aE):=
 (if decide ((x1.bG.length:Int)<=x1.K) then(idx t.aM w_).bind λx2=>some ({t with aM:=t.aM.set w_.toNat ({x2 with Pc:=18}:aE)}:Table) else(idx t.aM w_).bind λx3=>(o6 x3.Sub t.aA w_).bind λx4=>(if x4.1.jC then(j8 ({x3 with K:=bC (x3.K+1),Sub:=x4.1}:aE)).bind λx5=>some ({t with aA:=x4.2,aM:=t.aM.set w_.toNat x5}:Table) else some ({t with aA:=x4.2,aM:=t.aM.set w_.toNat ({x3 with Sub:=x4.1}:aE)}:Table)))
def uV(t:Table)(w_:Int):=
 (idx t.aM w_).bind λx1=>wE t w_ x1
def A3(m:Mem)(w_ h:Int)(x1:Bool):Option (Mem×Int):=
 (if x1 then(sG m).bind λx2=>some (x2,1) else(CD m h).bind λx3=>(if !x3 then(sG m).bind λx4=>some (x4,4) else(K3 m w_ h).bind λx5=>some (x5,0)))
def KA(m:Mem)(w_ h:Int):Option (Mem×Int):=
 (FX m).bind λx6=>(if !x6 then A3 m w_ h true else(fX w_).bind λx7=>A3 m w_ h (!x7))
def A4(t:Table)(w_:Int):=
 (idx t.aM w_).bind λx1=>(if(x1.cT.length:Int) == 0 then some ({t with aM:=t.aM.set w_.toNat ({x1 with Pc:=18}:aE)}:Table) else(idx x1.cT 0).bind λx2=>(oP x1.cT 0 1).bind λx3=>(D7 t.aA.a8 (Int.tmod x2 32)).bind λx4=>(if !x4 then(KA t.aA.Mem w_ x2).bind λx5=>some ({t with aA:=(⟨x5.1,t.aA.aI,t.aA.a8,t.aA.kZ⟩:aA),aM:=t.aM.set w_.toNat ({x1 with cT:=x3}:aE)}:Table) else some ({t with aM:=t.aM.set w_.toNat ({x1 with cT:=x3}:aE)}:Table)))
def zW(w_:Int)(x1:aI)(x2:Bool):=
 (if x2 then some (x1,false) else(idx x1.bX w_).bind λx3=>some ((⟨x1.aO,x1.bX.set w_.toNat (⟨false,0,false,0⟩:vC)⟩:aI),true))
def QO(c:aI)(w_:Int):=
 (mK c).bind λx1=>(rY c).bind λx4=>(if !x4 then zW w_ x1 true else(fX w_).bind λx5=>(if !x5 then zW w_ x1 true else(idx c.bX w_).bind λx6=>zW w_ x1 (!x6.On)))
def A5(b:aA)(w_:Int):=
 (QO b.aI w_).bind λx1=>some (x1.2,({b with aI:=x1.1}:aA))
def FD(t:Table)(w_:Int)(x1:aE):=
 some ({t with aM:=t.aM.set w_.toNat (⟨false,(⟨false,[]⟩:Batch),0,0,0,0,0,0,0,0,(⟨0,0,0⟩:dW),false,0,(⟨0,0,0,0,0,0,0,0,0,false⟩:Sub),[],[],[],[],[],[]⟩:aE),Log:=t.Log++([({x1 with Kind:=3,Who:=w_,bI:=[]}:qZ)])}:Table)
def FE(t:Table)(w_:Int)(x1:aE):=
 some ({t with aM:=t.aM.set w_.toNat (⟨false,(⟨false,[]⟩:Batch),0,0,0,0,0,0,0,0,(⟨0,0,0⟩:dW),false,0,(⟨0,0,0,0,0,0,0,0,0,false⟩:Sub),[],[],[],[],[],[]⟩:aE),Log:=t.Log++([(⟨3,w_,x1.aK,x1.Code,[],[]⟩:qZ)])}:Table)
def sH(t:Table)(w_:Int):=
 (idx t.aM w_).bind λx1=>(if x1.Code == 0 then need (t.Log.length+([({x1 with Kind:=3,Who:=w_,bI:=[]}:qZ)]).length<=1073741824)<|FD t w_ x1 else need (t.Log.length+([(⟨3,w_,x1.aK,x1.Code,[],[]⟩:qZ)]).length<=1073741824)<|FE t w_ x1)
def jS(t:Table)(w_:Int)(x1:aE)(x14:Bool):=
 (if x14 then(uU t w_).bind λx15=>some x15 else(if x1.Pc == 15 then(uV t w_).bind λx16=>some x16 else(if x1.Pc == 17 then(A4 t w_).bind λx17=>some x17 else(if x1.Pc == 18 then(A5 t.aA w_).bind λx18=>(idx t.aM w_).bind λx19=>some ({t with aA:=x18.2,aM:=t.aM.set w_.toNat ({x19 with Pc:=19}:aE)}:Table) else(if x1.Pc == 19 then(sH t w_).bind λx20=>some x20 else(idx t.aM w_).bind λx21=>(cJ x21 1).bind λx22=>some ({t with aM:=t.aM.set w_.toNat x22}:Table))))))
def iM(t:Table)(w_:Int)(x1:aE)(x3:Bool):=
 (if x3 then(rZ t w_).bind λx4=>some x4 else(if x1.Pc == 1 then(idx t.aM w_).bind λx5=>(EG x5).bind λx6=>some ({t with aM:=t.aM.set w_.toNat x6}:Table) else(cC x1.Pc 2 5).bind λx7=>(if x7 then(AY t w_).bind λx8=>some x8 else(if x1.Pc == 6 then(xX t w_).bind λx9=>some x9 else(if x1.Pc == 7 then(A1 t w_).bind λx10=>some x10 else(if x1.Pc == 8 then(pM t w_).bind λx11=>some x11 else(cC x1.Pc 9 13).bind λx12=>(if x12 then(xZ t w_).bind λx13=>some x13 else(if x1.Pc == 14 then jS t w_ x1 true else jS t w_ x1 (x1.Pc == 16)))))))))
def A6(t:Table)(w_:Int):=
 (idx t.aM w_).bind λx1=>(if !x1.m0 then(xN t w_).bind λx2=>some x2 else(if x1.Pc == 0 then iM t w_ x1 true else(if x1.Pc == 20 then iM t w_ x1 true else iM t w_ x1 (x1.Pc == 21))))
def ZD(x8:Int):=
 some x8
def oQ(x6 x9:Int)(x10:Table):Option (Step (Int×Int×Table) Int):=
 some (.next (x9,bC (x6+1),x10))
def oR(x:gH):(Int×Int×Table)->Option (Step (Int×Int×Table) Int)
 |(x5,x6,x7)=>(if decide (x6<(((x.dK.take ((if 400<(x.dK.length:Int) then 400 else(x.dK.length:Int)).toNat)).drop 0).length:Int)) then(idx ((x.dK.take ((if 400<(x.dK.length:Int) then 400 else(x.dK.length:Int)).toNat)).drop 0) x6).bind λx11=>(fX x11).bind λx12=>(if x12 then(A6 x7 x11).bind λx13=>(qK x13.aA.a8).bind λx14=>oQ x6 (if x5<x14 then x14 else x5) x13 else oQ x6 x5 x7) else some (.stop (x5)))
def ZE:Int->Option Int
 |x8=>ZD x8
def EO(x:gH):=
 (GQ x.bL).bind λx1=>(if(x1.aM.length:Int) == 0 then some 0 else need (0<=(if 400<(x.dK.length:Int) then 400 else(x.dK.length:Int):Int)/\(if 400<(x.dK.length:Int) then 400 else(x.dK.length:Int):Int)<=(x.dK.length:Int)) ((loop (oR x) (0,0,x1)).bind (ZE)))
def QP(a_ b:jJ):=
 (if a_.Kind != b.Kind then some false else(if a_.Key != b.Key then some false else(if a_.fE != b.fE then some false else some true)))
def UL:=
 some true
def wF(a_ b:List jJ):Int->Option (Step Int (Out Unit Bool))
 |x2=>(if decide (x2<(a_.length:Int)) then(idx a_ x2).bind λx3=>(idx b x2).bind λx4=>(QP x3 x4).bind λx5=>(if !x5 then some (.stop (Out.ret false)) else some (.next (bC (x2+1)))) else some (.stop (Out.brk ())))
def UM:(Out Unit Bool)->Option Bool
 |.brk ()=>UL
 |.ret r=>some r
def ND(a_ b:List jJ):=
 (if(a_.length:Int) != (b.length:Int) then some false else(loop (wF a_ b) 0).bind (UM))
def KB(a_ b:Batch):=
 (if !(a_.Collect == b.Collect) then some false else(ND a_.bI b.bI).bind λx1=>(if !x1 then some false else some true))
def PF:=
 some true
def qR(a_ b:List Batch):Int->Option (Step Int (Out Unit Bool))
 |x2=>(if decide (x2<(a_.length:Int)) then(idx a_ x2).bind λx3=>(idx b x2).bind λx4=>(KB x3 x4).bind λx5=>(if !x5 then some (.stop (Out.ret false)) else some (.next (bC (x2+1)))) else some (.stop (Out.brk ())))
def PG:(Out Unit Bool)->Option Bool
 |.brk ()=>PF
 |.ret r=>some r
def G0(a_ b:List Batch):=
 (if(a_.length:Int) != (b.length:Int) then some false else(loop (qR a_ b) 0).bind (PG))
def G3(a_ b:aP):=
 (G0 a_.List b.List).bind λx1=>(if !x1 then some false else some true)
def NF:=
 some true
def oS(a_ b:List aP):Int->Option (Step Int (Out Unit Bool))
 |x2=>(if decide (x2<(a_.length:Int)) then(idx a_ x2).bind λx3=>(idx b x2).bind λx4=>(G3 x3 x4).bind λx5=>(if !x5 then some (.stop (Out.ret false)) else some (.next (bC (x2+1)))) else some (.stop (Out.brk ())))
def NG:(Out Unit Bool)->Option Bool
 |.brk ()=>NF
 |.ret r=>some r
def EP(a_ b:List aP):=
 (if(a_.length:Int) != (b.length:Int) then some false else(loop (oS a_ b) 0).bind (NG))
def UN:=
 some true
def wG(a_ b:List Int):Int->Option (Step Int (Out Unit Bool))
 |x2=>(if decide (x2<(a_.length:Int)) then(idx a_ x2).bind λx3=>(idx b x2).bind λx4=>(if x3 != x4 then some (.stop (Out.ret false)) else some (.next (bC (x2+1)))) else some (.stop (Out.brk ())))
def UO:(Out Unit Bool)->Option Bool
 |.brk ()=>UN
 |.ret r=>some r
def NH(a_ b:List Int):=
 (if(a_.length:Int) != (b.length:Int) then some false else(loop (wG a_ b) 0).bind (UO))
def ER(a_ b:gH):=
 (EP a_.bL b.bL).bind λx1=>(if !x1 then some false else(NH a_.dK b.dK).bind λx2=>(if !x2 then some false else some true))
def uH(aX:gH):=
 (C1 aX 1048576).bind λx1=>(if decide (x1<0) then some true else(qC aX).bind λx2=>(DM x2).bind λx3=>(qC aX).bind λx4=>(EO x4).bind λx5=>(if x5 != x3 then some false else(qC aX).bind λx6=>(ER x4 x6).bind λx7=>(if !x7 then some false else some true)))
end
end Go.Gv
end
noncomputable section
set_option maxHeartbeats 4000000
set_option maxRecDepth 100000
namespace Go.Proofs.YtonkeoekmfkaoaaGreat
open Go.Gv Tryz
theorem bB:TC prog 3 1 (.int .i64 0):=yO (b:=8) (by kernel_rfl) rfl
theorem fT:TC prog 248 1 (.agg #[.slice none 0 0]):=yO (b:=24) (by kernel_rfl) rfl
theorem CF:TC prog 193 4 (.agg #[.bool false,.int .i64 0,.bool false,.int .i64 0]):=yO (b:=32) (by kernel_rfl) rfl
theorem HQ:TC prog 130 1 (.agg #[.slice none 0 0]):=yO (b:=24) (by kernel_rfl) rfl
theorem HR:TC prog 137 3 (.agg #[.int .i64 0,.int .i64 0,.int .i64 0]):=yO (b:=24) (by kernel_rfl) rfl
theorem wH:TC prog 125 1 (.agg #[.slice none 0 0]):=yO (b:=24) (by kernel_rfl) rfl
theorem o8:TC prog 62 2 (.agg #[.bool false,.slice none 0 0]):=yO (b:=32) (by kernel_rfl) rfl
theorem aGH:TC prog 74 3 (.agg #[.int .i64 0,.int .i64 0,.int .i64 0]):=yO (b:=24) (by kernel_rfl) rfl
theorem aGI:TC prog 71 32 (.agg #[.bool false,.bool false,.slice none 0 0,.int .i64 0,.int .i64 0,.int .i64 0,.int .i64 0,.int .i64 0,.int .i64 0,.int .i64 0,.int .i64 0,.int .i64 0,.int .i64 0,.int .i64 0,.bool false,.int .i64 0,.int .i64 0,.int .i64 0,.int .i64 0,.int .i64 0,.int .i64 0,.int .i64 0,.int .i64 0,.int .i64 0,.int .i64 0,.bool false,.slice none 0 0,.slice none 0 0,.slice none 0 0,.slice none 0 0,.slice none 0 0,.slice none 0 0]):=yO (b:=368) (by kernel_rfl) rfl
theorem dO:TC prog 143 6 (.agg #[.int .i64 0,.int .i64 0,.int .i64 0,.int .i64 0,.slice none 0 0,.slice none 0 0]):=yO (b:=80) (by kernel_rfl) rfl
theorem oT:TC prog 153 2 (.agg #[.int .i64 0,.int .i64 0]):=yO (b:=16) (by kernel_rfl) rfl
theorem hO:TC prog 159 3 (.agg #[.int .i64 0,.bool false,.int .i64 0]):=yO (b:=24) (by kernel_rfl) rfl
theorem lU:TC prog 187 2 (.agg #[.bool false,.int .i64 0]):=yO (b:=16) (by kernel_rfl) rfl
theorem rI:TC prog 157 2 (.agg #[.int .i64 0,.int .i64 0]):=yO (b:=16) (by kernel_rfl) rfl
theorem aRL:TC prog 40 1 (.slice none 0 0):=yO (b:=24) (by kernel_rfl) rfl
theorem aVP:TC prog 5 1 (.int .u8 0):=yO (b:=1) (by kernel_rfl) rfl
theorem aC:prog.follows .mixedOrders=true:=by kernel_rfl
theorem aCA(D:Nat)(d d':vC)(w:World):(Op.eqFields (D+2) #[.bool (d.On),.int .i64 (d.aO),.bool (d.g9),.int .i64 (d.Seen)] #[.bool (d'.On),.int .i64 (d'.aO),.bool (d'.g9),.int .i64 (d'.Seen)] (match prog.underlying 193 with|some (.struct fs)=>fs|_=>#[]).toList).run prog w=.ok (decide (d=d')) w:=by
 rw[underlying193];have h:(d.On == d'.On && (d.aO == d'.aO && (d.g9 == d'.g9 && (d.Seen == d'.Seen && true))))=decide (d=d'):=by cases d;cases d';rw[P4];simp
 rw[<-h];exact YG _ _ _ _ _ rfl (aB3 isAgg4 rfl) (aB3 isAgg4 rfl) (aS5 underlying4)<|
  YG _ _ _ _ _ rfl (aB3 isAgg3 rfl) (aB3 isAgg3 rfl) (aXJ underlying3)<|
  YG _ _ _ _ _ rfl (aB3 isAgg4 rfl) (aB3 isAgg4 rfl) (aS5 underlying4)<|
  YG _ _ _ _ _ rfl (aB3 isAgg3 rfl) (aB3 isAgg3 rfl) (aXJ underlying3)<|
  a18 _ _ _
section
open Go.RowKit Go.Shelf Go.Lib Go.Gv
set_option maxRecDepth 100000
set_option maxHeartbeats 4000000
theorem aO8(b off n c i vb:Nat)(cs vs:List Value)(w:World)(hi:i<n)(hroom:n+1<=c)(hc63:c<=9223372036854775807)(hvb:vb≠b)(hcl:cs.length=n*3)(hvl:vs.length=3)
  (hcs:bE w b off cs) (hsp:∀j,j<c*3->(w.cell? ⟨b,off+j,none⟩).isSome=true) (hfz:∀j,j<c*3->w.frozen? ⟨b,off+j,none⟩=false)
  (hvs:bE w vb 0 vs) (h1c:∀v∈cs,v.oneCell'=true) (h1v:∀v∈vs,v.oneCell'=true)
  (tA tB:TypeId) (kA kB:Nat) (hsa:w.shape? vb=some (tA,kA)) (hsb:w.shape? b=some (tB,kB)) (hkB:kB≠0) (hfa:w.frozen? ⟨vb,0,none⟩=false) (hfe:w.frozen? ⟨vb,kA,none⟩=false) :
  Calls prog 396 #[.slice (some ⟨b,off,none⟩) n c,.int .i64 i,.slice (some ⟨vb,0,none⟩) 1 1] w λe w'=>
   e=.returned (.slice (some ⟨b,off,none⟩) (n+1) c)/\w'=(w.drew.setCells b (off+(i+1)*3) (cs.drop (i*3))).setCells b (off+i*3) vs:=by
 have u0:=run_underlying underlying68;have hz2:¬((i:Int)=(n:Int)):=aa
 have hsz:(prog.info? 159).map (·.size)=some 3:=by kernel_rfl
 have hov:∀lb cb,(callFunc 443 #[.slice (some ⟨vb,0,none⟩) 1 1,.slice (some ⟨b,off+(i+1)*3,none⟩) lb cb]).run prog w=.ok (.value (.bool false)) w:=λlb cb=>by
  rw[run_callFunc_extern func443 (by kernel_rfl) (by kernel_rfl) (by kernel_rfl) (e:=Extern.SlicesOverlaps.overlaps #[68,68] #[4]) (by kernel_rfl),
   Lib.run_overlaps_apart w 68 4 159 underlying68 3 sizeOf159 ⟨vb,0,none⟩ ⟨b,off+(i+1)*3,none⟩ 1 1 lb cb hvb tA tB kA kB hsa hsb hkB hfa hfe]
  rfl
 have hdl:(cs.drop (i*3)).length=(n-i)*3:=by rw[aB0,hcl];omega
 have mixed:=aC;have hw1:IntKind.i64.wrap ((i:Int)+1)=(i:Int)+1:=by rw[IntKind.wrap_i64];omega
 have hw2:IntKind.i64.wrap ((n:Int)+1)=(n:Int)+1:=by rw[IntKind.wrap_i64];omega
 have hb1:(0:Int)<=(i:Int)+1:=aa
 have hin:i<=n:=aa
 have htn:((i:Int)+1).toNat=i+1:=aa
 have htm:((n:Int)+1).toNat=n+1:=aa
 have hb2:¬(c=i+1):=aa
 have hb3:(i:Int)<=(n:Int)+1:=aa
 have hb4:¬(c=i):=aa
 have hcp1:∀ty dc sc,(Builtin.copy_ #[68,68] ty #[.slice (some ⟨b,off+(i+1)*3,none⟩) (n-i) dc,.slice (some ⟨b,off+i*3,none⟩) (n+1-i) sc]).run prog w.drew=.ok (goInt (n-i:Nat)) (w.drew.setCells b (off+(i+1)*3) (cs.drop (i*3))):=λty dc sc=>
  QE w.drew _ _ ty 159 3 b (off+(i+1)*3) (n-i) dc ⟨b,off+i*3,none⟩ (n+1-i) sc (n-i) (cs.drop (i*3)) underlying68 hsz (by simp only[Nat.min_def];split<;>omega) hdl
   (λj v hj=>by rw[Addr.add_lit,TU];exact hcs (i*3+j) v (by rwa [List.getElem?_drop] at hj))
   (λj hj=>by rw[TU];exact hsp _ aa) (λj hj=>by rw[TU];exact hfz _ aa) (λv hv=>h1c v (aE9 hv))
 obtain⟨W1,hW1⟩:∃W1,W1=w.drew.setCells b (off+(i+1)*3) (cs.drop (i*3)):=⟨_,rfl⟩;have hsp1:∀k,k<c*3->(W1.cell? ⟨b,off+k,none⟩).isSome=true:=λk hk=>by rw[hW1];exact isSome_setCells b _ _ _ (λj hj=>by rw[TU];exact hsp _ aa) _ (hsp k hk)
 have hcp2:∀(W:World),(∀x,W.cell? x=W1.cell? x)->(∀x,W.frozen? x=W1.frozen? x)->∀ty dc,(Builtin.copy_ #[68,68] ty #[.slice (some ⟨b,off+i*3,none⟩) (n+1-i) dc,.slice (some ⟨vb,0,none⟩) 1 1]).run prog W=.ok (goInt 1) (W.setCells b (off+i*3) vs):=λW hWc hWf ty dc=>
  QE W _ _ ty 159 3 b (off+i*3) (n+1-i) dc ⟨vb,0,none⟩ 1 1 1 vs underlying68 hsz (by simp only[Nat.min_def];split<;>omega) (by rw[hvl])
   (λj v hj=>by
    rw[Addr.add_lit,hWc,hW1,World.cell?_setCells_out b _ _ _ _ (λh _=>absurd h hvb)];exact hvs j v hj)
   (λj hj=>by rw[hWc,TU];exact hsp1 _ aa) (λj hj=>by rw[hWf,hW1,World.frozen?_setCells,TU];exact hfz _ aa) h1v
 rw[<-hW1] at hcp1
 go_enter func396,ntmps396
 go_wp2_with (simp only[hov])
 go_region_law_o (refine step_copy_runI rfl _ _ 68 68 rfl _ _ (by simp[Act.eval,Act.put]) (by simp[Act.eval,Act.put]) (hcp1 _ _ _) ?_)
 go_wp2_with (at_builtin;refine wpList_copy_runI _ rfl _ _ 68 68 rfl _ _ rfl rfl (hcp2 _ (λ_=>rfl) (λ_=>rfl) _ _) ?_)
 go_ret
 first|exact⟨rfl,rfl⟩|exact⟨rfl,by rw[hW1]⟩
end
section
open Go.RowKit Go.Shelf Go.Lib Go.Gv
set_option maxRecDepth 100000
set_option maxHeartbeats 4000000
theorem aRM(b off n c vb:Nat)(vs:List Value)(w:World)(hroom:n+1<=c)(hc63:c<=9223372036854775807)(hvl:vs.length=3)
  (hsp:∀j,j<c*3->(w.cell? ⟨b,off+j,none⟩).isSome=true) (hfz:∀j,j<c*3->w.frozen? ⟨b,off+j,none⟩=false) (hvs:bE w vb 0 vs) (h1v:∀v∈vs,v.oneCell'=true) :
  Calls prog 396 #[.slice (some ⟨b,off,none⟩) n c,.int .i64 n,.slice (some ⟨vb,0,none⟩) 1 1] w λe w'=>
   e=.returned (.slice (some ⟨b,off,none⟩) (n+1) c)/\w'=w.setCells b (off+n*3) vs:=by
 have u0:=run_underlying underlying68;have mixed:=aC;obtain⟨i0,hi0,hz0,hzs,hzb⟩:=hO;have hsrc:Src prog i0.size 68 (.slice (some ⟨vb,0,none⟩) 1 1) 1 vs w:=by rw[hzs];exact Src.ofSlice w underlying68 ⟨vb,0,none⟩ 1 1 vs aa (λj u hj=>by rw[Addr.add_lit];exact hvs j u hj) h1v
 have hrun:=run_append_room_src w 68 68 68 159 i0 underlying68 hi0 b off n c (.slice (some ⟨vb,0,none⟩) 1 1) 1 vs hsrc hroom (by rw[hzs,hvl];exact λj hj=>by rw[TU];exact hsp _ aa) (by rw[hzs,hvl];exact λj hj=>by rw[TU];exact hfz _ aa);rw[hzs] at hrun
 go_enter func396,ntmps396
 go_wp2_with (at_builtin;refine Lib.wpList_append_run _ rfl _ _ _ _ rfl _ _ rfl rfl _ _ hrun ?_)
 go_ret
 exact⟨rfl,rfl⟩
theorem aVQ(base:Option Addr)(n c vb:Nat)(cs vs:List Value)(w:World)(hnc:n<=c)(hroom:c<n+1)(hbig:n+1<=1073741824)(hcl:cs.length=n*3)(hvl:vs.length=3)(hnil:base=none->n=0)
  (hcs:∀a,base=some a->∀j v,cs[j]?=some v->w.cell? (a.add j)=some v) (hvs:bE w vb 0 vs) (h1v:∀v∈vs,v.oneCell'=true) :
  Calls prog 396 #[.slice base n c,.int .i64 n,.slice (some ⟨vb,0,none⟩) 1 1] w λe w'=>
   e=.returned (.slice (some ⟨w.heap.size,0,none⟩) (n+1) (grownCap w (n+1) c 159)) /\
   w'=w.drew.alloc (.cells ((cs++vs).toArray++Builtin.zeroCells (.agg #[.int .i64 0,.bool false,.int .i64 0]:Value).cells (grownCap w (n+1) c 159-(n+1))) 159):=by
 have u0:=run_underlying underlying68;have mixed:=aC;obtain⟨i0,hi0,hz0,hzs,hzb⟩:=hO;have hsrc:Src prog i0.size 68 (.slice (some ⟨vb,0,none⟩) 1 1) 1 vs w:=by rw[hzs];exact Src.ofSlice w underlying68 ⟨vb,0,none⟩ 1 1 vs aa (λj u hj=>by rw[Addr.add_lit];exact hvs j u hj) h1v
 have hold:(Builtin.firstCells i0.size n (.slice base n c)).run prog w.drew=.ok cs.toArray w.drew:=by
  rw[hzs];cases base with
  |none=>
   have h0:=hnil rfl;subst h0;rw[List.length_eq_zero_iff.1 (by omega:cs.length=0)];exact run_firstCells_none w.drew 3 0 0 c
  |some a=>exact run_firstCells_some w.drew 3 n a n c cs hcl (λj v hj=>hcs a rfl j v hj)
 have hfit:Builtin.nextslicecap (n+1) c*i0.bytes<=281474976710656:=growslice_fits hroom (pG (Nat.mul_le_mul hbig hzb) ai);have hrun:=run_append_grow_src w 68 68 68 159 i0 _ underlying68 hi0 hz0 base n c cs hold _ 1 vs hsrc hroom aa hfit
 go_enter func396,ntmps396
 cases base with
 |none=>
  have h0:=hnil rfl;subst h0
  go_wp2_with (at_builtin;refine Lib.wpList_append_run _ rfl _ _ _ _ rfl _ _ rfl rfl _ _ hrun ?_)
  go_ret
  exact⟨rfl,rfl⟩
 |some a=>
  obtain⟨ab,ao,asp⟩:=a
  go_wp2_with (at_builtin;refine Lib.wpList_append_run _ rfl _ _ _ _ rfl _ _ rfl rfl _ _ hrun ?_)
  all_goals (go_ret;exact⟨rfl,rfl⟩)
theorem aRN(b off n c i vb:Nat)(cs vs:List Value)(w:World)(hi:i<n)(hnc:n<=c)(hroom:c<n+1)(hbig:n+1<=1073741824)(hcl:cs.length=n*3)(hvl:vs.length=3)
  (hcs:bE w b off cs) (hvs:bE w vb 0 vs) (h1c:∀v∈cs,v.oneCell'=true) (h1v:∀v∈vs,v.oneCell'=true) :
  Calls prog 396 #[.slice (some ⟨b,off,none⟩) n c,.int .i64 i,.slice (some ⟨vb,0,none⟩) 1 1] w λe w'=>
   e=.returned (.slice (some ⟨w.heap.size,0,none⟩) (n+1) (grownCap w (n+1) c 159)) /\
   w'=(((w.alloc (.cells ((cs.take (i*3)).toArray++Builtin.zeroCells (.agg #[.int .i64 0,.bool false,.int .i64 0]:Value).cells (n+1-i)++Builtin.zeroCells (.agg #[.int .i64 0,.bool false,.int .i64 0]:Value).cells (grownCap w (n+1) c 159-(n+1))) 159)).drew.setCells w.heap.size (i*3) vs).drew).setCells w.heap.size ((i+1)*3) (cs.drop (i*3)):=by
 have u0:=run_underlying underlying68;have u3:=run_underlying underlying3;have mixed:=aC;obtain⟨i0,hi0,hz0,hzs,hzb⟩:=hO;have hz2:¬((i:Int)=(n:Int)):=aa
 have hz3:(c:Int)<(n:Int)+1:=aa
 have hsz:(prog.info? 159).map (·.size)=some 3:=by rw[hi0];simp[hzs]
 have hbw:b<w.heap.size:=block_lt_of_cell (hcs 0 _ (kG aa));have hvw:vb<w.heap.size:=block_lt_of_cell (hvs 0 _ (kG aa));have hkk:(n:Int)+1-(i:Int)=((n+1-i:Nat):Int):=aa
 have hik:i+(n+1-i)=n+1:=aa
 have htl:(cs.take (i*3)).length=i*3:=by rw[YB];omega
 have hold:(Builtin.firstCells i0.size i (.slice (some ⟨b,off,none⟩) i c)).run prog w.drew=.ok (cs.take (i*3)).toArray w.drew:=by
  rw[hzs];exact run_firstCells_some w.drew 3 i ⟨b,off,none⟩ i c (cs.take (i*3)) htl (λj v hj=>by
   rw[Addr.add_lit];rw[aBX] at hj;split at hj
   ·exact hcs j v hj
   ·cases hj)
 have hfit:Builtin.nextslicecap (n+1) c*i0.bytes<=281474976710656:=growslice_fits hroom (pG (Nat.mul_le_mul hbig hzb) ai);have hrz:∀ty,(Builtin.append_ #[68,3] ty #[.slice (some ⟨b,off,none⟩) i c,.int .i64 ((n:Int)+1-(i:Int))]).run prog w =
   .ok (.slice (some ⟨w.heap.size,0,none⟩) (n+1) (grownCap w (n+1) c 159)) (w.drew.alloc (.cells ((cs.take (i*3)).toArray++Builtin.zeroCells (.agg #[.int .i64 0,.bool false,.int .i64 0]:Value).cells (n+1-i)++Builtin.zeroCells (.agg #[.int .i64 0,.bool false,.int .i64 0]:Value).cells (grownCap w (n+1) c 159-(n+1))) 159)):=λty=>by
  have h:=Lib.run_append_grow_zeros w 68 3 ty 159 i0 _ .i64 .i64 underlying68 underlying3 hi0 hz0 (some ⟨b,off,none⟩) i c (cs.take (i*3)) hold (n+1-i) aa aa aa aa (pG (Nat.mul_le_mul (show n+1-i<=1073741824 by omega) hzb) ai) (by rw[hik];exact hfit);rw[hik] at h;rw[hkk];exact h
 obtain⟨G,hG⟩:∃G,G=grownCap w (n+1) c 159:=⟨_,rfl⟩;obtain⟨ROW,hROW⟩:∃ROW:Array Value,ROW=(cs.take (i*3)).toArray++Builtin.zeroCells (.agg #[.int .i64 0,.bool false,.int .i64 0]:Value).cells (n+1-i)++Builtin.zeroCells (.agg #[.int .i64 0,.bool false,.int .i64 0]:Value).cells (G-(n+1)):=⟨_,rfl⟩;rw[<-hG] at hrz ⊢;rw[<-hROW] at hrz ⊢;have hRl:(n+1)*3<=ROW.size:=by rw[hROW];simp only[Array.size_append,List.size_toArray,htl,size_zeroCells];have:(.agg #[.int .i64 0,.bool false,.int .i64 0]:Value).cells.size=3:=rfl;rw[this];omega
 obtain⟨W1,hW1⟩:∃W1,W1=w.drew.alloc (.cells ROW 159):=⟨_,rfl⟩;rw[<-hW1] at hrz;have hN:∀j,j<(n+1)*3->(W1.cell? ⟨w.heap.size,j,none⟩).isSome=true:=λj hj=>by rw[hW1,World.cell?_alloc_at (w:=w.drew) ROW _ w.heap.size j rfl,Array.getElem?_eq_getElem aa];rfl
 have hNf:∀j,W1.frozen? ⟨w.heap.size,j,none⟩=false:=λj=>by rw[hW1];exact World.frozen?_alloc_at (w:=w.drew) ROW _ w.heap.size j rfl
 have hOb:∀j v,w.cell? ⟨b,j,none⟩=some v->W1.cell? ⟨b,j,none⟩=some v:=λj v h=>by rw[hW1,World.cell?_alloc_past (w:=w.drew) _ b j hbw];exact h
 have hOv:∀j v,w.cell? ⟨vb,j,none⟩=some v->W1.cell? ⟨vb,j,none⟩=some v:=λj v h=>by rw[hW1,World.cell?_alloc_past (w:=w.drew) _ vb j hvw];exact h
 have hcpA:∀(W:World),(∀x,W.cell? x=W1.cell? x)->(∀x,W.frozen? x=W1.frozen? x)->∀ty dc,(Builtin.copy_ #[68,68] ty #[.slice (some ⟨w.heap.size,i*3,none⟩) (n+1-i) dc,.slice (some ⟨vb,0,none⟩) 1 1]).run prog W=.ok (goInt 1) (W.setCells w.heap.size (i*3) vs):=λW hWc hWf ty dc=>
  QE W _ _ ty 159 3 w.heap.size (i*3) (n+1-i) dc ⟨vb,0,none⟩ 1 1 1 vs underlying68 hsz (by simp only[Nat.min_def];split<;>omega) (by rw[hvl])
   (λj v hj=>by rw[Addr.add_lit,hWc];exact hOv _ v (hvs j v hj))
   (λj hj=>by rw[hWc];exact hN _ aa) (λj hj=>by rw[hWf];exact hNf _) h1v
 have hGn:n+1<=G:=by rw[hG];exact grownCap_ge w _ _ _
 have hG63:G<=9223372036854775807:=by have:=grownCap_le_maxLen w (n+1) c 159 (by unfold maxLen;omega);rw[<-hG] at this;unfold maxLen at this;omega
 have hGi:¬(G=i):=aa
 have hGim:¬(G=i+1):=aa
 have hci:¬(c=i):=aa
 have hbN:b≠w.heap.size:=aa
 have hdl:(cs.drop (i*3)).length=(n-i)*3:=by rw[aB0,hcl];omega
 have hcpB:∀(W:World),(∀x,W.cell? x=(W1.setCells w.heap.size (i*3) vs).cell? x)->(∀x,W.frozen? x=(W1.setCells w.heap.size (i*3) vs).frozen? x)->∀ty dc sc,(Builtin.copy_ #[68,68] ty #[.slice (some ⟨w.heap.size,(i+1)*3,none⟩) (n-i) dc,.slice (some ⟨b,off+i*3,none⟩) (n-i) sc]).run prog W=.ok (goInt (n-i:Nat)) (W.setCells w.heap.size ((i+1)*3) (cs.drop (i*3))):=λW hWc hWf ty dc sc=>
  QE W _ _ ty 159 3 w.heap.size ((i+1)*3) (n-i) dc ⟨b,off+i*3,none⟩ (n-i) sc (n-i) (cs.drop (i*3)) underlying68 hsz (by simp only[Nat.min_def];split<;>omega) hdl
   (λj v hj=>by
    rw[Addr.add_lit,hWc,World.cell?_setCells_out _ _ _ _ _ (λh _=>absurd h hbN),TU];exact hOb _ v (hcs (i*3+j) v (by rwa [List.getElem?_drop] at hj)))
   (λj hj=>by rw[hWc];exact isSome_setCells _ _ _ _ (λt ht=>hN _ aa) _ (hN _ aa))
   (λj hj=>by rw[hWf,World.frozen?_setCells];exact hNf _) (λv hv=>h1c v (aE9 hv))
 subst hW1;have hE1:∀x,((w.alloc (.cells ROW 159)).drew).cell? x=(w.drew.alloc (.cells ROW 159)).cell? x:=λx=>rfl;have hE2:∀x,((w.alloc (.cells ROW 159)).drew).frozen? x=(w.drew.alloc (.cells ROW 159)).frozen? x:=λx=>rfl;have hF1:∀x,(((w.alloc (.cells ROW 159)).drew.setCells w.heap.size (i*3) vs).drew).cell? x=((w.drew.alloc (.cells ROW 159)).setCells w.heap.size (i*3) vs).cell? x:=λx=>rfl;have hF2:∀x,(((w.alloc (.cells ROW 159)).drew.setCells w.heap.size (i*3) vs).drew).frozen? x=((w.drew.alloc (.cells ROW 159)).setCells w.heap.size (i*3) vs).frozen? x:=λx=>rfl;have hw1:IntKind.i64.wrap ((i:Int)+1)=(i:Int)+1:=by rw[IntKind.wrap_i64];omega
 have hw2:IntKind.i64.wrap ((n:Int)+1)=(n:Int)+1:=by rw[IntKind.wrap_i64];omega
 have hw3:IntKind.i64.wrap ((n:Int)+1-(i:Int))=(n:Int)+1-(i:Int):=by rw[IntKind.wrap_i64];omega
 have hb1:(0:Int)<=(i:Int)+1:=aa
 have hin:i<=n:=aa
 have htn:((i:Int)+1).toNat=i+1:=aa
 have hb3:(i:Int)<=(n:Int):=aa
 clear hkk hik hold hROW hG hRl htl
 go_enter func396,ntmps396
 go_wp2_with (first
  |(at_builtin;refine Lib.wpList_append_run _ rfl _ _ _ _ rfl _ _ rfl rfl _ _ (hrz _) ?_)
  |(at_builtin;refine wpList_copy_runI _ rfl _ _ 68 68 rfl _ _ rfl rfl (hcpA _ hE1 hE2 _ _) ?_)
  |(at_builtin;refine wpList_copy_runI _ rfl _ _ 68 68 rfl _ _ rfl rfl (hcpB _ (λ_=>rfl) (λ_=>rfl) _ _ _) ?_))
 go_region_law_o (refine step_copy_runI rfl _ _ 68 68 rfl (.slice (some ⟨w.heap.size,(i+1)*3,none⟩) (n-i) (G-(i+1))) (.slice (some ⟨b,off+i*3,none⟩) (n-i) (c-i)) (by simp[Act.eval,Act.put]) (by simp[Act.eval,Act.put]) (hcpB _ hF1 hF2 3 (G-(i+1)) (c-i)) ?_)
 go_wp2
 go_ret
 exact⟨rfl,rfl⟩
end
end Go.Proofs.YtonkeoekmfkaoaaGreat
end
