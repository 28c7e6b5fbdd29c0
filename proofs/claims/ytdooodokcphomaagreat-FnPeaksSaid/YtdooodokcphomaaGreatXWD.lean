import Derived.Test.YtdooodokcphomaaGreatXWC
set_option linter.unusedVariables false
set_option linter.unusedSimpArgs false
set_option linter.unusedSectionVars false
set_option linter.constructorNameAsVariable false
set_option linter.unnecessarySimpa false
set_option linter.defProp false
noncomputable section
namespace Go.Gv
section
def aQP(code:aF):=some (decide (1048576<(code.length:Int)))
def aUC(a:Int):ct:=some (0,a)
def NQ(code:aF)(b a:Int)(d:Bool):Option (Step (Int×Int) Int):=(if d then(idx code a).bind λc=>some (.next (jG .and .i64 (bB ((bB ((bB (b*131))+(c.toNat:Int)))+7)) 1073741823,bB (a+1))) else some (.stop (b)))
def aFL(code:aF):(Int×Int)->Option (Step (Int×Int) Int)
 |(b,a)=>(if decide (a<(code.length:Int)) then NQ code b a (decide (a<4000)) else NQ code b a false)
def aUD:Int->ct
 |a=>aUC a
def SX(code:aF):=(loop (aFL code) (bB (10101+(code.length:Int)),0)).bind (aUD)
def JE(c:cE)(b a:Int):=some (b,(a,bB ((bB (c.h*6364136223846793005))+1442695040888963407)))
def wK(c:cE):=(if decide (c.i<(c.b.length:Int)) then(idx c.b c.i).bind λa=>JE c (jG .and .i64 (bB ((jG .and .i64 (jG .xor .i64 (rS .i64 (bB ((bB (c.h*6364136223846793005))+1442695040888963407)) 33) (rS .i64 (bB ((bB (c.h*6364136223846793005))+1442695040888963407)) 45)) 255)+(a.toNat:Int))) 255) (bB (c.i+1)) else JE c (jG .and .i64 (jG .xor .i64 (rS .i64 (bB ((bB (c.h*6364136223846793005))+1442695040888963407)) 33) (rS .i64 (bB ((bB (c.h*6364136223846793005))+1442695040888963407)) 45)) 255) c.i)
def dU(c:cE)(n:Int):=(if decide (n<=0) then some (0,(c.i,c.h)) else(if decide (n<=256) then(wK c).bind λf=>need (n≠0) (some (Int.tmod f.1 n,(f.2.1,f.2.2))) else(wK c).bind λe=>(wK (⟨c.b,e.2.1,e.2.2⟩:cE)).bind λd=>(wK (⟨c.b,d.2.1,d.2.2⟩:cE)).bind λb=>(wK (⟨c.b,b.2.1,b.2.2⟩:cE)).bind λa=>need (n≠0) (some (Int.tmod (bB ((bB ((bB ((bB (e.1*16777216))+(bB (d.1*65536))))+(bB (b.1*256))))+a.1)) n,(a.2.1,a.2.2)))))
def UX(c:cE)(n:Int):=(dU c n).bind λa=>some (a.1 == 0,(a.2.1,a.2.2))
def jI(c:cE)(a:al):=(dU c (a.length:Int)).bind λb=>(idx a b.1).bind λd=>some (d,(b.2.1,b.2.2))
def nO(a:Bool):=some a
def A0(a:Int):=(if a == 1 then nO true else(if a == 2 then nO true else(if a == 3 then nO true else nO (a == 7))))
def NR(f:Int×(Int×Int))(e d c b a:Int):=some ((⟨f.1,e,b,a⟩:mS),(d,c))
def NS(c:cE)(g:Int×(Int×Int))(f e d b:Int):=(dU (⟨c.b,e,d⟩:cE) 60000).bind λa=>NR g f a.2.1 a.2.2 b a.1
def EZ(c:cE)(d:Int×(Int×Int))(h g f:Int):=(if d.1 == 1 then(dU (⟨c.b,h,g⟩:cE) 40).bind λe=>(UX (⟨c.b,e.2.1,e.2.2⟩:cE) 12).bind λa=>(if a.1 then(jI (⟨c.b,a.2.1,a.2.2⟩:cE) ([0,41,100]:al)).bind λb=>NS c d f b.2.1 b.2.2 b.1 else NS c d f a.2.1 a.2.2 (bB (1+e.1))) else NR d f h g 0 0)
def ZG(c:cE):=(jI c ([1,1,1,2,2,3,3,4,4,5,6,7,7]:al)).bind λb=>(A0 b.1).bind λd=>(if d then(jI (⟨c.b,b.2.1,b.2.2⟩:cE) ([0,0,0,1]:al)).bind λa=>EZ c b a.2.1 a.2.2 a.1 else EZ c b b.2.1 b.2.2 0)
def aH2(c:av)(b a:Int):=some (c,(b,a))
def UY(d:av)(e c b:Int)(a:bm):Option (Step (av×Int×Int×Int) (av×Int×Int)):=need (d.length+([(⟨a⟩:Queue)]).length<=1073741824) (some (.next (d++([(⟨a⟩:Queue)]),bB (e+1),c,b)))
def JF(d c b:Int)(a:bm):Option (Step (Int×Int×Int×bm) (Int×Int×bm)):=some (.next (bB (d-1),c,b,a))
def UZ(c:cE):(Int×Int×Int×bm)->Option (Step (Int×Int×Int×bm) (Int×Int×bm))
 |(f,e,d,b)=>(if decide (0<f) then(ZG (⟨c.b,e,d⟩:cE)).bind λa=>need (b.length+([a.1]).length<=1073741824)<|JF f a.2.1 a.2.2 (b++([a.1])) else some (.stop ((e,d,b))))
def U0(e:av)(d:Int):(Int×Int×bm)->Option (Step (av×Int×Int×Int) (av×Int×Int))
 |(c,b,a)=>UY e d c b a
def U1(c:cE)(b:Int):(av×Int×Int×Int)->Option (Step (av×Int×Int×Int) (av×Int×Int))
 |(g,f,e,d)=>(if decide (f<3) then(dU (⟨c.b,e,d⟩:cE) (bB (b+1))).bind λa=>(loop (UZ c) (a.1,a.2.1,a.2.2,[])).bind (U0 g f) else some (.stop ((g,e,d))))
def aH3:(av×Int×Int)->Option (av×(Int×Int))
 |(c,b,a)=>aH2 c b a
def A1(c:cE)(a:Int):=(loop (U1 c a) (([]:av),0,c.i,c.h)).bind (aH3)
def aKH(c:al)(b a:Int):=some (c,(b,a))
def XR(c:Int)(a:Int×(Int×Int))(b:al):Option (Step (al×Int×Int×Int) (al×Int×Int)):=some (.next (b,bB (c-1),a.2.1,a.2.2))
def XS(c:Int×(Int×Int)):(al×Int)->Option (Step (al×Int) al)
 |(a,b)=>(if decide (0<b) then need (a.length+([c.1]).length<=1073741824) (some (.next (a++([c.1]),bB (b-1)))) else some (.stop (a)))
def XT(c:Int)(b:Int×(Int×Int)):al->Option (Step (al×Int×Int×Int) (al×Int×Int))
 |a=>XR c b a
def XU(c:cE):(al×Int×Int×Int)->Option (Step (al×Int×Int×Int) (al×Int×Int))
 |(g,f,e,d)=>(if decide (0<f) then(dU (⟨c.b,e,d⟩:cE) 3).bind λa=>(dU (⟨c.b,a.2.1,a.2.2⟩:cE) 4).bind λb=>(loop (XS a) (g,bB (1+b.1))).bind (XT f b) else some (.stop ((g,e,d))))
def aKI:(al×Int×Int)->Option (al×(Int×Int))
 |(c,b,a)=>aKH c b a
def NT(c:cE)(a:Int):=(dU c a).bind λb=>(loop (XU c) (([]:al),b.1,b.2.1,b.2.2)).bind (aKI)
def mE(c:av)(b a:Int):=some (c,(b,a))
def HP(c:av)(b a:Int):=mE c b a
def aGQ(c:av)(b a:Int):=mE c b a
def HQ(a:av)(e:Bool)(d c:Int):Option (Step (av×Int×Int) (av×Int×Int)):=(if e then(idx a 1).bind λb=>need (b.mY.length+([(⟨4,0,0,0⟩:mS)]).length<=1073741824) (some (.next (a.set ((1:Int).toNat) (⟨b.mY++([(⟨4,0,0,0⟩:mS)])⟩:Queue),d,c))) else some (.stop ((a,d,c))))
def SY(c:cE):(av×Int×Int)->Option (Step (av×Int×Int) (av×Int×Int))
 |(b,f,e)=>(idx b 1).bind λd=>(dU (⟨c.b,f,e⟩:cE) 2).bind λa=>HQ b (decide ((d.mY.length:Int)<(bB (12+a.1)))) a.2.1 a.2.2
def aGR:(av×Int×Int)->Option (av×(Int×Int))
 |(c,b,a)=>aGQ c b a
def GA(c:cE):=
 (A1 c 7).bind λb=>(dU (⟨c.b,b.2.1,b.2.2⟩:cE) 20).bind λa=>(if a.1 == 0 then need (0<=(2:Int)/\(2:Int)<=(b.1.length:Int)) (some ((b.1.take ((2:Int).toNat)).drop 0,(a.2.1,a.2.2))) else(if a.1 == 1 then(idx b.1 0).bind λf=>(jI (⟨c.b,a.2.1,a.2.2⟩:cE) ([0,8]:al)).bind λd=>need (f.mY.length+([(⟨d.1,0,0,0⟩:mS)]).length<=1073741824)<|HP (b.1.set ((0:Int).toNat) (⟨f.mY++([(⟨d.1,0,0,0⟩:mS)])⟩:Queue)) d.2.1 d.2.2 else(if a.1 == 2 then(loop (SY c) (b.1,a.2.1,a.2.2)).bind (aGR) else(if a.1 == 3 then(idx b.1 2).bind λe=>need (e.mY.length+([(⟨2,2,0,0⟩:mS)]).length<=1073741824) (mE (b.1.set ((2:Int).toNat) (⟨e.mY++([(⟨2,2,0,0⟩:mS)])⟩:Queue)) a.2.1 a.2.2) else mE b.1 a.2.1 a.2.2))))
def mB(b:av)(a:al):=some (⟨b,a⟩:iD)
def mF(code:aF):=(SX code).bind λd=>(A1 (⟨code,d.1,d.2⟩:cE) 8).bind λc=>(NT (⟨code,c.2.1,c.2.2⟩:cE) 90).bind λa=>(dU (⟨code,a.2.1,a.2.2⟩:cE) 16).bind λb=>(if b.1 == 0 then(GA (⟨code,b.2.1,b.2.2⟩:cE)).bind λe=>mB e.1 a.1 else(if b.1 == 1 then need (a.1.length+([(-1),3,1]:al).length<=1073741824) (mB c.1 (a.1++([(-1),3,1]:al))) else mB c.1 a.1))
def wX(code:aF):=(mF code).bind λa=>some a
def aPL(code:aF)(i:Int):=(if decide (i<(code.length:Int)) then(idx code i).bind λa=>some (a.toNat:Int) else some (Int.tmod (bB ((bB (i*37))+(bB ((code.length:Int)*11)))) 256))
def ZH(code:aF)(i n:Int):=(aPL code i).bind λa=>some (bB (Int.tdiv (bB (a*(bB (n+1)))) 256))
def aMU(a:al):=some (⟨List.replicate ((384:Int).toNat) 0,a⟩:Heap)
def yA:(Int×al)->Option (Step (Int×al) al)
 |(b,a)=>(if decide (b<6) then need (a.length+([(-1)]).length<=1073741824) (some (.next (bB (b+1),a++([(-1)])))) else some (.stop (a)))
def aMV:al->Option Heap
 |a=>aMU a
def Q0:=need (0<=(384:Int)/\(384:Int)<=4294967296) ((loop (yA) (0,[])).bind (aMV))
def XV:=some (⟨List.replicate ((3:Int).toNat) (⟨[]⟩:bD),List.replicate ((9:Int).toNat) (⟨[]⟩:bD)⟩:aD)
def V7:=
 need (0<=(3:Int)/\(3:Int)<=4294967296)<|need (0<=(9:Int)/\(9:Int)<=4294967296)<|XV
def aCV:=(Q0).bind λb=>(V7).bind λa=>some (⟨b,a⟩:Mem)
def V8:=need (0<=(3:Int)/\(3:Int)<=4294967296) (some (⟨0,List.replicate ((3:Int).toNat) (⟨false,0,false,0⟩:xZ)⟩:aI))
def V9:=need (0<=(3:Int)/\(3:Int)<=4294967296) (some (List.replicate ((3:Int).toNat) (⟨[]⟩:bP)))
def aCW:ck:=need (0<=(3:Int)/\(3:Int)<=4294967296) (some (List.replicate ((3:Int).toNat) 0))
def JG:Option aA:=(aCV).bind λd=>(V8).bind λc=>(V9).bind λb=>(aCW).bind λa=>some (⟨d,c,b,a⟩:aA)
def Q1(a:Bool):=some a
def bY(x b a:Int):=(if decide (b<=x) then Q1 (decide (x<=a)) else Q1 false)
def RB(a:Bool):=some a
def RC(a:Bool):=some a
def JH(a:mS)(d:Bool):=(if d then some false else(if a.Kind != 1 then(if a.jZ == 0 then RB (a.cT == 0) else RB false) else(bY a.jZ 0 100).bind λc=>(if c then(bY a.cT 0 65535).bind λb=>RC b else RC false)))
def aEM(a:mS):=(bY a.Kind 1 7).bind λe=>(if !e then some false else(A0 a.Kind).bind λd=>(if !d then(if a.Cell != 0 then JH a true else(bY a.Cell 0 1).bind λc=>JH a (!c)) else(bY a.Cell 0 1).bind λb=>JH a (!b)))
def aAT(todo:av):=some ((todo.length:Int) == 3)
def aAU(a:Int):Option (Step Int (Out Unit Bool)):=some (.next (bB (a+1)))
def qY(todo:av)(b:Int):Int->Option (Step Int (Out Unit Bool))
 |a=>(idx todo b).bind λf=>(if decide (a<(f.mY.length:Int)) then(idx todo b).bind λe=>(idx e.mY a).bind λd=>(aEM d).bind λc=>(if !c then some (.stop (Out.ret false)) else some (.next (bB (a+1)))) else some (.stop (Out.brk ())))
def aAV(a:Int):(Out Unit Bool)->Option (Step Int (Out Unit Bool))
 |.brk ()=>aAU a
 |.ret r=>some (.stop (Out.ret r))
def qZ(todo:av):Int->Option (Step Int (Out Unit Bool))
 |a=>(if decide (a<(todo.length:Int)) then(idx todo a).bind λb=>(if decide (12<(b.mY.length:Int)) then some (.stop (Out.ret false)) else(loop (qY todo a) 0).bind (aAV a)) else some (.stop (Out.brk ())))
def aAW(todo:av):(Out Unit Bool)->ay
 |.brk ()=>aAT todo
 |.ret r=>some r
def RD(todo:av):=(loop (qZ todo) 0).bind (aAW todo)
def aH4(a:av):=some a
def JI(l:av):(av×Int)->Option (Step (av×Int) av)
 |(c,b)=>(if decide (b<(l.length:Int)) then(idx l b).bind λa=>need (([]:bm).length+a.mY.length<=1073741824) (need (c.length+([(⟨([]:bm)++a.mY⟩:Queue)]).length<=1073741824) (some (.next (c++([(⟨([]:bm)++a.mY⟩:Queue)]),bB (b+1))))) else some (.stop (c)))
def aH5:av->Option av
 |a=>aH4 a
def A2(l:av):=(loop (JI l) (([]:av),0)).bind (aH5)
def XW(a:aJ):=some ({a with Log:=[]}:aJ)
def zH(todo:av):=
 (RD todo).bind λc=>(if !c then some (⟨(⟨(⟨(⟨[],[]⟩:Heap),(⟨[],[]⟩:aD)⟩:Mem),(⟨0,[]⟩:aI),[],[]⟩:aA),[],[],[],[],0⟩:aJ) else(JG).bind λb=>need (0<=(2:Int)/\(2:Int)<=4294967296)<|need (0<=(3:Int)/\(3:Int)<=4294967296)<|(A2 todo).bind λa=>XW (⟨b,List.replicate ((2:Int).toNat) 0,List.replicate ((3:Int).toNat) (⟨false,(⟨0,0,0,0⟩:mS),0,0,(⟨0,0,0,0,0,0,0,0,0,false⟩:Sub),0,0,0,0⟩:fE),a,[],0⟩:aJ))
def eK(a b:Int):=some (⟨a,b,0,0,0,0,0,0,0,false⟩:Sub)
def fV(s:aJ)(a:Int)(c:Queue)(b:mS)(d:fE):=(idx s.aH a).bind λe=>need (s.Log.length+([(⟨1,a,bB (s.aG+1),b.Cell,0,0,0⟩:Ev)]).length<=1073741824) (some (⟨s.aA,s.Cells,s.aH.set a.toNat d,s.aY.set a.toNat (⟨(c.mY.take c.mY.length).drop ((1:Int).toNat)⟩:Queue),s.Log++([(⟨1,a,bB (s.aG+1),b.Cell,0,0,0⟩:Ev)]),bB (s.aG+1)⟩:aJ))
def jU(s:aJ)(b:Int)(c:Queue)(a:mS)(g:Bool):=(if g then(eK 5 0).bind λe=>(idx s.aA.aI.bV b).bind λf=>(if f.On then fV s b c a (⟨true,a,bB (s.aG+1),9,e,0,0,0,1⟩:fE) else fV s b c a (⟨true,a,bB (s.aG+1),0,e,0,0,0,0⟩:fE)) else(if a.Kind == 4 then(eK 3 0).bind λd=>fV s b c a (⟨true,a,bB (s.aG+1),0,d,0,0,0,0⟩:fE) else fV s b c a (⟨true,a,bB (s.aG+1),0,(⟨0,0,0,0,0,0,0,0,0,false⟩:Sub),0,0,0,0⟩:fE)))
def uM(s:aJ)(c:Int)(e:Bool):=(if e then some s else(idx s.aY c).bind λb=>(idx b.mY 0).bind λa=>need (0<=(1:Int)/\(1:Int)<=(b.mY.length:Int)) ((if a.Kind == 1 then(eK 1 a.jZ).bind λd=>fV s c b a (⟨true,a,bB (s.aG+1),0,d,0,0,0,0⟩:fE) else(if a.Kind == 2 then jU s c b a true else jU s c b a (a.Kind == 5)))))
def zI(s:aJ)(b:Int):=(idx s.aY b).bind λa=>(if(a.mY.length:Int) == 0 then uM s b true else uM s b (s.aG == 1000000))
def E0(b c:Int)(a:Bool):=(if a then some (-1) else some (bB ((bB (b*3))+c)))
def A3(a c:Int):=(bY a 0 2).bind λd=>(if !d then E0 a c true else(bY c 0 2).bind λb=>E0 a c (!b))
def b9(s:Sub)(code:Int):=some ({s with Code:=code,eG:=true}:Sub)
def pC(c:Int):bu:=(if c == 0 then some 8 else(if c == 1 then some 16 else(if c == 2 then some 40 else some 0)))
def aMW:=some (-1)
def iH(size:Int):Int->Option (Step Int (Out Unit Int))
 |a=>(if decide (a<3) then(pC a).bind λc=>(bY size 1 c).bind λb=>(if b then some (.stop (Out.ret a)) else some (.next (bB (a+1)))) else some (.stop (Out.brk ())))
def aMX:(Out Unit Int)->bu
 |.brk ()=>aMW
 |.ret r=>some r
def CU(size:Int):=(loop (iH size) 0).bind (aMX)
def NU(s:bD)(a:Int):=some ((⟨(s.bA.take ((bB ((s.bA.length:Int)-1)).toNat)).drop 0⟩:bD),a)
def tD(s:bD):=(if(s.bA.length:Int) == 0 then some (s,(-1)) else need (0<=(bB ((s.bA.length:Int)-1):Int)/\(bB ((s.bA.length:Int)-1):Int)<=(s.bA.length:Int)) ((idx s.bA (bB ((s.bA.length:Int)-1))).bind λa=>NU s a))
def aMY(a:al):=some a
def oA(at_:Int):(al×Int×Int)->Option (Step (al×Int×Int) al)
 |(b,c,a)=>(if decide (0<=a) then(idx b (bB (at_+a))).bind λd=>some (.next (b.set ((bB (at_+a)).toNat) (Int.tmod c 256),bB (Int.tdiv c 256),bB (a-1))) else some (.stop (b)))
def aMZ:al->Option al
 |a=>aMY a
def jE(b:al)(at_ a n:Int):=(loop (oA at_) (b,n,bB (a-1))).bind (aMZ)
def II(a:Int):=(bY a 0 23).bind λb=>(if !b then some (-1) else some (bB (Int.tdiv a 4)))
def CV(a:Int):=(bY a 0 23).bind λb=>(if !b then some (-1) else some (Int.tmod a 4))
def E1(c:Int):=(bY c 0 2).bind λb=>(if !b then some 0 else(pC c).bind λa=>some (bB (4+a)))
def oX(c:Int):=(bY c 0 2).bind λb=>(if !b then some 0 else(E1 c).bind λa=>need (a≠0) (some (bB (Int.tdiv 56 a))))
def NV(a c:Int)(f:Bool):=(if f then some (-1) else(II a).bind λe=>(CV a).bind λd=>(E1 c).bind λb=>some (bB ((bB ((bB (e*64))+8))+(bB (d*b)))))
def A4(a c:Int):=(II a).bind λf=>(if decide (f<0) then NV a c true else(CV a).bind λe=>(oX c).bind λd=>(bY e 0 (bB (d-1))).bind λb=>NV a c (!b))
def A5(b a:Int)(c:Bool):=(if c then some (-1) else some (bB ((bB (b*4))+a)))
def wL(b a:Int):=(bY b 0 5).bind λd=>(if !d then A5 b a true else(bY a 0 3).bind λc=>A5 b a (!c))
def aM0(h:Heap):=some (h,([]:al))
def GB(a:Int):Option (Step Int (Out Unit (Heap×al))):=some (.next (bB (a+1)))
def aM1(h:Heap)(c d:Int)(b a:al):Option (Step Int (Out Unit (Heap×al))):=some (.stop (Out.ret ((⟨a,h.Class.set d.toNat c⟩:Heap),b)))
def PO(e:Int)(c:al)(b:Int)(d:al):Option (Step (al×Int×al) (al×al)):=(wL e b).bind λa=>need (c.length+([a]).length<=1073741824) (some (.next (c++([a]),bB (b+1),d)))
def GC(c i:Int):(al×Int×al)->Option (Step (al×Int×al) (al×al))
 |(d,a,b)=>(oX c).bind λh=>(if decide (a<h) then(wL i a).bind λg=>(A4 g c).bind λf=>(jE b f 4 1).bind λe=>PO i d a e else some (.stop ((d,b))))
def aM2(h:Heap)(c d:Int):(al×al)->Option (Step Int (Out Unit (Heap×al)))
 |(b,a)=>aM1 h c d b a
def g7(h:Heap)(c:Int):Int->Option (Step Int (Out Unit (Heap×al)))
 |a=>(if decide (a<6) then(idx h.Class a).bind λd=>(if d != (-1) then GB a else(idx h.Bytes (bB (a*64))).bind λg=>(idx (h.Bytes.set ((bB (a*64)).toNat) 171) (bB ((bB (a*64))+1))).bind λf=>(oX c).bind λb=>(idx ((h.Bytes.set ((bB (a*64)).toNat) 171).set ((bB ((bB (a*64))+1)).toNat) c) (bB ((bB (a*64))+2))).bind λe=>(loop (GC c a) (([]:al),0,((h.Bytes.set ((bB (a*64)).toNat) 171).set ((bB ((bB (a*64))+1)).toNat) c).set ((bB ((bB (a*64))+2)).toNat) b)).bind (aM2 h c a)) else some (.stop (Out.brk ())))
def aM3(h:Heap):(Out Unit (Heap×al))->Option (Heap×al)
 |.brk ()=>aM0 h
 |.ret r=>some r
def rV(h:Heap)(c:Int):=(loop (g7 h c) 0).bind (aM3 h)
def GD(m:Mem)(c:Int)(a:Heap×al)(d:bD)(b:Int):=some ((⟨a.1,(⟨m.aD.Global.set c.toNat (⟨d.bA++((a.2.take a.2.length).drop ((1:Int).toNat))⟩:bD),m.aD.Own⟩:aD)⟩:Mem),b)
def CX(m:Mem)(c:Int):=(rV m.Heap c).bind λa=>(if(a.2.length:Int) == 0 then some ((⟨a.1,m.aD⟩:Mem),(-1)) else(idx m.aD.Global c).bind λb=>need (0<=(1:Int)/\(1:Int)<=(a.2.length:Int)) (need (b.bA.length+((a.2.take a.2.length).drop ((1:Int).toNat)).length<=1073741824) ((idx a.2 0).bind λd=>GD m c a b d)))
def yC(h:Heap)(c:Int)(b:Bool):=(if b then some (-1) else(idx h.Class c).bind λa=>some a)
def lG(h:Heap)(a:Int):=(II a).bind λb=>(if decide (b<0) then yC h b true else(idx h.Class b).bind λf=>(if decide (f<0) then yC h b true else(idx h.Class b).bind λe=>(CV a).bind λd=>(oX e).bind λc=>yC h b (decide (c<=d))))
def aQQ(a:Int):=some a
def A6(b:al)(at_ a:Int):(Int×Int)->Option (Step (Int×Int) Int)
 |(d,c)=>(if decide (c<a) then(idx b (bB (at_+c))).bind λe=>some (.next (bB ((bB (d*256))+e),bB (c+1))) else some (.stop (d)))
def aQR:Int->bu
 |a=>aQQ a
def pD(b:al)(at_ a:Int):=(loop (A6 b at_ a) (0,0)).bind (aQR)
def A7(h:Heap)(a:Int):=(lG h a).bind λd=>(A4 a d).bind λc=>(pD h.Bytes c 4).bind λb=>some b
def uN(a gen:Int)(b:Bool):=(if b then some 0 else some (bB ((bB (gen*32))+a)))
def NW(a gen:Int):=(bY a 0 23).bind λc=>(if !c then uN a gen true else(bY gen 1 6).bind λb=>uN a gen (!b))
def zJ(m:Mem)(a:Int):=(A7 m.Heap a).bind λc=>(NW a c).bind λb=>some b
def RE(b:aA)(s:Sub)(a pc:Int):=(if decide (0<=a) then(zJ b.Mem a).bind λd=>(b9 ({s with Out:=d}:Sub) 0).bind λc=>some c else some ({s with Pc:=pc}:Sub))
def uO(s:Sub)(e:Int)(d:Bool)(a:aA):=(if d then(b9 s 3).bind λc=>some (a,c) else(RE a s e (bB (s.Pc+1))).bind λb=>some (a,b))
def jV(s:Sub)(a:Int)(b:aA):=(if decide (a<0) then uO s a (s.Pc == 3) b else uO s a false b)
def uP(b:aA)(s:Sub)(g:Int)(f:Bool):=(if f then(idx b.Mem.aD.Global g).bind λe=>(tD e).bind λc=>jV s c.2 ({b with Mem:=(⟨b.Mem.Heap,(⟨b.Mem.aD.Global.set g.toNat c.1,b.Mem.aD.Own⟩:aD)⟩:Mem)}:aA) else(if s.Pc == 2 then(CX b.Mem g).bind λa=>jV s a.2 ({b with Mem:=a.1}:aA) else(b9 s 1).bind λd=>some (b,d)))
def zK(b:aA)(g:Int)(s:Sub):=(CU s.A).bind λc=>(if decide (c<0) then(b9 s 2).bind λf=>some (b,f) else(if s.Pc == 0 then(A3 g c).bind λe=>(idx b.Mem.aD.Own e).bind λd=>(tD d).bind λa=>jV s a.2 ({b with Mem:=(⟨b.Mem.Heap,(⟨b.Mem.aD.Global,b.Mem.aD.Own.set e.toNat a.1⟩:aD)⟩:Mem)}:aA) else(if s.Pc == 1 then uP b s c true else uP b s c (s.Pc == 3))))
def aUE:=some false
def zL(l:al)(x:Int):Int->Option (Step Int (Out Unit Bool))
 |a=>(if decide (a<(l.length:Int)) then(idx l a).bind λb=>(if b == x then some (.stop (Out.ret true)) else some (.next (bB (a+1)))) else some (.stop (Out.brk ())))
def aUF:(Out Unit Bool)->ay
 |.brk ()=>aUE
 |.ret r=>some r
def HR(l:al)(x:Int):=(loop (zL l x) 0).bind (aUF)
def aUG(a:al):=some a
def E2(l:aD):(al×Int)->Option (Step (al×Int) al)
 |(c,b)=>(if decide (b<(l.Own.length:Int)) then(idx l.Own b).bind λa=>need (c.length+a.bA.length<=1073741824) (some (.next (c++a.bA,bB (b+1)))) else some (.stop (c)))
def aUH:al->Option al
 |a=>aUG a
def aFM(l:aD)(a:al):=(loop (E2 l) (a,0)).bind (aUH)
def E3(l:aD):(al×Int)->Option (Step (al×Int) al)
 |(c,b)=>(if decide (b<(l.Global.length:Int)) then(idx l.Global b).bind λa=>need (c.length+a.bA.length<=1073741824) (some (.next (c++a.bA,bB (b+1)))) else some (.stop (c)))
def aFN(l:aD):al->Option al
 |a=>aFM l a
def SZ(l:aD):=(loop (E3 l) (([]:al),0)).bind (aFN l)
def U2(l:aD)(a:Int):=(SZ l).bind λc=>(HR c a).bind λb=>some b
def JJ(m:Mem)(a:Int):bu:=(lG m.Heap a).bind λd=>(if decide (d<0) then some 0 else(U2 m.aD a).bind λc=>(if c then some 1 else(A7 m.Heap a).bind λb=>(if decide (6<b) then some 2 else some 3)))
def CY(a:Bool):=some a
def gJ(h:Int):=(bY h 32 223).bind λa=>(if a then CY (decide ((Int.tmod h 32)<24)) else CY false)
def eM(h:Int):=(gJ h).bind λa=>(if !a then some (-1) else some (Int.tmod h 32))
def JL(h:Int):=(gJ h).bind λa=>(if !a then some 0 else some (bB (Int.tdiv h 32)))
def yD(a:Bool):=some a
def oY(m:Mem)(h:Int):=(gJ h).bind λf=>(if f then(eM h).bind λe=>(JJ m e).bind λd=>(if d == 3 then(eM h).bind λc=>(A7 m.Heap c).bind λb=>(JL h).bind λa=>yD (b == a) else yD false) else yD false)
def aQS(a:bg):=some a
def A8(l:a7):(bg×Int)->Option (Step (bg×Int) bg)
 |(b,a)=>(if decide (a<(l.length:Int)) then(idx l a).bind λc=>need (b.length+c.Rows.length<=1073741824) (some (.next (b++c.Rows,bB (a+1)))) else some (.stop (b)))
def aQT:bg->Option bg
 |a=>aQS a
def A9(l:a7):=(loop (A8 l) (([]:bg),0)).bind (aQT)
def aM4:=some false
def yE(b:Int)(a:Bool):Option (Step Int (Out Unit Bool)):=(if a then some (.stop (Out.ret true)) else some (.next (bB (b+1))))
def rA(a:Int)(d:bg):Int->Option (Step Int (Out Unit Bool))
 |b=>(if decide (b<(d.length:Int)) then(idx d b).bind λc=>(gJ c.Handle).bind λf=>(if f then(eM c.Handle).bind λe=>yE b (e == a) else yE b false) else some (.stop (Out.brk ())))
def aM5:(Out Unit Bool)->ay
 |.brk ()=>aM4
 |.ret r=>some r
def CZ(l:a7)(a:Int):=(A9 l).bind λb=>(loop (rA a b) 0).bind (aM5)
def AG(b:aA)(s:Sub)(c:a7):=(b9 s 0).bind λa=>some (({b with aQ:=c}:aA),a)
def rW(b:aA)(c:Int)(s:Sub)(e:Bool):=
 (if e then(b9 s 4).bind λd=>some (b,d) else(idx b.aQ c).bind λa=>need (a.Rows.length+([(⟨s.A,s.E⟩:eW)]).length<=1073741824)<|AG b s (b.aQ.set c.toNat (⟨a.Rows++([(⟨s.A,s.E⟩:eW)])⟩:bP)))
def uQ(b:aA)(d:Int)(s:Sub):=(if s.Pc == 0 then some (b,({s with Pc:=1,E:=b.aI.aP}:Sub)) else(if s.Pc == 1 then(bY s.E 0 b.aI.aP).bind λh=>(if !h then(b9 s 1).bind λg=>some (b,g) else(oY b.Mem s.A).bind λf=>(if !f then rW b d s true else(eM s.A).bind λe=>(CZ b.aQ e).bind λc=>rW b d s c)) else(b9 s 1).bind λa=>some (b,a)))
def aAX:=some true
def oB(b:Int)(a:Bool):Option (Step Int (Out Unit Bool)):=(if a then some (.stop (Out.ret false)) else some (.next (bB (b+1))))
def yF(c:aI):Int->Option (Step Int (Out Unit Bool))
 |a=>(if decide (a<3) then(idx c.bV a).bind λb=>(if !b.On then(if !(decide (b=(⟨false,0,false,0⟩:xZ))) then oB a true else(bY b.aP 0 c.aP).bind λg=>(if !g then oB a true else(bY b.Seen 0 2).bind λf=>oB a (!f))) else(bY b.aP 0 c.aP).bind λe=>(if !e then oB a true else(bY b.Seen 0 2).bind λd=>oB a (!d))) else some (.stop (Out.brk ())))
def PQ:(Out Unit Bool)->ay
 |.brk ()=>aAX
 |.ret r=>some r
def rB(c:aI)(a:Bool):=(if a then some false else(loop (yF c) 0).bind (PQ))
def rX(c:aI):=(bY c.aP 0 100000).bind λa=>(if !a then rB c true else rB c ((c.bV.length:Int) != 3))
def rY(c:aI):=need (([]:b6).length+c.bV.length<=1073741824) (some (⟨c.aP,([]:b6)++c.bV⟩:aI))
def pQ(b:Int)(a:aI)(c:xZ)(f:Bool):=(if f then some (a,true) else(if c.Seen == 2 then(idx a.bV b).bind λe=>some ((⟨a.aP,a.bV.set b.toNat ({e with gU:=true,Seen:=0}:xZ)⟩:aI),true) else(idx a.bV b).bind λd=>some ((⟨a.aP,a.bV.set b.toNat ({d with Seen:=bB (c.Seen+1)}:xZ)⟩:aI),false)))
def BA(c:aI)(d f:Int)(b:aI)(e:Bool):=(if e then some (b,false) else(idx c.bV d).bind λa=>(if !a.On then pQ d b a true else(if a.gU then pQ d b a true else pQ d b a (a.aP == f))))
def IJ(c:aI)(a d:Int):=(rY c).bind λb=>(rX c).bind λf=>(if !f then BA c a d b true else(bY a 0 2).bind λe=>BA c a d b (!e))
def C0(c:Int)(a:aI)(b:Bool):=(if b then some (a,false) else some ((⟨bB (c+1),a.bV⟩:aI),true))
def SR(c:aI)(a:Int):=(rY c).bind λb=>(rX c).bind λd=>(if !d then C0 a b true else(if c.aP != a then C0 a b true else C0 a b (a == 100000)))
def pR(b:aA)(s:Sub)(c:aI×Bool)(a:Int):=some (({b with aI:=c.1}:aA),({s with Pc:=a,B:=bB (s.B+1)}:Sub))
def pS(b:aA)(s:Sub)(d:aI×Bool)(c:Int):=(b9 ({s with Out:=c}:Sub) 0).bind λa=>some (({b with aI:=d.1}:aA),a)
def rC(b:aA)(s:Sub):=(if s.Pc == 0 then some (b,({s with Pc:=1,E:=b.aI.aP,B:=0}:Sub)) else(if s.Pc == 1 then(bY s.B 0 2).bind λg=>(if !g then(b9 s 1).bind λf=>some (b,f) else(IJ b.aI s.B s.E).bind λa=>(if !a.2 then(b9 s 8).bind λe=>some (({b with aI:=a.1}:aA),e) else(if(bB (s.B+1)) == 3 then pR b s a 2 else pR b s a s.Pc))) else(if s.Pc == 2 then(SR b.aI s.E).bind λc=>(if c.2 then pS b s c 1 else pS b s c s.Out) else(b9 s 1).bind λd=>some (b,d))))
def JM(a:Bool):=some a
def M1(b:eW)(a:Int):=(if decide (2<=a) then JM (decide (b.aP<=(bB (a-2)))) else JM false)
def aM6:=some (-1)
def g8(l:bg)(d:Int):Int->Option (Step Int (Out Unit Int))
 |a=>(if decide (a<(l.length:Int)) then(idx l a).bind λc=>(M1 c d).bind λb=>(if b then some (.stop (Out.ret a)) else some (.next (bB (a+1)))) else some (.stop (Out.brk ())))
def aM7:(Out Unit Int)->bu
 |.brk ()=>aM6
 |.ret r=>some r
def wY(l:bg)(a b:Int):=(loop (g8 l b) (if 0<a then a else 0)).bind (aM7)
def JN(b a:ax):=some (⟨b,a⟩:aD)
def S1(x:aD)(a c:Int)(b:bD):=JN x.Global (x.Own.set c.toNat (⟨b.bA++([a])⟩:bD))
def S3(x:aD)(a:ax):=JN a x.Own
def U3(x:aD)(f c a:Int):=
 (A3 f c).bind λe=>(idx x.Own e).bind λb=>(if decide ((b.bA.length:Int)<2) then need (b.bA.length+([a]).length<=1073741824)<|S1 x a e b else(idx x.Global c).bind λd=>need (d.bA.length+([a]).length<=1073741824)<|S3 x (x.Global.set c.toNat (⟨d.bA++([a])⟩:bD)))
def JO(x:Mem)(c:al)(b a:ax):=some (⟨(⟨c,x.Heap.Class⟩:Heap),(⟨b,a⟩:aD)⟩:Mem)
def JQ(x:Mem)(f a e d:Int)(c:al):=(if decide ((bB (d+1))<=6) then(U3 x.aD f e a).bind λb=>JO x c b.Global b.Own else JO x c x.aD.Global x.aD.Own)
def BC(x:Mem)(f a:Int):=(lG x.Heap a).bind λc=>(A7 x.Heap a).bind λb=>(A4 a c).bind λe=>(jE x.Heap.Bytes e 4 (bB (b+1))).bind λd=>JQ x f a c b d
def pT(b:aA)(s:Sub)(a:Int):=some (b,({s with Pc:=a,B:=bB (s.B+1)}:Sub))
def fZ(b:aA)(s:Sub)(d:Bool):=(if d then(b9 s 1).bind λc=>some (b,c) else(idx b.iU s.B).bind λa=>(if a == s.H then some (b,({s with Pc:=1,Row:=bB (s.Row+1)}:Sub)) else(if(bB (s.B+1)) == 3 then pT b s 3 else pT b s s.Pc)))
def wZ(s:Sub)(a:aA):=some (a,({s with Pc:=1,Out:=bB (s.Out+1)}:Sub))
def gA(b:aA)(g:Int)(s:Sub)(a:bP)(f:Bool):=(if f then(b9 s 1).bind λe=>some (b,e) else need (0<=(s.Row:Int)/\(s.Row:Int)<=(a.Rows.length:Int)) (need (0<=(bB (s.Row+1):Int)/\(bB (s.Row+1):Int)<=(a.Rows.length:Int)) (need (s.Row.toNat<=(bB (s.Row+1)).toNat) ((eM s.H).bind λd=>(BC b.Mem g d).bind λc=>wZ s ({b with Mem:=c,aQ:=b.aQ.set g.toNat (⟨((dM a.Rows s.Row.toNat (a.Rows.drop ((bB (s.Row+1)).toNat))).take (s.Row.toNat+(a.Rows.length-((bB (s.Row+1)).toNat)))).drop 0⟩:bP)}:aA)))))
def rD(b:aA)(d:Int)(s:Sub):=(idx b.aQ d).bind λa=>(if s.Pc == 0 then some (b,({s with Pc:=1,E:=b.aI.aP,Row:=0}:Sub)) else(if s.Pc == 1 then(wY a.Rows s.Row s.E).bind λj=>(if decide (j<0) then(b9 s 0).bind λm=>some (b,m) else(idx a.Rows j).bind λl=>some (b,({s with Pc:=2,Row:=j,B:=0,H:=l.Handle}:Sub))) else(if s.Pc == 2 then(bY s.B 0 2).bind λk=>(if !k then fZ b s true else(bY s.Row 0 (bB ((a.Rows.length:Int)-1))).bind λi=>(if !i then fZ b s true else(idx a.Rows s.Row).bind λh=>fZ b s (h.Handle != s.H))) else(if s.Pc == 3 then(bY s.Row 0 (bB ((a.Rows.length:Int)-1))).bind λg=>(if !g then gA b d s a true else(idx a.Rows s.Row).bind λc=>(if c.Handle != s.H then gA b d s a true else(M1 c s.E).bind λf=>gA b d s a (!f))) else(b9 s 1).bind λe=>some (b,e)))))
def zN(b d:Int)(a:aI)(c:Bool):=(if c then some (a,false) else(idx a.bV b).bind λe=>some ((⟨a.aP,a.bV.set b.toNat (⟨true,d,false,0⟩:xZ)⟩:aI),true))
def M3(c:aI)(a b:Int):=(rY c).bind λd=>(rX c).bind λg=>(if !g then zN a b d true else(bY a 0 2).bind λf=>(if !f then zN a b d true else(bY b 0 c.aP).bind λe=>zN a b d (!e)))
def IK(b:aA)(f:Int)(s:Sub):=(if s.Pc == 0 then some (b,({s with Pc:=1,E:=b.aI.aP}:Sub)) else(if s.Pc == 1 then(M3 b.aI f s.E).bind λa=>(if !a.2 then(b9 s 1).bind λe=>some (({b with aI:=a.1}:aA),e) else some (({b with aI:=a.1}:aA),({s with Pc:=2}:Sub))) else(if s.Pc == 2 then(if b.aI.aP == s.E then(b9 s 0).bind λd=>some (b,d) else some (b,({s with Pc:=0}:Sub))) else(b9 s 1).bind λc=>some (b,c))))
def tE(b:aA)(a:Int)(s:Sub):=(if s.eG then some (b,s) else(if s.Kind == 1 then(zK b a s).bind λg=>some (g.1,g.2) else(if s.Kind == 2 then(uQ b a s).bind λf=>some (f.1,f.2) else(if s.Kind == 3 then(rC b s).bind λe=>some (e.1,e.2) else(if s.Kind == 4 then(rD b a s).bind λd=>some (d.1,d.2) else(if s.Kind == 5 then(IK b a s).bind λc=>some (c.1,c.2) else(b9 s 1).bind λh=>some (b,h)))))))
def bS(j:fE)(pc code:Int):=some ({j with Pc:=pc,Code:=code}:fE)
def lT(b:al):=need (([]:al).length+b.length<=1073741824) (some (([]:al)++b))
def U4(h:Heap):=(lT h.Bytes).bind λb=>(lT h.Class).bind λa=>some (⟨b,a⟩:Heap)
def aQU(a:ax):=some a
def S4(l:ax):(ax×Int)->Option (Step (ax×Int) ax)
 |(b,a)=>(if decide (a<(l.length:Int)) then(idx l a).bind λd=>(lT d.bA).bind λc=>need (b.length+([(⟨c⟩:bD)]).length<=1073741824) (some (.next (b++([(⟨c⟩:bD)]),bB (a+1)))) else some (.stop (b)))
def aQV:ax->Option ax
 |a=>aQU a
def O4(l:ax):=(loop (S4 l) (([]:ax),0)).bind (aQV)
def U5(l:aD):=(O4 l.Global).bind λb=>(O4 l.Own).bind λa=>some (⟨b,a⟩:aD)
def wM(m:Mem):=(U4 m.Heap).bind λb=>(U5 m.aD).bind λa=>some (⟨b,a⟩:Mem)
def aAY(b:al):=some (decide ((b.length:Int)<=1000))
def rE(b:al):Int->Option (Step Int (Out Unit Bool))
 |a=>(if decide (a<(b.length:Int)) then(idx b a).bind λd=>(bY d 0 255).bind λc=>(if !c then some (.stop (Out.ret false)) else some (.next (bB (a+1)))) else some (.stop (Out.brk ())))
def PR(b:al):(Out Unit Bool)->ay
 |.brk ()=>aAY b
 |.ret r=>some r
def RF(b:al):=(loop (rE b) 0).bind (PR b)
def aM8:=some true
def rF(h:Heap):Int->Option (Step Int (Out Unit Bool))
 |a=>(if decide (a<6) then(idx h.Class a).bind λc=>(bY c (-1) 2).bind λb=>(if !b then some (.stop (Out.ret false)) else some (.next (bB (a+1)))) else some (.stop (Out.brk ())))
def aM9:(Out Unit Bool)->ay
 |.brk ()=>aM8
 |.ret r=>some r
def yG(h:Heap)(a:Bool):=(if a then some false else(loop (rF h) 0).bind (aM9))
def RG(h:Heap):=(if(h.Bytes.length:Int) != 384 then yG h true else(if(h.Class.length:Int) != 6 then yG h true else(RF h.Bytes).bind λa=>yG h (!a)))
def aQW:=some true
def uR(h:Heap)(p:Int):Int->Option (Step Int (Out Unit Bool))
 |a=>(if decide (a<(bB ((bB (p*64))+64))) then(idx h.Bytes a).bind λb=>(if b != 0 then some (.stop (Out.ret false)) else some (.next (bB (a+1)))) else some (.stop (Out.brk ())))
def aQX:(Out Unit Bool)->ay
 |.brk ()=>aQW
 |.ret r=>some r
def aQY:=some true
def uS(h:Heap)(p g:Int):Int->Option (Step Int (Out Unit Bool))
 |f=>(oX g).bind λe=>(if decide (f<e) then(wL p f).bind λd=>(A4 d g).bind λc=>(pD h.Bytes c 4).bind λb=>(bY b 1 7).bind λa=>(if !a then some (.stop (Out.ret false)) else some (.next (bB (f+1)))) else some (.stop (Out.brk ())))
def aQZ:(Out Unit Bool)->ay
 |.brk ()=>aQY
 |.ret r=>some r
def aCX(h:Heap)(p a:Int):=(loop (uS h p a) 0).bind (aQZ)
def uU(h:Heap)(p:Int):Int->Option (Step Int (Out Unit Bool))
 |b=>(if decide (b<(bB ((bB (p*64))+8))) then(idx h.Bytes b).bind λa=>(if a != 0 then some (.stop (Out.ret false)) else some (.next (bB (b+1)))) else some (.stop (Out.brk ())))
def aCY(h:Heap)(p a:Int):(Out Unit Bool)->ay
 |.brk ()=>aCX h p a
 |.ret r=>some r
def m4(h:Heap)(p b:Int)(a:Bool):=(if a then some false else(loop (uU h p) (bB ((bB (p*64))+3))).bind (aCY h p b))
def U6(h:Heap)(p:Int):=(idx h.Class p).bind λa=>(if decide (a<0) then(loop (uR h p) (bB (p*64))).bind (aQX) else(idx h.Bytes (bB (p*64))).bind λe=>(if e != 171 then m4 h p a true else(idx h.Bytes (bB ((bB (p*64))+1))).bind λd=>(if d != a then m4 h p a true else(idx h.Bytes (bB ((bB (p*64))+2))).bind λc=>(oX a).bind λb=>m4 h p a (c != b))))
def aQ0:=some true
def BD(h:Heap):Int->Option (Step Int (Out Unit Bool))
 |a=>(if decide (a<6) then(U6 h a).bind λb=>(if !b then some (.stop (Out.ret false)) else some (.next (bB (a+1)))) else some (.stop (Out.brk ())))
def aQ1:(Out Unit Bool)->ay
 |.brk ()=>aQ0
 |.ret r=>some r
def U7(h:Heap):=(RG h).bind λa=>(if !a then some false else(loop (BD h) 0).bind (aQ1))
def aNA:=some true
def GF(b:Int)(a:Bool):Option (Step Int (Out Unit Bool)):=(if a then some (.stop (Out.ret false)) else some (.next (bB (b+1))))
def rG(b:al):Int->Option (Step Int (Out Unit Bool))
 |a=>(if decide (a<(b.length:Int)) then(idx b a).bind λd=>(bY d 0 23).bind λe=>(if !e then GF a true else need (0<=(a:Int)/\(a:Int)<=(b.length:Int)) ((HR ((b.take a.toNat).drop 0) d).bind λc=>GF a c)) else some (.stop (Out.brk ())))
def aNB:(Out Unit Bool)->ay
 |.brk ()=>aNA
 |.ret r=>some r
def aAZ(l:aD):=(SZ l).bind λa=>(loop (rG a) 0).bind (aNB)
def rH(l:aD):Int->Option (Step Int (Out Unit Bool))
 |b=>(if decide (b<(l.Own.length:Int)) then(idx l.Own b).bind λa=>(if decide (2<(a.bA.length:Int)) then some (.stop (Out.ret false)) else some (.next (bB (b+1)))) else some (.stop (Out.brk ())))
def aA0(l:aD):(Out Unit Bool)->ay
 |.brk ()=>aAZ l
 |.ret r=>some r
def GG(l:aD)(a:Bool):=(if a then some false else(loop (rH l) 0).bind (aA0 l))
def RH(l:aD):=(if(l.Global.length:Int) != 3 then GG l true else GG l ((l.Own.length:Int) != 9))
def aKJ:=some true
def C1(b:Int)(a:Bool):Option (Step Int (Out Unit Bool)):=(if a then some (.stop (Out.ret false)) else some (.next (bB (b+1))))
def pJ(h:Heap)(l:al)(c:Int):Int->Option (Step Int (Out Unit Bool))
 |a=>(if decide (a<(l.length:Int)) then(idx l a).bind λf=>(lG h f).bind λe=>(if e != c then C1 a true else(idx l a).bind λd=>(A7 h d).bind λb=>C1 a (decide (6<b))) else some (.stop (Out.brk ())))
def aKK:(Out Unit Bool)->ay
 |.brk ()=>aKJ
 |.ret r=>some r
def E4(h:Heap)(l:al)(c:Int):=(loop (pJ h l c) 0).bind (aKK)
def aUI:=some true
def aFO(a:Int):Option (Step Int (Out Unit Bool)):=some (.next (bB (a+1)))
def E5(m:Mem)(c:Int):Int->Option (Step Int (Out Unit Bool))
 |b=>(if decide (b<3) then(A3 b c).bind λe=>(idx m.aD.Own e).bind λd=>(E4 m.Heap d.bA c).bind λa=>(if !a then some (.stop (Out.ret false)) else some (.next (bB (b+1)))) else some (.stop (Out.brk ())))
def aFP(a:Int):(Out Unit Bool)->Option (Step Int (Out Unit Bool))
 |.brk ()=>aFO a
 |.ret r=>some (.stop (Out.ret r))
def E6(m:Mem):Int->Option (Step Int (Out Unit Bool))
 |a=>(if decide (a<3) then(idx m.aD.Global a).bind λc=>(E4 m.Heap c.bA a).bind λb=>(if !b then some (.stop (Out.ret false)) else(loop (E5 m a) 0).bind (aFP a)) else some (.stop (Out.brk ())))
def aUJ:(Out Unit Bool)->ay
 |.brk ()=>aUI
 |.ret r=>some r
def NX(m:Mem)(a:Bool):=(if a then some false else(loop (E6 m) 0).bind (aUJ))
def BE(m:Mem):=(U7 m.Heap).bind λb=>(if !b then NX m true else(RH m.aD).bind λa=>NX m (!a))
def C2(a c:Int):=(A4 a c).bind λb=>(if decide (b<0) then some (-1) else some (bB (b+4)))
def BF(at_ d c:Int)(b:Bool):ct:=(if b then some (0,2) else(C2 d c).bind λa=>some (bB (a+at_),0))
def BG(m:Mem)(h at_ a:Int)(i:Bool):ct:=(if i then some (0,1) else(oY m h).bind λg=>(if !g then some (0,4) else(eM h).bind λc=>(lG m.Heap c).bind λb=>(pC b).bind λf=>(bY at_ 0 (bB (f-1))).bind λe=>(if !e then BF at_ c b true else(pC b).bind λd=>BF at_ c b (decide ((bB (d-at_))<a)))))
def U8(m:Mem)(h at_ a:Int):ct:=(BE m).bind λc=>(if !c then BG m h at_ a true else(bY a 1 7).bind λb=>BG m h at_ a (!b))
def aFQ(b:Int)(a:aF):=(if decide (0<b) then some ([]) else some a)
def NY(a:Int):(Int×aF×Int)->Option (Step (Int×aF×Int) (Int×aF))
 |(b,c,d)=>(if decide (d<a) then need (([u8 (Int.tmod b 256)]).length+c.length<=9223372036854775807) (some (.next (bB (Int.tdiv b 256),([u8 (Int.tmod b 256)])++c,bB (d+1)))) else some (.stop ((b,c))))
def aFR:(Int×aF)->Option aF
 |(b,a)=>aFQ b a
def NZ(n a:Int)(b:Bool):=(if b then some ([]) else(loop (NY a) (n,[],0)).bind (aFR))
def S5(n a:Int):=(bY a 1 7).bind λb=>(if !b then NZ n a true else NZ n a (decide (n<0)))
def C3(m:Mem)(h at_ a n:Int):cq:=(wM m).bind λb=>(U8 m h at_ a).bind λc=>(if c.2 != 0 then some (b,c.2) else(S5 n a).bind λe=>(if e == ([]) then some (b,1) else(jE b.Heap.Bytes c.1 a n).bind λd=>some ((⟨(⟨d,b.Heap.Class⟩:Heap),b.aD⟩:Mem),0)))
def IL(s:aJ)(w_:Int)(j:fE):=(if j.Pc == 0 then(tE s.aA w_ j.Sub).bind λb=>(if !b.2.eG then some (({s with aA:=b.1}:aJ),({j with Sub:=b.2}:fE)) else(if b.2.Code != 0 then(bS ({j with Sub:=b.2}:fE) 9 b.2.Code).bind λp=>some (({s with aA:=b.1}:aJ),p) else(gJ b.2.Out).bind λo=>(if !o then(bS ({j with Sub:=b.2}:fE) 9 1).bind λn=>some (({s with aA:=b.1}:aJ),n) else(bS ({j with Sub:=b.2,H:=b.2.Out}:fE) 1 0).bind λm=>some (({s with aA:=b.1}:aJ),m)))) else(if j.Pc == 1 then(C3 s.aA.Mem j.H 0 4 j.Op.cT).bind λd=>(if d.2 != 0 then(bS j 9 d.2).bind λl=>some (({s with aA:=(⟨d.1,s.aA.aI,s.aA.aQ,s.aA.iU⟩:aA)}:aJ),l) else(bS j 2 0).bind λk=>some (({s with aA:=(⟨d.1,s.aA.aI,s.aA.aQ,s.aA.iU⟩:aA)}:aJ),k)) else(if j.Pc == 2 then(idx s.Cells j.Op.Cell).bind λc=>need (s.Log.length+([(⟨2,w_,j.aG,j.Op.Cell,j.H,j.Op.cT,0⟩:Ev)]).length<=1073741824) ((if c == 0 then(bS ({j with Old:=c}:fE) 9 0).bind λi=>some (({s with Cells:=s.Cells.set j.Op.Cell.toNat j.H,Log:=s.Log++([(⟨2,w_,j.aG,j.Op.Cell,j.H,j.Op.cT,0⟩:Ev)])}:aJ),i) else(eK 2 c).bind λh=>(bS ({j with Sub:=h,Old:=c}:fE) 3 0).bind λg=>some (({s with Cells:=s.Cells.set j.Op.Cell.toNat j.H,Log:=s.Log++([(⟨2,w_,j.aG,j.Op.Cell,j.H,j.Op.cT,0⟩:Ev)])}:aJ),g))) else(if j.Pc == 3 then(tE s.aA w_ j.Sub).bind λa=>(if !a.2.eG then some (({s with aA:=a.1}:aJ),({j with Sub:=a.2}:fE)) else(bS ({j with Sub:=a.2}:fE) 9 a.2.Code).bind λf=>some (({s with aA:=a.1}:aJ),f)) else(bS j 9 1).bind λe=>some (s,e)))))
def kH(s:aJ)(w_:Int)(j:fE):=need (s.Log.length+([(⟨3,w_,j.aG,j.Op.Cell,j.H,0,0⟩:Ev)]).length<=1073741824) (some ({s with Log:=s.Log++([(⟨3,w_,j.aG,j.Op.Cell,j.H,0,0⟩:Ev)])}:aJ))
def m5(h:Heap)(x at_ a f:Int)(e:Bool):=(if e then some (0,false) else(eM x).bind λd=>(C2 d f).bind λc=>(pD h.Bytes (bB (c+at_)) a).bind λb=>some (b,true))
def BH(h:Heap)(x at_ a:Int)(g:Bool):=(if g then some (0,false) else(eM x).bind λf=>(lG h f).bind λb=>(if decide (b<0) then m5 h x at_ a b true else(pC b).bind λe=>(bY at_ 0 (bB (e-1))).bind λd=>(if !d then m5 h x at_ a b true else(pC b).bind λc=>m5 h x at_ a b (decide ((bB (c-at_))<a)))))
def O5(h:Heap)(x at_ a:Int):=(gJ x).bind λc=>(if !c then BH h x at_ a true else(bY a 1 7).bind λb=>BH h x at_ a (!b))
def oZ(s:aJ)(j:fE):=(O5 s.aA.Mem.Heap j.H 0 4).bind λa=>some a.1
def mG(j:fE)(pc:Int)(c:Bool):=(if c then(bS j pc 0).bind λb=>some b else(bS ({j with cT:=0}:fE) pc 6).bind λa=>some a)
def tF(s:aJ)(b:Int)(j:fE)(pc:Int):=(idx s.aA.aI.bV b).bind λa=>(if a.On then mG j pc (!a.gU) else mG j pc false)
def zO(b:Int)(a:aI)(c:Bool):=(if c then some (a,false) else(idx a.bV b).bind λd=>some ((⟨a.aP,a.bV.set b.toNat (⟨false,0,false,0⟩:xZ)⟩:aI),true))
def BI(c:aI)(a:Int):=(rY c).bind λb=>(rX c).bind λf=>(if !f then zO a b true else(bY a 0 2).bind λe=>(if !e then zO a b true else(idx c.bV a).bind λd=>zO a b (!d.On)))
def IM(s:aJ)(c:Int)(j:fE):=(if j.Pc == 0 then(tE s.aA c j.Sub).bind λa=>(if !a.2.eG then some (({s with aA:=a.1}:aJ),({j with Sub:=a.2}:fE)) else(bS ({j with Sub:=a.2}:fE) 1 0).bind λn=>some (({s with aA:=a.1}:aJ),n)) else(if j.Pc == 1 then(idx s.Cells j.Op.Cell).bind λb=>(kH s c ({j with H:=b}:fE)).bind λg=>(if b == 0 then(bS ({j with H:=b}:fE) 4 8).bind λm=>some (g,m) else(bS ({j with H:=b}:fE) 2 0).bind λl=>some (g,l)) else(if j.Pc == 2 then(oZ s j).bind λk=>(bS ({j with cT:=k}:fE) 3 0).bind λi=>some (s,i) else(if j.Pc == 3 then(tF s c j 4).bind λh=>some (s,h) else(if j.Pc == 4 then(BI s.aA.aI c).bind λf=>(bS j 9 j.Code).bind λe=>some (({s with aA:=(⟨s.aA.Mem,f.1,s.aA.aQ,s.aA.iU⟩:aA)}:aJ),e) else(bS j 9 1).bind λd=>some (s,d))))))
def aFS(z:al):=some ((z.length:Int) == 3)
def N0(b:Int)(a:Bool):Option (Step Int (Out Unit Bool)):=(if a then some (.stop (Out.ret false)) else some (.next (bB (b+1))))
def E7(z:al):Int->Option (Step Int (Out Unit Bool))
 |a=>(if decide (a<(z.length:Int)) then(idx z a).bind λd=>(if d != 0 then(idx z a).bind λc=>(gJ c).bind λb=>N0 a (!b) else N0 a false) else some (.stop (Out.brk ())))
def aFT(z:al):(Out Unit Bool)->ay
 |.brk ()=>aFS z
 |.ret r=>some r
def M4(z:al):=(loop (E7 z) 0).bind (aFT z)
def rI(b h:Int)(a:al)(c:Bool):=(if c then some (a,false) else(idx a b).bind λd=>some (a.set b.toNat h,true))
def C4(z:al)(a h:Int):=(lT z).bind λb=>(M4 z).bind λe=>(if !e then rI a h b true else(bY a 0 2).bind λd=>(if !d then rI a h b true else(gJ h).bind λc=>rI a h b (!c)))
def zP(b:Int)(a:al)(c:Bool):=(if c then some (a,false) else(idx a b).bind λd=>some (a.set b.toNat 0,true))
def M5(z:al)(a:Int):=(lT z).bind λb=>(M4 z).bind λe=>(if !e then zP a b true else(bY a 0 2).bind λd=>(if !d then zP a b true else(idx z a).bind λc=>zP a b (c == 0)))
def IN(s:aJ)(b:Int)(j:fE):=(if j.Pc == 0 then(idx s.Cells j.Op.Cell).bind λa=>(if a == 0 then(kH s b ({j with H:=a}:fE)).bind λq=>(bS ({j with H:=a}:fE) 4 8).bind λp=>some (q,p) else(bS ({j with H:=a}:fE) 1 0).bind λo=>some (s,o)) else(if j.Pc == 1 then(C4 s.aA.iU b j.H).bind λn=>(bS j 2 0).bind λm=>some (({s with aA:=(⟨s.aA.Mem,s.aA.aI,s.aA.aQ,n.1⟩:aA)}:aJ),m) else(if j.Pc == 2 then(idx s.Cells j.Op.Cell).bind λl=>(if l != j.H then(bS j 0 0).bind λk=>some (s,k) else(kH s b j).bind λi=>(bS j 3 0).bind λh=>some (i,h)) else(if j.Pc == 3 then(oZ s j).bind λg=>(bS ({j with cT:=g}:fE) 4 0).bind λf=>some (s,f) else(if j.Pc == 4 then(M5 s.aA.iU b).bind λe=>(bS j 9 j.Code).bind λd=>some (({s with aA:=(⟨s.aA.Mem,s.aA.aI,s.aA.aQ,e.1⟩:aA)}:aJ),d) else(bS j 9 1).bind λc=>some (s,c))))))
def C5(s:aJ)(d:Int)(j:fE):=(idx s.aA.aI.bV d).bind λf=>(if j.Pc == 0 then(if !f.On then(bS j 9 5).bind λm=>some (s,m) else(if f.gU then(bS j 9 6).bind λl=>some (s,l) else(idx s.Cells j.Op.Cell).bind λa=>(kH s d ({j with H:=a}:fE)).bind λe=>(if a == 0 then(bS ({j with H:=a}:fE) 9 8).bind λk=>some (e,k) else(bS ({j with H:=a}:fE) 1 0).bind λi=>some (e,i)))) else(if j.Pc == 1 then(oZ s j).bind λh=>(bS ({j with cT:=h}:fE) 2 0).bind λg=>some (s,g) else(if j.Pc == 2 then(tF s d j 9).bind λc=>some (s,c) else(bS j 9 1).bind λb=>some (s,b))))
def iZ(s:aJ)(h:Int)(j:fE)(g:Bool):=(if g then(bS j 9 1).bind λf=>some (s,f) else(tE s.aA h j.Sub).bind λa=>(if !a.2.eG then some (({s with aA:=a.1}:aJ),({j with Sub:=a.2}:fE)) else(if j.Op.Kind == 5 then(bS ({j with Sub:=a.2}:fE) 9 a.2.Code).bind λe=>some (({s with aA:=a.1}:aJ),e) else(if j.Pc == 0 then(eK 4 0).bind λd=>(bS ({j with Sub:=d}:fE) 1 0).bind λc=>some (({s with aA:=a.1}:aJ),c) else(bS ({j with Sub:=a.2,cT:=a.2.Out}:fE) 9 a.2.Code).bind λb=>some (({s with aA:=a.1}:aJ),b)))))
def uV(s:aJ)(a:Int)(j:fE)(e:Bool):=(if e then(BI s.aA.aI a).bind λb=>(if !b.2 then(bS j 9 5).bind λd=>some (({s with aA:=(⟨s.aA.Mem,b.1,s.aA.aQ,s.aA.iU⟩:aA)}:aJ),d) else(bS j 9 0).bind λc=>some (({s with aA:=(⟨s.aA.Mem,b.1,s.aA.aQ,s.aA.iU⟩:aA)}:aJ),c)) else(if j.Op.Kind == 6 then iZ s a j true else(if j.Pc != 0 then(if j.Pc != 1 then iZ s a j true else iZ s a j (j.Op.Kind == 5)) else iZ s a j false)))
def zQ(s:aJ)(a:Int)(j:fE):=(if j.Op.Kind == 6 then uV s a j (j.Pc == 0) else uV s a j false)
def dK(b:Int)(a:aJ)(c:fE):=(idx a.aH b).bind λd=>some ({a with aH:=a.aH.set b.toNat c}:aJ)
def HT(s:aJ)(w_:Int):=(idx s.aH w_).bind λa=>(if !a.gW then(zI s w_).bind λg=>some g else(if a.Pc == 9 then need (s.Log.length+([(⟨4,w_,a.aG,a.Op.Cell,a.H,a.cT,a.Code⟩:Ev)]).length<=1073741824) (some ({s with aH:=s.aH.set w_.toNat (⟨false,(⟨0,0,0,0⟩:mS),0,0,(⟨0,0,0,0,0,0,0,0,0,false⟩:Sub),0,0,0,0⟩:fE),Log:=s.Log++([(⟨4,w_,a.aG,a.Op.Cell,a.H,a.cT,a.Code⟩:Ev)])}:aJ)) else(if a.Op.Kind == 1 then(IL s w_ a).bind λf=>dK w_ f.1 f.2 else(if a.Op.Kind == 2 then(IM s w_ a).bind λe=>dK w_ e.1 e.2 else(if a.Op.Kind == 3 then(IN s w_ a).bind λd=>dK w_ d.1 d.2 else(if a.Op.Kind == 7 then(C5 s w_ a).bind λc=>dK w_ c.1 c.2 else(zQ s w_ a).bind λb=>dK w_ b.1 b.2))))))
def aH6(a:aJ):=some a
def rZ(b:Int)(a:aJ):Option (Step (Int×aJ) aJ):=some (.next (bB (b+1),a))
def nP(x:iD)(a:Int)(g:Bool)(f:aJ):Option (Step (Int×aJ) aJ):=(if g then(idx x.bG a).bind λe=>(bY e 0 2).bind λd=>(if d then(idx x.bG a).bind λc=>(HT f c).bind λb=>rZ a b else rZ a f) else some (.stop (f)))
def sA(x:iD):(Int×aJ)->Option (Step (Int×aJ) aJ)
 |(a,b)=>(if decide (a<(x.bG.length:Int)) then nP x a (decide (a<400)) b else nP x a false b)
def aH7:aJ->Option aJ
 |a=>aH6 a
def JS(x:iD):=(zH x.aY).bind λa=>(if(a.aH.length:Int) == 0 then some a else(loop (sA x) (0,a)).bind (aH7))
def a87(x:iD)(n:Int):=need (0<=(if n<(x.bG.length:Int) then n else(x.bG.length:Int):Int)/\(if n<(x.bG.length:Int) then n else(x.bG.length:Int):Int)<=(x.bG.length:Int)) (some ((⟨x.aY,(x.bG.take ((if n<(x.bG.length:Int) then n else(x.bG.length:Int)).toNat)).drop 0⟩:iD)))
def JT(a:Bool):=some a
def cM(n b a:Int):=(if decide (b<=n) then JT (decide (n<=a)) else JT false)
def gK(b:Int):=(cM b 0 2).bind λa=>some a
def aA1(x y:Int):=some (IntKind.u64.wrap ((IntKind.u64.wrap ((IntKind.u64.wrap ((rS .u64 x 32)*(rS .u64 y 32)))+(rS .u64 (IntKind.u64.wrap ((IntKind.u64.wrap ((rS .u64 x 32)*(jG .and .u64 y 4294967295)))+(rS .u64 (IntKind.u64.wrap ((jG .and .u64 x 4294967295)*(jG .and .u64 y 4294967295))) 32))) 32)))+(rS .u64 (IntKind.u64.wrap ((jG .and .u64 (IntKind.u64.wrap ((IntKind.u64.wrap ((rS .u64 x 32)*(jG .and .u64 y 4294967295)))+(rS .u64 (IntKind.u64.wrap ((jG .and .u64 x 4294967295)*(jG .and .u64 y 4294967295))) 32))) 4294967295)+(IntKind.u64.wrap ((jG .and .u64 x 4294967295)*(rS .u64 y 32))))) 32)),IntKind.u64.wrap (x*y))
def WA(x y:Int):=(aA1 x y).bind λa=>some (a.1,a.2)
def aCZ(a:al):=some a
def m6:(al×Int)->Option (Step (al×Int) al)
 |(b,a)=>(if decide (a<(b.length:Int)) then need (0<=(a:Int)/\(a:Int)<=(b.length:Int)) (need (0<=(a:Int)/\(a:Int)<=(b.length:Int)) (some (.next (dM b a.toNat ((b.take a.toNat).drop 0),bB (a+((min ((b.take a.toNat).drop 0).length (b.length-a.toNat):Nat):Int)))))) else some (.stop (b)))
def aC0:al->Option al
 |a=>aCZ a
def sB(x:al)(a:Int×Int)(b:Bool):=(if b then none else need (0<=(IntKind.i64.wrap a.2:Int)/\(IntKind.i64.wrap a.2:Int)<=4294967296) ((loop (m6) (dM (List.replicate ((IntKind.i64.wrap a.2).toNat) 0) 0 x,((min x.length ((List.replicate ((IntKind.i64.wrap a.2).toNat) 0:al).length-0):Nat):Int))).bind (aC0)))
def AI(x:al)(count:Int):=(if decide (count<0) then none else(WA (IntKind.u64.wrap (x.length:Int)) (IntKind.u64.wrap count)).bind λa=>(if decide (0<a.1) then sB x a true else sB x a (decide (9223372036854775807<a.2))))
def aA2(a:al):=some (⟨List.replicate ((384:Int).toNat) 0,a⟩:Heap)
def RI:=
 need (0<=(384:Int)/\(384:Int)<=4294967296)<|(AI ([(-1)]) 6).bind λa=>aA2 a
def XX:=some (⟨List.replicate ((3:Int).toNat) (⟨[]⟩:bD),List.replicate ((9:Int).toNat) (⟨[]⟩:bD)⟩:aD)
def WB:=
 need (0<=(3:Int)/\(3:Int)<=4294967296)<|need (0<=(9:Int)/\(9:Int)<=4294967296)<|XX
def aC1:=(RI).bind λb=>(WB).bind λa=>some (⟨b,a⟩:Mem)
def WC:=need (0<=(3:Int)/\(3:Int)<=4294967296) (some (⟨0,List.replicate ((3:Int).toNat) (⟨false,0,false,0⟩:xZ)⟩:aI))
def WD:=need (0<=(3:Int)/\(3:Int)<=4294967296) (some (List.replicate ((3:Int).toNat) (⟨[]⟩:bP)))
def aC2:ck:=need (0<=(3:Int)/\(3:Int)<=4294967296) (some (List.replicate ((3:Int).toNat) 0))
def JU:Option aA:=(aC1).bind λd=>(WC).bind λc=>(WD).bind λb=>(aC2).bind λa=>some (⟨d,c,b,a⟩:aA)
def D2:=some (-1)
def l4(s:av)(f:(Queue->ay)):Int->Option (Step Int (Out Unit Int))
 |a=>(if decide (a<(s.length:Int)) then(idx s a).bind λc=>(f c).bind λb=>(if b then some (.stop (Out.ret a)) else some (.next (bB (a+1)))) else some (.stop (Out.brk ())))
def D3:(Out Unit Int)->bu
 |.brk ()=>D2
 |.ret r=>some r
def xA(s:av)(f:(Queue->ay)):=(loop (l4 s f) 0).bind (D3)
def l6(s:av)(f:(Queue->ay)):=(xA s f).bind λa=>some (decide (0<=a))
def JV:=some (-1)
def o4(s:bm)(f:(mS->ay)):Int->Option (Step Int (Out Unit Int))
 |a=>(if decide (a<(s.length:Int)) then(idx s a).bind λc=>(f c).bind λb=>(if b then some (.stop (Out.ret a)) else some (.next (bB (a+1)))) else some (.stop (Out.brk ())))
def JW:(Out Unit Int)->bu
 |.brk ()=>JV
 |.ret r=>some r
def EA(s:bm)(f:(mS->ay)):=(loop (o4 s f) 0).bind (JW)
def o5(s:bm)(f:(mS->ay)):=(EA s f).bind λa=>some (decide (0<=a))
def RJ(a:Bool):=some a
def RK(a:Bool):=some a
def JX(a:mS)(d:Bool):=(if d then some false else(if a.Kind == 1 then(cM a.jZ 0 100).bind λc=>(if c then(cM a.cT 0 65535).bind λb=>RJ b else RJ false) else(if a.jZ == 0 then RK (a.cT == 0) else RK false)))
def sC(a:mS)(d:Bool):=(cM a.Kind 1 7).bind λc=>(if !c then some false else(if d then(cM a.Cell 0 1).bind λb=>(if !b then JX a true else JX a false) else JX a (a.Cell != 0)))
def XY(a:mS):=(if a.Kind == 1 then sC a true else(if a.Kind == 2 then sC a true else(if a.Kind == 3 then sC a true else sC a (a.Kind == 7))))
def GH(b:mS):=(XY b).bind λa=>some (!a)
def C6(a:Bool):=some a
def N2(q:Queue):=(if decide (12<(q.mY.length:Int)) then C6 true else(o5 q.mY (λa=>GH a)).bind λb=>C6 b)
def JY(a:Bool):=some a
def U9(todo:av):=(if(todo.length:Int) == 3 then(l6 todo (λa=>N2 a)).bind λb=>JY (!b) else JY false)
def PT(s:bm):=need (([]:bm).length+s.length<=1073741824) (some (([]:bm)++s))
def aKL(a:av):=some a
def M6(todo:av):(av×Int)->Option (Step (av×Int) av)
 |(b,a)=>(if decide (a<(todo.length:Int)) then(idx todo a).bind λd=>(PT d.mY).bind λc=>need (b.length+([(⟨c⟩:Queue)]).length<=1073741824) (some (.next (b++([(⟨c⟩:Queue)]),bB (a+1)))) else some (.stop (b)))
def aKM:av->Option av
 |a=>aKL a
def E8(todo:av):=(loop (M6 todo) (([]:av),0)).bind (aKM)
def XZ(a:aJ):=some ({a with Log:=[]}:aJ)
def N3(todo:av):=
 (U9 todo).bind λc=>(if !c then some (⟨(⟨(⟨(⟨[],[]⟩:Heap),(⟨[],[]⟩:aD)⟩:Mem),(⟨0,[]⟩:aI),[],[]⟩:aA),[],[],[],[],0⟩:aJ) else(JU).bind λb=>need (0<=(2:Int)/\(2:Int)<=4294967296)<|need (0<=(3:Int)/\(3:Int)<=4294967296)<|(E8 todo).bind λa=>XZ (⟨b,List.replicate ((2:Int).toNat) 0,List.replicate ((3:Int).toNat) (⟨false,(⟨0,0,0,0⟩:mS),0,0,(⟨0,0,0,0,0,0,0,0,0,false⟩:Sub),0,0,0,0⟩:fE),a,[],0⟩:aJ))
def iJ(s:al):=need (([]:al).length+s.length<=1073741824) (some (([]:al)++s))
def zR(h:Heap):=(iJ h.Bytes).bind λb=>(iJ h.Class).bind λa=>some (⟨b,a⟩:Heap)
def aH8(b a:ax):=some (⟨b,a⟩:aD)
def JZ(b:Int)(a:ax):Option (Step (Int×ax) ax):=some (.next (bB (b+1),a))
def J0(l:aD):(Int×ax)->Option (Step (Int×ax) ax)
 |(d,c)=>(if decide (d<(l.Own.length:Int)) then(idx l.Own d).bind λb=>(iJ b.bA).bind λa=>need (c.length+([(⟨a⟩:bD)]).length<=1073741824)<|JZ d (c++([(⟨a⟩:bD)])) else some (.stop (c)))
def aH9(b:ax):ax->Option aD
 |a=>aH8 b a
def VA(l:aD)(a:ax):=(loop (J0 l) (0,[])).bind (aH9 a)
def J1(b:Int)(a:ax):Option (Step (Int×ax) ax):=some (.next (bB (b+1),a))
def J2(l:aD):(Int×ax)->Option (Step (Int×ax) ax)
 |(d,c)=>(if decide (d<(l.Global.length:Int)) then(idx l.Global d).bind λb=>(iJ b.bA).bind λa=>need (c.length+([(⟨a⟩:bD)]).length<=1073741824)<|J1 d (c++([(⟨a⟩:bD)])) else some (.stop (c)))
def VB(l:aD):ax->Option aD
 |a=>VA l a
def kC(l:aD):=(loop (J2 l) (0,[])).bind (VB l)
def o6(m:Mem):=(zR m.Heap).bind λb=>(kC m.aD).bind λa=>some (⟨b,a⟩:Mem)
def C7(s:b6):=need (([]:b6).length+s.length<=1073741824) (some (([]:b6)++s))
def m7(c:aI):=(C7 c.bV).bind λa=>some (⟨c.aP,a⟩:aI)
def AJ(s:bg):=need (([]:bg).length+s.length<=1073741824) (some (([]:bg)++s))
def aIA(a:a7):=some a
def J3(l:a7):(a7×Int)->Option (Step (a7×Int) a7)
 |(b,a)=>(if decide (a<(l.length:Int)) then(idx l a).bind λd=>(AJ d.Rows).bind λc=>need (b.length+([(⟨c⟩:bP)]).length<=1073741824) (some (.next (b++([(⟨c⟩:bP)]),bB (a+1)))) else some (.stop (b)))
def aIB:a7->Option a7
 |a=>aIA a
def m8(l:a7):=(loop (J3 l) (([]:a7),0)).bind (aIB)
def N4(b:aA):=(o6 b.Mem).bind λe=>(m7 b.aI).bind λd=>(m8 b.aQ).bind λc=>(iJ b.iU).bind λa=>some (⟨e,d,c,a⟩:aA)
def M7(s:br):=need (([]:br).length+s.length<=1073741824) (some (([]:br)++s))
def PU(s:bw):=need (([]:bw).length+s.length<=1073741824) (some (([]:bw)++s))
def BJ(s:aJ):=(N4 s.aA).bind λe=>(iJ s.Cells).bind λd=>(M7 s.aH).bind λc=>(E8 s.aY).bind λb=>(PU s.Log).bind λa=>some (⟨e,d,c,b,a,s.aG⟩:aJ)
def fJ(a b:Int):=some (⟨a,b,0,0,0,0,0,0,0,false⟩:Sub)
def eZ(s:aJ)(a w_ handle val code:Int)(b:fE):=some ({s with Log:=s.Log++([(⟨a,w_,b.aG,b.Op.Cell,handle,val,code⟩:Ev)])}:aJ)
def eE(s:aJ)(b d a val code:Int):=
 (idx s.aH d).bind λc=>need (s.Log.length+([(⟨b,d,c.aG,c.Op.Cell,a,val,code⟩:Ev)]).length<=1073741824)<|eZ s b d a val code c
def C8(s:bm)(i j:Int):=need (0<=(i:Int)/\(i:Int)<=(j:Int)/\(j:Int)<=((s.length:Int):Int)/\((s.length:Int):Int)<=(s.length:Int)) ((if i == j then some s else need (0<=(i:Int)/\(i:Int)<=(s.length:Int)) (need (0<=(j:Int)/\(j:Int)<=(s.length:Int)) (need (i.toNat<=j.toNat) (need (0<=(((((dM s i.toNat (s.drop j.toNat)).take (i.toNat+(s.length-j.toNat))).drop 0).length:Int):Int)/\(((((dM s i.toNat (s.drop j.toNat)).take (i.toNat+(s.length-j.toNat))).drop 0).length:Int):Int)<=((s.length:Int):Int)/\((s.length:Int):Int)<=((dM s i.toNat (s.drop j.toNat)).length:Int)) (some (((dM s i.toNat (s.drop j.toNat)).take (i.toNat+(s.length-j.toNat))).drop 0)))))))
def cG(j:fE)(code:Int):=some ({j with Pc:=9,Code:=code}:fE)
def fM(s:aJ)(a:Int)(d:bm)(c:fE):=(idx s.aH a).bind λe=>(eE ({s with aH:=s.aH.set a.toNat c,aY:=s.aY.set a.toNat (⟨d⟩:Queue),aG:=bB (s.aG+1)}:aJ) 1 a 0 0 0).bind λb=>some b
def lQ(s:aJ)(c:Int)(b:mS)(d:bm)(h:Bool):=(if h then(fJ 5 0).bind λa=>(idx s.aA.aI.bV c).bind λg=>(if g.On then(cG (⟨true,b,bB (s.aG+1),0,a,0,0,0,0⟩:fE) 1).bind λf=>fM s c d f else fM s c d (⟨true,b,bB (s.aG+1),0,a,0,0,0,0⟩:fE)) else(if b.Kind == 4 then(fJ 3 0).bind λe=>fM s c d (⟨true,b,bB (s.aG+1),0,e,0,0,0,0⟩:fE) else fM s c d (⟨true,b,bB (s.aG+1),0,(⟨0,0,0,0,0,0,0,0,0,false⟩:Sub),0,0,0,0⟩:fE)))
def tW(s:aJ)(b:Int)(f:Bool):=(if f then some s else(idx s.aY b).bind λd=>(idx d.mY 0).bind λa=>(C8 d.mY 0 1).bind λc=>(if a.Kind == 1 then(fJ 1 a.jZ).bind λe=>fM s b c (⟨true,a,bB (s.aG+1),0,e,0,0,0,0⟩:fE) else(if a.Kind == 2 then lQ s b a c true else lQ s b a c (a.Kind == 5))))
def C9(s:aJ)(b:Int):=(idx s.aY b).bind λa=>(if(a.mY.length:Int) == 0 then tW s b true else tW s b (s.aG == 1000000))
def bX(s:Sub)(code:Int):=some ({s with Code:=code,eG:=true}:Sub)
def mT(c:Int):=(cM c 0 2).bind λa=>some a
def BK(c:Int):=(mT c).bind λb=>(if !b then some 0 else(idx ([8,16,40]:al) c).bind λa=>some a)
def aNC:=some (-1)
def GI(a:Int)(b:Bool):Option (Step Int (Out Unit Int)):=(if b then some (.stop (Out.ret a)) else some (.next (bB (a+1))))
def lU(size:Int):Int->Option (Step Int (Out Unit Int))
 |a=>(if decide (a<3) then(if decide (1<=size) then(BK a).bind λb=>GI a (decide (size<=b)) else GI a false) else some (.stop (Out.brk ())))
def aND:(Out Unit Int)->bu
 |.brk ()=>aNC
 |.ret r=>some r
def RL(size:Int):=(loop (lU size) 0).bind (aND)
def wN(a:Int):=(cM a 0 23).bind λb=>some b
def ZI(a:cd):=some a
def o7(a:List cd):(cd×Int)->Option (Step (cd×Int) cd)
 |(d,b)=>(if decide (b<(a.length:Int)) then(idx a b).bind λc=>need (d.length+c.length<=1073741824) (some (.next (d++c,bB (b+1)))) else some (.stop (d)))
def ZJ:cd->Option cd
 |a=>ZI a
def J4(a:List cd)(c:Int):=(a6O Raw c).bind λb=>(loop (o7 a) (b,0)).bind (ZJ)
def lH(a:List cd):(Int×Int)->Option (Step (Int×Int) Int)
 |(d,c)=>(if decide (c<(a.length:Int)) then(idx a c).bind λb=>(if decide ((bB (d+(b.length:Int)))<0) then none else some (.next (bB (d+(b.length:Int)),bB (c+1)))) else some (.stop (d)))
def J5(a:List cd):Int->Option cd
 |b=>J4 a b
def EB(a:List cd):=(loop (lH a) (0,0)).bind (J5 a)
def aNE:=some true
def aA3(b:Int)(a:az):Option (Step (Int×az) (Out Unit Bool)):=some (.next (bB (b+1),a))
def yH(d:Int)(b:az)(a:Int)(c:Bool):Option (Step (Int×az) (Out az Bool)):=(if c then some (.stop (Out.ret false)) else need (0<=(a:Int)/\(a:Int)<24) ((idx (b:az) a).bind λe=>some (.next (bB (d+1),b.set (a.toNat) true))))
def yI(f:bD):(Int×az)->Option (Step (Int×az) (Out az Bool))
 |(c,b)=>(if decide (c<(f.bA.length:Int)) then(idx f.bA c).bind λa=>(wN a).bind λe=>(if !e then yH c b a true else need (0<=(a:Int)/\(a:Int)<24) ((idx (b:az) a).bind λd=>yH c b a d)) else some (.stop (Out.brk b)))
def aA4(b:Int):(Out az Bool)->Option (Step (Int×az) (Out Unit Bool))
 |.brk a=>aA3 b a
 |.ret r=>some (.stop (Out.ret r))
def rJ(d:Int)(c:az)(b:bD)(a:Bool):=(if a then some (.stop (Out.ret false)) else(loop (yI b) (0,c)).bind (aA4 d))
def yJ(l:aD):(Int×az)->Option (Step (Int×az) (Out Unit Bool))
 |(a,c)=>(if decide (a<((l.Own++l.Global).length:Int)) then(idx (l.Own++l.Global) a).bind λb=>(if decide (a<(l.Own.length:Int)) then rJ a c b (decide (2<(b.bA.length:Int))) else rJ a c b false) else some (.stop (Out.brk ())))
def aNF:(Out Unit Bool)->ay
 |.brk ()=>aNE
 |.ret r=>some r
def GJ(l:aD)(a:Bool):=(if a then some false else need (l.Own.length+l.Global.length<=1073741824) ((loop (yJ l) (0,List.replicate 24 false)).bind (aNF)))
def sD(l:aD):=(if(l.Global.length:Int) != 3 then GJ l true else GJ l ((l.Own.length:Int) != 9))
def N5(b c:Int)(a:Bool):=(if a then some (-1) else some (bB ((bB (b*3))+c)))
def S6(a c:Int):=(gK a).bind λd=>(if !d then N5 a c true else(mT c).bind λb=>N5 a c (!b))
def BL(s:bD):=(if decide ((bB ((s.bA.length:Int)-1))<0) then some ((-1),s) else(idx s.bA (bB ((s.bA.length:Int)-1))).bind λa=>need (0<=(bB ((s.bA.length:Int)-1):Int)/\(bB ((s.bA.length:Int)-1):Int)<=(bB ((s.bA.length:Int)-1):Int)/\(bB ((s.bA.length:Int)-1):Int)<=(s.bA.length:Int)) (some (a,(⟨(s.bA.take ((bB ((s.bA.length:Int)-1)).toNat)).drop 0⟩:bD))))
def GK(a:aD)(c:Int)(e:Bool):=(if e then some (a,(-1)) else(idx a.Own c).bind λd=>(BL d).bind λb=>some ((⟨a.Global,a.Own.set c.toNat b.2⟩:aD),b.1))
def RM(l:aD)(e c:Int):=(kC l).bind λb=>(S6 e c).bind λa=>(sD l).bind λd=>(if !d then GK b a true else GK b a (decide (a<0)))
def xB(c:Int)(a:aD)(e:Bool):=(if e then some (a,(-1)) else(idx a.Global c).bind λd=>(BL d).bind λb=>some ((⟨a.Global.set c.toNat b.2,a.Own⟩:aD),b.1))
def GL(l:aD)(c:Int):=(kC l).bind λa=>(sD l).bind λd=>(if !d then xB c a true else(mT c).bind λb=>xB c a (!b))
def QO:=some (-1)
def gL(s:al)(v:Int):Int->Option (Step Int (Out Unit Int))
 |a=>(if decide (a<(s.length:Int)) then(idx s a).bind λb=>(if v == b then some (.stop (Out.ret a)) else some (.next (bB (a+1)))) else some (.stop (Out.brk ())))
def EC:(Out Unit Int)->bu
 |.brk ()=>QO
 |.ret r=>some r
def pK(s:al)(v:Int):=(loop (gL s v) 0).bind (EC)
def S7(b a:al):=need (a.length=b.length) (some a)
def m9(b:al)(at_:Int)(a:aF):(al×Int)->Option (Step (al×Int) al)
 |(d,c)=>need (d.length=b.length) ((if decide (c<(a.length:Int)) then(idx a c).bind λe=>(idx d (bB (at_+c))).bind λf=>some (.next (d.set ((bB (at_+c)).toNat) (e.toNat:Int),bB (c+1))) else some (.stop (d))))
def S8(b:al):al->Option al
 |a=>S7 b a
def nA(b:al)(at_:Int)(a:aF):=(loop (m9 b at_ a) (b,0)).bind (S8 b)
def kI(a:Int):=(cM a 1 7).bind λb=>some b
def aUK(a:aF):=some a
def tG:(Int×aF×Int)->Option (Step (Int×aF×Int) aF)
 |(c,b,a)=>(if decide (0<=a) then(idx b a).bind λd=>some (.next (rS .i64 c 8,b.set a.toNat (u8 c),bB (a-1))) else some (.stop (b)))
def aUL:aF->Option aF
 |a=>aUK a
def zT(n a:Int)(b:Bool):=(if b then some ([]) else need (0<=(a:Int)/\(a:Int)<=4294967296) ((loop (tG) (n,List.replicate (a.toNat) 0,bB (a-1))).bind (aUL)))
def mH(n a:Int):=(kI a).bind λb=>(if !b then zT n a true else(if decide (n<0) then zT n a true else need (0<=(IntKind.u64.wrap (bB (8*a)):Int)) (zT n a (decide ((aP0 .i64 1 (IntKind.u64.wrap (bB (8*a))))<=n)))))
def IP:=some (-1)
def kX(s:al)(f:(Int->ay)):Int->Option (Step Int (Out Unit Int))
 |a=>(if decide (a<(s.length:Int)) then(idx s a).bind λc=>(f c).bind λb=>(if b then some (.stop (Out.ret a)) else some (.next (bB (a+1)))) else some (.stop (Out.brk ())))
def uW:(Out Unit Int)->bu
 |.brk ()=>IP
 |.ret r=>some r
def BM(s:al)(f:(Int->ay)):=(loop (kX s f) 0).bind (uW)
def iK(s:al)(f:(Int->ay)):=(BM s f).bind λa=>some (decide (0<=a))
def aC3(x:Int):=(cM x 0 255).bind λa=>some a
def J6(x:Int):=(aC3 x).bind λa=>some (!a)
def GM(a:Bool):=some a
def RN(b:al):=(if decide ((b.length:Int)<=1000) then(iK b (λa=>J6 a)).bind λc=>GM (!c) else GM false)
def N6(c:Int):=(cM c (-1) 2).bind λa=>some (!a)
def uX(a:Bool):=some a
def O6(h:Heap):=(if(h.Bytes.length:Int) == 384 then(RN h.Bytes).bind λc=>(if c then(if(h.Class.length:Int) == 6 then(iK h.Class (λa=>N6 a)).bind λb=>uX (!b) else uX false) else uX false) else uX false)
def aNG(a:Int):=some a
def yK(b:al)(at_ a:Int):(Int×Int)->Option (Step (Int×Int) Int)
 |(d,c)=>(if decide (c<(((b.take ((bB (at_+a)).toNat)).drop at_.toNat).length:Int)) then(idx ((b.take ((bB (at_+a)).toNat)).drop at_.toNat) c).bind λe=>some (.next (bB ((bB (256*d))+e),bB (c+1))) else some (.stop (d)))
def aNH:Int->bu
 |a=>aNG a
def kJ(b:al)(at_ a:Int):=need (0<=(at_:Int)/\(at_:Int)<=(bB (at_+a):Int)/\(bB (at_+a):Int)<=(b.length:Int)) ((loop (yK b at_ a) (0,0)).bind (aNH))
def zU(c:Int):=(mT c).bind λb=>(if !b then some 0 else(BK c).bind λa=>some (bB (4+a)))
def sE(c:Int):=(mT c).bind λb=>(if !b then some 0 else(zU c).bind λa=>need (a≠0) (some (bB (Int.tdiv 56 a))))
def N7(x:Int):=some (x != 0)
def O7(b:al):=(iK b (λa=>N7 a)).bind λc=>some (!c)
def aQ2:=some true
def uY(h:Heap)(a g f:Int):Int->Option (Step Int (Out Unit Bool))
 |b=>(if decide (b<f) then(zU g).bind λe=>(kJ ((h.Bytes.take ((bB ((bB (a+1))*64)).toNat)).drop ((bB (a*64)).toNat)) (bB (8+(bB (b*e)))) 4).bind λd=>(cM d 1 7).bind λc=>(if !c then some (.stop (Out.ret false)) else some (.next (bB (b+1)))) else some (.stop (Out.brk ())))
def aQ3:(Out Unit Bool)->ay
 |.brk ()=>aQ2
 |.ret r=>some r
def lI(h:Heap)(a b:Int)(d:Bool):=(if d then some false else(sE b).bind λc=>(loop (uY h a b c) 0).bind (aQ3))
def VC(h:Heap)(a:Int):=(idx h.Class a).bind λb=>need (0<=(bB (a*64):Int)/\(bB (a*64):Int)<=(bB ((bB (a+1))*64):Int)/\(bB ((bB (a+1))*64):Int)<=(h.Bytes.length:Int)) ((if decide (b<0) then(O7 ((h.Bytes.take ((bB ((bB (a+1))*64)).toNat)).drop ((bB (a*64)).toNat))).bind λi=>some i else(idx ((h.Bytes.take ((bB ((bB (a+1))*64)).toNat)).drop ((bB (a*64)).toNat)) 0).bind λg=>(if g != 171 then lI h a b true else(idx ((h.Bytes.take ((bB ((bB (a+1))*64)).toNat)).drop ((bB (a*64)).toNat)) 1).bind λf=>(if f != b then lI h a b true else(idx ((h.Bytes.take ((bB ((bB (a+1))*64)).toNat)).drop ((bB (a*64)).toNat)) 2).bind λe=>(sE b).bind λd=>(if e != d then lI h a b true else need (0<=(3:Int)/\(3:Int)<=(8:Int)/\(8:Int)<=(((h.Bytes.take ((bB ((bB (a+1))*64)).toNat)).drop ((bB (a*64)).toNat)).length:Int)) ((O7 ((((h.Bytes.take ((bB ((bB (a+1))*64)).toNat)).drop ((bB (a*64)).toNat)).take ((8:Int).toNat)).drop ((3:Int).toNat))).bind λc=>lI h a b (!c)))))))
def aQ4:=some true
def BN(h:Heap):Int->Option (Step Int (Out Unit Bool))
 |a=>(if decide (a<6) then(VC h a).bind λb=>(if !b then some (.stop (Out.ret false)) else some (.next (bB (a+1)))) else some (.stop (Out.brk ())))
def aQ5:(Out Unit Bool)->ay
 |.brk ()=>aQ4
 |.ret r=>some r
def O8(h:Heap):=(O6 h).bind λa=>(if !a then some false else(loop (BN h) 0).bind (aQ5))
def E9(a c:Int)(d:Bool):=(if d then some (-1) else(zU c).bind λb=>some (bB ((bB ((bB ((bB (Int.tdiv a 4))*64))+8))+(bB ((Int.tmod a 4)*b)))))
def BO(a c:Int):=(wN a).bind λe=>(if !e then E9 a c true else(mT c).bind λd=>(if !d then E9 a c true else(sE c).bind λb=>E9 a c (decide (b<=(Int.tmod a 4)))))
def J7(b a:Int)(c:Bool):=(if c then some (-1) else some (bB ((bB (b*4))+a)))
def VD(b a:Int):=(cM b 0 5).bind λd=>(if !d then J7 b a true else(cM a 0 3).bind λc=>J7 b a (!c))
def aUM(c:Int)(e:Heap)(d:Int)(b a:al):=some ((⟨a,e.Class.set d.toNat c⟩:Heap),b)
def WE(b:al)(d a:Int)(c:al):Option (Step (al×Int×al) (al×al)):=need (b.length+([a]).length<=1073741824) (some (.next (b++([a]),bB (d+1),c)))
def N8(c j i:Int):(al×Int×al)->Option (Step (al×Int×al) (al×al))
 |(e,a,d)=>(if decide (a<i) then(VD j a).bind λb=>(BO b c).bind λh=>(mH 1 4).bind λg=>(nA d h g).bind λf=>WE e a b f else some (.stop ((e,d))))
def aUN(c:Int)(e:Heap)(d:Int):(al×al)->Option (Heap×al)
 |(b,a)=>aUM c e d b a
def WG(c:Int)(e:Heap)(a:Int)(d:al):=(sE c).bind λb=>(loop (N8 c a b) (([]:al),0,d)).bind (aUN c e a)
def FA(c:Int)(b:Heap)(a:Int)(e:Bool):=
 (if e then some (b,([]:al)) else(idx b.Class a).bind λf=>need (0<=(bB (a*64):Int)/\(bB (a*64):Int)<=(b.Bytes.length:Int))<|(sE c).bind λd=>WG c b a (dM b.Bytes ((bB (a*64)).toNat) ([171,c,d]:al)))
def M8(h:Heap)(c:Int):=(zR h).bind λe=>(pK h.Class (-1)).bind λa=>(O8 h).bind λd=>(if !d then FA c e a true else(mT c).bind λb=>(if !b then FA c e a true else FA c e a (decide (a<0))))
def PW(b:Int)(a:Mem):=some (a,b)
def PX(c:Int)(a:Heap×al)(b:Mem):=(if(a.2.length:Int) == 0 then some (b,(-1)) else(idx b.aD.Global c).bind λd=>need (0<=(1:Int)/\(1:Int)<=(a.2.length:Int)) (need (d.bA.length+((a.2.take a.2.length).drop ((1:Int).toNat)).length<=1073741824) ((idx a.2 0).bind λe=>PW e (⟨b.Heap,(⟨b.aD.Global.set c.toNat (⟨d.bA++((a.2.take a.2.length).drop ((1:Int).toNat))⟩:bD),b.aD.Own⟩:aD)⟩:Mem))))
def RO(m:Mem)(c:Int):=(M8 m.Heap c).bind λa=>(kC m.aD).bind λb=>PX c a (⟨a.1,b⟩:Mem)
def GN(h:Heap)(a:Int)(c:Bool):=(if c then some (-1) else(idx h.Class (bB (Int.tdiv a 4))).bind λb=>some b)
def lJ(h:Heap)(a:Int):=(wN a).bind λd=>(if !d then GN h a true else(idx h.Class (bB (Int.tdiv a 4))).bind λc=>(BO a c).bind λb=>GN h a (decide (b<0)))
def xC(h:Heap)(a:Int):=(O6 h).bind λc=>(if !c then some (-1) else(lJ h a).bind λb=>some b)
def HU(h:Heap)(a:Int):=(xC h a).bind λb=>(if decide (b<0) then some 0 else(BO a b).bind λd=>(kJ h.Bytes d 4).bind λc=>some c)
def DA(a gen:Int)(b:Bool):=(if b then some 0 else some (bB ((bB (gen*32))+a)))
def WH(a gen:Int):=(wN a).bind λc=>(if !c then DA a gen true else(cM gen 1 6).bind λb=>DA a gen (!b))
def N9(m:Mem)(a:Int):=(HU m.Heap a).bind λc=>(WH a c).bind λb=>some b
def j8(s:Sub)(b:Int)(a:aA):=(if decide (0<=b) then(N9 a.Mem b).bind λe=>(bX ({s with Out:=e}:Sub) 0).bind λd=>some (d,a) else(if s.Pc == 3 then(bX s 3).bind λc=>some (c,a) else some (({s with Pc:=bB (s.Pc+1)}:Sub),a)))
def qK(s:Sub)(b:aA)(e:Int)(f:Bool):=(if f then(GL b.Mem.aD e).bind λc=>j8 s c.2 ({b with Mem:=(⟨b.Mem.Heap,c.1⟩:Mem)}:aA) else(if s.Pc == 2 then(RO b.Mem e).bind λa=>j8 s a.2 ({b with Mem:=a.1}:aA) else(bX s 1).bind λd=>some (d,b)))
def xD(s:Sub)(b:aA)(e:Int):=(RL s.A).bind λa=>(if decide (a<0) then(bX s 2).bind λd=>some (d,b) else(if s.Pc == 0 then(RM b.Mem.aD e a).bind λc=>j8 s c.2 ({b with Mem:=(⟨b.Mem.Heap,c.1⟩:Mem)}:aA) else(if s.Pc == 1 then qK s b a true else qK s b a (s.Pc == 3))))
def D4:=some (-1)
def l7(s:a7)(f:(bP->ay)):Int->Option (Step Int (Out Unit Int))
 |a=>(if decide (a<(s.length:Int)) then(idx s a).bind λc=>(f c).bind λb=>(if b then some (.stop (Out.ret a)) else some (.next (bB (a+1)))) else some (.stop (Out.brk ())))
def D5:(Out Unit Int)->bu
 |.brk ()=>D4
 |.ret r=>some r
def xE(s:a7)(f:(bP->ay)):=(loop (l7 s f) 0).bind (D5)
def jX(s:a7)(f:(bP->ay)):=(xE s f).bind λa=>some (decide (0<=a))
def FB:=some (-1)
def mU(s:bg)(f:(eW->ay)):Int->Option (Step Int (Out Unit Int))
 |a=>(if decide (a<(s.length:Int)) then(idx s a).bind λc=>(f c).bind λb=>(if b then some (.stop (Out.ret a)) else some (.next (bB (a+1)))) else some (.stop (Out.brk ())))
def FC:(Out Unit Int)->bu
 |.brk ()=>FB
 |.ret r=>some r
def z8(s:bg)(f:(eW->ay)):=(loop (mU s f) 0).bind (FC)
def kD(s:bg)(f:(eW->ay)):=(z8 s f).bind λa=>some (decide (0<=a))
def DB(a:Bool):=some a
def iP(h:Int):=(cM h 32 223).bind λa=>(if a then DB (decide ((Int.tmod h 32)<24)) else DB false)
def tX(a:Bool):=some a
def uZ(a:eW)(c:Int):=(iP a.Handle).bind λb=>(if b then tX ((Int.tmod a.Handle 32) == c) else tX false)
def J8(own:bP)(c:Int):=(kD own.Rows (λa=>uZ a c)).bind λb=>some b
def DC(l:a7)(a:Int):=(jX l (λb=>J8 b a)).bind λc=>some c
def oJ(s:al)(v:Int):=(pK s v).bind λa=>some (decide (0<=a))
def tH(s:bD)(b:Int):=(oJ s.bA b).bind λa=>some a
def D6:=some (-1)
def l8(s:ax)(f:(bD->ay)):Int->Option (Step Int (Out Unit Int))
 |a=>(if decide (a<(s.length:Int)) then(idx s a).bind λc=>(f c).bind λb=>(if b then some (.stop (Out.ret a)) else some (.next (bB (a+1)))) else some (.stop (Out.brk ())))
def D7:(Out Unit Int)->bu
 |.brk ()=>D6
 |.ret r=>some r
def xF(s:ax)(f:(bD->ay)):=(loop (l8 s f) 0).bind (D7)
def jY(s:ax)(f:(bD->ay)):=(xF s f).bind λa=>some (decide (0<=a))
def J9(a:Bool):=some a
def O9(l:aD)(a:Int):=(jY l.Global (λb=>tH b a)).bind λd=>(if d then J9 true else(jY l.Own (λb=>tH b a)).bind λc=>J9 c)
def KA(m:Mem)(a:Int):bu:=(lJ m.Heap a).bind λd=>(if decide (d<0) then some 0 else(O9 m.aD a).bind λc=>(if c then some 1 else(HU m.Heap a).bind λb=>(if decide (6<b) then some 2 else some 3)))
def BP(a:Bool):=some a
def wO(m:Mem)(h:Int):=(iP h).bind λc=>(if c then(KA m (Int.tmod h 32)).bind λb=>(if b == 3 then(HU m.Heap (Int.tmod h 32)).bind λa=>BP (a == (bB (Int.tdiv h 32))) else BP false) else BP false)
def aIC(a:Int):=some a
def sG(l:a7):(Int×Int)->Option (Step (Int×Int) Int)
 |(b,a)=>(if decide (a<(l.length:Int)) then(idx l a).bind λc=>some (.next (bB (b+(c.Rows.length:Int)),bB (a+1))) else some (.stop (b)))
def aID:Int->bu
 |a=>aIC a
def nB(l:a7):=(loop (sG l) (0,0)).bind (aID)
def aA5(l:a7):=(nB l).bind λa=>some (decide (a<=24))
def aA6(b:Int)(a:az):Option (Step (Int×az) (Out Unit Bool)):=some (.next (bB (b+1),a))
def oC(e:Int)(b:az)(a:eW)(c:Bool):Option (Step (Int×az) (Out az Bool)):=(if c then some (.stop (Out.ret false)) else need (0<=(Int.tmod a.Handle 32:Int)/\(Int.tmod a.Handle 32:Int)<24) ((idx (b:az) (Int.tmod a.Handle 32)).bind λd=>some (.next (bB (e+1),b.set ((Int.tmod a.Handle 32).toNat) true))))
def yL(g:bP):(Int×az)->Option (Step (Int×az) (Out az Bool))
 |(c,b)=>(if decide (c<(g.Rows.length:Int)) then(idx g.Rows c).bind λa=>(iP a.Handle).bind λf=>(if !f then oC c b a true else(cM a.aP 0 100000).bind λe=>(if !e then oC c b a true else need (0<=(Int.tmod a.Handle 32:Int)/\(Int.tmod a.Handle 32:Int)<24) ((idx (b:az) (Int.tmod a.Handle 32)).bind λd=>oC c b a d))) else some (.stop (Out.brk b)))
def aA7(b:Int):(Out az Bool)->Option (Step (Int×az) (Out Unit Bool))
 |.brk a=>aA6 b a
 |.ret r=>some (.stop (Out.ret r))
def yN(l:a7):(Int×az)->Option (Step (Int×az) (Out Unit Bool))
 |(a,c)=>(if decide (a<(l.length:Int)) then(idx l a).bind λb=>(loop (yL b) (0,c)).bind (aA7 a) else some (.stop (Out.brk ())))
def aA8(l:a7):(Out Unit Bool)->ay
 |.brk ()=>aA5 l
 |.ret r=>some r
def xG(l:a7):=(if(l.length:Int) != 3 then some false else(loop (yN l) (0,List.replicate 24 false)).bind (aA8 l))
def DD(l:a7)(c h d:Int)(i:Bool):=(if i then(m8 l).bind λg=>some (g,false) else(m8 l).bind λb=>(idx b c).bind λa=>need (a.Rows.length+([(⟨h,d⟩:eW)]).length<=1073741824) ((xG (b.set c.toNat (⟨a.Rows++([(⟨h,d⟩:eW)])⟩:bP))).bind λf=>(if !f then(m8 l).bind λe=>some (e,false) else some (b.set c.toNat (⟨a.Rows++([(⟨h,d⟩:eW)])⟩:bP),true))))
def OA(l:a7)(a h b:Int):=(xG l).bind λd=>(if !d then DD l a h b true else(gK a).bind λc=>DD l a h b (!c))
def o8(s:Sub)(b:aA)(f:Int)(e:Bool):=(if e then(bX s 4).bind λd=>some (d,b) else(OA b.aQ f s.A s.E).bind λc=>(bX s 0).bind λa=>some (a,({b with aQ:=c.1}:aA)))
def o9(s:Sub)(b:aA)(a:Int)(f:Bool):=(if f then(bX s 1).bind λe=>some (e,b) else(wO b.Mem s.A).bind λd=>(if !d then o8 s b a true else(DC b.aQ (Int.tmod s.A 32)).bind λc=>o8 s b a c))
def tY(s:Sub)(b:aA)(a:Int):=(if s.Pc == 0 then some (({s with Pc:=1,E:=b.aI.aP}:Sub),b) else(if s.Pc != 1 then o9 s b a true else(cM s.E 0 b.aI.aP).bind λc=>o9 s b a (!c)))
def IQ:=some (-1)
def kY(s:b6)(f:(xZ->ay)):Int->Option (Step Int (Out Unit Int))
 |a=>(if decide (a<(s.length:Int)) then(idx s a).bind λc=>(f c).bind λb=>(if b then some (.stop (Out.ret a)) else some (.next (bB (a+1)))) else some (.stop (Out.brk ())))
def vA:(Out Unit Int)->bu
 |.brk ()=>IQ
 |.ret r=>some r
def BQ(s:b6)(f:(xZ->ay)):=(loop (kY s f) 0).bind (vA)
def nQ(s:b6)(f:(xZ->ay)):=(BQ s f).bind λa=>some (decide (0<=a))
def nR(a:Bool):=some a
def BR(p:xZ)(c:aI):=(cM p.aP 0 c.aP).bind λb=>(if !b then nR true else(cM p.Seen 0 2).bind λa=>(if !a then nR true else(if !p.On then nR (!(decide (p=(⟨false,0,false,0⟩:xZ)))) else nR false)))
def yO(a:Bool):=some a
def sH(c:aI):=(cM c.aP 0 100000).bind λd=>(if d then(if(c.bV.length:Int) == 3 then(nQ c.bV (λa=>BR a c)).bind λb=>yO (!b) else yO false) else yO false)
def vB(c:Int)(a:aI)(d:Bool):=(if d then some (a,true) else(idx a.bV c).bind λb=>(if decide (b.Seen<2) then some ((⟨a.aP,a.bV.set c.toNat ({b with Seen:=bB (b.Seen+1)}:xZ)⟩:aI),false) else some ((⟨a.aP,a.bV.set c.toNat ({b with gU:=true,Seen:=0}:xZ)⟩:aI),true)))
def KB(b e:Int)(a:aI)(d:Bool):=(if d then some (a,false) else(idx a.bV b).bind λc=>(if !c.On then vB b a true else(if c.gU then vB b a true else vB b a (c.aP == e))))
def VE(c:aI)(a d:Int):=(m7 c).bind λb=>(sH c).bind λf=>(if !f then KB a d b true else(gK a).bind λe=>KB a d b (!e))
def KC(a:aI)(b:Bool):=(if b then some (a,false) else some ((⟨bB (a.aP+1),a.bV⟩:aI),true))
def aEN(c:aI)(d:Int):=(m7 c).bind λa=>(sH c).bind λb=>(if !b then KC a true else(if c.aP != d then KC a true else KC a (c.aP == 100000)))
def nT(s:Sub)(b:aA)(d:aI×Bool)(c:Int):=(bX ({s with Out:=c}:Sub) 0).bind λa=>some (a,({b with aI:=d.1}:aA))
def nU(s:Sub)(b:aA)(f:Bool):=(if f then(VE b.aI s.B s.E).bind λa=>(if !a.2 then(bX s 8).bind λe=>some (e,({b with aI:=a.1}:aA)) else(if(bB (s.B+1)) == 3 then some (({s with Pc:=2,B:=bB (s.B+1)}:Sub),({b with aI:=a.1}:aA)) else some (({s with B:=bB (s.B+1)}:Sub),({b with aI:=a.1}:aA)))) else(if s.Pc == 2 then(aEN b.aI s.E).bind λc=>(if c.2 then nT s b c 1 else nT s b c s.Out) else(bX s 1).bind λd=>some (d,b)))
def sI(s:Sub)(b:aA):=(if s.Pc == 0 then some (({s with Pc:=1,E:=b.aI.aP,B:=0}:Sub),b) else(if s.Pc == 1 then(gK s.B).bind λa=>nU s b a else nU s b false))
def S9(b a:al):=some ((⟨a,b⟩:Heap),true)
def KD(a gen h:Int)(c b:al)(g:Bool):=(if g then some ((⟨c,b⟩:Heap),false) else(BO a h).bind λf=>(mH gen 4).bind λe=>(nA c f e).bind λd=>S9 b d)
def TA(a gen b:Int)(d c:al):=(if decide (b<0) then KD a gen b d c true else(cM gen 1 7).bind λe=>KD a gen b d c (!e))
def aC4(h:Heap)(a gen:Int):=(zR h).bind λb=>(xC h a).bind λc=>TA a gen c b.Bytes b.Class
def DE(c a:Int)(b:aD)(f:Int)(g:Bool):=(if g then some (b,false) else(idx b.Own f).bind λd=>(if decide (2<=(d.bA.length:Int)) then(idx b.Global c).bind λe=>need (e.bA.length+([a]).length<=1073741824) (some ((⟨b.Global.set c.toNat (⟨e.bA++([a])⟩:bD),b.Own⟩:aD),true)) else need (d.bA.length+([a]).length<=1073741824) (some ((⟨b.Global,b.Own.set f.toNat (⟨d.bA++([a])⟩:bD)⟩:aD),true))))
def aKN(l:aD)(h c a:Int):=(kC l).bind λd=>(S6 h c).bind λb=>(sD l).bind λg=>(if !g then DE c a d b true else(if decide (b<0) then DE c a d b true else(wN a).bind λf=>(if !f then DE c a d b true else(O9 l a).bind λe=>DE c a d b e)))
def WI(a:Mem):=some a
def WJ(m:Mem)(d h:Int)(a:Mem):=(if decide ((bB ((bB (Int.tdiv h 32))+1))<=6) then(lJ m.Heap (Int.tmod h 32)).bind λc=>(aKN m.aD d c (Int.tmod h 32)).bind λb=>WI (⟨a.Heap,b.1⟩:Mem) else WI a)
def TB(m:Mem)(c h:Int):=(aC4 m.Heap (Int.tmod h 32) (bB ((bB (Int.tdiv h 32))+1))).bind λb=>(kC m.aD).bind λa=>WJ m c h (⟨b.1,a⟩:Mem)
def KE(a:Bool):=some a
def PA(l:a7)(a i:Int):=(gK a).bind λd=>(if d then(idx l a).bind λc=>(cM i 0 (bB ((c.Rows.length:Int)-1))).bind λb=>KE b else KE false)
def RP(a:Bool):=some a
def X0(b:eW)(a:Int):=(if decide (2<=a) then RP (decide (b.aP<=(bB (a-2)))) else RP false)
def PB(s:Sub)(b:aA):=(bX s 0).bind λa=>some (a,b)
def hU(s:Sub)(b:aA)(f:Int):Int->Option (Step Int (Out Unit (Sub×aA)))
 |a=>(idx b.aQ f).bind λd=>(if decide (a<(d.Rows.length:Int)) then(idx d.Rows a).bind λc=>(X0 c s.E).bind λe=>(if e then some (.stop (Out.ret (({s with Pc:=2,Row:=a,B:=0,H:=c.Handle}:Sub),b))) else some (.next (bB (a+1)))) else some (.stop (Out.brk ())))
def aC5(s:Sub)(b:aA):(Out Unit (Sub×aA))->Option (Sub×aA)
 |.brk ()=>PB s b
 |.ret r=>some r
def sJ(s:Sub)(b:aA)(a:Int):=(loop (hU s b a) (if s.Row<0 then 0 else s.Row)).bind (aC5 s b)
def HV(s:bg)(i j:Int):=need (0<=(i:Int)/\(i:Int)<=(j:Int)/\(j:Int)<=((s.length:Int):Int)/\((s.length:Int):Int)<=(s.length:Int)) ((if i == j then some s else need (0<=(i:Int)/\(i:Int)<=(s.length:Int)) (need (0<=(j:Int)/\(j:Int)<=(s.length:Int)) (need (i.toNat<=j.toNat) (need (0<=(((((dM s i.toNat (s.drop j.toNat)).take (i.toNat+(s.length-j.toNat))).drop 0).length:Int):Int)/\(((((dM s i.toNat (s.drop j.toNat)).take (i.toNat+(s.length-j.toNat))).drop 0).length:Int):Int)<=((s.length:Int):Int)/\((s.length:Int):Int)<=((dM s i.toNat (s.drop j.toNat)).length:Int)) (some (((dM s i.toNat (s.drop j.toNat)).take (i.toNat+(s.length-j.toNat))).drop 0)))))))
def GO(b i:Int)(a:a7)(e:Bool):=(if e then some (a,false) else(idx a b).bind λd=>(HV d.Rows i (bB (i+1))).bind λc=>some (a.set b.toNat (⟨c⟩:bP),true))
def RQ(l:a7)(a i:Int):=(m8 l).bind λb=>(xG l).bind λd=>(if !d then GO a i b true else(PA l a i).bind λc=>GO a i b (!c))
def eR(s:Sub)(b:aA)(a:Int)(f:Bool):=(if f then(RQ b.aQ a s.Row).bind λe=>(TB b.Mem a s.H).bind λd=>some (({s with Pc:=1,Out:=bB (s.Out+1)}:Sub),({b with Mem:=d,aQ:=e.1}:aA)) else(bX s 1).bind λc=>some (c,b))
def gI(s:Sub)(b:aA)(a:Int)(h g:Bool):=(if g then(idx b.iU s.B).bind λf=>(if f == s.H then some (({s with Pc:=1,Row:=bB (s.Row+1)}:Sub),b) else(if(bB (s.B+1)) == 3 then some (({s with Pc:=3,B:=bB (s.B+1)}:Sub),b) else some (({s with B:=bB (s.B+1)}:Sub),b))) else(if s.Pc == 3 then(if h then(idx b.aQ a).bind λe=>(idx e.Rows s.Row).bind λd=>(X0 d s.E).bind λc=>eR s b a c else eR s b a false) else eR s b a false))
def iL(s:Sub)(b:aA)(c:Int)(a:Bool):=(if s.Pc == 0 then some (({s with Pc:=1,E:=b.aI.aP,Row:=0}:Sub),b) else(if s.Pc == 1 then(sJ s b c).bind λe=>some (e.1,e.2) else(if s.Pc == 2 then(gK s.B).bind λd=>(if d then gI s b c a a else gI s b c a false) else gI s b c a false)))
def sK(s:Sub)(b:aA)(a:Int):=(PA b.aQ a s.Row).bind λe=>(if e then(idx b.aQ a).bind λd=>(idx d.Rows s.Row).bind λc=>iL s b a (c.Handle == s.H) else iL s b a false)
def FD(b d:Int)(a:aI)(c:Bool):=(if c then some (a,false) else(idx a.bV b).bind λe=>some ((⟨a.aP,a.bV.set b.toNat (⟨true,d,false,0⟩:xZ)⟩:aI),true))
def ZK(c:aI)(a b:Int):=(m7 c).bind λd=>(sH c).bind λg=>(if !g then FD a b d true else(gK a).bind λf=>(if !f then FD a b d true else(cM b 0 c.aP).bind λe=>FD a b d (!e)))
def ED(s:Sub)(b:aA)(e:Bool)(d:Int)(c:b6):=(if !e then(bX s 1).bind λa=>some (a,b) else some (({s with Pc:=2}:Sub),({b with aI:=(⟨d,c⟩:aI)}:aA)))
def DF(s:Sub)(b:aA)(e:Int):=(if s.Pc == 0 then some (({s with Pc:=1,E:=b.aI.aP}:Sub),b) else(if s.Pc == 1 then(ZK b.aI e s.E).bind λa=>ED s b a.2 a.1.aP a.1.bV else(if s.Pc == 2 then(if b.aI.aP == s.E then(bX s 0).bind λd=>some (d,b) else some (({s with Pc:=0}:Sub),b)) else(bX s 1).bind λc=>some (c,b))))
def i4(s:Sub)(b:aA)(a:Int):=(if s.eG then some (s,b) else(if s.Kind == 1 then(xD s b a).bind λg=>some (g.1,g.2) else(if s.Kind == 2 then(tY s b a).bind λf=>some (f.1,f.2) else(if s.Kind == 3 then(sI s b).bind λe=>some (e.1,e.2) else(if s.Kind == 4 then(sK s b a).bind λd=>some (d.1,d.2) else(if s.Kind == 5 then(DF s b a).bind λc=>some (c.1,c.2) else(bX s 1).bind λh=>some (h,b)))))))
def eN(j:fE)(pc:Int):=some ({j with Pc:=pc,Code:=0}:fE)
def aKO:=some true
def DG(b:Int)(a:Bool):Option (Step Int (Out Unit Bool)):=(if a then some (.stop (Out.ret false)) else some (.next (bB (b+1))))
def pL(h:Heap)(s:bD)(c:Int):Int->Option (Step Int (Out Unit Bool))
 |a=>(if decide (a<(s.bA.length:Int)) then(idx s.bA a).bind λb=>(lJ h b).bind λe=>(if e != c then DG a true else(HU h b).bind λd=>DG a (decide (6<d))) else some (.stop (Out.brk ())))
def aKP:(Out Unit Bool)->ay
 |.brk ()=>aKO
 |.ret r=>some r
def FE(h:Heap)(s:bD)(c:Int):=(loop (pL h s c) 0).bind (aKP)
def aUO:=some true
def zV(m:Mem):Int->Option (Step Int (Out Unit Bool))
 |a=>(if decide (a<(m.aD.Own.length:Int)) then(idx m.aD.Own a).bind λc=>(FE m.Heap c (Int.tmod a 3)).bind λb=>(if !b then some (.stop (Out.ret false)) else some (.next (bB (a+1)))) else some (.stop (Out.brk ())))
def aUP:(Out Unit Bool)->ay
 |.brk ()=>aUO
 |.ret r=>some r
def aFU(m:Mem):=(loop (zV m) 0).bind (aUP)
def zW(m:Mem):Int->Option (Step Int (Out Unit Bool))
 |a=>(if decide (a<(m.aD.Global.length:Int)) then(idx m.aD.Global a).bind λc=>(FE m.Heap c a).bind λb=>(if !b then some (.stop (Out.ret false)) else some (.next (bB (a+1)))) else some (.stop (Out.brk ())))
def aFV(m:Mem):(Out Unit Bool)->ay
 |.brk ()=>aFU m
 |.ret r=>some r
def OB(m:Mem)(a:Bool):=(if a then some false else(loop (zW m) 0).bind (aFV m))
def BS(m:Mem):=(O8 m.Heap).bind λb=>(if !b then OB m true else(sD m.aD).bind λa=>OB m (!a))
def KF(a c:Int):=(BO a c).bind λb=>(if decide (b<0) then some (-1) else some (bB (b+4)))
def ZL(a c:Int):=(KF a c).bind λb=>(if decide (b<0) then some (⟨0,0⟩:Span) else(BK c).bind λd=>some (⟨b,bB (b+d)⟩:Span))
def DH(h:Heap)(a at_ b:Int):=(lJ h a).bind λe=>(ZL a e).bind λc=>(cM at_ 0 (bB ((bB (c.To-c.bIA))-b))).bind λd=>(if !d then some (-1) else some (bB (c.bIA+at_)))
def KG(m:Mem)(h at_ a:Int)(e:Bool):ct:=(if e then some (0,1) else(wO m h).bind λd=>(if !d then some (0,4) else(DH m.Heap (Int.tmod h 32) at_ a).bind λb=>(if decide (b<0) then some (0,2) else(kJ m.Heap.Bytes b a).bind λc=>some (c,0))))
def aC6(m:Mem)(h at_ a:Int):ct:=(BS m).bind λc=>(if !c then KG m h at_ a true else(kI a).bind λb=>KG m h at_ a (!b))
def aA9(a:Mem):cq:=some (a,0)
def RR(m:Mem)(h at_ a n:Int):cq:=(o6 m).bind λb=>(mH n a).bind λd=>(aC6 m h at_ a).bind λc=>(if c.2 != 0 then some (b,c.2) else(if d == ([]) then some (b,1) else(DH m.Heap (Int.tmod h 32) at_ a).bind λf=>(nA b.Heap.Bytes f d).bind λe=>aA9 (⟨(⟨e,b.Heap.Class⟩:Heap),b.aD⟩:Mem)))
def KH(s:aJ)(a e:Int)(g:Mem):=(if e != 0 then(idx s.aH a).bind λf=>(cG f e).bind λd=>some ({s with aH:=s.aH.set a.toNat d}:aJ) else(idx s.aH a).bind λc=>(eN c 2).bind λb=>some ({s with aA:=(⟨g,s.aA.aI,s.aA.aQ,s.aA.iU⟩:aA),aH:=s.aH.set a.toNat b}:aJ))
def KI(f:Int)(a:aJ):=(idx a.aH f).bind λb=>(if b.Old == 0 then(cG b 0).bind λe=>some ({a with aH:=a.aH.set f.toNat e}:aJ) else(fJ 2 b.Old).bind λd=>(eN ({b with Sub:=d}:fE) 3).bind λc=>some ({a with aH:=a.aH.set f.toNat c}:aJ))
def KJ(s:aJ)(c:Int)(f:fE)(b:Int)(e:al):=(idx (s.aH.set c.toNat ({f with Old:=b}:fE)) c).bind λa=>(eE ({s with Cells:=e,aH:=s.aH.set c.toNat ({f with Old:=b}:fE)}:aJ) 2 c a.H a.Op.cT 0).bind λd=>KI c d
def KK(s:aJ)(b:Int):=(idx s.aH b).bind λa=>(if a.Pc == 0 then(i4 a.Sub s.aA b).bind λd=>(if !d.1.eG then some ({s with aA:=d.2,aH:=s.aH.set b.toNat ({a with Sub:=d.1}:fE)}:aJ) else(if d.1.Code != 0 then(cG ({a with Sub:=d.1}:fE) d.1.Code).bind λn=>some ({s with aA:=d.2,aH:=s.aH.set b.toNat n}:aJ) else(iP d.1.Out).bind λm=>(if !m then(cG ({a with Sub:=d.1}:fE) 1).bind λl=>some ({s with aA:=d.2,aH:=s.aH.set b.toNat l}:aJ) else(eN ({a with Sub:=d.1,H:=d.1.Out}:fE) 1).bind λk=>some ({s with aA:=d.2,aH:=s.aH.set b.toNat k}:aJ)))) else(if a.Pc == 1 then(RR s.aA.Mem a.H 0 4 a.Op.cT).bind λg=>KH s b g.2 g.1 else(if a.Pc == 2 then(idx s.Cells a.Op.Cell).bind λf=>(idx (s.aH.set b.toNat ({a with Old:=f}:fE)) b).bind λe=>(idx s.Cells e.Op.Cell).bind λj=>KJ s b a f (s.Cells.set e.Op.Cell.toNat e.H) else(if a.Pc == 3 then(i4 a.Sub s.aA b).bind λc=>(if c.1.eG then(cG ({a with Sub:=c.1}:fE) c.1.Code).bind λi=>some ({s with aA:=c.2,aH:=s.aH.set b.toNat i}:aJ) else some ({s with aA:=c.2,aH:=s.aH.set b.toNat ({a with Sub:=c.1}:fE)}:aJ)) else(cG a 1).bind λh=>some ({s with aH:=s.aH.set b.toNat h}:aJ)))))
def FF(b:Int)(a:aI)(c:Bool):=(if c then some (a,false) else(idx a.bV b).bind λd=>some ((⟨a.aP,a.bV.set b.toNat (⟨false,0,false,0⟩:xZ)⟩:aI),true))
def ZM(c:aI)(a:Int):=(m7 c).bind λb=>(sH c).bind λf=>(if !f then FF a b true else(gK a).bind λe=>(if !e then FF a b true else(idx c.bV a).bind λd=>FF a b (!d.On)))
def lV(b:aA)(c:Int):=(ZM b.aI c).bind λa=>some (a.2,({b with aI:=a.1}:aA))
def BT(s:aJ)(a:Int):=(idx s.aH a).bind λc=>(idx s.Cells c.Op.Cell).bind λb=>(eE ({s with aH:=s.aH.set a.toNat ({c with H:=b}:fE)}:aJ) 3 a b 0 0).bind λd=>some d
def yP(b:aA)(h at_ a:Int)(e:Bool):=(if e then some (0,false) else(DH b.Mem.Heap (Int.tmod h 32) at_ a).bind λc=>(if decide (c<0) then some (0,false) else(kJ b.Mem.Heap.Bytes c a).bind λd=>some (d,true)))
def RS(b:aA)(h at_ a:Int):=(iP h).bind λe=>(if !e then yP b h at_ a true else(xC b.Mem.Heap (Int.tmod h 32)).bind λd=>(if decide (d<0) then yP b h at_ a true else(kI a).bind λc=>yP b h at_ a (!c)))
def oD(s:aJ)(b:Int):=(idx s.aH b).bind λa=>(RS s.aA a.H 0 4).bind λc=>some ({s with aH:=s.aH.set b.toNat ({a with cT:=c.1}:fE)}:aJ)
def j9(a:Bool):=some a
def mI(p:xZ):=(if p.On then j9 (!p.gU) else j9 false)
def oK(s:aJ)(a pc:Int):=(idx s.aH a).bind λe=>(eN e pc).bind λb=>(idx s.aA.aI.bV a).bind λd=>(mI d).bind λc=>(if !c then some ({s with aH:=s.aH.set a.toNat ({b with cT:=0,Code:=6}:fE)}:aJ) else some ({s with aH:=s.aH.set a.toNat b}:aJ))
def KL(s:aJ)(a:Int):=(idx s.aH a).bind λb=>(if b.Pc == 0 then(i4 b.Sub s.aA a).bind λd=>(if d.1.eG then(eN ({b with Sub:=d.1}:fE) 1).bind λn=>some ({s with aA:=d.2,aH:=s.aH.set a.toNat n}:aJ) else some ({s with aA:=d.2,aH:=s.aH.set a.toNat ({b with Sub:=d.1}:fE)}:aJ)) else(if b.Pc == 1 then(BT s a).bind λc=>(idx c.aH a).bind λm=>(eN m 2).bind λj=>(if j.H == 0 then some ({c with aH:=c.aH.set a.toNat ({j with Pc:=4,Code:=8}:fE)}:aJ) else some ({c with aH:=c.aH.set a.toNat j}:aJ)) else(if b.Pc == 2 then(oD s a).bind λi=>(idx i.aH a).bind λl=>(eN l 3).bind λk=>some ({i with aH:=i.aH.set a.toNat k}:aJ) else(if b.Pc == 3 then(oK s a 4).bind λh=>some h else(if b.Pc == 4 then(lV s.aA a).bind λg=>(cG b b.Code).bind λf=>some ({s with aA:=g.2,aH:=s.aH.set a.toNat f}:aJ) else(cG b 1).bind λe=>some ({s with aH:=s.aH.set a.toNat e}:aJ))))))
def BU(a:Bool):=some a
def BV(h:Int):=(if h == 0 then BU true else(iP h).bind λa=>BU a)
def RT(h:Int):=(BV h).bind λa=>some (!a)
def OC(a:Bool):=some a
def M9(z:al):=(if(z.length:Int) == 3 then(iK z (λa=>RT a)).bind λb=>OC (!b) else OC false)
def yQ(b h:Int)(a:al)(c:Bool):=(if c then some (a,false) else(idx a b).bind λd=>some (a.set b.toNat h,true))
def RU(z:al)(a h:Int):=(iJ z).bind λb=>(M9 z).bind λe=>(if !e then yQ a h b true else(gK a).bind λd=>(if !d then yQ a h b true else(iP h).bind λc=>yQ a h b (!c)))
def FG(b:Int)(a:al)(c:Bool):=(if c then some (a,false) else(idx a b).bind λd=>some (a.set b.toNat 0,true))
def ZN(z:al)(a:Int):=(iJ z).bind λb=>(M9 z).bind λe=>(if !e then FG a b true else(gK a).bind λd=>(if !d then FG a b true else(idx z a).bind λc=>FG a b (c == 0)))
def KM(s:aJ)(a:Int)(d:al):=(idx s.aH a).bind λc=>(eN c 2).bind λb=>some ({s with aA:=(⟨s.aA.Mem,s.aA.aI,s.aA.aQ,d⟩:aA),aH:=s.aH.set a.toNat b}:aJ)
def KN(s:aJ)(b:Int)(h:Bool):=(if h then(idx s.aH b).bind λg=>(eN g 0).bind λf=>some ({s with aH:=s.aH.set b.toNat f}:aJ) else(idx s.aH b).bind λe=>(eE s 3 b e.H 0 0).bind λa=>(idx a.aH b).bind λd=>(eN d 3).bind λc=>some ({a with aH:=a.aH.set b.toNat c}:aJ))
def KO(s:aJ)(a:Int):=(idx s.aH a).bind λb=>(if b.Pc == 0 then(idx s.Cells b.Op.Cell).bind λn=>(eN ({b with H:=n}:fE) 1).bind λk=>(if k.H == 0 then(eE ({s with aH:=s.aH.set a.toNat k}:aJ) 3 a 0 0 0).bind λj=>(idx j.aH a).bind λm=>some ({j with aH:=j.aH.set a.toNat ({m with Pc:=4,Code:=8}:fE)}:aJ) else some ({s with aH:=s.aH.set a.toNat k}:aJ)) else(if b.Pc == 1 then(RU s.aA.iU a b.H).bind λl=>KM s a l.1 else(if b.Pc == 2 then(idx s.Cells b.Op.Cell).bind λi=>KN s a (i != b.H) else(if b.Pc == 3 then(oD s a).bind λc=>(idx c.aH a).bind λh=>(eN h 4).bind λg=>some ({c with aH:=c.aH.set a.toNat g}:aJ) else(if b.Pc == 4 then(ZN s.aA.iU a).bind λf=>(cG b b.Code).bind λe=>some ({s with aA:=(⟨s.aA.Mem,s.aA.aI,s.aA.aQ,f.1⟩:aA),aH:=s.aH.set a.toNat e}:aJ) else(cG b 1).bind λd=>some ({s with aH:=s.aH.set a.toNat d}:aJ))))))
def xH(s:aJ)(a:Int)(n:Bool):=(if n then(idx s.aH a).bind λm=>(cG m 6).bind λl=>some ({s with aH:=s.aH.set a.toNat l}:aJ) else(idx s.aH a).bind λe=>(if e.Pc == 0 then(BT s a).bind λd=>(idx d.aH a).bind λk=>(eN k 1).bind λc=>(if c.H == 0 then(cG c 8).bind λj=>some ({d with aH:=d.aH.set a.toNat j}:aJ) else some ({d with aH:=d.aH.set a.toNat c}:aJ)) else(if e.Pc == 1 then(oD s a).bind λb=>(idx b.aH a).bind λi=>(eN i 2).bind λh=>some ({b with aH:=b.aH.set a.toNat h}:aJ) else(if e.Pc == 2 then(oK s a 9).bind λg=>some g else(cG e 1).bind λf=>some ({s with aH:=s.aH.set a.toNat f}:aJ)))))
def xI(s:aJ)(a:Int)(f:xZ)(e:Bool):=(if e then(idx s.aH a).bind λd=>(cG d 5).bind λc=>some ({s with aH:=s.aH.set a.toNat c}:aJ) else(idx s.aH a).bind λb=>(if b.Pc == 0 then xH s a f.gU else xH s a false))
def HW(s:aJ)(c:Int)(b:xZ):=(idx s.aH c).bind λa=>(if a.Pc == 0 then xI s c b (!b.On) else xI s c b false)
def GP(s:aJ)(b:Int):=(idx s.aH b).bind λc=>(idx s.aA.aI.bV b).bind λa=>HW s b a
def tZ(b e:Int)(a:aJ):=(idx a.aH b).bind λd=>(cG d e).bind λc=>some ({a with aH:=a.aH.set b.toNat c}:aJ)
def uA(s:aJ)(c:Int)(g:Bool):=(if g then(idx s.aH c).bind λb=>(i4 b.Sub s.aA c).bind λa=>(if a.1.eG then(cG ({b with Sub:=a.1,cT:=a.1.Out}:fE) a.1.Code).bind λf=>some ({s with aA:=a.2,aH:=s.aH.set c.toNat f}:aJ) else some ({s with aA:=a.2,aH:=s.aH.set c.toNat ({b with Sub:=a.1}:fE)}:aJ)) else(idx s.aH c).bind λe=>(cG e 1).bind λd=>some ({s with aH:=s.aH.set c.toNat d}:aJ))
def uB(s:aJ)(c:Int)(g:Bool):=(if g then(idx s.aH c).bind λb=>(i4 b.Sub s.aA c).bind λa=>(if a.1.eG then(fJ 4 0).bind λf=>(eN ({b with Sub:=f}:fE) 1).bind λe=>some ({s with aA:=a.2,aH:=s.aH.set c.toNat e}:aJ) else some ({s with aA:=a.2,aH:=s.aH.set c.toNat ({b with Sub:=a.1}:fE)}:aJ)) else(idx s.aH c).bind λd=>(if d.Op.Kind == 4 then uA s c (d.Pc == 1) else uA s c false))
def uC(s:aJ)(b:Int)(f:Bool):=(if f then(idx s.aH b).bind λe=>(i4 e.Sub s.aA b).bind λa=>(if a.1.eG then(cG ({e with Sub:=a.1}:fE) a.1.Code).bind λd=>some ({s with aA:=a.2,aH:=s.aH.set b.toNat d}:aJ) else some ({s with aA:=a.2,aH:=s.aH.set b.toNat ({e with Sub:=a.1}:fE)}:aJ)) else(idx s.aH b).bind λc=>(if c.Op.Kind == 4 then uB s b (c.Pc == 0) else uB s b false))
def uD(s:aJ)(a:Int)(d:Bool):=(if d then(lV s.aA a).bind λc=>(if !c.1 then tZ a 5 ({s with aA:=c.2}:aJ) else tZ a 0 ({s with aA:=c.2}:aJ)) else(idx s.aH a).bind λb=>(if b.Op.Kind == 5 then uC s a (b.Pc == 0) else uC s a false))
def DI(s:aJ)(a:Int):=(idx s.aH a).bind λb=>(if b.Op.Kind == 6 then uD s a (b.Pc == 0) else uD s a false)
def yR(s:aJ)(a:Int):=(idx s.aH a).bind λb=>(if !b.gW then(C9 s a).bind λi=>some i else(if b.Pc == 9 then(eE s 4 a b.H b.cT b.Code).bind λc=>(idx c.aH a).bind λj=>some ({c with aH:=c.aH.set a.toNat (⟨false,(⟨0,0,0,0⟩:mS),0,0,(⟨0,0,0,0,0,0,0,0,0,false⟩:Sub),0,0,0,0⟩:fE)}:aJ) else(if b.Op.Kind == 1 then(KK s a).bind λh=>some h else(if b.Op.Kind == 2 then(KL s a).bind λg=>some g else(if b.Op.Kind == 3 then(KO s a).bind λf=>some f else(if b.Op.Kind == 7 then(GP s a).bind λe=>some e else(DI s a).bind λd=>some d))))))
def aKQ(a:bh):=some a
def vC(c:Int)(b:bh)(a:aJ):Option (Step (bh×Int×aJ) bh):=some (.next (b,bB (c+1),a))
def vD(x:iD):(bh×Int×aJ)->Option (Step (bh×Int×aJ) bh)
 |(e,d,g)=>(if decide (d<(((x.bG.take ((if 400<(x.bG.length:Int) then 400 else(x.bG.length:Int)).toNat)).drop 0).length:Int)) then(idx ((x.bG.take ((if 400<(x.bG.length:Int) then 400 else(x.bG.length:Int)).toNat)).drop 0) d).bind λc=>(gK c).bind λf=>(if f then(yR g c).bind λb=>(BJ b).bind λa=>need (e.length+([a]).length<=1073741824) (vC d (e++([a])) b) else vC d e g) else some (.stop (e)))
def aKR:bh->Option bh
 |a=>aKQ a
def FH(x:iD):=(N3 x.aY).bind λa=>(if(a.aH.length:Int) == 0 then some ([]) else(BJ a).bind λb=>need (0<=(if 400<(x.bG.length:Int) then 400 else(x.bG.length:Int):Int)/\(if 400<(x.bG.length:Int) then 400 else(x.bG.length:Int):Int)<=(x.bG.length:Int)) ((loop (vD x) ([b],0,a)).bind (aKR)))
def aIE(a:Int):=some a
def AK(d:bh):(Int×Int)->Option (Step (Int×Int) Int)
 |(b,a)=>(if decide (a<(d.length:Int)) then(idx d a).bind λe=>(nB e.aA.aQ).bind λc=>some (.next (if b<c then c else b,bB (a+1))) else some (.stop (b)))
def aIF:Int->bu
 |a=>aIE a
def BW(x:iD):=(FH x).bind λa=>(loop (AK a) (0,0)).bind (aIF)
def xJ(a:Bool):=some a
def GQ(a:eW)(b:aA):=(wO b.Mem a.Handle).bind λc=>(if !c then xJ true else xJ (decide (b.aI.aP<a.aP)))
def OD(l:bP)(c:aA):=(kD l.Rows (λa=>GQ a c)).bind λb=>some b
def vF(b:aA)(d:Bool):=(if d then some false else(jX b.aQ (λa=>OD a b)).bind λc=>some (!c))
def VF(b:aA):=(BS b.Mem).bind λe=>(if !e then vF b true else(sH b.aI).bind λd=>(if !d then vF b true else(xG b.aQ).bind λc=>(if !c then vF b true else(M9 b.iU).bind λa=>vF b (!a))))
def ZO(b:aA)(a:Int):bu:=(KA b.Mem a).bind λc=>(if c != 3 then some c else(DC b.aQ a).bind λd=>(if d then some 3 else some 4))
def aUQ(a:al):=some a
def FI(b:aA):(al×Int)->Option (Step (al×Int) al)
 |(c,a)=>(if decide (a<24) then(ZO b a).bind λd=>(idx c d).bind λe=>some (.next (c.set d.toNat (bB (e+1)),bB (a+1))) else some (.stop (c)))
def aUR:al->Option al
 |a=>aUQ a
def ZP(b:aA):=need (0<=(5:Int)/\(5:Int)<=4294967296) ((VF b).bind λa=>(if !a then some (List.replicate ((5:Int).toNat) 0) else(loop (FI b) (List.replicate ((5:Int).toNat) 0,0)).bind (aUR)))
def aKS(a:Int):=some a
def DJ(d:bh):(Int×Int)->Option (Step (Int×Int) Int)
 |(b,a)=>(if decide (a<(d.length:Int)) then(idx d a).bind λf=>(ZP f.aA).bind λe=>(idx e 4).bind λc=>some (.next (if b<c then c else b,bB (a+1))) else some (.stop (b)))
def aKT:Int->bu
 |a=>aKS a
def OE(x:iD):=(FH x).bind λa=>(loop (DJ a) (0,0)).bind (aKT)
def ZQ(x:iD):=(zH x.aY).bind λa=>some ((a.aH.length:Int) == 3)
def KP(e d:Int×(Int×Int))(c b a:Int):=some ((⟨e.1,d.1,a⟩:oV),(c,b))
def KQ(c:cE)(e a:Int×(Int×Int))(f:Bool):=(if f then(dU (⟨c.b,a.2.1,a.2.2⟩:cE) 60000).bind λd=>(jI (⟨c.b,d.2.1,d.2.2⟩:cE) ([1,65535,d.1]:al)).bind λb=>KP e a b.2.1 b.2.2 b.1 else KP e a a.2.1 a.2.2 0)
def PC(c:cE):=(jI c ([1,1,2,2,3,4,4]:al)).bind λa=>(dU (⟨c.b,a.2.1,a.2.2⟩:cE) 6).bind λb=>(if a.1 == 2 then KQ c a b true else KQ c a b (a.1 == 4))
def aNI(c b:Int)(a:bp):=some ((⟨false,a⟩:Batch),(c,b))
def PY(d c b:Int)(a:bp):Option (Step (Int×Int×Int×bp) (Int×Int×bp)):=some (.next (bB (d-1),c,b,a))
def aBA(c:cE):(Int×Int×Int×bp)->Option (Step (Int×Int×Int×bp) (Int×Int×bp))
 |(f,e,d,b)=>(if decide (0<f) then(PC (⟨c.b,e,d⟩:cE)).bind λa=>need (b.length+([a.1]).length<=1073741824)<|PY f a.2.1 a.2.2 (b++([a.1])) else some (.stop ((e,d,b))))
def aNJ:(Int×Int×bp)->Option (Batch×(Int×Int))
 |(c,b,a)=>aNI c b a
def RV(c:cE):=(UX c 4).bind λa=>(if a.1 then some ((⟨true,[]⟩:Batch),(a.2.1,a.2.2)) else(dU (⟨c.b,a.2.1,a.2.2⟩:cE) 3).bind λb=>(loop (aBA c) (bB (1+b.1),b.2.1,b.2.2,[])).bind (aNJ))
def aIG(c:au)(b a:Int):=some (c,(b,a))
def VG(d:au)(e c b:Int)(a:bf):Option (Step (au×Int×Int×Int) (au×Int×Int)):=need (d.length+([(⟨a⟩:aR)]).length<=1073741824) (some (.next (d++([(⟨a⟩:aR)]),bB (e+1),c,b)))
def KR(d c b:Int)(a:bf):Option (Step (Int×Int×Int×bf) (Int×Int×bf)):=some (.next (bB (d-1),c,b,a))
def VH(c:cE):(Int×Int×Int×bf)->Option (Step (Int×Int×Int×bf) (Int×Int×bf))
 |(f,e,d,b)=>(if decide (0<f) then(RV (⟨c.b,e,d⟩:cE)).bind λa=>need (b.length+([a.1]).length<=1073741824)<|KR f a.2.1 a.2.2 (b++([a.1])) else some (.stop ((e,d,b))))
def VJ(e:au)(d:Int):(Int×Int×bf)->Option (Step (au×Int×Int×Int) (au×Int×Int))
 |(c,b,a)=>VG e d c b a
def VK(c:cE)(b:Int):(au×Int×Int×Int)->Option (Step (au×Int×Int×Int) (au×Int×Int))
 |(g,f,e,d)=>(if decide (f<3) then(dU (⟨c.b,e,d⟩:cE) (bB (b+1))).bind λa=>(loop (VH c) (a.1,a.2.1,a.2.2,[])).bind (VJ g f) else some (.stop ((g,e,d))))
def aIH:(au×Int×Int)->Option (au×(Int×Int))
 |(c,b,a)=>aIG c b a
def BX(c:cE)(a:Int):=(loop (VK c a) (([]:au),0,c.i,c.h)).bind (aIH)
def aKU(c:al)(b a:Int):=some (c,(b,a))
def X2(c:Int)(a:Int×(Int×Int))(b:al):Option (Step (al×Int×Int×Int) (al×Int×Int)):=some (.next (b,bB (c-1),a.2.1,a.2.2))
def X3(c:Int×(Int×Int)):(al×Int)->Option (Step (al×Int) al)
 |(a,b)=>(if decide (0<b) then need (a.length+([c.1]).length<=1073741824) (some (.next (a++([c.1]),bB (b-1)))) else some (.stop (a)))
def X4(c:Int)(b:Int×(Int×Int)):al->Option (Step (al×Int×Int×Int) (al×Int×Int))
 |a=>X2 c b a
def X5(c:cE):(al×Int×Int×Int)->Option (Step (al×Int×Int×Int) (al×Int×Int))
 |(g,f,e,d)=>(if decide (0<f) then(dU (⟨c.b,e,d⟩:cE) 3).bind λa=>(dU (⟨c.b,a.2.1,a.2.2⟩:cE) 8).bind λb=>(loop (X3 a) (g,bB (1+b.1))).bind (X4 f b) else some (.stop ((g,e,d))))
def aKV:(al×Int×Int)->Option (al×(Int×Int))
 |(c,b,a)=>aKU c b a
def OF(c:cE)(a:Int):=(dU c a).bind λb=>(loop (X5 c) (([]:al),b.1,b.2.1,b.2.2)).bind (aKV)
def vG(e d c b a:Int):=some ((⟨c,b,a⟩:oV),(e,d))
def VL(c:cE):=(PC c).bind λb=>(dU (⟨c.b,b.2.1,b.2.2⟩:cE) 14).bind λa=>(if a.1 == 0 then(jI (⟨c.b,a.2.1,a.2.2⟩:cE) ([0,5]:al)).bind λf=>vG f.2.1 f.2.2 f.1 b.1.Key b.1.cT else(if a.1 == 1 then(jI (⟨c.b,a.2.1,a.2.2⟩:cE) ([(-1),99,100]:al)).bind λe=>vG e.2.1 e.2.2 b.1.Kind e.1 b.1.cT else(if a.1 == 2 then(jI (⟨c.b,a.2.1,a.2.2⟩:cE) ([(-1),65536,1,0]:al)).bind λd=>vG d.2.1 d.2.2 b.1.Kind b.1.Key d.1 else vG a.2.1 a.2.2 b.1.Kind b.1.Key b.1.cT)))
def mJ(c:au)(b a:Int):=some (c,(b,a))
def TC(c:au)(b a:Int):=mJ c b a
def HX(a:au)(e:Bool)(d c:Int):Option (Step (au×Int×Int) (au×Int×Int)):=(if e then(idx a 1).bind λb=>need (b.List.length+([(⟨true,[]⟩:Batch)]).length<=1073741824) (some (.next (a.set ((1:Int).toNat) (⟨b.List++([(⟨true,[]⟩:Batch)])⟩:aR),d,c))) else some (.stop ((a,d,c))))
def TD(c:cE):(au×Int×Int)->Option (Step (au×Int×Int) (au×Int×Int))
 |(b,f,e)=>(idx b 1).bind λd=>(dU (⟨c.b,f,e⟩:cE) 2).bind λa=>HX b (decide ((d.List.length:Int)<(bB (12+a.1)))) a.2.1 a.2.2
def aGS:(au×Int×Int)->Option (au×(Int×Int))
 |(c,b,a)=>TC c b a
def HY(c:au)(b a:Int):=mJ c b a
def GR(c:cE):=
 (BX c 5).bind λb=>(dU (⟨c.b,b.2.1,b.2.2⟩:cE) 20).bind λa=>(if a.1 == 0 then need (0<=(2:Int)/\(2:Int)<=(b.1.length:Int)) (some ((b.1.take ((2:Int).toNat)).drop 0,(a.2.1,a.2.2))) else(if a.1 == 1 then(idx b.1 0).bind λf=>need (f.List.length+([(⟨false,[]⟩:Batch)]).length<=1073741824) (mJ (b.1.set ((0:Int).toNat) (⟨f.List++([(⟨false,[]⟩:Batch)])⟩:aR)) a.2.1 a.2.2) else(if a.1 == 2 then(loop (TD c) (b.1,a.2.1,a.2.2)).bind (aGS) else(if a.1 == 3 then(idx b.1 2).bind λe=>(VL (⟨c.b,a.2.1,a.2.2⟩:cE)).bind λd=>need (e.List.length+([(⟨false,[d.1]⟩:Batch)]).length<=1073741824)<|HY (b.1.set ((2:Int).toNat) (⟨e.List++([(⟨false,[d.1]⟩:Batch)])⟩:aR)) d.2.1 d.2.2 else mJ b.1 a.2.1 a.2.2))))
def mC(b:au)(a:al):=some (⟨b,a⟩:CT)
def mK(code:aF):=(SX code).bind λd=>(BX (⟨code,d.1,d.2⟩:cE) 6).bind λc=>(OF (⟨code,c.2.1,c.2.2⟩:cE) 60).bind λa=>(dU (⟨code,a.2.1,a.2.2⟩:cE) 16).bind λb=>(if b.1 == 0 then(GR (⟨code,b.2.1,b.2.2⟩:cE)).bind λe=>mC e.1 a.1 else(if b.1 == 1 then need (a.1.length+([(-1),3,1]:al).length<=1073741824) (mC c.1 (a.1++([(-1),3,1]:al))) else mC c.1 a.1))
def xK(code:aF):=(mK code).bind λa=>some a
def nC(l:a7):=(A9 l).bind λa=>some (a.length:Int)
def aNK:=some true
def yT(b:al)(d a:Int)(c:Bool):Option (Step (al×Int) (Out Unit Bool)):=(if c then some (.stop (Out.ret false)) else need (b.length+([a]).length<=1073741824) (some (.next (b++([a]),bB (d+1)))))
def yU(g:bg):(al×Int)->Option (Step (al×Int) (Out Unit Bool))
 |(c,b)=>(if decide (b<(g.length:Int)) then(idx g b).bind λf=>(eM f.Handle).bind λa=>(if decide (a<0) then yT c b a true else(bY f.aP 0 100000).bind λe=>(if !e then yT c b a true else(HR c a).bind λd=>yT c b a d)) else some (.stop (Out.brk ())))
def aNL:(Out Unit Bool)->ay
 |.brk ()=>aNK
 |.ret r=>some r
def GS(b:bg)(a:Bool):=(if a then some false else(loop (yU b) (([]:al),0)).bind (aNL))
def RW(l:a7):=(A9 l).bind λa=>(if(l.length:Int) != 3 then GS a true else GS a (decide (24<(a.length:Int))))
def aQ6:=some true
def KS(b:Int)(a:Bool):Option (Step Int (Out Unit Bool)):=(if a then some (.stop (Out.ret false)) else some (.next (bB (b+1))))
def BY(b:aA)(d:bg):Int->Option (Step Int (Out Unit Bool))
 |a=>(if decide (a<(d.length:Int)) then(idx d a).bind λc=>(oY b.Mem c.Handle).bind λe=>(if !e then KS a true else KS a (decide (b.aI.aP<c.aP))) else some (.stop (Out.brk ())))
def aQ7:(Out Unit Bool)->ay
 |.brk ()=>aQ6
 |.ret r=>some r
def vH(b:aA)(c:Bool):=(if c then some false else(A9 b.aQ).bind λa=>(loop (BY b a) 0).bind (aQ7))
def VM(b:aA):=(BE b.Mem).bind λe=>(if !e then vH b true else(rX b.aI).bind λd=>(if !d then vH b true else(RW b.aQ).bind λc=>(if !c then vH b true else(M4 b.iU).bind λa=>vH b (!a))))
def DK(b:Int)(a:Bool):=(if a then some 4 else some b)
def OG(b:aA)(a:Int):=(JJ b.Mem a).bind λc=>(if c == 3 then(CZ b.aQ a).bind λd=>DK c (!d) else DK c false)
def aUS(a:al):=some a
def FJ(b:aA)(a:al)(d:Int)(f:Bool):Option (Step (al×Int) al):=(if f then(OG b d).bind λc=>(idx a c).bind λe=>some (.next (a.set c.toNat (bB (e+1)),bB (d+1))) else some (.stop (a)))
def FK(b:aA)(d:Bool):(al×Int)->Option (Step (al×Int) al)
 |(c,a)=>(if decide (a<24) then FJ b c a d else FJ b c a false)
def aUT:al->Option al
 |a=>aUS a
def TE(b:aA):=need (0<=(5:Int)/\(5:Int)<=4294967296) ((VM b).bind λa=>(loop (FK b a) (List.replicate ((5:Int).toNat) 0,0)).bind (aUT))
def TF:=some (-1)
def pU(s:au)(f:(aR->ay)):Int->Option (Step Int (Out Unit Int))
 |a=>(if decide (a<(s.length:Int)) then(idx s a).bind λc=>(f c).bind λb=>(if b then some (.stop (Out.ret a)) else some (.next (bB (a+1)))) else some (.stop (Out.brk ())))
def BZ:(Out Unit Int)->bu
 |.brk ()=>TF
 |.ret r=>some r
def IS(s:au)(f:(aR->ay)):=(loop (pU s f) 0).bind (BZ)
def pW(s:au)(f:(aR->ay)):=(IS s f).bind λa=>some (decide (0<=a))
def UG:=some (-1)
def qQ(s:bf)(f:(Batch->ay)):Int->Option (Step Int (Out Unit Int))
 |a=>(if decide (a<(s.length:Int)) then(idx s a).bind λc=>(f c).bind λb=>(if b then some (.stop (Out.ret a)) else some (.next (bB (a+1)))) else some (.stop (Out.brk ())))
def D8:(Out Unit Int)->bu
 |.brk ()=>UG
 |.ret r=>some r
def KT(s:bf)(f:(Batch->ay)):=(loop (qQ s f) 0).bind (D8)
def qR(s:bf)(f:(Batch->ay)):=(KT s f).bind λa=>some (decide (0<=a))
def X6:=some (-1)
def vI(s:bp)(f:(oV->ay)):Int->Option (Step Int (Out Unit Int))
 |a=>(if decide (a<(s.length:Int)) then(idx s a).bind λc=>(f c).bind λb=>(if b then some (.stop (Out.ret a)) else some (.next (bB (a+1)))) else some (.stop (Out.brk ())))
def IT:(Out Unit Int)->bu
 |.brk ()=>X6
 |.ret r=>some r
def PD(s:bp)(f:(oV->ay)):=(loop (vI s f) 0).bind (IT)
def vJ(s:bp)(f:(oV->ay)):=(PD s f).bind λa=>some (decide (0<=a))
def tI(a:Bool):=some a
def zX(c:oV)(e:Bool):=(cM c.Kind 1 4).bind λd=>(if d then(cM c.Key 0 99).bind λb=>(if b then(if e then(cM c.cT 0 65535).bind λa=>(if a then tI true else tI (c.cT == 0)) else tI (c.cT == 0)) else tI false) else tI false)
def ZR(c:oV):=(if c.Kind == 2 then zX c true else zX c (c.Kind == 4))
def TG(c:oV):=(ZR c).bind λa=>some (!a)
def yV(a:Bool):=some a
def RX(b:Batch):=(if b.Collect then some ((b.b8.length:Int) == 0) else(cM (b.b8.length:Int) 1 6).bind λd=>(if d then(vJ b.b8 (λa=>TG a)).bind λc=>yV (!c) else yV false))
def NA(b:Batch):=(RX b).bind λa=>some (!a)
def AL(a:Bool):=some a
def KU(q:aR):=(if decide (12<(q.List.length:Int)) then AL true else(qR q.List (λa=>NA a)).bind λb=>AL b)
def GU(a:Bool):=some a
def RY(todo:au):=(if(todo.length:Int) == 3 then(pW todo (λa=>KU a)).bind λb=>GU (!b) else GU false)
def vK(s:bp):=need (([]:bp).length+s.length<=1073741824) (some (([]:bp)++s))
def KV(b:Batch):=(vK b.b8).bind λa=>some (⟨b.Collect,a⟩:Batch)
def aII(a:au):=some a
def VN(b:au)(c:Int)(a:bf):Option (Step (au×Int) au):=need (b.length+([(⟨a⟩:aR)]).length<=1073741824) (some (.next (b++([(⟨a⟩:aR)]),bB (c+1))))
def KW(b:Int)(a:bf):Option (Step (Int×bf) bf):=some (.next (bB (b+1),a))
def KX(e:aR):(Int×bf)->Option (Step (Int×bf) bf)
 |(d,a)=>(if decide (d<(e.List.length:Int)) then(idx e.List d).bind λc=>(KV c).bind λb=>need (a.length+([b]).length<=1073741824)<|KW d (a++([b])) else some (.stop (a)))
def VO(c:au)(b:Int):bf->Option (Step (au×Int) au)
 |a=>VN c b a
def KY(todo:au):(au×Int)->Option (Step (au×Int) au)
 |(b,a)=>(if decide (a<(todo.length:Int)) then(idx todo a).bind λc=>(loop (KX c) (0,[])).bind (VO b a) else some (.stop (b)))
def aIJ:au->Option au
 |a=>aII a
def KZ(todo:au):=(loop (KY todo) (([]:au),0)).bind (aIJ)
def X7(a:Table):=some ({a with Log:=[]}:Table)
def OH(todo:au):=
 (RY todo).bind λc=>(if !c then some (⟨(⟨(⟨(⟨[],[]⟩:Heap),(⟨[],[]⟩:aD)⟩:Mem),(⟨0,[]⟩:aI),[],[]⟩:aA),[],[],[],[],0⟩:Table) else(JU).bind λb=>need (0<=(2:Int)/\(2:Int)<=4294967296)<|need (0<=(3:Int)/\(3:Int)<=4294967296)<|(KZ todo).bind λa=>X7 (⟨b,List.replicate ((2:Int).toNat) (⟨0,0,0⟩:dR),List.replicate ((3:Int).toNat) (⟨false,(⟨false,[]⟩:Batch),0,0,0,0,0,0,0,0,(⟨0,0,0⟩:fS),false,0,(⟨0,0,0,0,0,0,0,0,0,false⟩:Sub),[],[],[],[],[],[]⟩:aK),a,[],0⟩:Table))
def QP(s:bf)(i j:Int):=need (0<=i/\i<=j/\j<=(s.length:Int)) (some (s.take i.toNat++s.drop j.toNat))
def EE(t:Table)(b:Int)(e:aR)(d:Batch)(a:aK)(c:bs):=some (⟨t.aA,t.bC,t.aH.set b.toNat ({a with Batch:=(⟨a.Batch.Collect,d.b8⟩:Batch),Reads:=[],aL:=[],eD:=[],eC:=[],bM:=[],bW:=[]}:aK),t.aY.set b.toNat (⟨e.List.drop 1⟩:aR),c,bB (t.aG+1)⟩:Table)
def oL(t:Table)(a:Int)(e:aR)(d:Batch)(b:aK):=
 (idx t.aH a).bind λf=>(vK d.b8).bind λc=>need (t.Log.length+([(⟨1,a,b.aG,0,c,[]⟩:wH)]).length<=1073741824)<|EE t a e d b (t.Log++([(⟨1,a,b.aG,0,c,[]⟩:wH)]))
def EF(t:Table)(e:Int)(d:aR)(a:Batch)(b:aK):=(if a.Collect then(fJ 3 0).bind λc=>oL t e d a ({b with Batch:=(⟨b.Batch.Collect,a.b8⟩:Batch),Pc:=20,Sub:=c,Reads:=[],aL:=[],eD:=[],eC:=[],bM:=[],bW:=[]}:aK) else oL t e d a ({b with Batch:=(⟨b.Batch.Collect,a.b8⟩:Batch),Reads:=[],aL:=[],eD:=[],eC:=[],bM:=[],bW:=[]}:aK))
def oN(t:Table)(d:Int)(e:Bool):=(if e then some t else(idx t.aY d).bind λb=>(idx b.List 0).bind λc=>(QP b.List 0 1).bind λf=>(fJ 5 0).bind λa=>EF t d b c (⟨true,c,bB (t.aG+1),0,0,0,0,0,0,0,(⟨0,0,0⟩:fS),false,0,a,[],[],[],[],[],[]⟩:aK))
def DL(t:Table)(b:Int):=(idx t.aY b).bind λa=>(if(a.List.length:Int) == 0 then oN t b true else oN t b (t.aG == 1000000))
def xL(t:Table)(c:Int):=(idx t.aH c).bind λb=>(i4 b.Sub t.aA c).bind λa=>(if !a.1.eG then some ({t with aA:=a.2,aH:=t.aH.set c.toNat ({b with Sub:=a.1}:aK)}:Table) else(if b.Pc == 0 then some ({t with aA:=a.2,aH:=t.aH.set c.toNat ({b with Pc:=1,Sub:=a.1}:aK)}:Table) else(if b.Pc == 20 then(fJ 4 0).bind λd=>some ({t with aA:=a.2,aH:=t.aH.set c.toNat ({b with Pc:=21,Sub:=d}:aK)}:Table) else some ({t with aA:=a.2,aH:=t.aH.set c.toNat ({b with Pc:=19,Sub:=a.1}:aK)}:Table))))
def sL(j:aK):=(cM j.At 0 (bB ((j.Batch.b8.length:Int)-1))).bind λb=>(if !b then some ((⟨0,0,0⟩:oV),false,j) else(idx j.Batch.b8 j.At).bind λa=>some (a,true,j))
def dP(j:aK)(code:Int):=some ({j with Pc:=16,Code:=code}:aK)
def HZ(s:aw):=need (([]:aw).length+s.length<=1073741824) (some (([]:aw)++s))
def UH:=some (-1)
def qS(s:aw)(f:(aW->ay)):Int->Option (Step Int (Out Unit Int))
 |a=>(if decide (a<(s.length:Int)) then(idx s a).bind λc=>(f c).bind λb=>(if b then some (.stop (Out.ret a)) else some (.next (bB (a+1)))) else some (.stop (Out.brk ())))
def UI:(Out Unit Int)->bu
 |.brk ()=>UH
 |.ret r=>some r
def dW(s:aw)(f:(aW->ay)):=(loop (qS s f) 0).bind (UI)
def B3(b:aw)(a:Int):=need (0<=(a:Int)/\(a:Int)<=(b.length:Int)) (need (0<=(a:Int)/\(a:Int)<=((dM b a.toNat (List.replicate (b.length-a.toNat) (⟨0,false,0⟩:aW))).length:Int)) (some (((dM b a.toNat (List.replicate (b.length-a.toNat) (⟨0,false,0⟩:aW))).take a.toNat).drop 0)))
def jJ(c:Int)(b:aw)(a:Int):Option (Step (aw×Int×Int) (aw×Int)):=some (.next (b,a,bB (c+1)))
def lK(f:(aW->ay)):(aw×Int×Int)->Option (Step (aw×Int×Int) (aw×Int))
 |(a,c,d)=>(if decide (d<(a.length:Int)) then(idx a d).bind λb=>(f b).bind λe=>(if !e then(idx a c).bind λg=>jJ d (a.set c.toNat b) (bB (c+1)) else jJ d a c) else some (.stop ((a,c))))
def B4:(aw×Int)->Option aw
 |(b,a)=>B3 b a
def kZ(s:aw)(a:(aW->ay)):=(dW s a).bind λb=>(if b == (-1) then some s else(loop (lK a) (s,b,bB (b+1))).bind (B4))
def PZ(x a:aW):=some (x.Key == a.Key)
def GV(x a:aW):=some (decide (a.Key<x.Key))
def uE(s:aw)(i:Int)(v:aw):=need (0<=i/\i<=(s.length:Int)/\s.length+v.length<=1073741824) (some (s.take i.toNat++v++s.drop i.toNat))
def vL(d:aW)(c:aw)(b:Int):=(uE c b ([d])).bind λa=>some a
def OI(l:aw)(b:aW):=(HZ l).bind λe=>(kZ e (λc=>PZ c b)).bind λa=>(dW a (λc=>GV c b)).bind λd=>(if decide (d<0) then vL b a (a.length:Int) else vL b a d)
def vM(j:aK)(x:aW):=(OI j.aL x).bind λa=>(if decide (6<(a.length:Int)) then(dP j 1).bind λb=>some (false,b) else some (true,({j with aL:=a}:aK)))
def K0(x:aW)(a:Int):=some (x.Key == a)
def RZ(l:aw)(a:Int):=(dW l (λc=>K0 c a)).bind λb=>(if decide (b<0) then some ((⟨0,false,0⟩:aW),false) else(idx l b).bind λd=>some (d,true))
def aGT(a b:Int):=some (Int.tmod (bB (a+b)) 65536)
def uF(a:aK):=some ({a with Pc:=1,At:=bB (a.At+1)}:aK)
def oO(a:aK)(c:Bool)(b:Int):=
 need (a.eD.length+([(⟨c,b⟩:eD)]).length<=1073741824)<|uF ({a with eD:=a.eD++([(⟨c,b⟩:eD)])}:aK)
def oP(j:aK)(c:oV)(is:Bool)(d:Int):=(if c.Kind == 4 then(aGT d c.cT).bind λb=>(vM j (⟨c.Key,false,b⟩:aW)).bind λa=>(if !a.1 then some a.2 else oO a.2 true b) else oO j is d)
def vN(j:aK)(c:oV)(val:Int)(is:Bool):=(if !is then oP j c is 0 else oP j c is val)
def NB(a:Int):=(cM a 0 99).bind λb=>(if !b then some (-1) else some (Int.tmod a 2))
def K1(e:oV×Bool×aK)(g:Bool)(d:aK)(h:Int)(f:Bool)(c:Int):=(if g then(vN d e.1 c (!f)).bind λb=>some b else(NB e.1.Key).bind λa=>some ({d with Pc:=2,dR:=a}:aK))
def lL(c:oV×Bool×aK)(e:Bool)(d:aK):=(if e then(vM d (⟨c.1.Key,c.1.Kind == 3,c.1.cT⟩:aW)).bind λa=>(if a.1 then need (a.2.eD.length+([(⟨false,0⟩:eD)]).length<=1073741824) (some (⟨a.2.gW,a.2.Batch,a.2.aG,a.2.Pc,bB (a.2.At+1),a.2.K,a.2.dR,a.2.iF,a.2.H,a.2.jH,a.2.Node,a.2.Found,a.2.Code,a.2.Sub,a.2.Reads,a.2.aL,a.2.eD++([(⟨false,0⟩:eD)]),a.2.eC,a.2.bM,a.2.bW⟩:aK)) else some a.2) else(RZ d.aL c.1.Key).bind λb=>K1 c b.2 d b.1.Key b.1.NP b.1.cT)
def K2(j:aK):=(sL j).bind λa=>(if !a.2.1 then(fJ 1 16).bind λb=>some (⟨a.2.2.gW,a.2.2.Batch,a.2.2.aG,6,a.2.2.At,0,a.2.2.dR,a.2.2.iF,a.2.2.H,a.2.2.jH,a.2.2.Node,a.2.2.Found,a.2.2.Code,b,a.2.2.Reads,a.2.2.aL,a.2.2.eD,a.2.2.eC,a.2.2.bM,a.2.2.bW⟩:aK) else(if a.1.Kind == 2 then lL a true a.2.2 else lL a (a.1.Kind == 3) a.2.2))
def DM(h:Heap)(a:Int):=(lJ h a).bind λc=>(KF a c).bind λb=>some b
def VQ(h:Heap)(a:Int):=(DM h a).bind λb=>(kJ h.Bytes b 2).bind λe=>(kJ h.Bytes (bB (b+2)) 4).bind λd=>(kJ h.Bytes (bB (b+6)) 4).bind λc=>some (⟨e,d,c⟩:fS)
def K3(h:Heap)(a:Int):=(lJ h a).bind λc=>(BK c).bind λb=>some (decide (10<=b))
def K4(m:Mem)(h:Int)(c:Bool):Option (fS×Int):=(if c then some ((⟨0,0,0⟩:fS),4) else(K3 m.Heap (Int.tmod h 32)).bind λb=>(if !b then some ((⟨0,0,0⟩:fS),2) else(VQ m.Heap (Int.tmod h 32)).bind λa=>some (a,0)))
def PE(m:Mem)(h:Int):Option (fS×Int):=(iP h).bind λb=>(if !b then K4 m h true else(lJ m.Heap (Int.tmod h 32)).bind λa=>K4 m h (decide (a<0)))
def i7(n:fS):=(iP n.Next).bind λa=>(if !a then some 0 else some n.Next)
def K5(s:bo):=need (([]:bo).length+s.length<=1073741824) (some (([]:bo)++s))
def WK:=some (-1)
def tJ(s:bo)(f:(Seen->ay)):Int->Option (Step Int (Out Unit Int))
 |a=>(if decide (a<(s.length:Int)) then(idx s a).bind λc=>(f c).bind λb=>(if b then some (.stop (Out.ret a)) else some (.next (bB (a+1)))) else some (.stop (Out.brk ())))
def WL:(Out Unit Int)->bu
 |.brk ()=>WK
 |.ret r=>some r
def gE(s:bo)(f:(Seen->ay)):=(loop (tJ s f) 0).bind (WL)
def K6(s:Seen)(a:Int):=some (s.dR == a)
def R0(l:bo)(b v:Int):=(K5 l).bind λa=>(gE l (λd=>K6 d b)).bind λc=>(if decide (c<0) then need (a.length+([(⟨b,v⟩:Seen)]).length<=1073741824) (some (a++([(⟨b,v⟩:Seen)]),true)) else(idx l c).bind λe=>some (a,e.iF == v))
def xM(t:Table)(d:Int)(a:bq)(c:Bool):=(if c then(idx a d).bind λb=>some ({t with aH:=a.set d.toNat ({b with Pc:=5}:aK)}:Table) else some ({t with aH:=a}:Table))
def H0(t:Table)(c:Int)(a:bq):=(idx a c).bind λb=>(if b.Found then xM t c a true else xM t c a (b.H == 0))
def TH(t:Table)(a:bq):=some ({t with aH:=a}:Table)
def H3(t:Table)(b:Int)(d:oV×Bool×aK)(c:bo)(h:Bool):=(idx (t.aH.set b.toNat d.2.2) b).bind λa=>(if !h then(dP ({a with Reads:=c}:aK) 7).bind λg=>some ({t with aH:=(t.aH.set b.toNat d.2.2).set b.toNat g}:Table) else(if !d.2.1 then(dP ({a with Reads:=c}:aK) 1).bind λf=>some ({t with aH:=(t.aH.set b.toNat d.2.2).set b.toNat f}:Table) else(vN ({a with Reads:=c}:aK) d.1 a.Node.cT a.Found).bind λe=>TH t ((t.aH.set b.toNat d.2.2).set b.toNat e)))
def kP(t:Table)(b:Int)(d:oV×Bool×aK)(g:Bool):=(if g then(idx (t.aH.set b.toNat d.2.2) b).bind λf=>(dP f 7).bind λe=>some ({t with aH:=(t.aH.set b.toNat d.2.2).set b.toNat e}:Table) else(idx (t.aH.set b.toNat d.2.2) b).bind λa=>(R0 a.Reads a.dR a.iF).bind λc=>H3 t b d c.1 c.2)
def H4(t:Table)(b x2 x3 g:Int):=(idx t.aH b).bind λk=>(sL k).bind λa=>(if a.2.2.Pc == 2 then(if g != 0 then(dP a.2.2 7).bind λj=>some ({t with aH:=t.aH.set b.toNat j}:Table) else(if x2 == 0 then some ({t with aH:=t.aH.set b.toNat (⟨a.2.2.gW,a.2.2.Batch,a.2.2.aG,5,a.2.2.At,a.2.2.K,a.2.2.dR,x3,x2,a.2.2.jH,(⟨0,0,0⟩:fS),false,a.2.2.Code,a.2.2.Sub,a.2.2.Reads,a.2.2.aL,a.2.2.eD,a.2.2.eC,a.2.2.bM,a.2.2.bW⟩:aK)}:Table) else some ({t with aH:=t.aH.set b.toNat (⟨a.2.2.gW,a.2.2.Batch,a.2.2.aG,3,a.2.2.At,a.2.2.K,a.2.2.dR,x3,x2,a.2.2.jH,(⟨0,0,0⟩:fS),false,a.2.2.Code,a.2.2.Sub,a.2.2.Reads,a.2.2.aL,a.2.2.eD,a.2.2.eC,a.2.2.bM,a.2.2.bW⟩:aK)}:Table))) else(if a.2.2.Pc == 3 then(PE t.aA.Mem a.2.2.H).bind λi=>some ({t with aH:=t.aH.set b.toNat (⟨a.2.2.gW,a.2.2.Batch,a.2.2.aG,4,a.2.2.At,a.2.2.K,a.2.2.dR,a.2.2.iF,a.2.2.H,a.2.2.jH,i.1,a.2.2.Found,a.2.2.Code,a.2.2.Sub,a.2.2.Reads,a.2.2.aL,a.2.2.eD,a.2.2.eC,a.2.2.bM,a.2.2.bW⟩:aK)}:Table) else(if a.2.2.Pc == 4 then(idx t.aA.aI.bV b).bind λh=>(mI h).bind λf=>(if !f then(dP a.2.2 6).bind λe=>some ({t with aH:=t.aH.set b.toNat e}:Table) else(if !a.2.1 then(dP a.2.2 1).bind λd=>some ({t with aH:=t.aH.set b.toNat d}:Table) else(i7 a.2.2.Node).bind λc=>H0 t b (t.aH.set b.toNat (⟨a.2.2.gW,a.2.2.Batch,a.2.2.aG,3,a.2.2.At,a.2.2.K,a.2.2.dR,a.2.2.iF,c,a.2.2.jH,a.2.2.Node,a.2.2.Node.Key == a.1.Key,a.2.2.Code,a.2.2.Sub,a.2.2.Reads,a.2.2.aL,a.2.2.eD,a.2.2.eC,a.2.2.bM,a.2.2.bW⟩:aK)))) else(if g != 0 then kP t b a true else kP t b a (x3 != a.2.2.iF)))))
def GW(t:Table)(b:Int):=(idx t.aH b).bind λc=>(idx t.bC c.dR).bind λa=>H4 t b a.Head a.iF a.jC
def aYE(a:Int):=some a
def K7(b a:Int):Option (Step (Int×Int) Int):=some (.next (a,bB (b+1)))
def ZS(l:aw)(n:Int):(Int×Int)->Option (Step (Int×Int) Int)
 |(b,a)=>(if decide (a<(((l.take ((if(if(l.length:Int)<n then(l.length:Int) else n)<0 then 0 else(if(l.length:Int)<n then(l.length:Int) else n)).toNat)).drop 0).length:Int)) then(idx ((l.take ((if(if(l.length:Int)<n then(l.length:Int) else n)<0 then 0 else(if(l.length:Int)<n then(l.length:Int) else n)).toNat)).drop 0) a).bind λc=>(if !c.NP then K7 a (bB (b+1)) else K7 a b) else some (.stop (b)))
def aYF:Int->bu
 |a=>aYE a
def X8(l:aw)(n:Int):=need (0<=(if(if(l.length:Int)<n then(l.length:Int) else n)<0 then 0 else(if(l.length:Int)<n then(l.length:Int) else n):Int)/\(if(if(l.length:Int)<n then(l.length:Int) else n)<0 then 0 else(if(l.length:Int)<n then(l.length:Int) else n):Int)<=(l.length:Int)) ((loop (ZS l n) (0,0)).bind (aYF))
def EG(a:Table):=some a
def EH(d:Int)(a:Table):=(idx a.aH d).bind λb=>(fJ 1 16).bind λc=>EG ({a with aH:=a.aH.set d.toNat ({b with K:=bB (b.K+1),Sub:=c}:aK)}:Table)
def jA(c:Int)(f:Bool)(b:Table):=
 (if f then(idx b.aH c).bind λd=>(dP d d.Sub.Code).bind λe=>some ({b with aH:=b.aH.set c.toNat e}:Table) else(idx b.aH c).bind λa=>need (a.eC.length+([a.Sub.Out]).length<=1073741824)<|EH c ({b with aH:=b.aH.set c.toNat ({a with eC:=a.eC++([a.Sub.Out])}:aK)}:Table))
def EI(t:Table)(b:Int)(f:Bool):=(if f then(idx t.aH b).bind λe=>some ({t with aH:=t.aH.set b.toNat ({e with Pc:=7,K:=0}:aK)}:Table) else(idx t.aH b).bind λc=>(i4 c.Sub t.aA b).bind λa=>(if !a.1.eG then some ({t with aA:=a.2,aH:=t.aH.set b.toNat ({c with Sub:=a.1}:aK)}:Table) else(if a.1.Code != 0 then jA b true ({t with aA:=a.2,aH:=t.aH.set b.toNat ({c with Sub:=a.1}:aK)}:Table) else(iP a.1.Out).bind λd=>(if !d then jA b true ({t with aA:=a.2,aH:=t.aH.set b.toNat ({c with Sub:=a.1}:aK)}:Table) else jA b (decide (6<=(c.eC.length:Int))) ({t with aA:=a.2,aH:=t.aH.set b.toNat ({c with Sub:=a.1}:aK)}:Table)))))
def DN(t:Table)(c:Int):=(idx t.aH c).bind λb=>(X8 b.aL (b.aL.length:Int)).bind λa=>EI t c (decide (a<=b.K))
def cmp_isNaN_int(x:Int):=some (x != x)
def yW(a:Bool):=some a
def cmp_Less_int(x y:Int):=(cmp_isNaN_int x).bind λb=>(if b then(cmp_isNaN_int y).bind λa=>(if !a then yW true else yW (decide (x<y))) else yW (decide (x<y)))
def kQ(data a:al):=need (a.length=data.length) (some a)
def pX(data:al)(b:Int)(a:al):Option (Step (al×Int) al):=need (a.length=data.length) (some (.next (a,bB (b+1))))
def kR(data:al)(b:Int)(a:al):Option (Step (al×Int) al):=need (a.length=data.length) (some (.next (a,bB (b-1))))
def fA(data b:al)(a:Int)(e:Bool):Option (Step (al×Int) al):=need (b.length=data.length) ((if e then(idx b (bB (a-1))).bind λc=>(idx b a).bind λd=>(idx (b.set a.toNat c) (bB (a-1))).bind λf=>kR data a ((b.set a.toNat c).set ((bB (a-1)).toNat) d) else some (.stop (b))))
def fB(data:al)(f:Int):(al×Int)->Option (Step (al×Int) al)
 |(b,a)=>need (b.length=data.length) ((if decide (f<a) then(idx b a).bind λe=>(idx b (bB (a-1))).bind λd=>(cmp_Less_int e d).bind λc=>fA data b a c else fA data b a false))
def pY(data:al)(b:Int):al->Option (Step (al×Int) al)
 |a=>pX data b a
def dX(data:al)(d b:Int):(al×Int)->Option (Step (al×Int) al)
 |(c,a)=>need (c.length=data.length) ((if decide (a<b) then(loop (fB data d) (c,a)).bind (pY data a) else some (.stop (c))))
def kS(data:al):al->Option al
 |a=>kQ data a
def jF(data:al)(a b:Int):=(loop (dX data a b) (data,bB (a+1))).bind (kS data)
def yX(data:al)(c b a:Int):Unit->Option (Step Unit al)
 |()=>(if decide ((bB (b-c))<=12) then(jF data c b).bind λd=>some (.stop (d)) else(if a == 0 then none else none))
def P0:al->Option al
 |r=>some r
def qT(data:al)(c b a:Int):=(loop (yX data c b a) ()).bind (P0)
def H5(c b:Int):=(idx ([0,1,2,2,3,3,3,3,4,4,4,4,4,4,4,4,5,5,5,5,5,5,5,5,5,5,5,5,5,5,5,5,6,6,6,6,6,6,6,6,6,6,6,6,6,6,6,6,6,6,6,6,6,6,6,6,6,6,6,6,6,6,6,6,7,7,7,7,7,7,7,7,7,7,7,7,7,7,7,7,7,7,7,7,7,7,7,7,7,7,7,7,7,7,7,7,7,7,7,7,7,7,7,7,7,7,7,7,7,7,7,7,7,7,7,7,7,7,7,7,7,7,7,7,7,7,7,7,8,8,8,8,8,8,8,8,8,8,8,8,8,8,8,8,8,8,8,8,8,8,8,8,8,8,8,8,8,8,8,8,8,8,8,8,8,8,8,8,8,8,8,8,8,8,8,8,8,8,8,8,8,8,8,8,8,8,8,8,8,8,8,8,8,8,8,8,8,8,8,8,8,8,8,8,8,8,8,8,8,8,8,8,8,8,8,8,8,8,8,8,8,8,8,8,8,8,8,8,8,8,8,8,8,8,8,8,8,8,8,8,8,8,8,8,8,8,8,8,8,8,8,8,8,8,8,8]:aF) ((u8 c).toNat:Int)).bind λa=>some (bB (b+(a.toNat:Int)))
def H6(a b:Int):=(if decide (256<=a) then H5 (rS .u64 a 8) (bB (b+8)) else H5 a b)
def H7(a b:Int):=(if decide (65536<=a) then H6 (rS .u64 a 16) (bB (b+16)) else H6 a b)
def aBB(x:Int):=(if decide (4294967296<=x) then H7 (rS .u64 x 32) 32 else H7 x 0)
def FL(x:Int):=(aBB x).bind λa=>some a
def GX(x:al):=(FL (IntKind.u64.wrap (x.length:Int))).bind λb=>(qT x 0 (x.length:Int) b).bind λa=>some a
def P1(c:al):=(GX c).bind λb=>(slices_Compact_int b).bind λa=>some a
def GY(b:Int)(a:al):Option (Step (al×Int) al):=some (.next (a,bB (b+1)))
def P2(l:aw):(al×Int)->Option (Step (al×Int) al)
 |(c,b)=>(if decide (b<(l.length:Int)) then(idx l b).bind λd=>(NB d.Key).bind λa=>(if decide (0<=a) then need (c.length+([a]).length<=1073741824) (GY b (c++([a]))) else GY b c) else some (.stop (c)))
def aBC:al->Option al
 |a=>P1 a
def R1(l:aw):=(loop (P2 l) (([]:al),0)).bind (aBC)
def kE(s:bo)(f:(Seen->ay)):=(gE s f).bind λa=>some (decide (0<=a))
def sM(a:Bool):=some a
def AM(s:Seen)(b:Int)(a:dR):=(if s.dR == b then sM (s.iF != a.iF) else sM false)
def xN(t:Table)(a:Int)(e:ba)(b:bq)(d:aK):=(idx b a).bind λc=>some ({t with bC:=e,aH:=b.set a.toNat ({c with Pc:=8,K:=0}:aK),Log:=t.Log++([(⟨2,a,d.aG,0,[],[]⟩:wH)])}:Table)
def pZ(t:Table)(c:Int)(e:al)(d:ba)(b:bq):=
 (idx b c).bind λa=>(if decide ((e.length:Int)<=a.K) then need (t.Log.length+([(⟨2,c,a.aG,0,[],[]⟩:wH)]).length<=1073741824)<|xN t c d b a else some ({t with bC:=d,aH:=b}:Table))
def p5(t:Table)(c:Int)(f:al)(e:Int)(d:dR)(b:bq):=(idx b c).bind λa=>pZ t c f (t.bC.set e.toNat ({d with jC:=bB (c+1)}:dR)) (b.set c.toNat ({a with K:=bB (a.K+1)}:aK))
def H8(t:Table)(d:Int)(e:al)(c:Int)(b:dR)(a:aK):=p5 t d e c b (t.aH.set d.toNat ({a with bM:=a.bM++([c])}:aK))
def jK(t:Table)(c:Int)(j:al)(d:Int)(k:Bool):=
 (if k then(idx t.aH c).bind λi=>(dP i 7).bind λh=>some ({t with aH:=t.aH.set c.toNat h}:Table) else(idx t.bC d).bind λb=>(if b.iF == 1000000 then(idx t.aH c).bind λg=>(dP g 3).bind λf=>some ({t with aH:=t.aH.set c.toNat f}:Table) else(idx t.aH c).bind λa=>(oJ a.bM d).bind λe=>(if !e then need (a.bM.length+([d]).length<=1073741824)<|H8 t c j d b a else p5 t c j d b t.aH)))
def GZ(t:Table)(d:Int):=(idx t.aH d).bind λc=>(R1 c.aL).bind λa=>(if decide (c.K<(a.length:Int)) then(idx a c.K).bind λb=>(idx t.bC b).bind λf=>(if f.jC != 0 then jK t d a b true else(kE c.Reads (λg=>AM g b f)).bind λe=>jK t d a b e) else pZ t d a t.bC t.aH)
def hY(t:Table)(b:Int)(e:Bool):=(if e then(idx t.aH b).bind λd=>(dP d 7).bind λc=>some ({t with aH:=t.aH.set b.toNat c}:Table) else(idx t.aH b).bind λa=>some ({t with aH:=t.aH.set b.toNat ({a with K:=bB (a.K+1)}:aK)}:Table))
def xO(t:Table)(a d e c b:Int):=(if b != 0 then(if b != (bB (a+1)) then hY t a true else hY t a (c != d)) else hY t a (c != d))
def xP(t:Table)(d c b:Int):=(idx t.bC c).bind λa=>xO t d b a.Head a.iF a.jC
def xQ(t:Table)(c:Int)(d:aK):=(if decide ((d.Reads.length:Int)<=d.K) then(idx t.aH c).bind λe=>some ({t with aH:=t.aH.set c.toNat ({e with Pc:=9,K:=0}:aK)}:Table) else(idx t.aH c).bind λb=>(idx b.Reads b.K).bind λa=>xP t c a.dR a.iF)
def uG(t:Table)(a:Int):=(idx t.aH a).bind λb=>xQ t a b
def rK(j:aK)(x:aW):=(if x.NP then some ({j with Pc:=9,K:=bB (j.K+1)}:aK) else some ({j with Pc:=12}:aK))
def FM(m:Mem)(h:Int):bu:=(wO m h).bind λb=>(if !b then some 4 else(K3 m.Heap (Int.tmod h 32)).bind λa=>(if !a then some 2 else some 0))
def TJ(b:Int)(a:Mem):=some (a,b)
def aC7(b:Int)(a:Mem):=TJ b a
def K8(m:Mem)(h a:Int)(g:Bool)(b:Mem):=(if g then some (b,1) else(FM m h).bind λc=>(if c == 0 then(DM m.Heap (Int.tmod h 32)).bind λf=>(mH a 4).bind λe=>(nA b.Heap.Bytes (bB (f+6)) e).bind λd=>aC7 c (⟨(⟨d,b.Heap.Class⟩:Heap),b.aD⟩:Mem) else TJ c b))
def VR(m:Mem)(h a:Int):=(o6 m).bind λd=>(BS m).bind λc=>(if !c then K8 m h a true d else(BV a).bind λb=>K8 m h a (!b) d)
def B5(a:Bool):=some a
def VT(n:fS):=(cM n.Key 0 99).bind λc=>(if c then(cM n.cT 0 65535).bind λb=>(if b then(BV n.Next).bind λa=>B5 a else B5 false) else B5 false)
def P3(b:Int)(a:Mem):=some (a,b)
def aBD(b:Int)(a:Mem):=P3 b a
def G0(m:Mem)(h:Int)(n:fS)(i:Bool)(b:Mem):=
 (if i then some (b,1) else(FM m h).bind λf=>(if f == 0 then(DM m.Heap (Int.tmod h 32)).bind λg=>(mH n.Key 2).bind λe=>(mH n.cT 4).bind λd=>need (e.length+d.length<=9223372036854775807)<|(mH n.Next 4).bind λa=>need ((e++d).length+a.length<=9223372036854775807)<|(nA b.Heap.Bytes g ((e++d)++a)).bind λc=>aBD f (⟨(⟨c,b.Heap.Class⟩:Heap),b.aD⟩:Mem) else P3 f b))
def R3(m:Mem)(h:Int)(n:fS):=(o6 m).bind λc=>(BS m).bind λb=>(if !b then G0 m h n true c else(VT n).bind λa=>G0 m h n (!a) c)
def H9(t:Table)(j:aK)(b:dR)(a:Table):=some (({a with bC:=t.bC,aH:=t.aH}:Table),({j with Pc:=13}:aK),b)
def P4(t:Table)(j:aK)(x:aW)(b:dR):=(X8 j.aL j.K).bind λa=>(if decide ((j.eC.length:Int)<=a) then(dP j 1).bind λf=>some (t,f,b) else(if j.Pc == 12 then(idx j.eC a).bind λe=>(R3 t.aA.Mem e ({x with Next:=b.Head}:fS)).bind λd=>H9 t j b ({t with aA:=(⟨d.1,t.aA.aI,t.aA.aQ,t.aA.iU⟩:aA)}:Table) else(idx j.eC a).bind λc=>some (t,({j with Pc:=9,K:=bB (j.K+1)}:aK),({b with Head:=c}:dR))))
def EJ(t:Table)(a:bq):=some ({t with aH:=a}:Table)
def oQ(d g:Int)(f:Bool)(e:Int)(a:Table):=(idx a.aH d).bind λc=>(rK c (⟨g,f,e⟩:aW)).bind λb=>some ({a with aH:=a.aH.set d.toNat b}:Table)
def EK(e d:Int)(c:Bool)(b:Int)(a:Table):=oQ e d c b a
def uH(c g:Int)(f:Bool)(e:Int)(d:Bool)(b:Table):=
 (if d then(idx b.aH c).bind λa=>need (a.bW.length+([a.H]).length<=1073741824)<|EK c g f e ({b with aH:=b.aH.set c.toNat ({a with bW:=a.bW++([a.H])}:aK)}:Table) else oQ c g f e b)
def oR(d g:Int)(f:Bool)(e:Int)(a:Table):=(idx a.aH d).bind λb=>(iP b.H).bind λc=>(if c then uH d g f e (decide ((b.bW.length:Int)<6)) a else uH d g f e false a)
def EL(e d:Int)(c:Bool)(b:Int)(a:Table):=oR e d c b a
def EM(t:Table)(d e:Int)(h:Bool)(g:Int):=(NB e).bind λo=>(idx t.bC o).bind λf=>(idx t.aH d).bind λa=>(if a.Pc == 9 then(if f.Head == 0 then(rK ({a with Pc:=10,H:=f.Head,jH:=0}:aK) (⟨e,h,g⟩:aW)).bind λp=>some ({t with aH:=t.aH.set d.toNat p}:Table) else some ({t with aH:=t.aH.set d.toNat ({a with Pc:=10,H:=f.Head,jH:=0}:aK)}:Table)) else(if a.Pc == 10 then(PE t.aA.Mem a.H).bind λc=>(if c.1.Key == e then some ({t with aH:=t.aH.set d.toNat ({a with Pc:=11,Node:=c.1}:aK)}:Table) else(i7 c.1).bind λn=>(if n == 0 then(rK ({a with Node:=c.1}:aK) (⟨e,h,g⟩:aW)).bind λm=>some ({t with aH:=t.aH.set d.toNat m}:Table) else(i7 c.1).bind λl=>EJ t (t.aH.set d.toNat ({a with H:=l,jH:=a.H,Node:=c.1}:aK)))) else(if a.Pc == 11 then(if a.jH == 0 then(i7 a.Node).bind λk=>oR d e h g ({t with bC:=t.bC.set o.toNat ({f with Head:=k}:dR)}:Table) else(i7 a.Node).bind λj=>(VR t.aA.Mem a.jH j).bind λi=>EL d e h g ({t with aA:=(⟨i.1,t.aA.aI,t.aA.aQ,t.aA.iU⟩:aA)}:Table)) else(P4 t a (⟨e,h,g⟩:aW) f).bind λb=>some (⟨b.1.aA,t.bC.set o.toNat b.2.2,t.aH.set d.toNat b.2.1,b.1.aY,b.1.Log,b.1.aG⟩:Table))))
def EN(t:Table)(c:Int)(d:aK):=(if decide ((d.aL.length:Int)<=d.K) then(idx t.aH c).bind λe=>some ({t with aH:=t.aH.set c.toNat ({e with Pc:=14}:aK)}:Table) else(idx t.aH c).bind λb=>(idx b.aL b.K).bind λa=>EM t c a.Key a.NP a.cT)
def DO(t:Table)(a:Int):=(idx t.aH a).bind λb=>EN t a b
def sN(s:al)(i j:Int):=need (0<=(i:Int)/\(i:Int)<=(j:Int)/\(j:Int)<=((s.length:Int):Int)/\((s.length:Int):Int)<=(s.length:Int)) ((if i == j then some s else need (0<=(i:Int)/\(i:Int)<=(s.length:Int)) (need (0<=(j:Int)/\(j:Int)<=(s.length:Int)) (need (i.toNat<=j.toNat) (need (0<=(((((dM s i.toNat (s.drop j.toNat)).take (i.toNat+(s.length-j.toNat))).drop 0).length:Int):Int)/\(((((dM s i.toNat (s.drop j.toNat)).take (i.toNat+(s.length-j.toNat))).drop 0).length:Int):Int)<=((s.length:Int):Int)/\((s.length:Int):Int)<=((dM s i.toNat (s.drop j.toNat)).length:Int)) (some (((dM s i.toNat (s.drop j.toNat)).take (i.toNat+(s.length-j.toNat))).drop 0)))))))
def vO(a:aK):=some a
def nD(j:aK):=(if decide (j.K<(j.bW.length:Int)) then(idx j.bW j.K).bind λb=>(fJ 2 b).bind λa=>vO ({j with Sub:=a}:aK) else some j)
def nE(t:Table)(b:Int)(d:ba):=(idx t.aH b).bind λa=>(sN a.bM 0 1).bind λc=>some ({t with bC:=d,aH:=t.aH.set b.toNat ({a with bM:=c}:aK)}:Table)
def AN(t:Table)(b:Int):=(idx t.aH b).bind λa=>(if decide (0<(a.bM.length:Int)) then(idx a.bM 0).bind λd=>(idx t.bC d).bind λc=>(if a.Pc == 14 then nE t b (t.bC.set d.toNat (⟨c.Head,if 1000000<(bB (c.iF+1)) then 1000000 else(bB (c.iF+1)),0⟩:dR)) else nE t b (t.bC.set d.toNat ({c with jC:=0}:dR))) else(if a.Pc == 16 then some ({t with aH:=t.aH.set b.toNat ({a with Pc:=17}:aK)}:Table) else(nD ({a with Pc:=15,K:=0}:aK)).bind λe=>some ({t with aH:=t.aH.set b.toNat e}:Table)))
def B6(t:Table)(a:Int)(d:aK):=(if decide ((d.bW.length:Int)<=d.K) then(idx t.aH a).bind λf=>some ({t with aH:=t.aH.set a.toNat ({f with Pc:=18}:aK)}:Table) else(idx t.aH a).bind λc=>(i4 c.Sub t.aA a).bind λb=>(if b.1.eG then(nD ({c with K:=bB (c.K+1),Sub:=b.1}:aK)).bind λe=>some ({t with aA:=b.2,aH:=t.aH.set a.toNat e}:Table) else some ({t with aA:=b.2,aH:=t.aH.set a.toNat ({c with Sub:=b.1}:aK)}:Table)))
def AO(t:Table)(a:Int):=(idx t.aH a).bind λb=>B6 t a b
def G3(m:Mem)(f h:Int)(e:Bool):cq:=(if e then(o6 m).bind λd=>some (d,1) else(wO m h).bind λc=>(if !c then(o6 m).bind λb=>some (b,4) else(TB m f h).bind λa=>some (a,0)))
def R4(m:Mem)(a h:Int):cq:=(BS m).bind λc=>(if !c then G3 m a h true else(gK a).bind λb=>G3 m a h (!b))
def G4(t:Table)(b:Int):=(idx t.aH b).bind λa=>(if(a.eC.length:Int) == 0 then some ({t with aH:=t.aH.set b.toNat ({a with Pc:=18}:aK)}:Table) else(idx a.eC 0).bind λd=>(sN a.eC 0 1).bind λc=>(DC t.aA.aQ (Int.tmod d 32)).bind λf=>(if !f then(R4 t.aA.Mem b d).bind λe=>some ({t with aA:=(⟨e.1,t.aA.aI,t.aA.aQ,t.aA.iU⟩:aA),aH:=t.aH.set b.toNat ({a with eC:=c}:aK)}:Table) else some ({t with aH:=t.aH.set b.toNat ({a with eC:=c}:aK)}:Table)))
def MT(t:Table)(a:Int)(b:aK):=some ({t with aH:=t.aH.set a.toNat (⟨false,(⟨false,[]⟩:Batch),0,0,0,0,0,0,0,0,(⟨0,0,0⟩:fS),false,0,(⟨0,0,0,0,0,0,0,0,0,false⟩:Sub),[],[],[],[],[],[]⟩:aK),Log:=t.Log++([({b with Kind:=3,Who:=a,b8:=[]}:wH)])}:Table)
def MU(t:Table)(w_:Int)(a:aK):=some ({t with aH:=t.aH.set w_.toNat (⟨false,(⟨false,[]⟩:Batch),0,0,0,0,0,0,0,0,(⟨0,0,0⟩:fS),false,0,(⟨0,0,0,0,0,0,0,0,0,false⟩:Sub),[],[],[],[],[],[]⟩:aK),Log:=t.Log++([(⟨3,w_,a.aG,a.Code,[],[]⟩:wH)])}:Table)
def xR(t:Table)(b:Int):=
 (idx t.aH b).bind λa=>(if a.Code == 0 then need (t.Log.length+([({a with Kind:=3,Who:=b,b8:=[]}:wH)]).length<=1073741824)<|MT t b a else need (t.Log.length+([(⟨3,b,a.aG,a.Code,[],[]⟩:wH)]).length<=1073741824)<|MU t b a)
def mL(t:Table)(a:Int)(b:aK)(k:Bool):=(if k then(AN t a).bind λj=>some j else(if b.Pc == 15 then(AO t a).bind λi=>some i else(if b.Pc == 17 then(G4 t a).bind λh=>some h else(if b.Pc == 18 then(lV t.aA a).bind λg=>(idx t.aH a).bind λf=>some ({t with aA:=g.2,aH:=t.aH.set a.toNat ({f with Pc:=19}:aK)}:Table) else(if b.Pc == 19 then(xR t a).bind λe=>some e else(idx t.aH a).bind λd=>(dP d 1).bind λc=>some ({t with aH:=t.aH.set a.toNat c}:Table))))))
def kU(t:Table)(b:Int)(a:aK)(m:Bool):=(if m then(xL t b).bind λl=>some l else(if a.Pc == 1 then(idx t.aH b).bind λk=>(K2 k).bind λj=>some ({t with aH:=t.aH.set b.toNat j}:Table) else(cM a.Pc 2 5).bind λi=>(if i then(GW t b).bind λh=>some h else(if a.Pc == 6 then(DN t b).bind λg=>some g else(if a.Pc == 7 then(GZ t b).bind λf=>some f else(if a.Pc == 8 then(uG t b).bind λe=>some e else(cM a.Pc 9 13).bind λd=>(if d then(DO t b).bind λc=>some c else(if a.Pc == 14 then mL t b a true else mL t b a (a.Pc == 16)))))))))
def G5(t:Table)(b:Int):=(idx t.aH b).bind λa=>(if !a.gW then(DL t b).bind λc=>some c else(if a.Pc == 0 then kU t b a true else(if a.Pc == 20 then kU t b a true else kU t b a (a.Pc == 21))))
def aIK(a:Int):=some a
def sO(c b:Int)(a:Table):Option (Step (Int×Int×Table) Int):=some (.next (b,bB (c+1),a))
def sP(x:CT):(Int×Int×Table)->Option (Step (Int×Int×Table) Int)
 |(e,d,g)=>(if decide (d<(((x.bG.take ((if 400<(x.bG.length:Int) then 400 else(x.bG.length:Int)).toNat)).drop 0).length:Int)) then(idx ((x.bG.take ((if 400<(x.bG.length:Int) then 400 else(x.bG.length:Int)).toNat)).drop 0) d).bind λc=>(gK c).bind λf=>(if f then(G5 g c).bind λb=>(nB b.aA.aQ).bind λa=>sO d (if e<a then a else e) b else sO d e g) else some (.stop (e)))
def aIL:Int->bu
 |a=>aIK a
def K9(x:CT):=(OH x.aY).bind λa=>(if(a.aH.length:Int) == 0 then some 0 else need (0<=(if 400<(x.bG.length:Int) then 400 else(x.bG.length:Int):Int)/\(if 400<(x.bG.length:Int) then 400 else(x.bG.length:Int):Int)<=(x.bG.length:Int)) ((loop (sP x) (0,0,a)).bind (aIL)))
def OJ(c:oV)(b:Bool):=(if b then(bY c.cT 0 65535).bind λa=>some a else some (c.cT == 0))
def OK(c:oV)(a:Bool):=(if a then some false else(if c.Kind == 2 then OJ c true else OJ c (c.Kind == 4)))
def ZT(c:oV):=(bY c.Kind 1 4).bind λb=>(if !b then OK c true else(bY c.Key 0 99).bind λa=>OK c (!a))
def aBE(b:Batch):=(bY (b.b8.length:Int) 1 6).bind λa=>some a
def rL(b:Batch):Int->Option (Step Int (Out Unit Bool))
 |a=>(if decide (a<(b.b8.length:Int)) then(idx b.b8 a).bind λd=>(ZT d).bind λc=>(if !c then some (.stop (Out.ret false)) else some (.next (bB (a+1)))) else some (.stop (Out.brk ())))
def aBF(b:Batch):(Out Unit Bool)->ay
 |.brk ()=>aBE b
 |.ret r=>some r
def R5(b:Batch):=(if b.Collect then some ((b.b8.length:Int) == 0) else(loop (rL b) 0).bind (aBF b))
def aBG(todo:au):=some ((todo.length:Int) == 3)
def aBH(a:Int):Option (Step Int (Out Unit Bool)):=some (.next (bB (a+1)))
def rM(todo:au)(b:Int):Int->Option (Step Int (Out Unit Bool))
 |a=>(idx todo b).bind λf=>(if decide (a<(f.List.length:Int)) then(idx todo b).bind λe=>(idx e.List a).bind λd=>(R5 d).bind λc=>(if !c then some (.stop (Out.ret false)) else some (.next (bB (a+1)))) else some (.stop (Out.brk ())))
def aBI(a:Int):(Out Unit Bool)->Option (Step Int (Out Unit Bool))
 |.brk ()=>aBH a
 |.ret r=>some (.stop (Out.ret r))
def rN(todo:au):Int->Option (Step Int (Out Unit Bool))
 |a=>(if decide (a<(todo.length:Int)) then(idx todo a).bind λb=>(if decide (12<(b.List.length:Int)) then some (.stop (Out.ret false)) else(loop (rM todo a) 0).bind (aBI a)) else some (.stop (Out.brk ())))
def aBJ(todo:au):(Out Unit Bool)->ay
 |.brk ()=>aBG todo
 |.ret r=>some r
def R6(todo:au):=(loop (rN todo) 0).bind (aBJ todo)
def DP(l:bp):=need (([]:bp).length+l.length<=1073741824) (some (([]:bp)++l))
def zY(b:Batch):=(DP b.b8).bind λa=>some (⟨b.Collect,a⟩:Batch)
def aIM(a:au):=some a
def VU(b:au)(c:Int)(a:bf):Option (Step (au×Int) au):=need (b.length+([(⟨a⟩:aR)]).length<=1073741824) (some (.next (b++([(⟨a⟩:aR)]),bB (c+1))))
def LA(b:Int)(a:bf):Option (Step (Int×bf) bf):=some (.next (bB (b+1),a))
def LB(l:au)(g:Int):(Int×bf)->Option (Step (Int×bf) bf)
 |(f,e)=>(idx l g).bind λd=>(if decide (f<(d.List.length:Int)) then(idx l g).bind λc=>(idx c.List f).bind λb=>(zY b).bind λa=>need (e.length+([a]).length<=1073741824)<|LA f (e++([a])) else some (.stop (e)))
def VV(c:au)(b:Int):bf->Option (Step (au×Int) au)
 |a=>VU c b a
def LC(l:au):(au×Int)->Option (Step (au×Int) au)
 |(b,a)=>(if decide (a<(l.length:Int)) then(loop (LB l a) (0,[])).bind (VV b a) else some (.stop (b)))
def aIN:au->Option au
 |a=>aIM a
def LD(l:au):=(loop (LC l) (([]:au),0)).bind (aIN)
def X9(a:Table):=some ({a with Log:=[]}:Table)
def OL(todo:au):=
 (R6 todo).bind λc=>(if !c then some (⟨(⟨(⟨(⟨[],[]⟩:Heap),(⟨[],[]⟩:aD)⟩:Mem),(⟨0,[]⟩:aI),[],[]⟩:aA),[],[],[],[],0⟩:Table) else(JG).bind λb=>need (0<=(2:Int)/\(2:Int)<=4294967296)<|need (0<=(3:Int)/\(3:Int)<=4294967296)<|(LD todo).bind λa=>X9 (⟨b,List.replicate ((2:Int).toNat) (⟨0,0,0⟩:dR),List.replicate ((3:Int).toNat) (⟨false,(⟨false,[]⟩:Batch),0,0,0,0,0,0,0,0,(⟨0,0,0⟩:fS),false,0,(⟨0,0,0,0,0,0,0,0,0,false⟩:Sub),[],[],[],[],[],[]⟩:aK),a,[],0⟩:Table))
def NC(t:Table)(b:Int)(a:aR)(d:aK)(c:bs):=some (⟨t.aA,t.bC,t.aH.set b.toNat ({d with Reads:=[],aL:=[],eD:=[],eC:=[],bM:=[],bW:=[]}:aK),t.aY.set b.toNat (⟨(a.List.take a.List.length).drop (1:Int).toNat⟩:aR),c,bB (t.aG+1)⟩:Table)
def vP(t:Table)(a:Int)(e:aR)(d:Batch)(c:aK):=
 (idx t.aH a).bind λf=>(DP d.b8).bind λb=>need (t.Log.length+([(⟨1,a,bB (t.aG+1),0,b,[]⟩:wH)]).length<=1073741824)<|NC t a e c (t.Log++([(⟨1,a,bB (t.aG+1),0,b,[]⟩:wH)]))
def ND(t:Table)(d:Int)(c:aR)(a:Batch)(b:aK):=(if a.Collect then(eK 3 0).bind λe=>vP t d c a ({b with Pc:=20,Sub:=e,Reads:=[],aL:=[],eD:=[],eC:=[],bM:=[],bW:=[]}:aK) else vP t d c a ({b with Reads:=[],aL:=[],eD:=[],eC:=[],bM:=[],bW:=[]}:aK))
def vQ(t:Table)(e:Int)(f:Bool):=(if f then some t else(idx t.aY e).bind λc=>(idx c.List 0).bind λd=>need (0<=(1:Int)/\(1:Int)<=(c.List.length:Int)) ((zY d).bind λb=>(eK 5 0).bind λa=>ND t e c d (⟨true,b,bB (t.aG+1),0,0,0,0,0,0,0,(⟨0,0,0⟩:fS),false,0,a,[],[],[],[],[],[]⟩:aK)))
def OM(t:Table)(b:Int):=(idx t.aY b).bind λa=>(if(a.List.length:Int) == 0 then vQ t b true else vQ t b (t.aG == 1000000))
def IU(t:Table)(b:Int)(j:aK):=(tE t.aA b j.Sub).bind λa=>some (({t with aA:=a.1}:Table),({j with Sub:=a.2}:aK),a.2.eG)
def DQ(t b:Table)(a:aK):=some (({b with aH:=t.aH,aY:=t.aY}:Table),a)
def ON(t:Table)(c:Int)(j:aK):=(IU t c j).bind λa=>(if !a.2.2 then some ((⟨a.1.aA,a.1.bC,t.aH,t.aY,a.1.Log,a.1.aG⟩:Table),a.2.1) else(if a.2.1.Pc == 0 then DQ t (⟨a.1.aA,a.1.bC,t.aH,t.aY,a.1.Log,a.1.aG⟩:Table) (⟨a.2.1.gW,a.2.1.Batch,a.2.1.aG,1,a.2.1.At,a.2.1.K,a.2.1.dR,a.2.1.iF,a.2.1.H,a.2.1.jH,a.2.1.Node,a.2.1.Found,a.2.1.Code,a.2.1.Sub,a.2.1.Reads,a.2.1.aL,a.2.1.eD,a.2.1.eC,a.2.1.bM,a.2.1.bW⟩:aK) else(if a.2.1.Pc == 20 then(eK 4 0).bind λb=>DQ t (⟨a.1.aA,a.1.bC,t.aH,t.aY,a.1.Log,a.1.aG⟩:Table) (⟨a.2.1.gW,a.2.1.Batch,a.2.1.aG,21,a.2.1.At,a.2.1.K,a.2.1.dR,a.2.1.iF,a.2.1.H,a.2.1.jH,a.2.1.Node,a.2.1.Found,a.2.1.Code,b,a.2.1.Reads,a.2.1.aL,a.2.1.eD,a.2.1.eC,a.2.1.bM,a.2.1.bW⟩:aK) else DQ t (⟨a.1.aA,a.1.bC,t.aH,t.aY,a.1.Log,a.1.aG⟩:Table) (⟨a.2.1.gW,a.2.1.Batch,a.2.1.aG,19,a.2.1.At,a.2.1.K,a.2.1.dR,a.2.1.iF,a.2.1.H,a.2.1.jH,a.2.1.Node,a.2.1.Found,a.2.1.Code,a.2.1.Sub,a.2.1.Reads,a.2.1.aL,a.2.1.eD,a.2.1.eC,a.2.1.bM,a.2.1.bW⟩:aK))))
def iA(j:aK)(code:Int):=some ({j with Pc:=16,Code:=code}:aK)
def vR(a:aw):=some a
def NF(b:aW)(a:aw)(c:Bool):=(if !c then need (a.length+([b]).length<=1073741824) (vR (a++([b]))) else vR a)
def DR(c:Int)(b:aw)(a:Bool):Option (Step (aw×Bool×Int) (aw×Bool)):=some (.next (b,a,bB (c+1)))
def DS(l:aw)(d:Int)(b:aw)(c:Bool):Option (Step (aw×Bool×Int) (aw×Bool)):=(idx l d).bind λa=>need (b.length+([a]).length<=1073741824) (DR d (b++([a])) c)
def DT(l:aw)(d:aW)(b:aw)(e:Bool)(c:Int)(a:Bool):Option (Step (aw×Bool×Int) (aw×Bool)):=(if a then need (b.length+([d]).length<=1073741824) (DS l c (b++([d])) true) else DS l c b e)
def pM(l:aw)(d:aW):(aw×Bool×Int)->Option (Step (aw×Bool×Int) (aw×Bool))
 |(c,b,a)=>(if decide (a<(l.length:Int)) then(idx l a).bind λf=>(if f.Key == d.Key then DR a c b else(if !b then(idx l a).bind λe=>DT l d c b a (decide (d.Key<e.Key)) else DT l d c b a false)) else some (.stop ((c,b))))
def DU(c:aW):(aw×Bool)->Option aw
 |(b,a)=>NF c b a
def OO(l:aw)(a:aW):=(loop (pM l a) (([]:aw),false,0)).bind (DU a)
def FN(j:aK)(x:aW):=(OO j.aL x).bind λa=>(if decide (6<(a.length:Int)) then(iA j 1).bind λb=>some b else some ({j with aL:=a}:aK))
def aNM:=some ((⟨0,false,0⟩:aW),false)
def yY(l:aw)(b:Int):Int->Option (Step Int (Out Unit (aW×Bool)))
 |a=>(if decide (a<(l.length:Int)) then(idx l a).bind λd=>(if d.Key == b then(idx l a).bind λc=>some (.stop (Out.ret (c,true))) else some (.next (bB (a+1)))) else some (.stop (Out.brk ())))
def aNN:(Out Unit (aW×Bool))->Option (aW×Bool)
 |.brk ()=>aNM
 |.ret r=>some r
def R7(l:aw)(a:Int):=(loop (yY l a) 0).bind (aNN)
def VW(a b:Int):=some (Int.tmod (bB ((bB ((Int.tmod a 65536)+(Int.tmod b 65536)))+65536)) 65536)
def sQ(a:aK)(c:Bool)(b:Int):=need (a.eD.length+([(⟨c,b⟩:eD)]).length<=1073741824) (some ({a with Pc:=1,At:=bB (a.At+1),eD:=a.eD++([(⟨c,b⟩:eD)])}:aK))
def sS(j:aK)(is:Bool)(b:oV)(d:Int):=(if b.Kind == 4 then(VW d b.cT).bind λc=>(FN j (⟨b.Key,false,c⟩:aW)).bind λa=>(if a.Pc == 16 then some a else sQ a true c) else sQ j is d)
def B7(j:aK)(is:Bool)(v:Int):=(idx j.Batch.b8 j.At).bind λa=>(if !is then sS j is a 0 else sS j is a v)
def IA(a:Int):=(bY a 0 99).bind λb=>(if !b then some (-1) else some (Int.tmod a 2))
def mM(j:aK)(b:oV)(f:Bool):=(if f then(FN j ({b with NP:=b.Kind == 3}:aW)).bind λa=>(if a.Pc == 16 then some a else need (a.eD.length+([(⟨false,0⟩:eD)]).length<=1073741824) (some ({a with At:=bB (a.At+1),eD:=a.eD++([(⟨false,0⟩:eD)])}:aK))) else(R7 j.aL b.Key).bind λc=>(if c.2 then(B7 j (!c.1.NP) c.1.cT).bind λe=>some e else(IA b.Key).bind λd=>some ({j with Pc:=2,dR:=d}:aK)))
def G6(j:aK):=(if decide ((j.Batch.b8.length:Int)<=j.At) then(eK 1 16).bind λb=>some ({j with Pc:=6,K:=0,Sub:=b}:aK) else(idx j.Batch.b8 j.At).bind λa=>(if a.Kind == 2 then mM j a true else mM j a (a.Kind == 3)))
def G7(m:Mem)(h:Int)(f:Bool):ct:=(if f then some (0,4) else(eM h).bind λe=>(lG m.Heap e).bind λa=>(pC a).bind λd=>(if decide (d<10) then some (0,2) else(eM h).bind λc=>(C2 c a).bind λb=>some (b,0)))
def DV(m:Mem)(h:Int):ct:=(gJ h).bind λc=>(if !c then G7 m h true else(eM h).bind λb=>(lG m.Heap b).bind λa=>G7 m h (decide (a<0)))
def ZU(m:Mem)(at_:Int):=(pD m.Heap.Bytes at_ 2).bind λc=>(pD m.Heap.Bytes (bB (at_+2)) 4).bind λb=>(pD m.Heap.Bytes (bB (at_+6)) 4).bind λa=>some (⟨c,b,a⟩:fS)
def PF(m:Mem)(h:Int):=(DV m h).bind λa=>(if a.2 != 0 then some (⟨0,0,0⟩:fS) else(ZU m a.1).bind λb=>some b)
def sU(n:fS):=(gJ n.Next).bind λa=>(if a then some n.Next else some 0)
def aBK(l:bo)(b v:Int):=need ((([]:bo)++l).length+([(⟨b,v⟩:Seen)]).length<=1073741824) (some ((([]:bo)++l)++([(⟨b,v⟩:Seen)]),true))
def yZ(l:bo)(b v:Int):Int->Option (Step Int (Out Unit (bo×Bool)))
 |a=>(if decide (a<(l.length:Int)) then(idx l a).bind λd=>(if d.dR == b then(idx l a).bind λc=>some (.stop (Out.ret (([]:bo)++l,c.iF == v))) else some (.next (bB (a+1)))) else some (.stop (Out.brk ())))
def aBL(l:bo)(b v:Int):(Out Unit (bo×Bool))->Option (bo×Bool)
 |.brk ()=>aBK l b v
 |.ret r=>some r
def R8(l:bo)(b v:Int):=need (([]:bo).length+l.length<=1073741824) ((loop (yZ l b v) 0).bind (aBL l b v))
def oE(a:aK):=some a
def G8(j:aK)(c:Bool)(a:Int)(b:Bool):=(if b then oE ({j with Pc:=5,H:=a,Found:=c}:aK) else oE ({j with Pc:=3,H:=a,Found:=c}:aK))
def P5(j:aK)(b:Bool):=(sU j.Node).bind λa=>(if b then G8 j b a true else G8 j b a (a == 0))
def rO(j:aK)(d:Bool):=(if d then(iA j 6).bind λc=>some c else(if decide ((j.Batch.b8.length:Int)<=j.At) then(iA j 1).bind λb=>some b else(idx j.Batch.b8 j.At).bind λa=>P5 j (j.Node.Key == a.Key)))
def y5(j:aK)(f:Bool):=(if f then(iA j 7).bind λe=>some e else(R8 j.Reads j.dR j.iF).bind λa=>(if !a.2 then(iA ({j with Reads:=a.1}:aK) 7).bind λd=>some d else(if decide ((j.Batch.b8.length:Int)<=j.At) then(iA ({j with Reads:=a.1}:aK) 1).bind λc=>some c else(B7 ({j with Reads:=a.1}:aK) j.Found j.Node.cT).bind λb=>some b)))
def R9(t:Table)(e:Int)(j:aK):=(idx t.bC j.dR).bind λa=>(idx t.aA.aI.bV e).bind λb=>(if j.Pc == 2 then(if a.jC != 0 then(iA j 7).bind λd=>some d else(if a.Head == 0 then oE ({j with Pc:=5,iF:=a.iF,H:=a.Head,Node:=(⟨0,0,0⟩:fS),Found:=false}:aK) else oE ({j with Pc:=3,iF:=a.iF,H:=a.Head,Node:=(⟨0,0,0⟩:fS),Found:=false}:aK))) else(if j.Pc == 3 then(PF t.aA.Mem j.H).bind λc=>oE ({j with Pc:=4,Node:=c}:aK) else(if j.Pc == 4 then(if !b.On then rO j true else rO j b.gU) else(if a.jC != 0 then y5 j true else y5 j (a.iF != j.iF)))))
def aYG(a:Int):=some a
def SA(b a:Int):Option (Step (Int×Int) Int):=some (.next (a,bB (b+1)))
def LF(l:aw)(b a:Int)(d:Bool):Option (Step (Int×Int) Int):=(if d then(idx l a).bind λc=>(if !c.NP then SA a (bB (b+1)) else SA a b) else some (.stop (b)))
def LG(l:aw)(n:Int):(Int×Int)->Option (Step (Int×Int) Int)
 |(b,a)=>(if decide (a<(l.length:Int)) then LF l b a (decide (a<n)) else LF l b a false)
def aYH:Int->bu
 |a=>aYG a
def YA(l:aw)(n:Int):=(loop (LG l n) (0,0)).bind (aYH)
def pN(t:Table)(e:Bool)(b:Table)(a:aK):=(if e then(iA a a.Sub.Code).bind λd=>some (({b with aH:=t.aH,aY:=t.aY}:Table),d) else need (a.eC.length+([a.Sub.Out]).length<=1073741824) ((eK 1 16).bind λc=>some (({b with aH:=t.aH,aY:=t.aY}:Table),({a with K:=bB (a.K+1),Sub:=c,eC:=a.eC++([a.Sub.Out])}:aK))))
def OQ(t:Table)(d:Int)(j:aK):=(YA j.aL (j.aL.length:Int)).bind λc=>(if decide (c<=j.K) then some (t,({j with Pc:=7,K:=0}:aK)) else(IU t d j).bind λa=>(if !a.2.2 then some ((⟨a.1.aA,a.1.bC,t.aH,t.aY,a.1.Log,a.1.aG⟩:Table),a.2.1) else(if a.2.1.Sub.Code != 0 then pN t true (⟨a.1.aA,a.1.bC,t.aH,t.aY,a.1.Log,a.1.aG⟩:Table) a.2.1 else(gJ a.2.1.Sub.Out).bind λb=>(if !b then pN t true (⟨a.1.aA,a.1.bC,t.aH,t.aY,a.1.Log,a.1.aG⟩:Table) a.2.1 else pN t (decide (6<=(a.2.1.eC.length:Int))) (⟨a.1.aA,a.1.bC,t.aH,t.aY,a.1.Log,a.1.aG⟩:Table) a.2.1))))
def B8(a:al):=some a
def TL(x:Int)(a:al)(b:Bool):=(if !b then need (a.length+([x]).length<=1073741824) (B8 (a++([x]))) else B8 a)
def vS(l:al)(d:Int)(b:al)(c:Bool):Option (Step (al×Bool×Int) (Out (al×Bool) al)):=(idx l d).bind λa=>need (b.length+([a]).length<=1073741824) (some (.next (b++([a]),c,bB (d+1))))
def vT(l:al)(x:Int)(b:al)(d:Bool)(c:Int)(a:Bool):Option (Step (al×Bool×Int) (Out (al×Bool) al)):=(if a then need (b.length+([x]).length<=1073741824) (vS l c (b++([x])) true) else vS l c b d)
def lM(l:al)(x:Int):(al×Bool×Int)->Option (Step (al×Bool×Int) (Out (al×Bool) al))
 |(d,c,b)=>(if decide (b<(l.length:Int)) then(idx l b).bind λa=>(if a == x then some (.stop (Out.ret l)) else(if !c then vT l x d c b (decide (x<a)) else vT l x d c b false)) else some (.stop (Out.brk (d,c))))
def B9(x:Int):(Out (al×Bool) al)->Option al
 |.brk (b,a)=>TL x b a
 |.ret r=>some r
def VX(l:al)(x:Int):=(loop (lM l x) (([]:al),false,0)).bind (B9 x)
def aNO(a:al):=some a
def G9(b:Int)(a:al):Option (Step (al×Int) al):=some (.next (a,bB (b+1)))
def y6(l:aw):(al×Int)->Option (Step (al×Int) al)
 |(d,a)=>(if decide (a<(l.length:Int)) then(idx l a).bind λg=>(IA g.Key).bind λf=>(if decide (0<=f) then(idx l a).bind λe=>(IA e.Key).bind λc=>(VX d c).bind λb=>G9 a b else G9 a d) else some (.stop (d)))
def aNP:al->Option al
 |a=>aNO a
def SB(l:aw):=(loop (y6 l) (([]:al),0)).bind (aNP)
def FO(t:Table)(w_:Int)(j:aK):=need (t.Log.length+([(⟨2,w_,j.aG,0,[],[]⟩:wH)]).length<=1073741824) (some (({t with Log:=t.Log++([(⟨2,w_,j.aG,0,[],[]⟩:wH)])}:Table),({j with Pc:=8,K:=0}:aK)))
def y7(t:Table)(c:Int)(j:aK)(f:al)(e:Int)(d:dR)(b:al):=(if(bB (j.K+1)) == (f.length:Int) then(FO ({t with bC:=t.bC.set e.toNat ({d with jC:=bB (c+1)}:dR)}:Table) c ({j with K:=bB (j.K+1),bM:=b}:aK)).bind λa=>some ((⟨a.1.aA,a.1.bC,t.aH,t.aY,a.1.Log,a.1.aG⟩:Table),a.2) else some (({t with bC:=t.bC.set e.toNat ({d with jC:=bB (c+1)}:dR)}:Table),({j with K:=bB (j.K+1),bM:=b}:aK)))
def aBM(t:Table)(e:Int)(j:aK)(d:al)(a:Int):=(idx t.bC a).bind λc=>(if c.iF == 1000000 then(iA j 3).bind λf=>some (t,f) else(HR j.bM a).bind λb=>(if !b then need (j.bM.length+([a]).length<=1073741824) (y7 t e j d a c (j.bM++([a]))) else y7 t e j d a c j.bM))
def y8(t:Table)(j:aK)(c:Int)(b:Bool):Option (Step Int (Out Unit (Table×aK))):=(if b then(iA j 7).bind λa=>some (.stop (Out.ret (t,a))) else some (.next (bB (c+1))))
def rP(t:Table)(j:aK)(d:Int):Int->Option (Step Int (Out Unit (Table×aK)))
 |b=>(if decide (b<(j.Reads.length:Int)) then(idx j.Reads b).bind λa=>(if a.dR == d then(idx t.bC d).bind λc=>y8 t j b (a.iF != c.iF) else y8 t j b false) else some (.stop (Out.brk ())))
def P6(t:Table)(c:Int)(j:aK)(b:al)(a:Int):(Out Unit (Table×aK))->Option (Table×aK)
 |.brk ()=>aBM t c j b a
 |.ret r=>some r
def SC(t:Table)(d:Int)(j:aK):=(SB j.aL).bind λc=>(if decide ((c.length:Int)<=j.K) then(FO t d j).bind λa=>some ((⟨a.1.aA,a.1.bC,t.aH,t.aY,a.1.Log,a.1.aG⟩:Table),a.2) else(idx c j.K).bind λb=>(idx t.bC b).bind λf=>(if f.jC != 0 then(iA j 7).bind λe=>some (t,e) else(loop (rP t j b) 0).bind (P6 t d j c b)))
def mN(j:aK)(b:Bool):=(if b then(iA j 7).bind λa=>some a else some ({j with K:=bB (j.K+1)}:aK))
def OR(t:Table)(c:Int)(j:aK):=(if decide ((j.Reads.length:Int)<=j.K) then some ({j with Pc:=9,K:=0}:aK) else(idx j.Reads j.K).bind λb=>(idx t.bC b.dR).bind λa=>(if a.jC != 0 then(if a.jC != (bB (c+1)) then mN j true else mN j (a.iF != b.iF)) else mN j (a.iF != b.iF)))
def tK(j:aK):=(idx j.aL j.K).bind λa=>(if a.NP then some ({j with Pc:=9,K:=bB (j.K+1)}:aK) else some ({j with Pc:=12}:aK))
def HA(a:Bool):=some a
def LH(h:Int):=(if h == 0 then HA true else(gJ h).bind λa=>HA a)
def LI(m:Mem)(h a:Int)(f:Bool)(b:Mem):cq:=(if f then some (b,1) else(oY m h).bind λe=>(if !e then some (b,4) else(DV m h).bind λc=>(if c.2 != 0 then some (b,c.2) else(jE b.Heap.Bytes (bB (c.1+6)) 4 a).bind λd=>some ((⟨(⟨d,b.Heap.Class⟩:Heap),b.aD⟩:Mem),0))))
def VY(m:Mem)(h a:Int):cq:=(wM m).bind λb=>(BE m).bind λd=>(if !d then LI m h a true b else(LH a).bind λc=>LI m h a (!c) b)
def CA(a:Bool):=some a
def VZ(n:fS):=(bY n.Key 0 99).bind λc=>(if c then(bY n.cT 0 65535).bind λb=>(if b then(LH n.Next).bind λa=>CA a else CA false) else CA false)
def aC8(m:Mem)(at_:Int)(n:fS):=(jE m.Heap.Bytes at_ 2 n.Key).bind λc=>(jE c (bB (at_+2)) 4 n.cT).bind λb=>(jE b (bB (at_+6)) 4 n.Next).bind λa=>some (⟨(⟨a,m.Heap.Class⟩:Heap),m.aD⟩:Mem)
def HB(m:Mem)(h:Int)(n:fS)(e:Bool)(a:Mem):cq:=(if e then some (a,1) else(oY m h).bind λd=>(if !d then some (a,4) else(DV m h).bind λb=>(if b.2 != 0 then some (a,b.2) else(aC8 a b.1 n).bind λc=>some (c,0))))
def SD(m:Mem)(h:Int)(n:fS):cq:=(wM m).bind λa=>(BE m).bind λc=>(if !c then HB m h n true a else(VZ n).bind λb=>HB m h n (!b) a)
def qA(t:Table)(b:ba)(a:aK):=some (({t with bC:=b}:Table),a)
def qB(t:Table)(j:aK)(c:Table)(b:al):=(tK ({j with bW:=b}:aK)).bind λa=>some (({c with aH:=t.aH,aY:=t.aY}:Table),a)
def xS(t:Table)(j:aK)(b:Bool)(a:Table):=(if b then need (j.bW.length+([j.H]).length<=1073741824) (qB t j ({a with aH:=t.aH,aY:=t.aY}:Table) (j.bW++([j.H]))) else qB t j ({a with aH:=t.aH,aY:=t.aY}:Table) j.bW)
def qC(t:Table)(j:aK)(a:Table):=(if decide ((j.bW.length:Int)<6) then(gJ j.H).bind λb=>xS t j b ({a with aH:=t.aH,aY:=t.aY}:Table) else xS t j false ({a with aH:=t.aH,aY:=t.aY}:Table))
def IB(t:Table)(j:aK)(a:Table):=qC t j ({a with aH:=t.aH,aY:=t.aY}:Table)
def TM(t:Table)(j:aK)(a:Table):=some (({a with aH:=t.aH,aY:=t.aY}:Table),({j with Pc:=13}:aK))
def HC(t:Table)(j:aK):=(if decide ((j.aL.length:Int)<=j.K) then some (t,({j with Pc:=14}:aK)) else(idx j.aL j.K).bind λq=>(IA q.Key).bind λc=>(if j.Pc == 9 then(idx t.bC c).bind λp=>(if p.Head == 0 then(tK ({j with H:=p.Head,jH:=0}:aK)).bind λu=>some (t,u) else qA t t.bC ({j with Pc:=10,H:=p.Head,jH:=0}:aK)) else(if j.Pc == 10 then(PF t.aA.Mem j.H).bind λb=>(if b.Key == q.Key then qA t t.bC ({j with Pc:=11,Node:=b}:aK) else(sU b).bind λs=>(if s == 0 then(tK ({j with Node:=b}:aK)).bind λr=>some (t,r) else(sU b).bind λo=>qA t t.bC ({j with H:=o,jH:=j.H,Node:=b}:aK))) else(if j.Pc == 11 then(if j.jH == 0 then(sU j.Node).bind λn=>(idx t.bC c).bind λm=>qC t j ({t with bC:=t.bC.set c.toNat ({m with Head:=n}:dR)}:Table) else(sU j.Node).bind λl=>(VY t.aA.Mem j.jH l).bind λk=>IB t j ({t with aA:=(⟨k.1,t.aA.aI,t.aA.aQ,t.aA.iU⟩:aA)}:Table)) else(YA j.aL j.K).bind λa=>(if decide ((j.eC.length:Int)<=a) then(iA j 1).bind λi=>some (t,i) else(if j.Pc == 12 then(idx j.eC a).bind λh=>(idx t.bC c).bind λg=>(SD t.aA.Mem h ({q with Next:=g.Head}:fS)).bind λf=>TM t j ({t with aA:=(⟨f.1,t.aA.aI,t.aA.aQ,t.aA.iU⟩:aA)}:Table) else(idx j.eC a).bind λe=>(idx t.bC c).bind λd=>qA t (t.bC.set c.toNat ({d with Head:=e}:dR)) ({j with Pc:=9,K:=bB (j.K+1)}:aK)))))))
def LJ(t:Table)(a:aK):=some (t,a)
def AP(t:Table)(j:aK)(b:al)(a:ba):=some (({t with bC:=a}:Table),({j with bM:=b}:aK))
def LK(t:Table)(j:aK):=(if(j.bM.length:Int) == 0 then(if j.Pc == 16 then some (t,({j with Pc:=17}:aK)) else(if decide (0<(j.bW.length:Int)) then(idx j.bW 0).bind λf=>(eK 2 f).bind λe=>LJ t ({j with Pc:=15,K:=0,Sub:=e}:aK) else LJ t ({j with Pc:=15,K:=0}:aK))) else(idx j.bM 0).bind λa=>need (0<=(1:Int)/\(1:Int)<=(j.bM.length:Int)) ((lT ((j.bM.take j.bM.length).drop (1:Int).toNat)).bind λd=>(idx t.bC a).bind λc=>(if j.Pc == 14 then(idx (t.bC.set a.toNat ({c with jC:=0}:dR)) a).bind λb=>AP t j d ((t.bC.set a.toNat ({c with jC:=0}:dR)).set a.toNat ({b with iF:=if 1000000<(bB (b.iF+1)) then 1000000 else(bB (b.iF+1))}:dR)) else AP t j d (t.bC.set a.toNat ({c with jC:=0}:dR)))))
def AQ(t b:Table)(a:aK):=some (({b with aH:=t.aH,aY:=t.aY}:Table),a)
def LL(t:Table)(d:Int)(j:aK):=(if decide ((j.bW.length:Int)<=j.K) then some (t,({j with Pc:=18}:aK)) else(IU t d j).bind λa=>(if a.2.2 then(if decide ((bB (a.2.1.K+1))<(a.2.1.bW.length:Int)) then(idx a.2.1.bW (bB (a.2.1.K+1))).bind λc=>(eK 2 c).bind λb=>AQ t (⟨a.1.aA,a.1.bC,t.aH,t.aY,a.1.Log,a.1.aG⟩:Table) (⟨a.2.1.gW,a.2.1.Batch,a.2.1.aG,a.2.1.Pc,a.2.1.At,bB (a.2.1.K+1),a.2.1.dR,a.2.1.iF,a.2.1.H,a.2.1.jH,a.2.1.Node,a.2.1.Found,a.2.1.Code,b,a.2.1.Reads,a.2.1.aL,a.2.1.eD,a.2.1.eC,a.2.1.bM,a.2.1.bW⟩:aK) else AQ t (⟨a.1.aA,a.1.bC,t.aH,t.aY,a.1.Log,a.1.aG⟩:Table) (⟨a.2.1.gW,a.2.1.Batch,a.2.1.aG,a.2.1.Pc,a.2.1.At,bB (a.2.1.K+1),a.2.1.dR,a.2.1.iF,a.2.1.H,a.2.1.jH,a.2.1.Node,a.2.1.Found,a.2.1.Code,a.2.1.Sub,a.2.1.Reads,a.2.1.aL,a.2.1.eD,a.2.1.eC,a.2.1.bM,a.2.1.bW⟩:aK)) else AQ t (⟨a.1.aA,a.1.bC,t.aH,t.aY,a.1.Log,a.1.aG⟩:Table) a.2.1))
def HD(m:Mem)(f h:Int)(e:Bool)(a:Mem):cq:=(if e then some (a,1) else(oY m h).bind λd=>(if !d then some (a,4) else(eM h).bind λc=>(BC a f c).bind λb=>some (b,0)))
def SF(m:Mem)(a h:Int):cq:=(wM m).bind λb=>(BE m).bind λd=>(if !d then HD m a h true b else(bY a 0 2).bind λc=>HD m a h (!c) b)
def ZV(b:aA)(e h:Int):cq:=(eM h).bind λd=>(CZ b.aQ d).bind λc=>(if c then some (b.Mem,4) else(SF b.Mem e h).bind λa=>some (a.1,a.2))
def aC9(l:List eD):=need (([]:List eD).length+l.length<=1073741824) (some (([]:List eD)++l))
def LM(t:Table)(j:aK)(c:Table)(b:Int)(a:al):=some (({c with aH:=t.aH,aY:=t.aY}:Table),({j with Pc:=b,eC:=a}:aK))
def LN(t:Table)(j:aK)(b:Table):=need (0<=(1:Int)/\(1:Int)<=(j.eC.length:Int)) ((lT ((j.eC.take j.eC.length).drop ((1:Int).toNat))).bind λa=>LM t j ({b with aH:=t.aH,aY:=t.aY}:Table) j.Pc a)
def CB(t:Table)(w_:Int)(j:aK)(a:List eD):=need (t.Log.length+([(⟨3,w_,j.aG,j.Code,[],a⟩:wH)]).length<=1073741824) (some (({t with Log:=t.Log++([(⟨3,w_,j.aG,j.Code,[],a⟩:wH)])}:Table),(⟨false,(⟨false,[]⟩:Batch),0,0,0,0,0,0,0,0,(⟨0,0,0⟩:fS),false,0,(⟨0,0,0,0,0,0,0,0,0,false⟩:Sub),[],[],[],[],[],[]⟩:aK)))
def wP(t:Table)(a:Int)(j:aK):=(if j.Pc == 17 then(if(j.eC.length:Int) == 0 then some (t,({j with Pc:=18}:aK)) else(idx j.eC 0).bind λe=>(ZV t.aA a e).bind λd=>LN t j ({t with aA:=(⟨d.1,t.aA.aI,t.aA.aQ,t.aA.iU⟩:aA)}:Table)) else(if j.Pc == 18 then(BI t.aA.aI a).bind λc=>LM t j ({t with aA:=(⟨t.aA.Mem,c.1,t.aA.aQ,t.aA.iU⟩:aA)}:Table) 19 j.eC else(if j.Code == 0 then(aC9 j.eD).bind λb=>CB t a j b else CB t a j ([]))))
def iQ(t:Table)(c:Int)(b:Table)(a:aK):=some ({b with aH:=t.aH.set c.toNat a,aY:=t.aY}:Table)
def pE(t:Table)(f:Int)(a:aK)(e:Bool)(c:aK):=(if e then(wP t f ({c with Batch:=(⟨c.Batch.Collect,a.Batch.b8⟩:Batch),Reads:=a.Reads,aL:=a.aL,eD:=a.eD,eC:=a.eC,bM:=a.bM,bW:=a.bW}:aK)).bind λb=>iQ t f (⟨b.1.aA,b.1.bC,t.aH,t.aY,b.1.Log,b.1.aG⟩:Table) b.2 else(iA ({c with Batch:=(⟨c.Batch.Collect,a.Batch.b8⟩:Batch),Reads:=a.Reads,aL:=a.aL,eD:=a.eD,eC:=a.eC,bM:=a.bM,bW:=a.bW}:aK) 1).bind λd=>iQ t f t d)
def zZ(t:Table)(e:Int)(a:aK)(f:Bool)(b:aK):=(if f then(LK t ({b with Batch:=(⟨b.Batch.Collect,a.Batch.b8⟩:Batch),Reads:=a.Reads,aL:=a.aL,eD:=a.eD,eC:=a.eC,bM:=a.bM,bW:=a.bW}:aK)).bind λd=>iQ t e (⟨d.1.aA,d.1.bC,t.aH,t.aY,d.1.Log,d.1.aG⟩:Table) d.2 else(if a.Pc == 15 then(LL t e ({b with Batch:=(⟨b.Batch.Collect,a.Batch.b8⟩:Batch),Reads:=a.Reads,aL:=a.aL,eD:=a.eD,eC:=a.eC,bM:=a.bM,bW:=a.bW}:aK)).bind λc=>iQ t e (⟨c.1.aA,c.1.bC,t.aH,t.aY,c.1.Log,c.1.aG⟩:Table) c.2 else(if a.Pc == 17 then pE t e a true ({b with Batch:=(⟨b.Batch.Collect,a.Batch.b8⟩:Batch),Reads:=a.Reads,aL:=a.aL,eD:=a.eD,eC:=a.eC,bM:=a.bM,bW:=a.bW}:aK) else(if a.Pc == 18 then pE t e a true ({b with Batch:=(⟨b.Batch.Collect,a.Batch.b8⟩:Batch),Reads:=a.Reads,aL:=a.aL,eD:=a.eD,eC:=a.eC,bM:=a.bM,bW:=a.bW}:aK) else pE t e a (a.Pc == 19) ({b with Batch:=(⟨b.Batch.Collect,a.Batch.b8⟩:Batch),Reads:=a.Reads,aL:=a.aL,eD:=a.eD,eC:=a.eC,bM:=a.bM,bW:=a.bW}:aK)))))
def mV(t:Table)(e:Int)(a:aK)(d:Bool)(b:aK):=(if d then(HC t ({b with Batch:=(⟨b.Batch.Collect,a.Batch.b8⟩:Batch),Reads:=a.Reads,aL:=a.aL,eD:=a.eD,eC:=a.eC,bM:=a.bM,bW:=a.bW}:aK)).bind λc=>iQ t e (⟨c.1.aA,c.1.bC,t.aH,t.aY,c.1.Log,c.1.aG⟩:Table) c.2 else(if a.Pc == 14 then zZ t e a true ({b with Batch:=(⟨b.Batch.Collect,a.Batch.b8⟩:Batch),Reads:=a.Reads,aL:=a.aL,eD:=a.eD,eC:=a.eC,bM:=a.bM,bW:=a.bW}:aK) else zZ t e a (a.Pc == 16) ({b with Batch:=(⟨b.Batch.Collect,a.Batch.b8⟩:Batch),Reads:=a.Reads,aL:=a.aL,eD:=a.eD,eC:=a.eC,bM:=a.bM,bW:=a.bW}:aK)))
def pG(t:Table)(c:Int)(a:aK)(h:Bool)(b:aK):=(if h then(R9 t c ({b with Batch:=(⟨b.Batch.Collect,a.Batch.b8⟩:Batch),Reads:=a.Reads,aL:=a.aL,eD:=a.eD,eC:=a.eC,bM:=a.bM,bW:=a.bW}:aK)).bind λg=>iQ t c t g else(if a.Pc == 6 then(OQ t c ({b with Batch:=(⟨b.Batch.Collect,a.Batch.b8⟩:Batch),Reads:=a.Reads,aL:=a.aL,eD:=a.eD,eC:=a.eC,bM:=a.bM,bW:=a.bW}:aK)).bind λe=>iQ t c (⟨e.1.aA,e.1.bC,t.aH,t.aY,e.1.Log,e.1.aG⟩:Table) e.2 else(if a.Pc == 7 then(SC t c ({b with Batch:=(⟨b.Batch.Collect,a.Batch.b8⟩:Batch),Reads:=a.Reads,aL:=a.aL,eD:=a.eD,eC:=a.eC,bM:=a.bM,bW:=a.bW}:aK)).bind λd=>iQ t c (⟨d.1.aA,d.1.bC,t.aH,t.aY,d.1.Log,d.1.aG⟩:Table) d.2 else(if a.Pc == 8 then(OR t c ({b with Batch:=(⟨b.Batch.Collect,a.Batch.b8⟩:Batch),Reads:=a.Reads,aL:=a.aL,eD:=a.eD,eC:=a.eC,bM:=a.bM,bW:=a.bW}:aK)).bind λf=>iQ t c t f else(if a.Pc == 9 then mV t c a true ({b with Batch:=(⟨b.Batch.Collect,a.Batch.b8⟩:Batch),Reads:=a.Reads,aL:=a.aL,eD:=a.eD,eC:=a.eC,bM:=a.bM,bW:=a.bW}:aK) else(if a.Pc == 10 then mV t c a true ({b with Batch:=(⟨b.Batch.Collect,a.Batch.b8⟩:Batch),Reads:=a.Reads,aL:=a.aL,eD:=a.eD,eC:=a.eC,bM:=a.bM,bW:=a.bW}:aK) else(if a.Pc == 11 then mV t c a true ({b with Batch:=(⟨b.Batch.Collect,a.Batch.b8⟩:Batch),Reads:=a.Reads,aL:=a.aL,eD:=a.eD,eC:=a.eC,bM:=a.bM,bW:=a.bW}:aK) else(if a.Pc == 12 then mV t c a true ({b with Batch:=(⟨b.Batch.Collect,a.Batch.b8⟩:Batch),Reads:=a.Reads,aL:=a.aL,eD:=a.eD,eC:=a.eC,bM:=a.bM,bW:=a.bW}:aK) else mV t c a (a.Pc == 13) ({b with Batch:=(⟨b.Batch.Collect,a.Batch.b8⟩:Batch),Reads:=a.Reads,aL:=a.aL,eD:=a.eD,eC:=a.eC,bM:=a.bM,bW:=a.bW}:aK)))))))))
def tL(t:Table)(c:Int)(a:aK)(f:Bool)(b:aK):=(if f then(ON t c ({b with Batch:=(⟨b.Batch.Collect,a.Batch.b8⟩:Batch),Reads:=a.Reads,aL:=a.aL,eD:=a.eD,eC:=a.eC,bM:=a.bM,bW:=a.bW}:aK)).bind λd=>iQ t c (⟨d.1.aA,d.1.bC,t.aH,t.aY,d.1.Log,d.1.aG⟩:Table) d.2 else(if a.Pc == 1 then(G6 ({b with Batch:=(⟨b.Batch.Collect,a.Batch.b8⟩:Batch),Reads:=a.Reads,aL:=a.aL,eD:=a.eD,eC:=a.eC,bM:=a.bM,bW:=a.bW}:aK)).bind λe=>iQ t c t e else(if a.Pc == 2 then pG t c a true ({b with Batch:=(⟨b.Batch.Collect,a.Batch.b8⟩:Batch),Reads:=a.Reads,aL:=a.aL,eD:=a.eD,eC:=a.eC,bM:=a.bM,bW:=a.bW}:aK) else(if a.Pc == 3 then pG t c a true ({b with Batch:=(⟨b.Batch.Collect,a.Batch.b8⟩:Batch),Reads:=a.Reads,aL:=a.aL,eD:=a.eD,eC:=a.eC,bM:=a.bM,bW:=a.bW}:aK) else(if a.Pc == 4 then pG t c a true ({b with Batch:=(⟨b.Batch.Collect,a.Batch.b8⟩:Batch),Reads:=a.Reads,aL:=a.aL,eD:=a.eD,eC:=a.eC,bM:=a.bM,bW:=a.bW}:aK) else pG t c a (a.Pc == 5) ({b with Batch:=(⟨b.Batch.Collect,a.Batch.b8⟩:Batch),Reads:=a.Reads,aL:=a.aL,eD:=a.eD,eC:=a.eC,bM:=a.bM,bW:=a.bW}:aK))))))
def ZW(t:Table)(b:Int):=(idx t.aH b).bind λa=>(if !a.gW then(OM t b).bind λc=>some c else(if a.Pc == 0 then tL t b a true a else(if a.Pc == 20 then tL t b a true a else tL t b a (a.Pc == 21) a)))
def aIO(a:Int):=some a
def sV(c b:Int)(a:Table):Option (Step (Int×Int×Table) Int):=some (.next (b,bB (c+1),a))
def nV(x:CT)(e d:Int)(i:Bool)(c:Table):Option (Step (Int×Int×Table) Int):=(if i then(idx x.bG d).bind λh=>(bY h 0 2).bind λg=>(if g then(idx x.bG d).bind λf=>(ZW c f).bind λb=>(nC b.aA.aQ).bind λa=>sV d (if e<a then a else e) b else sV d e c) else some (.stop (e)))
def sW(x:CT):(Int×Int×Table)->Option (Step (Int×Int×Table) Int)
 |(c,a,b)=>(if decide (a<(x.bG.length:Int)) then nV x c a (decide (a<400)) b else nV x c a false b)
def aIP:Int->bu
 |a=>aIO a
def LO(x:CT):=(OL x.aY).bind λa=>(if(a.aH.length:Int) == 0 then some 0 else(loop (sW x) (0,0,a)).bind (aIP))
def aNQ(a:a7):=some a
def P7(l:a7):(a7×Int)->Option (Step (a7×Int) a7)
 |(c,b)=>(if decide (b<(l.length:Int)) then(idx l b).bind λa=>need (([]:bg).length+a.Rows.length<=1073741824) (need (c.length+([(⟨([]:bg)++a.Rows⟩:bP)]).length<=1073741824) (some (.next (c++([(⟨([]:bg)++a.Rows⟩:bP)]),bB (b+1))))) else some (.stop (c)))
def aNR:a7->Option a7
 |a=>aNQ a
def SG(l:a7):=(loop (P7 l) (([]:a7),0)).bind (aNR)
def SH(b:aA):=(wM b.Mem).bind λe=>(rY b.aI).bind λd=>(SG b.aQ).bind λc=>(lT b.iU).bind λa=>some (⟨e,d,c,a⟩:aA)
def P8(a:aJ):=some a
def LP(s:aJ):=
 (SH s.aA).bind λc=>(lT s.Cells).bind λb=>need (([]:br).length+s.aH.length<=1073741824)<|(A2 s.aY).bind λa=>need (([]:bw).length+s.Log.length<=1073741824)<|P8 (⟨c,b,([]:br)++s.aH,a,([]:bw)++s.Log,s.aG⟩:aJ)
def aKW(a:bh):=some a
def vU(c:Int)(b:bh)(a:aJ):Option (Step (bh×Int×aJ) bh):=some (.next (b,bB (c+1),a))
def pO(x:iD)(e:bh)(d:Int)(i:Bool)(c:aJ):Option (Step (bh×Int×aJ) bh):=(if i then(idx x.bG d).bind λh=>(bY h 0 2).bind λg=>(if g then(idx x.bG d).bind λf=>(HT c f).bind λb=>(LP b).bind λa=>need (e.length+([a]).length<=1073741824) (vU d (e++([a])) b) else vU d e c) else some (.stop (e)))
def vV(x:iD):(bh×Int×aJ)->Option (Step (bh×Int×aJ) bh)
 |(c,a,b)=>(if decide (a<(x.bG.length:Int)) then pO x c a (decide (a<400)) b else pO x c a false b)
def aKX:bh->Option bh
 |a=>aKW a
def FP(x:iD):=(zH x.aY).bind λa=>(if(a.aH.length:Int) == 0 then some ([]:bh) else(LP a).bind λb=>need (([]:bh).length+([b]).length<=1073741824) ((loop (vV x) (([]:bh)++([b]),0,a)).bind (aKX)))
def aIQ(a:Int):=some a
def AR(d:bh):(Int×Int)->Option (Step (Int×Int) Int)
 |(b,a)=>(if decide (a<(d.length:Int)) then(idx d a).bind λe=>(nC e.aA.aQ).bind λc=>some (.next (if b<c then c else b,bB (a+1))) else some (.stop (b)))
def aIR:Int->bu
 |a=>aIQ a
def LQ(x:iD):=(FP x).bind λa=>(loop (AR a) (0,0)).bind (aIR)
def aKY(a:Int):=some a
def DW(d:bh):(Int×Int)->Option (Step (Int×Int) Int)
 |(b,a)=>(if decide (a<(d.length:Int)) then(idx d a).bind λf=>(TE f.aA).bind λe=>(idx e 4).bind λc=>some (.next (if b<c then c else b,bB (a+1))) else some (.stop (b)))
def aKZ:Int->bu
 |a=>aKY a
def OS(x:iD):=(FP x).bind λa=>(loop (DW a) (0,0)).bind (aKZ)
def P9(a:Bool):=some a
def jO(a:Bool):=some a
def aBN(code:aF)(a:iD)(b f o e:Int)(d:aJ):=(xK code).bind λc=>(nC d.aA.aQ).bind λn=>(if decide (n<=f) then(TE d.aA).bind λm=>(idx m 4).bind λl=>(if decide (l<=o) then need (0<=(if b<(a.bG.length:Int) then b else(a.bG.length:Int):Int)/\(if b<(a.bG.length:Int) then b else(a.bG.length:Int):Int)<=(a.bG.length:Int)) ((BW (⟨a.aY,(a.bG.take ((if b<(a.bG.length:Int) then b else(a.bG.length:Int)).toNat)).drop 0⟩:iD)).bind λk=>(if decide (k<=f) then(if decide (f<=e) then(if decide (o<=e) then(K9 c).bind λj=>(LO c).bind λi=>(if j == i then(LQ a).bind λh=>(if f == h then(OS a).bind λg=>jO (o == g) else jO false) else jO false) else jO false) else jO false) else jO false)) else jO false) else jO false)
def aBO(c b:Int)(a:aJ):Option (Step (Int×Int×aJ) (Int×aJ)):=some (.next (b,bB (c+1),a))
def HE(c b:Int)(a:aJ):Option (Step (Int×Int×aJ) (Int×aJ)):=some (.next (b,bB (c+1),a))
def y9(g:iD)(f:Int):(Int×Int×aJ)->Option (Step (Int×Int×aJ) (Int×aJ))
 |(c,a,b)=>(idx g.aY f).bind λd=>(if decide (a<(d.mY.length:Int)) then(idx d.mY a).bind λe=>(if e.Kind == 1 then HE a (bB (c+1)) b else HE a c b) else some (.stop ((c,b))))
def aBP(c:Int):(Int×aJ)->Option (Step (Int×Int×aJ) (Int×aJ))
 |(b,a)=>aBO c b a
def rQ(d:iD):(Int×Int×aJ)->Option (Step (Int×Int×aJ) (Int×aJ))
 |(c,a,b)=>(if decide (a<3) then(loop (y9 d a) (c,0,b)).bind (aBP a) else some (.stop ((c,b))))
def aBQ(code:aF)(f:iD)(e d c:Int):(Int×aJ)->ay
 |(b,a)=>aBN code f e d c b a
def ZX(code:aF):=(aQP code).bind λg=>(if g then some true else(wX code).bind λa=>(ZH code 0 (a.bG.length:Int)).bind λb=>need (0<=(if b<(a.bG.length:Int) then b else(a.bG.length:Int):Int)/\(if b<(a.bG.length:Int) then b else(a.bG.length:Int):Int)<=(a.bG.length:Int)) ((JS (⟨a.aY,(a.bG.take ((if b<(a.bG.length:Int) then b else(a.bG.length:Int)).toNat)).drop 0⟩:iD)).bind λf=>(BW a).bind λd=>(OE a).bind λc=>(ZQ a).bind λe=>(if !e then(if d == 0 then P9 (c == 0) else P9 false) else(loop (rQ a) (0,0,f)).bind (aBQ code a b d c))))
end
end Go.Gv
end
