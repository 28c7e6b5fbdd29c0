import Derived.Test.YtdooodokcphomaaGreatXUC
set_option linter.unusedVariables false
set_option linter.unusedSimpArgs false
set_option linter.unusedSectionVars false
set_option linter.constructorNameAsVariable false
set_option linter.unnecessarySimpa false
set_option linter.defProp false
noncomputable section
namespace Go.Gv
section
def aR2(code:bh):=some (decide (1048576<(code.length:Int)))
def aWB(a:Int):Option (Int×Int):=some (0,a)
def MV(code:bh)(b a:Int)(d:Bool):Option (Step (Int×Int) Int):=(if d then(idx code a).bind λc=>some (.next (iU .and .i64 (aZ ((aZ ((aZ (b*131))+(c.toNat:Int)))+7)) 1073741823,aZ (a+1))) else some (.stop (b)))
def aGC(code:bh):(Int×Int)->Option (Step (Int×Int) Int)
 |(b,a)=>(if decide (a<(code.length:Int)) then MV code b a (decide (a<4000)) else MV code b a false)
def aWC:Int->Option (Int×Int)
 |a=>aWB a
def ZD(code:bh):=(loop (aGC code) (aZ (10101+(code.length:Int)),0)).bind (aWC)
def II(c:dW)(b a:Int):=some (b,(a,aZ ((aZ (c.h*6364136223846793005))+1442695040888963407)))
def vF(c:dW):=(if decide (c.i<(c.b.length:Int)) then(idx c.b c.i).bind λa=>II c (iU .and .i64 (aZ ((iU .and .i64 (iU .xor .i64 (qO .i64 (aZ ((aZ (c.h*6364136223846793005))+1442695040888963407)) 33) (qO .i64 (aZ ((aZ (c.h*6364136223846793005))+1442695040888963407)) 45)) 255)+(a.toNat:Int))) 255) (aZ (c.i+1)) else II c (iU .and .i64 (iU .xor .i64 (qO .i64 (aZ ((aZ (c.h*6364136223846793005))+1442695040888963407)) 33) (qO .i64 (aZ ((aZ (c.h*6364136223846793005))+1442695040888963407)) 45)) 255) c.i)
def gO(c:dW)(n:Int):=(if decide (n<=0) then some (0,(c.i,c.h)) else(if decide (n<=256) then(vF c).bind λf=>need (n≠0) (some (Int.tmod f.1 n,(f.2.1,f.2.2))) else(vF c).bind λe=>(vF (⟨c.b,e.2.1,e.2.2⟩:dW)).bind λd=>(vF (⟨c.b,d.2.1,d.2.2⟩:dW)).bind λb=>(vF (⟨c.b,b.2.1,b.2.2⟩:dW)).bind λa=>need (n≠0) (some (Int.tmod (aZ ((aZ ((aZ ((aZ (e.1*16777216))+(aZ (d.1*65536))))+(aZ (b.1*256))))+a.1)) n,(a.2.1,a.2.2)))))
def aCN(c:dW)(n:Int):=(gO c n).bind λa=>some (a.1 == 0,(a.2.1,a.2.2))
def oV(c:dW)(a:an):=(gO c (a.length:Int)).bind λb=>(idx a b.1).bind λd=>some (d,(b.2.1,b.2.2))
def IJ(e d:Int×(Int×Int))(c b a:Int):=some ((⟨e.1,d.1,a⟩:iK),(c,b))
def IK(c:dW)(e a:Int×(Int×Int))(f:Bool):=(if f then(gO (⟨c.b,a.2.1,a.2.2⟩:dW) 60000).bind λd=>(oV (⟨c.b,d.2.1,d.2.2⟩:dW) ([1,65535,d.1]:an)).bind λb=>IJ e a b.2.1 b.2.2 b.1 else IJ e a a.2.1 a.2.2 0)
def N8(c:dW):=(oV c ([1,1,2,2,3,4,4]:an)).bind λa=>(gO (⟨c.b,a.2.1,a.2.2⟩:dW) 6).bind λb=>(if a.1 == 2 then IK c a b true else IK c a b (a.1 == 4))
def aNP(c b:Int)(a:bc):=some ((⟨false,a⟩:Batch),(c,b))
def O4(d c b:Int)(a:bc):Option (Step (Int×Int×Int×bc) (Int×Int×bc)):=some (.next (aZ (d-1),c,b,a))
def aAY(c:dW):(Int×Int×Int×bc)->Option (Step (Int×Int×Int×bc) (Int×Int×bc))
 |(f,e,d,b)=>(if decide (0<f) then(N8 (⟨c.b,e,d⟩:dW)).bind λa=>need (b.length+([a.1]).length<=1073741824)<|O4 f a.2.1 a.2.2 (b++([a.1])) else some (.stop ((e,d,b))))
def aNQ:(Int×Int×bc)->Option (Batch×(Int×Int))
 |(c,b,a)=>aNP c b a
def QE(c:dW):=(aCN c 4).bind λa=>(if a.1 then some ((⟨true,[]⟩:Batch),(a.2.1,a.2.2)) else(gO (⟨c.b,a.2.1,a.2.2⟩:dW) 3).bind λb=>(loop (aAY c) (aZ (1+b.1),b.2.1,b.2.2,[])).bind (aNQ))
def aI4(c:ax)(b a:Int):=some (c,(b,a))
def UG(d:ax)(e c b:Int)(a:bm):Option (Step (ax×Int×Int×Int) (ax×Int×Int)):=need (d.length+([(⟨a⟩:aP)]).length<=1073741824) (some (.next (d++([(⟨a⟩:aP)]),aZ (e+1),c,b)))
def IL(d c b:Int)(a:bm):Option (Step (Int×Int×Int×bm) (Int×Int×bm)):=some (.next (aZ (d-1),c,b,a))
def UH(c:dW):(Int×Int×Int×bm)->Option (Step (Int×Int×Int×bm) (Int×Int×bm))
 |(f,e,d,b)=>(if decide (0<f) then(QE (⟨c.b,e,d⟩:dW)).bind λa=>need (b.length+([a.1]).length<=1073741824)<|IL f a.2.1 a.2.2 (b++([a.1])) else some (.stop ((e,d,b))))
def UI(e:ax)(d:Int):(Int×Int×bm)->Option (Step (ax×Int×Int×Int) (ax×Int×Int))
 |(c,b,a)=>UG e d c b a
def UJ(c:dW)(b:Int):(ax×Int×Int×Int)->Option (Step (ax×Int×Int×Int) (ax×Int×Int))
 |(g,f,e,d)=>(if decide (f<3) then(gO (⟨c.b,e,d⟩:dW) (aZ (b+1))).bind λa=>(loop (UH c) (a.1,a.2.1,a.2.2,[])).bind (UI g f) else some (.stop ((g,e,d))))
def aI5:(ax×Int×Int)->Option (ax×(Int×Int))
 |(c,b,a)=>aI4 c b a
def zW(c:dW)(a:Int):=(loop (UJ c a) (([]:ax),0,c.i,c.h)).bind (aI5)
def aLJ(c:an)(b a:Int):=some (c,(b,a))
def XT(c:Int)(a:Int×(Int×Int))(b:an):Option (Step (an×Int×Int×Int) (an×Int×Int)):=some (.next (b,aZ (c-1),a.2.1,a.2.2))
def XU(c:Int×(Int×Int)):(an×Int)->Option (Step (an×Int) an)
 |(a,b)=>(if decide (0<b) then need (a.length+([c.1]).length<=1073741824) (some (.next (a++([c.1]),aZ (b-1)))) else some (.stop (a)))
def XV(c:Int)(b:Int×(Int×Int)):an->Option (Step (an×Int×Int×Int) (an×Int×Int))
 |a=>XT c b a
def XW(c:dW):(an×Int×Int×Int)->Option (Step (an×Int×Int×Int) (an×Int×Int))
 |(g,f,e,d)=>(if decide (0<f) then(gO (⟨c.b,e,d⟩:dW) 3).bind λa=>(gO (⟨c.b,a.2.1,a.2.2⟩:dW) 8).bind λb=>(loop (XU a) (g,aZ (1+b.1))).bind (XV f b) else some (.stop ((g,e,d))))
def aLK:(an×Int×Int)->Option (an×(Int×Int))
 |(c,b,a)=>aLJ c b a
def MW(c:dW)(a:Int):=(gO c a).bind λb=>(loop (XW c) (([]:an),b.1,b.2.1,b.2.2)).bind (aLK)
def tG(e d c b a:Int):=some ((⟨c,b,a⟩:iK),(e,d))
def UK(c:dW):=(N8 c).bind λb=>(gO (⟨c.b,b.2.1,b.2.2⟩:dW) 14).bind λa=>(if a.1 == 0 then(oV (⟨c.b,a.2.1,a.2.2⟩:dW) ([0,5]:an)).bind λf=>tG f.2.1 f.2.2 f.1 b.1.Key b.1.dP else(if a.1 == 1 then(oV (⟨c.b,a.2.1,a.2.2⟩:dW) ([(-1),99,100]:an)).bind λe=>tG e.2.1 e.2.2 b.1.Kind e.1 b.1.dP else(if a.1 == 2 then(oV (⟨c.b,a.2.1,a.2.2⟩:dW) ([(-1),65536,1,0]:an)).bind λd=>tG d.2.1 d.2.2 b.1.Kind b.1.Key d.1 else tG a.2.1 a.2.2 b.1.Kind b.1.Key b.1.dP)))
def lT(c:ax)(b a:Int):=some (c,(b,a))
def R6(c:ax)(b a:Int):=lT c b a
def GN(a:ax)(e:Bool)(d c:Int):Option (Step (ax×Int×Int) (ax×Int×Int)):=(if e then(idx a 1).bind λb=>need (b.List.length+([(⟨true,[]⟩:Batch)]).length<=1073741824) (some (.next (a.set ((1:Int).toNat) (⟨b.List++([(⟨true,[]⟩:Batch)])⟩:aP),d,c))) else some (.stop ((a,d,c))))
def R7(c:dW):(ax×Int×Int)->Option (Step (ax×Int×Int) (ax×Int×Int))
 |(b,f,e)=>(idx b 1).bind λd=>(gO (⟨c.b,f,e⟩:dW) 2).bind λa=>GN b (decide ((d.List.length:Int)<(aZ (12+a.1)))) a.2.1 a.2.2
def aHI:(ax×Int×Int)->Option (ax×(Int×Int))
 |(c,b,a)=>R6 c b a
def GO(c:ax)(b a:Int):=lT c b a
def FB(c:dW):=
 (zW c 5).bind λb=>(gO (⟨c.b,b.2.1,b.2.2⟩:dW) 20).bind λa=>(if a.1 == 0 then need (0<=(2:Int)/\(2:Int)<=(b.1.length:Int)) (some ((b.1.take ((2:Int).toNat)).drop 0,(a.2.1,a.2.2))) else(if a.1 == 1 then(idx b.1 0).bind λf=>need (f.List.length+([(⟨false,[]⟩:Batch)]).length<=1073741824) (lT (b.1.set ((0:Int).toNat) (⟨f.List++([(⟨false,[]⟩:Batch)])⟩:aP)) a.2.1 a.2.2) else(if a.1 == 2 then(loop (R7 c) (b.1,a.2.1,a.2.2)).bind (aHI) else(if a.1 == 3 then(idx b.1 2).bind λe=>(UK (⟨c.b,a.2.1,a.2.2⟩:dW)).bind λd=>need (e.List.length+([(⟨false,[d.1]⟩:Batch)]).length<=1073741824)<|GO (b.1.set ((2:Int).toNat) (⟨e.List++([(⟨false,[d.1]⟩:Batch)])⟩:aP)) d.2.1 d.2.2 else lT b.1 a.2.1 a.2.2))))
def lP(b:ax)(a:an):=some (⟨b,a⟩:FA)
def vP(code:bh):=(ZD code).bind λd=>(zW (⟨code,d.1,d.2⟩:dW) 6).bind λc=>(MW (⟨code,c.2.1,c.2.2⟩:dW) 60).bind λa=>(gO (⟨code,a.2.1,a.2.2⟩:dW) 16).bind λb=>(if b.1 == 0 then(FB (⟨code,b.2.1,b.2.2⟩:dW)).bind λe=>lP e.1 a.1 else(if b.1 == 1 then need (a.1.length+([(-1),3,1]:an).length<=1073741824) (lP c.1 (a.1++([(-1),3,1]:an))) else lP c.1 a.1))
def QF(a:Bool):=some a
def bX(x b a:Int):=(if decide (b<=x) then QF (decide (x<=a)) else QF false)
def MX(c:iK)(b:Bool):=(if b then(bX c.dP 0 65535).bind λa=>some a else some (c.dP == 0))
def MY(c:iK)(a:Bool):=(if a then some false else(if c.Kind == 2 then MX c true else MX c (c.Kind == 4)))
def R8(c:iK):=(bX c.Kind 1 4).bind λb=>(if !b then MY c true else(bX c.Key 0 99).bind λa=>MY c (!a))
def aAZ(b:Batch):=(bX (b.bR.length:Int) 1 6).bind λa=>some a
def pX(b:Batch):Int->Option (Step Int (Out Unit Bool))
 |a=>(if decide (a<(b.bR.length:Int)) then(idx b.bR a).bind λd=>(R8 d).bind λc=>(if !c then some (.stop (Out.ret false)) else some (.next (aZ (a+1)))) else some (.stop (Out.brk ())))
def aA0(b:Batch):(Out Unit Bool)->aw
 |.brk ()=>aAZ b
 |.ret r=>some r
def IM(b:Batch):=(if b.Collect then some ((b.bR.length:Int) == 0) else(loop (pX b) 0).bind (aA0 b))
def aA1(todo:ax):=some ((todo.length:Int) == 3)
def aA2(a:Int):Option (Step Int (Out Unit Bool)):=some (.next (aZ (a+1)))
def pY(todo:ax)(b:Int):Int->Option (Step Int (Out Unit Bool))
 |a=>(idx todo b).bind λf=>(if decide (a<(f.List.length:Int)) then(idx todo b).bind λe=>(idx e.List a).bind λd=>(IM d).bind λc=>(if !c then some (.stop (Out.ret false)) else some (.next (aZ (a+1)))) else some (.stop (Out.brk ())))
def aA3(a:Int):(Out Unit Bool)->Option (Step Int (Out Unit Bool))
 |.brk ()=>aA2 a
 |.ret r=>some (.stop (Out.ret r))
def pZ(todo:ax):Int->Option (Step Int (Out Unit Bool))
 |a=>(if decide (a<(todo.length:Int)) then(idx todo a).bind λb=>(if decide (12<(b.List.length:Int)) then some (.stop (Out.ret false)) else(loop (pY todo a) 0).bind (aA3 a)) else some (.stop (Out.brk ())))
def aA4(todo:ax):(Out Unit Bool)->aw
 |.brk ()=>aA1 todo
 |.ret r=>some r
def IN(todo:ax):=(loop (pZ todo) 0).bind (aA4 todo)
def aNR(a:an):=some (⟨List.replicate ((384:Int).toNat) 0,a⟩:Heap)
def wY:(Int×an)->Option (Step (Int×an) an)
 |(b,a)=>(if decide (b<6) then need (a.length+([(-1)]).length<=1073741824) (some (.next (aZ (b+1),a++([(-1)])))) else some (.stop (a)))
def aNS:an->Option Heap
 |a=>aNR a
def QG:=need (0<=(384:Int)/\(384:Int)<=4294967296) ((loop (wY) (0,[])).bind (aNS))
def XX:=some (⟨List.replicate ((3:Int).toNat) (⟨[]⟩:bK),List.replicate ((9:Int).toNat) (⟨[]⟩:bK)⟩:aC)
def VY:=
 need (0<=(3:Int)/\(3:Int)<=4294967296)<|need (0<=(9:Int)/\(9:Int)<=4294967296)<|XX
def aCO:=(QG).bind λb=>(VY).bind λa=>some (⟨b,a⟩:Mem)
def VZ:=need (0<=(3:Int)/\(3:Int)<=4294967296) (some (⟨0,List.replicate ((3:Int).toNat) (⟨false,0,false,0⟩:zR)⟩:aD))
def V1:=need (0<=(3:Int)/\(3:Int)<=4294967296) (some (List.replicate ((3:Int).toNat) (⟨[]⟩:b7)))
def aCP:cr:=need (0<=(3:Int)/\(3:Int)<=4294967296) (some (List.replicate ((3:Int).toNat) 0))
def QH:Option aA:=(aCO).bind λd=>(VZ).bind λc=>(V1).bind λb=>(aCP).bind λa=>some (⟨d,c,b,a⟩:aA)
def ZE(l:bc):=need (([]:bc).length+l.length<=1073741824) (some (([]:bc)++l))
def MZ(b:Batch):=(ZE b.bR).bind λa=>some (⟨b.Collect,a⟩:Batch)
def aI6(a:ax):=some a
def UL(b:ax)(c:Int)(a:bm):Option (Step (ax×Int) ax):=need (b.length+([(⟨a⟩:aP)]).length<=1073741824) (some (.next (b++([(⟨a⟩:aP)]),aZ (c+1))))
def IP(b:Int)(a:bm):Option (Step (Int×bm) bm):=some (.next (aZ (b+1),a))
def IQ(l:ax)(g:Int):(Int×bm)->Option (Step (Int×bm) bm)
 |(f,e)=>(idx l g).bind λd=>(if decide (f<(d.List.length:Int)) then(idx l g).bind λc=>(idx c.List f).bind λb=>(MZ b).bind λa=>need (e.length+([a]).length<=1073741824)<|IP f (e++([a])) else some (.stop (e)))
def UM(c:ax)(b:Int):bm->Option (Step (ax×Int) ax)
 |a=>UL c b a
def IS(l:ax):(ax×Int)->Option (Step (ax×Int) ax)
 |(b,a)=>(if decide (a<(l.length:Int)) then(loop (IQ l a) (0,[])).bind (UM b a) else some (.stop (b)))
def aI7:ax->Option ax
 |a=>aI6 a
def IT(l:ax):=(loop (IS l) (([]:ax),0)).bind (aI7)
def XY(a:Table):=some ({a with Log:=[]}:Table)
def M0(todo:ax):=
 (IN todo).bind λc=>(if !c then some (⟨(⟨(⟨(⟨[],[]⟩:Heap),(⟨[],[]⟩:aC)⟩:Mem),(⟨0,[]⟩:aD),[],[]⟩:aA),[],[],[],[],0⟩:Table) else(QH).bind λb=>need (0<=(2:Int)/\(2:Int)<=4294967296)<|need (0<=(3:Int)/\(3:Int)<=4294967296)<|(IT todo).bind λa=>XY (⟨b,List.replicate ((2:Int).toNat) (⟨0,0,0⟩:bZ),List.replicate ((3:Int).toNat) (⟨false,(⟨false,[]⟩:Batch),0,0,0,0,0,0,0,0,(⟨0,0,0⟩:gL),false,0,(⟨0,0,0,0,0,0,0,0,0,false⟩:Sub),[],[],[],[],[],[]⟩:aK),a,[],0⟩:Table))
def UN(x:FA):=(M0 x.eE).bind λa=>some ((a.aR.length:Int) == 3)
def R9:=some (-1)
def oW(s:ax)(f:(aP->aw)):Int->Option (Step Int (Out Unit Int))
 |a=>(if decide (a<(s.length:Int)) then(idx s a).bind λc=>(f c).bind λb=>(if b then some (.stop (Out.ret a)) else some (.next (aZ (a+1)))) else some (.stop (Out.brk ())))
def zX:(Out Unit Int)->bu
 |.brk ()=>R9
 |.ret r=>some r
def HH(s:ax)(f:(aP->aw)):=(loop (oW s f) 0).bind (zX)
def kQ(s:ax)(f:(aP->aw)):=(HH s f).bind λa=>some (decide (0<=a))
def TY:=some (-1)
def pO(s:bm)(f:(Batch->aw)):Int->Option (Step Int (Out Unit Int))
 |a=>(if decide (a<(s.length:Int)) then(idx s a).bind λc=>(f c).bind λb=>(if b then some (.stop (Out.ret a)) else some (.next (aZ (a+1)))) else some (.stop (Out.brk ())))
def DB:(Out Unit Int)->bu
 |.brk ()=>TY
 |.ret r=>some r
def IU(s:bm)(f:(Batch->aw)):=(loop (pO s f) 0).bind (DB)
def pP(s:bm)(f:(Batch->aw)):=(IU s f).bind λa=>some (decide (0<=a))
def IV(a:Bool):=some a
def bV(n b a:Int):=(if decide (b<=n) then IV (decide (n<=a)) else IV false)
def XZ:=some (-1)
def tH(s:bc)(f:(iK->aw)):Int->Option (Step Int (Out Unit Int))
 |a=>(if decide (a<(s.length:Int)) then(idx s a).bind λc=>(f c).bind λb=>(if b then some (.stop (Out.ret a)) else some (.next (aZ (a+1)))) else some (.stop (Out.brk ())))
def HI:(Out Unit Int)->bu
 |.brk ()=>XZ
 |.ret r=>some r
def N9(s:bc)(f:(iK->aw)):=(loop (tH s f) 0).bind (HI)
def tI(s:bc)(f:(iK->aw)):=(N9 s f).bind λa=>some (decide (0<=a))
def oC(a:Bool):=some a
def rW(c:iK)(e:Bool):=(bV c.Kind 1 4).bind λd=>(if d then(bV c.Key 0 99).bind λb=>(if b then(if e then(bV c.dP 0 65535).bind λa=>(if a then oC true else oC (c.dP == 0)) else oC (c.dP == 0)) else oC false) else oC false)
def GP(c:iK):=(if c.Kind == 2 then rW c true else rW c (c.Kind == 4))
def SA(c:iK):=(GP c).bind λa=>some (!a)
def wZ(a:Bool):=some a
def IW(b:Batch):=(if b.Collect then some ((b.bR.length:Int) == 0) else(bV (b.bR.length:Int) 1 6).bind λd=>(if d then(tI b.bR (λa=>SA a)).bind λc=>wZ (!c) else wZ false))
def L6(b:Batch):=(IW b).bind λa=>some (!a)
def y8(a:Bool):=some a
def IX(q:aP):=(if decide (12<(q.List.length:Int)) then y8 true else(pP q.List (λa=>L6 a)).bind λb=>y8 b)
def FD(a:Bool):=some a
def IY(todo:ax):=(if(todo.length:Int) == 3 then(kQ todo (λa=>IX a)).bind λb=>FD (!b) else FD false)
def aA5(x y:Int):=some (IntKind.u64.wrap ((IntKind.u64.wrap ((IntKind.u64.wrap ((qO .u64 x 32)*(qO .u64 y 32)))+(qO .u64 (IntKind.u64.wrap ((IntKind.u64.wrap ((qO .u64 x 32)*(iU .and .u64 y 4294967295)))+(qO .u64 (IntKind.u64.wrap ((iU .and .u64 x 4294967295)*(iU .and .u64 y 4294967295))) 32))) 32)))+(qO .u64 (IntKind.u64.wrap ((iU .and .u64 (IntKind.u64.wrap ((IntKind.u64.wrap ((qO .u64 x 32)*(iU .and .u64 y 4294967295)))+(qO .u64 (IntKind.u64.wrap ((iU .and .u64 x 4294967295)*(iU .and .u64 y 4294967295))) 32))) 4294967295)+(IntKind.u64.wrap ((iU .and .u64 x 4294967295)*(qO .u64 y 32))))) 32)),IntKind.u64.wrap (x*y))
def V2(x y:Int):=(aA5 x y).bind λa=>some (a.1,a.2)
def aCQ(a:an):=some a
def mF:(an×Int)->Option (Step (an×Int) an)
 |(b,a)=>(if decide (a<(b.length:Int)) then need (0<=(a:Int)/\(a:Int)<=(b.length:Int)) (need (0<=(a:Int)/\(a:Int)<=(b.length:Int)) (some (.next (dF b a.toNat ((b.take a.toNat).drop 0),aZ (a+((min ((b.take a.toNat).drop 0).length (b.length-a.toNat):Nat):Int)))))) else some (.stop (b)))
def aCR:an->Option an
 |a=>aCQ a
def qR(x:an)(a:Int×Int)(b:Bool):=(if b then none else need (0<=(IntKind.i64.wrap a.2:Int)/\(IntKind.i64.wrap a.2:Int)<=4294967296) ((loop (mF) (dF (List.replicate ((IntKind.i64.wrap a.2).toNat) 0) 0 x,((min x.length ((List.replicate ((IntKind.i64.wrap a.2).toNat) 0:an).length-0):Nat):Int))).bind (aCR)))
def y9(x:an)(count:Int):=(if decide (count<0) then none else(V2 (IntKind.u64.wrap (x.length:Int)) (IntKind.u64.wrap count)).bind λa=>(if decide (0<a.1) then qR x a true else qR x a (decide (9223372036854775807<a.2))))
def aA6(a:an):=some (⟨List.replicate ((384:Int).toNat) 0,a⟩:Heap)
def QI:=
 need (0<=(384:Int)/\(384:Int)<=4294967296)<|(y9 ([(-1)]) 6).bind λa=>aA6 a
def X0:=some (⟨List.replicate ((3:Int).toNat) (⟨[]⟩:bK),List.replicate ((9:Int).toNat) (⟨[]⟩:bK)⟩:aC)
def V3:=
 need (0<=(3:Int)/\(3:Int)<=4294967296)<|need (0<=(9:Int)/\(9:Int)<=4294967296)<|X0
def aCS:=(QI).bind λb=>(V3).bind λa=>some (⟨b,a⟩:Mem)
def V4:=need (0<=(3:Int)/\(3:Int)<=4294967296) (some (⟨0,List.replicate ((3:Int).toNat) (⟨false,0,false,0⟩:zR)⟩:aD))
def V5:=need (0<=(3:Int)/\(3:Int)<=4294967296) (some (List.replicate ((3:Int).toNat) (⟨[]⟩:b7)))
def aCT:cr:=need (0<=(3:Int)/\(3:Int)<=4294967296) (some (List.replicate ((3:Int).toNat) 0))
def QJ:Option aA:=(aCS).bind λd=>(V4).bind λc=>(V5).bind λb=>(aCT).bind λa=>some (⟨d,c,b,a⟩:aA)
def lU(s:bc):=need (([]:bc).length+s.length<=1073741824) (some (([]:bc)++s))
def zY(b:Batch):=(lU b.bR).bind λa=>some (⟨b.Collect,a⟩:Batch)
def aI8(a:ax):=some a
def UO(b:ax)(c:Int)(a:bm):Option (Step (ax×Int) ax):=need (b.length+([(⟨a⟩:aP)]).length<=1073741824) (some (.next (b++([(⟨a⟩:aP)]),aZ (c+1))))
def IZ(b:Int)(a:bm):Option (Step (Int×bm) bm):=some (.next (aZ (b+1),a))
def I0(e:aP):(Int×bm)->Option (Step (Int×bm) bm)
 |(d,a)=>(if decide (d<(e.List.length:Int)) then(idx e.List d).bind λc=>(zY c).bind λb=>need (a.length+([b]).length<=1073741824)<|IZ d (a++([b])) else some (.stop (a)))
def UP(c:ax)(b:Int):bm->Option (Step (ax×Int) ax)
 |a=>UO c b a
def I1(todo:ax):(ax×Int)->Option (Step (ax×Int) ax)
 |(b,a)=>(if decide (a<(todo.length:Int)) then(idx todo a).bind λc=>(loop (I0 c) (0,[])).bind (UP b a) else some (.stop (b)))
def aI9:ax->Option ax
 |a=>aI8 a
def zZ(todo:ax):=(loop (I1 todo) (([]:ax),0)).bind (aI9)
def X2(a:Table):=some ({a with Log:=[]}:Table)
def M1(todo:ax):=
 (IY todo).bind λc=>(if !c then some (⟨(⟨(⟨(⟨[],[]⟩:Heap),(⟨[],[]⟩:aC)⟩:Mem),(⟨0,[]⟩:aD),[],[]⟩:aA),[],[],[],[],0⟩:Table) else(QJ).bind λb=>need (0<=(2:Int)/\(2:Int)<=4294967296)<|need (0<=(3:Int)/\(3:Int)<=4294967296)<|(zZ todo).bind λa=>X2 (⟨b,List.replicate ((2:Int).toNat) (⟨0,0,0⟩:bZ),List.replicate ((3:Int).toNat) (⟨false,(⟨false,[]⟩:Batch),0,0,0,0,0,0,0,0,(⟨0,0,0⟩:gL),false,0,(⟨0,0,0,0,0,0,0,0,0,false⟩:Sub),[],[],[],[],[],[]⟩:aK),a,[],0⟩:Table))
def iF(b:Int):=(bV b 0 2).bind λa=>some a
def PZ(s:bm)(i j:Int):=need (0<=i/\i<=j/\j<=(s.length:Int)) (some (s.take i.toNat++s.drop j.toNat))
def mG(a b:Int):=some (⟨a,b,0,0,0,0,0,0,0,false⟩:Sub)
def DH(t:Table)(b:Int)(e:aP)(d:Batch)(a:aK)(c:a7):=some (⟨t.aA,t.aT,t.aR.set b.toNat ({a with Batch:=(⟨a.Batch.Collect,d.bR⟩:Batch),Reads:=[],aH:=[],eX:=[],gN:=[],bH:=[],cK:=[]}:aK),t.eE.set b.toNat (⟨e.List.drop 1⟩:aP),c,aZ (t.aG+1)⟩:Table)
def nG(t:Table)(a:Int)(e:aP)(d:Batch)(b:aK):=
 (idx t.aR a).bind λf=>(lU d.bR).bind λc=>need (t.Log.length+([(⟨1,a,b.aG,0,c,[]⟩:iO)]).length<=1073741824)<|DH t a e d b (t.Log++([(⟨1,a,b.aG,0,c,[]⟩:iO)]))
def DI(t:Table)(e:Int)(d:aP)(a:Batch)(b:aK):=(if a.Collect then(mG 3 0).bind λc=>nG t e d a ({b with Batch:=(⟨b.Batch.Collect,a.bR⟩:Batch),Pc:=20,Sub:=c,Reads:=[],aH:=[],eX:=[],gN:=[],bH:=[],cK:=[]}:aK) else nG t e d a ({b with Batch:=(⟨b.Batch.Collect,a.bR⟩:Batch),Reads:=[],aH:=[],eX:=[],gN:=[],bH:=[],cK:=[]}:aK))
def nH(t:Table)(d:Int)(e:Bool):=(if e then some t else(idx t.eE d).bind λb=>(idx b.List 0).bind λc=>(PZ b.List 0 1).bind λf=>(mG 5 0).bind λa=>DI t d b c (⟨true,c,aZ (t.aG+1),0,0,0,0,0,0,0,(⟨0,0,0⟩:gL),false,0,a,[],[],[],[],[],[]⟩:aK))
def B5(t:Table)(b:Int):=(idx t.eE b).bind λa=>(if(a.List.length:Int) == 0 then nH t b true else nH t b (t.aG == 1000000))
def bP(s:Sub)(code:Int):=some ({s with Code:=code,iE:=true}:Sub)
def l9(c:Int):=(bV c 0 2).bind λa=>some a
def HJ(c:Int):=(l9 c).bind λb=>(if !b then some 0 else(idx ([8,16,40]:an) c).bind λa=>some a)
def aNT:=some (-1)
def FE(a:Int)(b:Bool):Option (Step Int (Out Unit Int)):=(if b then some (.stop (Out.ret a)) else some (.next (aZ (a+1))))
def lC(size:Int):Int->Option (Step Int (Out Unit Int))
 |a=>(if decide (a<3) then(if decide (1<=size) then(HJ a).bind λb=>FE a (decide (size<=b)) else FE a false) else some (.stop (Out.brk ())))
def aNU:(Out Unit Int)->bu
 |.brk ()=>aNT
 |.ret r=>some r
def QK(size:Int):=(loop (lC size) 0).bind (aNU)
def gT(s:an):=need (([]:an).length+s.length<=1073741824) (some (([]:an)++s))
def aJA(b a:bf):=some (⟨b,a⟩:aC)
def I2(b:Int)(a:bf):Option (Step (Int×bf) bf):=some (.next (aZ (b+1),a))
def I3(l:aC):(Int×bf)->Option (Step (Int×bf) bf)
 |(d,c)=>(if decide (d<(l.Own.length:Int)) then(idx l.Own d).bind λb=>(gT b.aW).bind λa=>need (c.length+([(⟨a⟩:bK)]).length<=1073741824)<|I2 d (c++([(⟨a⟩:bK)])) else some (.stop (c)))
def aJB(b:bf):bf->Option aC
 |a=>aJA b a
def UQ(l:aC)(a:bf):=(loop (I3 l) (0,[])).bind (aJB a)
def I4(b:Int)(a:bf):Option (Step (Int×bf) bf):=some (.next (aZ (b+1),a))
def I5(l:aC):(Int×bf)->Option (Step (Int×bf) bf)
 |(d,c)=>(if decide (d<(l.Global.length:Int)) then(idx l.Global d).bind λb=>(gT b.aW).bind λa=>need (c.length+([(⟨a⟩:bK)]).length<=1073741824)<|I4 d (c++([(⟨a⟩:bK)])) else some (.stop (c)))
def UR(l:aC):bf->Option aC
 |a=>UQ l a
def jR(l:aC):=(loop (I5 l) (0,[])).bind (UR l)
def vG(a:Int):=(bV a 0 23).bind λb=>some b
def ZF(a:cg):=some a
def nU(a:List cg):(cg×Int)->Option (Step (cg×Int) cg)
 |(d,b)=>(if decide (b<(a.length:Int)) then(idx a b).bind λc=>need (d.length+c.length<=1073741824) (some (.next (d++c,aZ (b+1)))) else some (.stop (d)))
def ZG:cg->Option cg
 |a=>ZF a
def I6(a:List cg)(c:Int):=(a8S Raw c).bind λb=>(loop (nU a) (b,0)).bind (ZG)
def kR(a:List cg):(Int×Int)->Option (Step (Int×Int) Int)
 |(d,c)=>(if decide (c<(a.length:Int)) then(idx a c).bind λb=>(if decide ((aZ (d+(b.length:Int)))<0) then none else some (.next (aZ (d+(b.length:Int)),aZ (c+1)))) else some (.stop (d)))
def I7(a:List cg):Int->Option cg
 |b=>I6 a b
def DJ(a:List cg):=(loop (kR a) (0,0)).bind (I7 a)
def aNV:=some true
def aA7(b:Int)(a:aF):Option (Step (Int×aF) (Out Unit Bool)):=some (.next (aZ (b+1),a))
def xA(d:Int)(b:aF)(a:Int)(c:Bool):Option (Step (Int×aF) (Out aF Bool)):=(if c then some (.stop (Out.ret false)) else need (0<=(a:Int)/\(a:Int)<24) ((idx (b:aF) a).bind λe=>some (.next (aZ (d+1),b.set (a.toNat) true))))
def xB(f:bK):(Int×aF)->Option (Step (Int×aF) (Out aF Bool))
 |(c,b)=>(if decide (c<(f.aW.length:Int)) then(idx f.aW c).bind λa=>(vG a).bind λe=>(if !e then xA c b a true else need (0<=(a:Int)/\(a:Int)<24) ((idx (b:aF) a).bind λd=>xA c b a d)) else some (.stop (Out.brk b)))
def aA8(b:Int):(Out aF Bool)->Option (Step (Int×aF) (Out Unit Bool))
 |.brk a=>aA7 b a
 |.ret r=>some (.stop (Out.ret r))
def qA(d:Int)(c:aF)(b:bK)(a:Bool):=(if a then some (.stop (Out.ret false)) else(loop (xB b) (0,c)).bind (aA8 d))
def xC(l:aC):(Int×aF)->Option (Step (Int×aF) (Out Unit Bool))
 |(a,c)=>(if decide (a<((l.Own++l.Global).length:Int)) then(idx (l.Own++l.Global) a).bind λb=>(if decide (a<(l.Own.length:Int)) then qA a c b (decide (2<(b.aW.length:Int))) else qA a c b false) else some (.stop (Out.brk ())))
def aNW:(Out Unit Bool)->aw
 |.brk ()=>aNV
 |.ret r=>some r
def FF(l:aC)(a:Bool):=(if a then some false else need (l.Own.length+l.Global.length<=1073741824) ((loop (xC l) (0,List.replicate 24 false)).bind (aNW)))
def qS(l:aC):=(if(l.Global.length:Int) != 3 then FF l true else FF l ((l.Own.length:Int) != 9))
def M3(b c:Int)(a:Bool):=(if a then some (-1) else some (aZ ((aZ (b*3))+c)))
def SB(a c:Int):=(iF a).bind λd=>(if !d then M3 a c true else(l9 c).bind λb=>M3 a c (!b))
def z6(s:bK):=(if decide ((aZ ((s.aW.length:Int)-1))<0) then some ((-1),s) else(idx s.aW (aZ ((s.aW.length:Int)-1))).bind λa=>need (0<=(aZ ((s.aW.length:Int)-1):Int)/\(aZ ((s.aW.length:Int)-1):Int)<=(aZ ((s.aW.length:Int)-1):Int)/\(aZ ((s.aW.length:Int)-1):Int)<=(s.aW.length:Int)) (some (a,(⟨(s.aW.take ((aZ ((s.aW.length:Int)-1)).toNat)).drop 0⟩:bK))))
def FG(a:aC)(c:Int)(e:Bool):=(if e then some (a,(-1)) else(idx a.Own c).bind λd=>(z6 d).bind λb=>some ((⟨a.Global,a.Own.set c.toNat b.2⟩:aC),b.1))
def QL(l:aC)(e c:Int):=(jR l).bind λb=>(SB e c).bind λa=>(qS l).bind λd=>(if !d then FG b a true else FG b a (decide (a<0)))
def vQ(c:Int)(a:aC)(e:Bool):=(if e then some (a,(-1)) else(idx a.Global c).bind λd=>(z6 d).bind λb=>some ((⟨a.Global.set c.toNat b.2,a.Own⟩:aC),b.1))
def FH(l:aC)(c:Int):=(jR l).bind λa=>(qS l).bind λd=>(if !d then vQ c a true else(l9 c).bind λb=>vQ c a (!b))
def P0:=some (-1)
def fO(s:an)(v:Int):Int->Option (Step Int (Out Unit Int))
 |a=>(if decide (a<(s.length:Int)) then(idx s a).bind λb=>(if v == b then some (.stop (Out.ret a)) else some (.next (aZ (a+1)))) else some (.stop (Out.brk ())))
def DK:(Out Unit Int)->bu
 |.brk ()=>P0
 |.ret r=>some r
def oJ(s:an)(v:Int):=(loop (fO s v) 0).bind (DK)
def SC(b a:an):=need (a.length=b.length) (some a)
def mH(b:an)(at_:Int)(a:bh):(an×Int)->Option (Step (an×Int) an)
 |(d,c)=>need (d.length=b.length) ((if decide (c<(a.length:Int)) then(idx a c).bind λe=>(idx d (aZ (at_+c))).bind λf=>some (.next (d.set ((aZ (at_+c)).toNat) (e.toNat:Int),aZ (c+1))) else some (.stop (d))))
def SD(b:an):an->Option an
 |a=>SC b a
def oD(b:an)(at_:Int)(a:bh):=(loop (mH b at_ a) (b,0)).bind (SD b)
def B6(a:Int):=(bV a 1 7).bind λb=>some b
def aWD(a:bh):=some a
def rX:(Int×bh×Int)->Option (Step (Int×bh×Int) bh)
 |(c,b,a)=>(if decide (0<=a) then(idx b a).bind λd=>some (.next (qO .i64 c 8,b.set a.toNat (u8 c),aZ (a-1))) else some (.stop (b)))
def aWE:bh->Option bh
 |a=>aWD a
def yH(n a:Int)(b:Bool):=(if b then some ([]) else need (0<=(a:Int)/\(a:Int)<=4294967296) ((loop (rX) (n,List.replicate (a.toNat) 0,aZ (a-1))).bind (aWE)))
def m7(n a:Int):=(B6 a).bind λb=>(if !b then yH n a true else(if decide (n<0) then yH n a true else need (0<=(IntKind.u64.wrap (aZ (8*a)):Int)) (yH n a (decide ((aRC .i64 1 (IntKind.u64.wrap (aZ (8*a))))<=n)))))
def yI(h:Heap):=(gT h.Bytes).bind λb=>(gT h.Class).bind λa=>some (⟨b,a⟩:Heap)
def HK:=some (-1)
def gU(s:an)(f:(Int->aw)):Int->Option (Step Int (Out Unit Int))
 |a=>(if decide (a<(s.length:Int)) then(idx s a).bind λc=>(f c).bind λb=>(if b then some (.stop (Out.ret a)) else some (.next (aZ (a+1)))) else some (.stop (Out.brk ())))
def tJ:(Out Unit Int)->bu
 |.brk ()=>HK
 |.ret r=>some r
def iW(s:an)(f:(Int->aw)):=(loop (gU s f) 0).bind (tJ)
def dQ(s:an)(f:(Int->aw)):=(iW s f).bind λa=>some (decide (0<=a))
def aCU(x:Int):=(bV x 0 255).bind λa=>some a
def I8(x:Int):=(aCU x).bind λa=>some (!a)
def FI(a:Bool):=some a
def QM(b:an):=(if decide ((b.length:Int)<=1000) then(dQ b (λa=>I8 a)).bind λc=>FI (!c) else FI false)
def M4(c:Int):=(bV c (-1) 2).bind λa=>some (!a)
def tK(a:Bool):=some a
def OA(h:Heap):=(if(h.Bytes.length:Int) == 384 then(QM h.Bytes).bind λc=>(if c then(if(h.Class.length:Int) == 6 then(dQ h.Class (λa=>M4 a)).bind λb=>tK (!b) else tK false) else tK false) else tK false)
def aNX(a:Int):=some a
def xD(b:an)(at_ a:Int):(Int×Int)->Option (Step (Int×Int) Int)
 |(d,c)=>(if decide (c<(((b.take ((aZ (at_+a)).toNat)).drop at_.toNat).length:Int)) then(idx ((b.take ((aZ (at_+a)).toNat)).drop at_.toNat) c).bind λe=>some (.next (aZ ((aZ (256*d))+e),aZ (c+1))) else some (.stop (d)))
def aNY:Int->bu
 |a=>aNX a
def qT(b:an)(at_ a:Int):=need (0<=(at_:Int)/\(at_:Int)<=(aZ (at_+a):Int)/\(aZ (at_+a):Int)<=(b.length:Int)) ((loop (xD b at_ a) (0,0)).bind (aNY))
def yJ(c:Int):=(l9 c).bind λb=>(if !b then some 0 else(HJ c).bind λa=>some (aZ (4+a)))
def qU(c:Int):=(l9 c).bind λb=>(if !b then some 0 else(yJ c).bind λa=>need (a≠0) (some (aZ (Int.tdiv 56 a))))
def M5(x:Int):=some (x != 0)
def OB(b:an):=(dQ b (λa=>M5 a)).bind λc=>some (!c)
def aR3:=some true
def tL(h:Heap)(a g f:Int):Int->Option (Step Int (Out Unit Bool))
 |b=>(if decide (b<f) then(yJ g).bind λe=>(qT ((h.Bytes.take ((aZ ((aZ (a+1))*64)).toNat)).drop ((aZ (a*64)).toNat)) (aZ (8+(aZ (b*e)))) 4).bind λd=>(bV d 1 7).bind λc=>(if !c then some (.stop (Out.ret false)) else some (.next (aZ (b+1)))) else some (.stop (Out.brk ())))
def aR4:(Out Unit Bool)->aw
 |.brk ()=>aR3
 |.ret r=>some r
def kS(h:Heap)(a b:Int)(d:Bool):=(if d then some false else(qU b).bind λc=>(loop (tL h a b c) 0).bind (aR4))
def US(h:Heap)(a:Int):=(idx h.Class a).bind λb=>need (0<=(aZ (a*64):Int)/\(aZ (a*64):Int)<=(aZ ((aZ (a+1))*64):Int)/\(aZ ((aZ (a+1))*64):Int)<=(h.Bytes.length:Int)) ((if decide (b<0) then(OB ((h.Bytes.take ((aZ ((aZ (a+1))*64)).toNat)).drop ((aZ (a*64)).toNat))).bind λi=>some i else(idx ((h.Bytes.take ((aZ ((aZ (a+1))*64)).toNat)).drop ((aZ (a*64)).toNat)) 0).bind λg=>(if g != 171 then kS h a b true else(idx ((h.Bytes.take ((aZ ((aZ (a+1))*64)).toNat)).drop ((aZ (a*64)).toNat)) 1).bind λf=>(if f != b then kS h a b true else(idx ((h.Bytes.take ((aZ ((aZ (a+1))*64)).toNat)).drop ((aZ (a*64)).toNat)) 2).bind λe=>(qU b).bind λd=>(if e != d then kS h a b true else need (0<=(3:Int)/\(3:Int)<=(8:Int)/\(8:Int)<=(((h.Bytes.take ((aZ ((aZ (a+1))*64)).toNat)).drop ((aZ (a*64)).toNat)).length:Int)) ((OB ((((h.Bytes.take ((aZ ((aZ (a+1))*64)).toNat)).drop ((aZ (a*64)).toNat)).take ((8:Int).toNat)).drop ((3:Int).toNat))).bind λc=>kS h a b (!c)))))))
def aR5:=some true
def z7(h:Heap):Int->Option (Step Int (Out Unit Bool))
 |a=>(if decide (a<6) then(US h a).bind λb=>(if !b then some (.stop (Out.ret false)) else some (.next (aZ (a+1)))) else some (.stop (Out.brk ())))
def aR6:(Out Unit Bool)->aw
 |.brk ()=>aR5
 |.ret r=>some r
def OC(h:Heap):=(OA h).bind λa=>(if !a then some false else(loop (z7 h) 0).bind (aR6))
def D4(a c:Int)(d:Bool):=(if d then some (-1) else(yJ c).bind λb=>some (aZ ((aZ ((aZ ((aZ (Int.tdiv a 4))*64))+8))+(aZ ((Int.tmod a 4)*b)))))
def z8(a c:Int):=(vG a).bind λe=>(if !e then D4 a c true else(l9 c).bind λd=>(if !d then D4 a c true else(qU c).bind λb=>D4 a c (decide (b<=(Int.tmod a 4)))))
def I9(b a:Int)(c:Bool):=(if c then some (-1) else some (aZ ((aZ (b*4))+a)))
def UT(b a:Int):=(bV b 0 5).bind λd=>(if !d then I9 b a true else(bV a 0 3).bind λc=>I9 b a (!c))
def aWF(c:Int)(e:Heap)(d:Int)(b a:an):=some ((⟨a,e.Class.set d.toNat c⟩:Heap),b)
def V6(b:an)(d a:Int)(c:an):Option (Step (an×Int×an) (an×an)):=need (b.length+([a]).length<=1073741824) (some (.next (b++([a]),aZ (d+1),c)))
def M6(c j i:Int):(an×Int×an)->Option (Step (an×Int×an) (an×an))
 |(e,a,d)=>(if decide (a<i) then(UT j a).bind λb=>(z8 b c).bind λh=>(m7 1 4).bind λg=>(oD d h g).bind λf=>V6 e a b f else some (.stop ((e,d))))
def aWG(c:Int)(e:Heap)(d:Int):(an×an)->Option (Heap×an)
 |(b,a)=>aWF c e d b a
def V7(c:Int)(e:Heap)(a:Int)(d:an):=(qU c).bind λb=>(loop (M6 c a b) (([]:an),0,d)).bind (aWG c e a)
def D5(c:Int)(b:Heap)(a:Int)(e:Bool):=
 (if e then some (b,([]:an)) else(idx b.Class a).bind λf=>need (0<=(aZ (a*64):Int)/\(aZ (a*64):Int)<=(b.Bytes.length:Int))<|(qU c).bind λd=>V7 c b a (dF b.Bytes ((aZ (a*64)).toNat) ([171,c,d]:an)))
def L7(h:Heap)(c:Int):=(yI h).bind λe=>(oJ h.Class (-1)).bind λa=>(OC h).bind λd=>(if !d then D5 c e a true else(l9 c).bind λb=>(if !b then D5 c e a true else D5 c e a (decide (a<0))))
def O5(b:Int)(a:Mem):=some (a,b)
def O6(c:Int)(a:Heap×an)(b:Mem):=(if(a.2.length:Int) == 0 then some (b,(-1)) else(idx b.aC.Global c).bind λd=>need (0<=(1:Int)/\(1:Int)<=(a.2.length:Int)) (need (d.aW.length+((a.2.take a.2.length).drop ((1:Int).toNat)).length<=1073741824) ((idx a.2 0).bind λe=>O5 e (⟨b.Heap,(⟨b.aC.Global.set c.toNat (⟨d.aW++((a.2.take a.2.length).drop ((1:Int).toNat))⟩:bK),b.aC.Own⟩:aC)⟩:Mem))))
def QN(m:Mem)(c:Int):=(L7 m.Heap c).bind λa=>(jR m.aC).bind λb=>O6 c a (⟨a.1,b⟩:Mem)
def FJ(h:Heap)(a:Int)(c:Bool):=(if c then some (-1) else(idx h.Class (aZ (Int.tdiv a 4))).bind λb=>some b)
def mA(h:Heap)(a:Int):=(vG a).bind λd=>(if !d then FJ h a true else(idx h.Class (aZ (Int.tdiv a 4))).bind λc=>(z8 a c).bind λb=>FJ h a (decide (b<0)))
def JA(h:Heap)(a:Int):=(OA h).bind λc=>(if !c then some (-1) else(mA h a).bind λb=>some b)
def GQ(h:Heap)(a:Int):=(JA h a).bind λb=>(if decide (b<0) then some 0 else(z8 a b).bind λd=>(qT h.Bytes d 4).bind λc=>some c)
def B7(a gen:Int)(b:Bool):=(if b then some 0 else some (aZ ((aZ (gen*32))+a)))
def V8(a gen:Int):=(vG a).bind λc=>(if !c then B7 a gen true else(bV gen 1 6).bind λb=>B7 a gen (!b))
def M7(m:Mem)(a:Int):=(GQ m.Heap a).bind λc=>(V8 a c).bind λb=>some b
def jP(s:Sub)(b:Int)(a:aA):=(if decide (0<=b) then(M7 a.Mem b).bind λe=>(bP ({s with Out:=e}:Sub) 0).bind λd=>some (d,a) else(if s.Pc == 3 then(bP s 3).bind λc=>some (c,a) else some (({s with Pc:=aZ (s.Pc+1)}:Sub),a)))
def pG(s:Sub)(b:aA)(e:Int)(f:Bool):=(if f then(FH b.Mem.aC e).bind λc=>jP s c.2 ({b with Mem:=(⟨b.Mem.Heap,c.1⟩:Mem)}:aA) else(if s.Pc == 2 then(QN b.Mem e).bind λa=>jP s a.2 ({b with Mem:=a.1}:aA) else(bP s 1).bind λd=>some (d,b)))
def vR(s:Sub)(b:aA)(e:Int):=(QK s.A).bind λa=>(if decide (a<0) then(bP s 2).bind λd=>some (d,b) else(if s.Pc == 0 then(QL b.Mem.aC e a).bind λc=>jP s c.2 ({b with Mem:=(⟨b.Mem.Heap,c.1⟩:Mem)}:aA) else(if s.Pc == 1 then pG s b a true else pG s b a (s.Pc == 3))))
def DC:=some (-1)
def lL(s:bn)(f:(b7->aw)):Int->Option (Step Int (Out Unit Int))
 |a=>(if decide (a<(s.length:Int)) then(idx s a).bind λc=>(f c).bind λb=>(if b then some (.stop (Out.ret a)) else some (.next (aZ (a+1)))) else some (.stop (Out.brk ())))
def DD:(Out Unit Int)->bu
 |.brk ()=>DC
 |.ret r=>some r
def vS(s:bn)(f:(b7->aw)):=(loop (lL s f) 0).bind (DD)
def jJ(s:bn)(f:(b7->aw)):=(vS s f).bind λa=>some (decide (0<=a))
def D6:=some (-1)
def mB(s:bo)(f:(eR->aw)):Int->Option (Step Int (Out Unit Int))
 |a=>(if decide (a<(s.length:Int)) then(idx s a).bind λc=>(f c).bind λb=>(if b then some (.stop (Out.ret a)) else some (.next (aZ (a+1)))) else some (.stop (Out.brk ())))
def D7:(Out Unit Int)->bu
 |.brk ()=>D6
 |.ret r=>some r
def yX(s:bo)(f:(eR->aw)):=(loop (mB s f) 0).bind (D7)
def jS(s:bo)(f:(eR->aw)):=(yX s f).bind λa=>some (decide (0<=a))
def B8(a:Bool):=some a
def jC(h:Int):=(bV h 32 223).bind λa=>(if a then B8 (decide ((Int.tmod h 32)<24)) else B8 false)
def sP(a:Bool):=some a
def tM(a:eR)(c:Int):=(jC a.Handle).bind λb=>(if b then sP ((Int.tmod a.Handle 32) == c) else sP false)
def JC(own:b7)(c:Int):=(jS own.Rows (λa=>tM a c)).bind λb=>some b
def JD(l:bn)(a:Int):=(jJ l (λb=>JC b a)).bind λc=>some c
def iL(s:an)(v:Int):=(oJ s v).bind λa=>some (decide (0<=a))
def rY(s:bK)(b:Int):=(iL s.aW b).bind λa=>some a
def DE:=some (-1)
def lM(s:bf)(f:(bK->aw)):Int->Option (Step Int (Out Unit Int))
 |a=>(if decide (a<(s.length:Int)) then(idx s a).bind λc=>(f c).bind λb=>(if b then some (.stop (Out.ret a)) else some (.next (aZ (a+1)))) else some (.stop (Out.brk ())))
def DF:(Out Unit Int)->bu
 |.brk ()=>DE
 |.ret r=>some r
def vT(s:bf)(f:(bK->aw)):=(loop (lM s f) 0).bind (DF)
def jK(s:bf)(f:(bK->aw)):=(vT s f).bind λa=>some (decide (0<=a))
def JE(a:Bool):=some a
def OD(l:aC)(a:Int):=(jK l.Global (λb=>rY b a)).bind λd=>(if d then JE true else(jK l.Own (λb=>rY b a)).bind λc=>JE c)
def QO(m:Mem)(a:Int):bu:=(mA m.Heap a).bind λd=>(if decide (d<0) then some 0 else(OD m.aC a).bind λc=>(if c then some 1 else(GQ m.Heap a).bind λb=>(if decide (6<b) then some 2 else some 3)))
def AA(a:Bool):=some a
def AB(m:Mem)(h:Int):=(jC h).bind λc=>(if c then(QO m (Int.tmod h 32)).bind λb=>(if b == 3 then(GQ m.Heap (Int.tmod h 32)).bind λa=>AA (a == (aZ (Int.tdiv h 32))) else AA false) else AA false)
def zA(s:bo):=need (([]:bo).length+s.length<=1073741824) (some (([]:bo)++s))
def aJC(a:bn):=some a
def JF(l:bn):(bn×Int)->Option (Step (bn×Int) bn)
 |(b,a)=>(if decide (a<(l.length:Int)) then(idx l a).bind λd=>(zA d.Rows).bind λc=>need (b.length+([(⟨c⟩:b7)]).length<=1073741824) (some (.next (b++([(⟨c⟩:b7)]),aZ (a+1)))) else some (.stop (b)))
def aJD:bn->Option bn
 |a=>aJC a
def mI(l:bn):=(loop (JF l) (([]:bn),0)).bind (aJD)
def aJE(a:Int):=some a
def qV(l:bn):(Int×Int)->Option (Step (Int×Int) Int)
 |(b,a)=>(if decide (a<(l.length:Int)) then(idx l a).bind λc=>some (.next (aZ (b+(c.Rows.length:Int)),aZ (a+1))) else some (.stop (b)))
def aJF:Int->bu
 |a=>aJE a
def JG(l:bn):=(loop (qV l) (0,0)).bind (aJF)
def aA9(l:bn):=(JG l).bind λa=>some (decide (a<=24))
def aBA(b:Int)(a:aF):Option (Step (Int×aF) (Out Unit Bool)):=some (.next (aZ (b+1),a))
def m8(e:Int)(b:aF)(a:eR)(c:Bool):Option (Step (Int×aF) (Out aF Bool)):=(if c then some (.stop (Out.ret false)) else need (0<=(Int.tmod a.Handle 32:Int)/\(Int.tmod a.Handle 32:Int)<24) ((idx (b:aF) (Int.tmod a.Handle 32)).bind λd=>some (.next (aZ (e+1),b.set ((Int.tmod a.Handle 32).toNat) true))))
def xE(g:b7):(Int×aF)->Option (Step (Int×aF) (Out aF Bool))
 |(c,b)=>(if decide (c<(g.Rows.length:Int)) then(idx g.Rows c).bind λa=>(jC a.Handle).bind λf=>(if !f then m8 c b a true else(bV a.aL 0 100000).bind λe=>(if !e then m8 c b a true else need (0<=(Int.tmod a.Handle 32:Int)/\(Int.tmod a.Handle 32:Int)<24) ((idx (b:aF) (Int.tmod a.Handle 32)).bind λd=>m8 c b a d))) else some (.stop (Out.brk b)))
def aBB(b:Int):(Out aF Bool)->Option (Step (Int×aF) (Out Unit Bool))
 |.brk a=>aBA b a
 |.ret r=>some (.stop (Out.ret r))
def xF(l:bn):(Int×aF)->Option (Step (Int×aF) (Out Unit Bool))
 |(a,c)=>(if decide (a<(l.length:Int)) then(idx l a).bind λb=>(loop (xE b) (0,c)).bind (aBB a) else some (.stop (Out.brk ())))
def aBC(l:bn):(Out Unit Bool)->aw
 |.brk ()=>aA9 l
 |.ret r=>some r
def vU(l:bn):=(if(l.length:Int) != 3 then some false else(loop (xF l) (0,List.replicate 24 false)).bind (aBC l))
def B9(l:bn)(c h d:Int)(i:Bool):=(if i then(mI l).bind λg=>some (g,false) else(mI l).bind λb=>(idx b c).bind λa=>need (a.Rows.length+([(⟨h,d⟩:eR)]).length<=1073741824) ((vU (b.set c.toNat (⟨a.Rows++([(⟨h,d⟩:eR)])⟩:b7))).bind λf=>(if !f then(mI l).bind λe=>some (e,false) else some (b.set c.toNat (⟨a.Rows++([(⟨h,d⟩:eR)])⟩:b7),true))))
def M8(l:bn)(a h b:Int):=(vU l).bind λd=>(if !d then B9 l a h b true else(iF a).bind λc=>B9 l a h b (!c))
def nV(s:Sub)(b:aA)(f:Int)(e:Bool):=(if e then(bP s 4).bind λd=>some (d,b) else(M8 b.aQ f s.A s.E).bind λc=>(bP s 0).bind λa=>some (a,({b with aQ:=c.1}:aA)))
def nW(s:Sub)(b:aA)(a:Int)(f:Bool):=(if f then(bP s 1).bind λe=>some (e,b) else(AB b.Mem s.A).bind λd=>(if !d then nV s b a true else(JD b.aQ (Int.tmod s.A 32)).bind λc=>nV s b a c))
def sQ(s:Sub)(b:aA)(a:Int):=(if s.Pc == 0 then some (({s with Pc:=1,E:=b.aD.aL}:Sub),b) else(if s.Pc != 1 then nW s b a true else(bV s.E 0 b.aD.aL).bind λc=>nW s b a (!c)))
def CA(s:b5):=need (([]:b5).length+s.length<=1073741824) (some (([]:b5)++s))
def mJ(c:aD):=(CA c.cV).bind λa=>some (⟨c.aL,a⟩:aD)
def HL:=some (-1)
def kE(s:b5)(f:(zR->aw)):Int->Option (Step Int (Out Unit Int))
 |a=>(if decide (a<(s.length:Int)) then(idx s a).bind λc=>(f c).bind λb=>(if b then some (.stop (Out.ret a)) else some (.next (aZ (a+1)))) else some (.stop (Out.brk ())))
def tN:(Out Unit Int)->bu
 |.brk ()=>HL
 |.ret r=>some r
def AD(s:b5)(f:(zR->aw)):=(loop (kE s f) 0).bind (tN)
def mR(s:b5)(f:(zR->aw)):=(AD s f).bind λa=>some (decide (0<=a))
def mS(a:Bool):=some a
def AE(p:zR)(c:aD):=(bV p.aL 0 c.aL).bind λb=>(if !b then mS true else(bV p.Seen 0 2).bind λa=>(if !a then mS true else(if !p.On then mS (!(decide (p=(⟨false,0,false,0⟩:zR)))) else mS false)))
def xG(a:Bool):=some a
def qW(c:aD):=(bV c.aL 0 100000).bind λd=>(if d then(if(c.cV.length:Int) == 3 then(mR c.cV (λa=>AE a c)).bind λb=>xG (!b) else xG false) else xG false)
def tO(c:Int)(a:aD)(d:Bool):=(if d then some (a,true) else(idx a.cV c).bind λb=>(if decide (b.Seen<2) then some ((⟨a.aL,a.cV.set c.toNat ({b with Seen:=aZ (b.Seen+1)}:zR)⟩:aD),false) else some ((⟨a.aL,a.cV.set c.toNat ({b with hU:=true,Seen:=0}:zR)⟩:aD),true)))
def JH(b e:Int)(a:aD)(d:Bool):=(if d then some (a,false) else(idx a.cV b).bind λc=>(if !c.On then tO b a true else(if c.hU then tO b a true else tO b a (c.aL == e))))
def UU(c:aD)(a d:Int):=(mJ c).bind λb=>(qW c).bind λf=>(if !f then JH a d b true else(iF a).bind λe=>JH a d b (!e))
def JJ(a:aD)(b:Bool):=(if b then some (a,false) else some ((⟨aZ (a.aL+1),a.cV⟩:aD),true))
def aE2(c:aD)(d:Int):=(mJ c).bind λa=>(qW c).bind λb=>(if !b then JJ a true else(if c.aL != d then JJ a true else JJ a (c.aL == 100000)))
def mT(s:Sub)(b:aA)(d:aD×Bool)(c:Int):=(bP ({s with Out:=c}:Sub) 0).bind λa=>some (a,({b with aD:=d.1}:aA))
def mU(s:Sub)(b:aA)(f:Bool):=(if f then(UU b.aD s.B s.E).bind λa=>(if !a.2 then(bP s 8).bind λe=>some (e,({b with aD:=a.1}:aA)) else(if(aZ (s.B+1)) == 3 then some (({s with Pc:=2,B:=aZ (s.B+1)}:Sub),({b with aD:=a.1}:aA)) else some (({s with B:=aZ (s.B+1)}:Sub),({b with aD:=a.1}:aA)))) else(if s.Pc == 2 then(aE2 b.aD s.E).bind λc=>(if c.2 then mT s b c 1 else mT s b c s.Out) else(bP s 1).bind λd=>some (d,b)))
def qX(s:Sub)(b:aA):=(if s.Pc == 0 then some (({s with Pc:=1,E:=b.aD.aL,B:=0}:Sub),b) else(if s.Pc == 1 then(iF s.B).bind λa=>mU s b a else mU s b false))
def SF(b a:an):=some ((⟨a,b⟩:Heap),true)
def JK(a gen h:Int)(c b:an)(g:Bool):=(if g then some ((⟨c,b⟩:Heap),false) else(z8 a h).bind λf=>(m7 gen 4).bind λe=>(oD c f e).bind λd=>SF b d)
def SG(a gen b:Int)(d c:an):=(if decide (b<0) then JK a gen b d c true else(bV gen 1 7).bind λe=>JK a gen b d c (!e))
def aCV(h:Heap)(a gen:Int):=(yI h).bind λb=>(JA h a).bind λc=>SG a gen c b.Bytes b.Class
def CB(c a:Int)(b:aC)(f:Int)(g:Bool):=(if g then some (b,false) else(idx b.Own f).bind λd=>(if decide (2<=(d.aW.length:Int)) then(idx b.Global c).bind λe=>need (e.aW.length+([a]).length<=1073741824) (some ((⟨b.Global.set c.toNat (⟨e.aW++([a])⟩:bK),b.Own⟩:aC),true)) else need (d.aW.length+([a]).length<=1073741824) (some ((⟨b.Global,b.Own.set f.toNat (⟨d.aW++([a])⟩:bK)⟩:aC),true))))
def aLL(l:aC)(h c a:Int):=(jR l).bind λd=>(SB h c).bind λb=>(qS l).bind λg=>(if !g then CB c a d b true else(if decide (b<0) then CB c a d b true else(vG a).bind λf=>(if !f then CB c a d b true else(OD l a).bind λe=>CB c a d b e)))
def V9(a:Mem):=some a
def WA(m:Mem)(d h:Int)(a:Mem):=(if decide ((aZ ((aZ (Int.tdiv h 32))+1))<=6) then(mA m.Heap (Int.tmod h 32)).bind λc=>(aLL m.aC d c (Int.tmod h 32)).bind λb=>V9 (⟨a.Heap,b.1⟩:Mem) else V9 a)
def SH(m:Mem)(c h:Int):=(aCV m.Heap (Int.tmod h 32) (aZ ((aZ (Int.tdiv h 32))+1))).bind λb=>(jR m.aC).bind λa=>WA m c h (⟨b.1,a⟩:Mem)
def JM(a:Bool):=some a
def OE(l:bn)(a i:Int):=(iF a).bind λd=>(if d then(idx l a).bind λc=>(bV i 0 (aZ ((c.Rows.length:Int)-1))).bind λb=>JM b else JM false)
def QP(a:Bool):=some a
def X3(b:eR)(a:Int):=(if decide (2<=a) then QP (decide (b.aL<=(aZ (a-2)))) else QP false)
def OF(s:Sub)(b:aA):=(bP s 0).bind λa=>some (a,b)
def fZ(s:Sub)(b:aA)(f:Int):Int->Option (Step Int (Out Unit (Sub×aA)))
 |a=>(idx b.aQ f).bind λd=>(if decide (a<(d.Rows.length:Int)) then(idx d.Rows a).bind λc=>(X3 c s.E).bind λe=>(if e then some (.stop (Out.ret (({s with Pc:=2,Row:=a,B:=0,H:=c.Handle}:Sub),b))) else some (.next (aZ (a+1)))) else some (.stop (Out.brk ())))
def aCW(s:Sub)(b:aA):(Out Unit (Sub×aA))->Option (Sub×aA)
 |.brk ()=>OF s b
 |.ret r=>some r
def qY(s:Sub)(b:aA)(a:Int):=(loop (fZ s b a) (if s.Row<0 then 0 else s.Row)).bind (aCW s b)
def GR(s:bo)(i j:Int):=need (0<=(i:Int)/\(i:Int)<=(j:Int)/\(j:Int)<=((s.length:Int):Int)/\((s.length:Int):Int)<=(s.length:Int)) ((if i == j then some s else need (0<=(i:Int)/\(i:Int)<=(s.length:Int)) (need (0<=(j:Int)/\(j:Int)<=(s.length:Int)) (need (i.toNat<=j.toNat) (need (0<=(((((dF s i.toNat (s.drop j.toNat)).take (i.toNat+(s.length-j.toNat))).drop 0).length:Int):Int)/\(((((dF s i.toNat (s.drop j.toNat)).take (i.toNat+(s.length-j.toNat))).drop 0).length:Int):Int)<=((s.length:Int):Int)/\((s.length:Int):Int)<=((dF s i.toNat (s.drop j.toNat)).length:Int)) (some (((dF s i.toNat (s.drop j.toNat)).take (i.toNat+(s.length-j.toNat))).drop 0)))))))
def FK(b i:Int)(a:bn)(e:Bool):=(if e then some (a,false) else(idx a b).bind λd=>(GR d.Rows i (aZ (i+1))).bind λc=>some (a.set b.toNat (⟨c⟩:b7),true))
def QQ(l:bn)(a i:Int):=(mI l).bind λb=>(vU l).bind λd=>(if !d then FK a i b true else(OE l a i).bind λc=>FK a i b (!c))
def eD(s:Sub)(b:aA)(a:Int)(f:Bool):=(if f then(QQ b.aQ a s.Row).bind λe=>(SH b.Mem a s.H).bind λd=>some (({s with Pc:=1,Out:=aZ (s.Out+1)}:Sub),({b with Mem:=d,aQ:=e.1}:aA)) else(bP s 1).bind λc=>some (c,b))
def fM(s:Sub)(b:aA)(a:Int)(h g:Bool):=(if g then(idx b.pJ s.B).bind λf=>(if f == s.H then some (({s with Pc:=1,Row:=aZ (s.Row+1)}:Sub),b) else(if(aZ (s.B+1)) == 3 then some (({s with Pc:=3,B:=aZ (s.B+1)}:Sub),b) else some (({s with B:=aZ (s.B+1)}:Sub),b))) else(if s.Pc == 3 then(if h then(idx b.aQ a).bind λe=>(idx e.Rows s.Row).bind λd=>(X3 d s.E).bind λc=>eD s b a c else eD s b a false) else eD s b a false))
def gW(s:Sub)(b:aA)(c:Int)(a:Bool):=(if s.Pc == 0 then some (({s with Pc:=1,E:=b.aD.aL,Row:=0}:Sub),b) else(if s.Pc == 1 then(qY s b c).bind λe=>some (e.1,e.2) else(if s.Pc == 2 then(iF s.B).bind λd=>(if d then fM s b c a a else fM s b c a false) else fM s b c a false)))
def qZ(s:Sub)(b:aA)(a:Int):=(OE b.aQ a s.Row).bind λe=>(if e then(idx b.aQ a).bind λd=>(idx d.Rows s.Row).bind λc=>gW s b a (c.Handle == s.H) else gW s b a false)
def D8(b d:Int)(a:aD)(c:Bool):=(if c then some (a,false) else(idx a.cV b).bind λe=>some ((⟨a.aL,a.cV.set b.toNat (⟨true,d,false,0⟩:zR)⟩:aD),true))
def ZH(c:aD)(a b:Int):=(mJ c).bind λd=>(qW c).bind λg=>(if !g then D8 a b d true else(iF a).bind λf=>(if !f then D8 a b d true else(bV b 0 c.aL).bind λe=>D8 a b d (!e)))
def DL(s:Sub)(b:aA)(e:Bool)(d:Int)(c:b5):=(if !e then(bP s 1).bind λa=>some (a,b) else some (({s with Pc:=2}:Sub),({b with aD:=(⟨d,c⟩:aD)}:aA)))
def CC(s:Sub)(b:aA)(e:Int):=(if s.Pc == 0 then some (({s with Pc:=1,E:=b.aD.aL}:Sub),b) else(if s.Pc == 1 then(ZH b.aD e s.E).bind λa=>DL s b a.2 a.1.aL a.1.cV else(if s.Pc == 2 then(if b.aD.aL == s.E then(bP s 0).bind λd=>some (d,b) else some (({s with Pc:=0}:Sub),b)) else(bP s 1).bind λc=>some (c,b))))
def rZ(s:Sub)(b:aA)(a:Int):=(if s.iE then some (s,b) else(if s.Kind == 1 then(vR s b a).bind λg=>some (g.1,g.2) else(if s.Kind == 2 then(sQ s b a).bind λf=>some (f.1,f.2) else(if s.Kind == 3 then(qX s b).bind λe=>some (e.1,e.2) else(if s.Kind == 4 then(qZ s b a).bind λd=>some (d.1,d.2) else(if s.Kind == 5 then(CC s b a).bind λc=>some (c.1,c.2) else(bP s 1).bind λh=>some (h,b)))))))
def vV(t:Table)(c:Int):=(idx t.aR c).bind λb=>(rZ b.Sub t.aA c).bind λa=>(if !a.1.iE then some ({t with aA:=a.2,aR:=t.aR.set c.toNat ({b with Sub:=a.1}:aK)}:Table) else(if b.Pc == 0 then some ({t with aA:=a.2,aR:=t.aR.set c.toNat ({b with Pc:=1,Sub:=a.1}:aK)}:Table) else(if b.Pc == 20 then(mG 4 0).bind λd=>some ({t with aA:=a.2,aR:=t.aR.set c.toNat ({b with Pc:=21,Sub:=d}:aK)}:Table) else some ({t with aA:=a.2,aR:=t.aR.set c.toNat ({b with Pc:=19,Sub:=a.1}:aK)}:Table))))
def rA(j:aK):=(bV j.At 0 (aZ ((j.Batch.bR.length:Int)-1))).bind λb=>(if !b then some ((⟨0,0,0⟩:iK),false,j) else(idx j.Batch.bR j.At).bind λa=>some (a,true,j))
def dB(j:aK)(code:Int):=some ({j with Pc:=16,Code:=code}:aK)
def oX(s:az):=need (([]:az).length+s.length<=1073741824) (some (([]:az)++s))
def TZ:=some (-1)
def pQ(s:az)(f:(aX->aw)):Int->Option (Step Int (Out Unit Int))
 |a=>(if decide (a<(s.length:Int)) then(idx s a).bind λc=>(f c).bind λb=>(if b then some (.stop (Out.ret a)) else some (.next (aZ (a+1)))) else some (.stop (Out.brk ())))
def T0:(Out Unit Int)->bu
 |.brk ()=>TZ
 |.ret r=>some r
def dK(s:az)(f:(aX->aw)):=(loop (pQ s f) 0).bind (T0)
def AF(b:az)(a:Int):=need (0<=(a:Int)/\(a:Int)<=(b.length:Int)) (need (0<=(a:Int)/\(a:Int)<=((dF b a.toNat (List.replicate (b.length-a.toNat) (⟨0,false,0⟩:aX))).length:Int)) (some (((dF b a.toNat (List.replicate (b.length-a.toNat) (⟨0,false,0⟩:aX))).take a.toNat).drop 0)))
def iX(c:Int)(b:az)(a:Int):Option (Step (az×Int×Int) (az×Int)):=some (.next (b,a,aZ (c+1)))
def kU(f:(aX->aw)):(az×Int×Int)->Option (Step (az×Int×Int) (az×Int))
 |(a,c,d)=>(if decide (d<(a.length:Int)) then(idx a d).bind λb=>(f b).bind λe=>(if !e then(idx a c).bind λg=>iX d (a.set c.toNat b) (aZ (c+1)) else iX d a c) else some (.stop ((a,c))))
def AG:(az×Int)->Option az
 |(b,a)=>AF b a
def kG(s:az)(a:(aX->aw)):=(dK s a).bind λb=>(if b == (-1) then some s else(loop (kU a) (s,b,aZ (b+1))).bind (AG))
def O7(x a:aX):=some (x.Key == a.Key)
def FL(x a:aX):=some (decide (a.Key<x.Key))
def sS(s:az)(i:Int)(v:az):=need (0<=i/\i<=(s.length:Int)/\s.length+v.length<=1073741824) (some (s.take i.toNat++v++s.drop i.toNat))
def tP(d:aX)(c:az)(b:Int):=(sS c b ([d])).bind λa=>some a
def M9(l:az)(b:aX):=(oX l).bind λe=>(kG e (λc=>O7 c b)).bind λa=>(dK a (λc=>FL c b)).bind λd=>(if decide (d<0) then tP b a (a.length:Int) else tP b a d)
def tQ(j:aK)(x:aX):=(M9 j.aH x).bind λa=>(if decide (6<(a.length:Int)) then(dB j 1).bind λb=>some (false,b) else some (true,({j with aH:=a}:aK)))
def JN(x:aX)(a:Int):=some (x.Key == a)
def QT(l:az)(key:Int):=(dK l (λb=>JN b key)).bind λa=>(if decide (a<0) then some ((⟨0,false,0⟩:aX),false) else(idx l a).bind λc=>some (c,true))
def SI(a b:Int):=some (Int.tmod (aZ (a+b)) 65536)
def sU(a:aK):=some ({a with Pc:=1,At:=aZ (a.At+1)}:aK)
def nI(a:aK)(c:Bool)(b:Int):=
 need (a.eX.length+([(⟨c,b⟩:eX)]).length<=1073741824)<|sU ({a with eX:=a.eX++([(⟨c,b⟩:eX)])}:aK)
def nJ(j:aK)(c:iK)(is:Bool)(d:Int):=(if c.Kind == 4 then(SI d c.dP).bind λb=>(tQ j (⟨c.Key,false,b⟩:aX)).bind λa=>(if !a.1 then some a.2 else nI a.2 true b) else nI j is d)
def tR(j:aK)(c:iK)(val:Int)(is:Bool):=(if !is then nJ j c is 0 else nJ j c is val)
def L8(key:Int):=(bV key 0 99).bind λa=>(if !a then some (-1) else some (Int.tmod key 2))
def JO(e:iK×Bool×aK)(g:Bool)(d:aK)(h:Int)(f:Bool)(c:Int):=(if g then(tR d e.1 c (!f)).bind λb=>some b else(L8 e.1.Key).bind λa=>some ({d with Pc:=2,bZ:=a}:aK))
def kV(c:iK×Bool×aK)(e:Bool)(d:aK):=(if e then(tQ d (⟨c.1.Key,c.1.Kind == 3,c.1.dP⟩:aX)).bind λa=>(if a.1 then need (a.2.eX.length+([(⟨false,0⟩:eX)]).length<=1073741824) (some (⟨a.2.bU,a.2.Batch,a.2.aG,a.2.Pc,aZ (a.2.At+1),a.2.K,a.2.bZ,a.2.eW,a.2.H,a.2.g7,a.2.Node,a.2.Found,a.2.Code,a.2.Sub,a.2.Reads,a.2.aH,a.2.eX++([(⟨false,0⟩:eX)]),a.2.gN,a.2.bH,a.2.cK⟩:aK)) else some a.2) else(QT d.aH c.1.Key).bind λb=>JO c b.2 d b.1.Key b.1.LJ b.1.dP)
def JQ(j:aK):=(rA j).bind λa=>(if !a.2.1 then(mG 1 16).bind λb=>some (⟨a.2.2.bU,a.2.2.Batch,a.2.2.aG,6,a.2.2.At,0,a.2.2.bZ,a.2.2.eW,a.2.2.H,a.2.2.g7,a.2.2.Node,a.2.2.Found,a.2.2.Code,b,a.2.2.Reads,a.2.2.aH,a.2.2.eX,a.2.2.gN,a.2.2.bH,a.2.2.cK⟩:aK) else(if a.1.Kind == 2 then kV a true a.2.2 else kV a (a.1.Kind == 3) a.2.2))
def QU(a c:Int):=(z8 a c).bind λb=>(if decide (b<0) then some (-1) else some (aZ (b+4)))
def CD(h:Heap)(a:Int):=(mA h a).bind λc=>(QU a c).bind λb=>some b
def rB(h:Heap)(a:Int):=(CD h a).bind λb=>(qT h.Bytes b 2).bind λe=>(qT h.Bytes (aZ (b+2)) 4).bind λd=>(qT h.Bytes (aZ (b+6)) 4).bind λc=>some (⟨e,d,c⟩:gL)
def JR(h:Heap)(a:Int):=(mA h a).bind λc=>(HJ c).bind λb=>some (decide (10<=b))
def JS(m:Mem)(h:Int)(c:Bool):Option (gL×Int):=(if c then some ((⟨0,0,0⟩:gL),4) else(JR m.Heap (Int.tmod h 32)).bind λb=>(if !b then some ((⟨0,0,0⟩:gL),2) else(rB m.Heap (Int.tmod h 32)).bind λa=>some (a,0)))
def OG(m:Mem)(h:Int):Option (gL×Int):=(jC h).bind λb=>(if !b then JS m h true else(mA m.Heap (Int.tmod h 32)).bind λa=>JS m h (decide (a<0)))
def pH(a:Bool):=some a
def GS(p:zR):=(if p.On then pH (!p.hU) else pH false)
def iM(n:gL):=(jC n.Next).bind λa=>(if !a then some 0 else some n.Next)
def rC(s:bx):=need (([]:bx).length+s.length<=1073741824) (some (([]:bx)++s))
def WB:=some (-1)
def jT(s:bx)(f:(Seen->aw)):Int->Option (Step Int (Out Unit Int))
 |a=>(if decide (a<(s.length:Int)) then(idx s a).bind λc=>(f c).bind λb=>(if b then some (.stop (Out.ret a)) else some (.next (aZ (a+1)))) else some (.stop (Out.brk ())))
def D9:(Out Unit Int)->bu
 |.brk ()=>WB
 |.ret r=>some r
def fJ(s:bx)(f:(Seen->aw)):=(loop (jT s f) 0).bind (D9)
def JT(s:Seen)(a:Int):=some (s.bZ == a)
def QV(l:bx)(b v:Int):=(rC l).bind λa=>(fJ l (λd=>JT d b)).bind λc=>(if decide (c<0) then need (a.length+([(⟨b,v⟩:Seen)]).length<=1073741824) (some (a++([(⟨b,v⟩:Seen)]),true)) else(idx l c).bind λe=>some (a,e.eW == v))
def vW(t:Table)(d:Int)(a:bp)(c:Bool):=(if c then(idx a d).bind λb=>some ({t with aR:=a.set d.toNat ({b with Pc:=5}:aK)}:Table) else some ({t with aR:=a}:Table))
def GU(t:Table)(c:Int)(a:bp):=(idx a c).bind λb=>(if b.Found then vW t c a true else vW t c a (b.H == 0))
def SJ(t:Table)(a:bp):=some ({t with aR:=a}:Table)
def GV(t:Table)(b:Int)(d:iK×Bool×aK)(c:bx)(h:Bool):=(idx (t.aR.set b.toNat d.2.2) b).bind λa=>(if !h then(dB ({a with Reads:=c}:aK) 7).bind λg=>some ({t with aR:=(t.aR.set b.toNat d.2.2).set b.toNat g}:Table) else(if !d.2.1 then(dB ({a with Reads:=c}:aK) 1).bind λf=>some ({t with aR:=(t.aR.set b.toNat d.2.2).set b.toNat f}:Table) else(tR ({a with Reads:=c}:aK) d.1 a.Node.dP a.Found).bind λe=>SJ t ((t.aR.set b.toNat d.2.2).set b.toNat e)))
def j5(t:Table)(b:Int)(d:iK×Bool×aK)(g:Bool):=(if g then(idx (t.aR.set b.toNat d.2.2) b).bind λf=>(dB f 7).bind λe=>some ({t with aR:=(t.aR.set b.toNat d.2.2).set b.toNat e}:Table) else(idx (t.aR.set b.toNat d.2.2) b).bind λa=>(QV a.Reads a.bZ a.eW).bind λc=>GV t b d c.1 c.2)
def GW(t:Table)(b x2 x3 g:Int):=(idx t.aR b).bind λk=>(rA k).bind λa=>(if a.2.2.Pc == 2 then(if g != 0 then(dB a.2.2 7).bind λj=>some ({t with aR:=t.aR.set b.toNat j}:Table) else(if x2 == 0 then some ({t with aR:=t.aR.set b.toNat (⟨a.2.2.bU,a.2.2.Batch,a.2.2.aG,5,a.2.2.At,a.2.2.K,a.2.2.bZ,x3,x2,a.2.2.g7,(⟨0,0,0⟩:gL),false,a.2.2.Code,a.2.2.Sub,a.2.2.Reads,a.2.2.aH,a.2.2.eX,a.2.2.gN,a.2.2.bH,a.2.2.cK⟩:aK)}:Table) else some ({t with aR:=t.aR.set b.toNat (⟨a.2.2.bU,a.2.2.Batch,a.2.2.aG,3,a.2.2.At,a.2.2.K,a.2.2.bZ,x3,x2,a.2.2.g7,(⟨0,0,0⟩:gL),false,a.2.2.Code,a.2.2.Sub,a.2.2.Reads,a.2.2.aH,a.2.2.eX,a.2.2.gN,a.2.2.bH,a.2.2.cK⟩:aK)}:Table))) else(if a.2.2.Pc == 3 then(OG t.aA.Mem a.2.2.H).bind λi=>some ({t with aR:=t.aR.set b.toNat (⟨a.2.2.bU,a.2.2.Batch,a.2.2.aG,4,a.2.2.At,a.2.2.K,a.2.2.bZ,a.2.2.eW,a.2.2.H,a.2.2.g7,i.1,a.2.2.Found,a.2.2.Code,a.2.2.Sub,a.2.2.Reads,a.2.2.aH,a.2.2.eX,a.2.2.gN,a.2.2.bH,a.2.2.cK⟩:aK)}:Table) else(if a.2.2.Pc == 4 then(idx t.aA.aD.cV b).bind λh=>(GS h).bind λf=>(if !f then(dB a.2.2 6).bind λe=>some ({t with aR:=t.aR.set b.toNat e}:Table) else(if !a.2.1 then(dB a.2.2 1).bind λd=>some ({t with aR:=t.aR.set b.toNat d}:Table) else(iM a.2.2.Node).bind λc=>GU t b (t.aR.set b.toNat (⟨a.2.2.bU,a.2.2.Batch,a.2.2.aG,3,a.2.2.At,a.2.2.K,a.2.2.bZ,a.2.2.eW,c,a.2.2.g7,a.2.2.Node,a.2.2.Node.Key == a.1.Key,a.2.2.Code,a.2.2.Sub,a.2.2.Reads,a.2.2.aH,a.2.2.eX,a.2.2.gN,a.2.2.bH,a.2.2.cK⟩:aK)))) else(if g != 0 then j5 t b a true else j5 t b a (x3 != a.2.2.eW)))))
def FM(t:Table)(b:Int):=(idx t.aR b).bind λc=>(idx t.aT c.bZ).bind λa=>GW t b a.Head a.eW a.eU
def a0M(a:Int):=some a
def JU(b a:Int):Option (Step (Int×Int) Int):=some (.next (a,aZ (b+1)))
def ZI(l:az)(n:Int):(Int×Int)->Option (Step (Int×Int) Int)
 |(b,a)=>(if decide (a<(((l.take ((if(if(l.length:Int)<n then(l.length:Int) else n)<0 then 0 else(if(l.length:Int)<n then(l.length:Int) else n)).toNat)).drop 0).length:Int)) then(idx ((l.take ((if(if(l.length:Int)<n then(l.length:Int) else n)<0 then 0 else(if(l.length:Int)<n then(l.length:Int) else n)).toNat)).drop 0) a).bind λc=>(if !c.LJ then JU a (aZ (b+1)) else JU a b) else some (.stop (b)))
def a0N:Int->bu
 |a=>a0M a
def X4(l:az)(n:Int):=need (0<=(if(if(l.length:Int)<n then(l.length:Int) else n)<0 then 0 else(if(l.length:Int)<n then(l.length:Int) else n):Int)/\(if(if(l.length:Int)<n then(l.length:Int) else n)<0 then 0 else(if(l.length:Int)<n then(l.length:Int) else n):Int)<=(l.length:Int)) ((loop (ZI l n) (0,0)).bind (a0N))
def DM(a:Table):=some a
def DN(d:Int)(a:Table):=(idx a.aR d).bind λb=>(mG 1 16).bind λc=>DM ({a with aR:=a.aR.set d.toNat ({b with K:=aZ (b.K+1),Sub:=c}:aK)}:Table)
def iN(c:Int)(f:Bool)(b:Table):=
 (if f then(idx b.aR c).bind λd=>(dB d d.Sub.Code).bind λe=>some ({b with aR:=b.aR.set c.toNat e}:Table) else(idx b.aR c).bind λa=>need (a.gN.length+([a.Sub.Out]).length<=1073741824)<|DN c ({b with aR:=b.aR.set c.toNat ({a with gN:=a.gN++([a.Sub.Out])}:aK)}:Table))
def DO(t:Table)(b:Int)(f:Bool):=(if f then(idx t.aR b).bind λe=>some ({t with aR:=t.aR.set b.toNat ({e with Pc:=7,K:=0}:aK)}:Table) else(idx t.aR b).bind λc=>(rZ c.Sub t.aA b).bind λa=>(if !a.1.iE then some ({t with aA:=a.2,aR:=t.aR.set b.toNat ({c with Sub:=a.1}:aK)}:Table) else(if a.1.Code != 0 then iN b true ({t with aA:=a.2,aR:=t.aR.set b.toNat ({c with Sub:=a.1}:aK)}:Table) else(jC a.1.Out).bind λd=>(if !d then iN b true ({t with aA:=a.2,aR:=t.aR.set b.toNat ({c with Sub:=a.1}:aK)}:Table) else iN b (decide (6<=(c.gN.length:Int))) ({t with aA:=a.2,aR:=t.aR.set b.toNat ({c with Sub:=a.1}:aK)}:Table)))))
def CE(t:Table)(c:Int):=(idx t.aR c).bind λb=>(X4 b.aH (b.aH.length:Int)).bind λa=>DO t c (decide (a<=b.K))
def cmp_isNaN_int(x:Int):=some (x != x)
def xH(a:Bool):=some a
def cmp_Less_int(x y:Int):=(cmp_isNaN_int x).bind λb=>(if b then(cmp_isNaN_int y).bind λa=>(if !a then xH true else xH (decide (x<y))) else xH (decide (x<y)))
def j6(data a:an):=need (a.length=data.length) (some a)
def oY(data:an)(b:Int)(a:an):Option (Step (an×Int) an):=need (a.length=data.length) (some (.next (a,aZ (b+1))))
def j7(data:an)(b:Int)(a:an):Option (Step (an×Int) an):=need (a.length=data.length) (some (.next (a,aZ (b-1))))
def eI(data b:an)(a:Int)(e:Bool):Option (Step (an×Int) an):=need (b.length=data.length) ((if e then(idx b (aZ (a-1))).bind λc=>(idx b a).bind λd=>(idx (b.set a.toNat c) (aZ (a-1))).bind λf=>j7 data a ((b.set a.toNat c).set ((aZ (a-1)).toNat) d) else some (.stop (b))))
def eJ(data:an)(f:Int):(an×Int)->Option (Step (an×Int) an)
 |(b,a)=>need (b.length=data.length) ((if decide (f<a) then(idx b a).bind λe=>(idx b (aZ (a-1))).bind λd=>(cmp_Less_int e d).bind λc=>eI data b a c else eI data b a false))
def oZ(data:an)(b:Int):an->Option (Step (an×Int) an)
 |a=>oY data b a
def dN(data:an)(d b:Int):(an×Int)->Option (Step (an×Int) an)
 |(c,a)=>need (c.length=data.length) ((if decide (a<b) then(loop (eJ data d) (c,a)).bind (oZ data a) else some (.stop (c))))
def j8(data:an):an->Option an
 |a=>j6 data a
def iQ(data:an)(a b:Int):=(loop (dN data a b) (data,aZ (a+1))).bind (j8 data)
def xI(data:an)(c b a:Int):Unit->Option (Step Unit an)
 |()=>(if decide ((aZ (b-c))<=12) then(iQ data c b).bind λd=>some (.stop (d)) else(if a == 0 then none else none))
def O8:an->Option an
 |r=>some r
def pR(data:an)(c b a:Int):=(loop (xI data c b a) ()).bind (O8)
def GX(c b:Int):=(idx ([0,1,2,2,3,3,3,3,4,4,4,4,4,4,4,4,5,5,5,5,5,5,5,5,5,5,5,5,5,5,5,5,6,6,6,6,6,6,6,6,6,6,6,6,6,6,6,6,6,6,6,6,6,6,6,6,6,6,6,6,6,6,6,6,7,7,7,7,7,7,7,7,7,7,7,7,7,7,7,7,7,7,7,7,7,7,7,7,7,7,7,7,7,7,7,7,7,7,7,7,7,7,7,7,7,7,7,7,7,7,7,7,7,7,7,7,7,7,7,7,7,7,7,7,7,7,7,7,8,8,8,8,8,8,8,8,8,8,8,8,8,8,8,8,8,8,8,8,8,8,8,8,8,8,8,8,8,8,8,8,8,8,8,8,8,8,8,8,8,8,8,8,8,8,8,8,8,8,8,8,8,8,8,8,8,8,8,8,8,8,8,8,8,8,8,8,8,8,8,8,8,8,8,8,8,8,8,8,8,8,8,8,8,8,8,8,8,8,8,8,8,8,8,8,8,8,8,8,8,8,8,8,8,8,8,8,8,8,8,8,8,8,8,8,8,8,8,8,8,8,8,8,8,8,8,8]:bh) ((u8 c).toNat:Int)).bind λa=>some (aZ (b+(a.toNat:Int)))
def GY(a b:Int):=(if decide (256<=a) then GX (qO .u64 a 8) (aZ (b+8)) else GX a b)
def GZ(a b:Int):=(if decide (65536<=a) then GY (qO .u64 a 16) (aZ (b+16)) else GY a b)
def aBD(x:Int):=(if decide (4294967296<=x) then GZ (qO .u64 x 32) 32 else GZ x 0)
def EA(x:Int):=(aBD x).bind λa=>some a
def FN(x:an):=(EA (IntKind.u64.wrap (x.length:Int))).bind λb=>(pR x 0 (x.length:Int) b).bind λa=>some a
def O9(c:an):=(FN c).bind λb=>(slices_Compact_int b).bind λa=>some a
def FO(b:Int)(a:an):Option (Step (an×Int) an):=some (.next (a,aZ (b+1)))
def PA(l:az):(an×Int)->Option (Step (an×Int) an)
 |(c,b)=>(if decide (b<(l.length:Int)) then(idx l b).bind λd=>(L8 d.Key).bind λa=>(if decide (0<=a) then need (c.length+([a]).length<=1073741824) (FO b (c++([a]))) else FO b c) else some (.stop (c)))
def aBE:an->Option an
 |a=>O9 a
def QW(l:az):=(loop (PA l) (([]:an),0)).bind (aBE)
def gH(s:bx)(f:(Seen->aw)):=(fJ s f).bind λa=>some (decide (0<=a))
def rD(a:Bool):=some a
def zC(s:Seen)(b:Int)(a:bZ):=(if s.bZ == b then rD (s.eW != a.eW) else rD false)
def vX(t:Table)(a:Int)(e:ay)(b:bp)(d:aK):=(idx b a).bind λc=>some ({t with aT:=e,aR:=b.set a.toNat ({c with Pc:=8,K:=0}:aK),Log:=t.Log++([(⟨2,a,d.aG,0,[],[]⟩:iO)])}:Table)
def o5(t:Table)(c:Int)(e:an)(d:ay)(b:bp):=
 (idx b c).bind λa=>(if decide ((e.length:Int)<=a.K) then need (t.Log.length+([(⟨2,c,a.aG,0,[],[]⟩:iO)]).length<=1073741824)<|vX t c d b a else some ({t with aT:=d,aR:=b}:Table))
def o6(t:Table)(c:Int)(f:an)(e:Int)(d:bZ)(b:bp):=(idx b c).bind λa=>o5 t c f (t.aT.set e.toNat ({d with eU:=aZ (c+1)}:bZ)) (b.set c.toNat ({a with K:=aZ (a.K+1)}:aK))
def G3(t:Table)(d:Int)(e:an)(c:Int)(b:bZ)(a:aK):=o6 t d e c b (t.aR.set d.toNat ({a with bH:=a.bH++([c])}:aK))
def iY(t:Table)(c:Int)(j:an)(d:Int)(k:Bool):=
 (if k then(idx t.aR c).bind λi=>(dB i 7).bind λh=>some ({t with aR:=t.aR.set c.toNat h}:Table) else(idx t.aT d).bind λb=>(if b.eW == 1000000 then(idx t.aR c).bind λg=>(dB g 3).bind λf=>some ({t with aR:=t.aR.set c.toNat f}:Table) else(idx t.aR c).bind λa=>(iL a.bH d).bind λe=>(if !e then need (a.bH.length+([d]).length<=1073741824)<|G3 t c j d b a else o6 t c j d b t.aR)))
def FP(t:Table)(d:Int):=(idx t.aR d).bind λc=>(QW c.aH).bind λa=>(if decide (c.K<(a.length:Int)) then(idx a c.K).bind λb=>(idx t.aT b).bind λf=>(if f.eU != 0 then iY t d a b true else(gH c.Reads (λg=>zC g b f)).bind λe=>iY t d a b e) else o5 t d a t.aT t.aR)
def gA(t:Table)(b:Int)(e:Bool):=(if e then(idx t.aR b).bind λd=>(dB d 7).bind λc=>some ({t with aR:=t.aR.set b.toNat c}:Table) else(idx t.aR b).bind λa=>some ({t with aR:=t.aR.set b.toNat ({a with K:=aZ (a.K+1)}:aK)}:Table))
def vY(t:Table)(a d e c b:Int):=(if b != 0 then(if b != (aZ (a+1)) then gA t a true else gA t a (c != d)) else gA t a (c != d))
def vZ(t:Table)(d c b:Int):=(idx t.aT c).bind λa=>vY t d b a.Head a.eW a.eU
def wA(t:Table)(c:Int)(d:aK):=(if decide ((d.Reads.length:Int)<=d.K) then(idx t.aR c).bind λe=>some ({t with aR:=t.aR.set c.toNat ({e with Pc:=9,K:=0}:aK)}:Table) else(idx t.aR c).bind λb=>(idx b.Reads b.K).bind λa=>vZ t c a.bZ a.eW)
def sV(t:Table)(a:Int):=(idx t.aR a).bind λb=>wA t a b
def qB(j:aK)(x:aX):=(if x.LJ then some ({j with Pc:=9,K:=aZ (j.K+1)}:aK) else some ({j with Pc:=12}:aK))
def rE(m:Mem):=(yI m.Heap).bind λb=>(jR m.aC).bind λa=>some (⟨b,a⟩:Mem)
def aLM:=some true
def CF(b:Int)(a:Bool):Option (Step Int (Out Unit Bool)):=(if a then some (.stop (Out.ret false)) else some (.next (aZ (b+1))))
def oK(h:Heap)(s:bK)(c:Int):Int->Option (Step Int (Out Unit Bool))
 |a=>(if decide (a<(s.aW.length:Int)) then(idx s.aW a).bind λb=>(mA h b).bind λe=>(if e != c then CF a true else(GQ h b).bind λd=>CF a (decide (6<d))) else some (.stop (Out.brk ())))
def aLN:(Out Unit Bool)->aw
 |.brk ()=>aLM
 |.ret r=>some r
def EB(h:Heap)(s:bK)(c:Int):=(loop (oK h s c) 0).bind (aLN)
def aWH:=some true
def yK(m:Mem):Int->Option (Step Int (Out Unit Bool))
 |a=>(if decide (a<(m.aC.Own.length:Int)) then(idx m.aC.Own a).bind λc=>(EB m.Heap c (Int.tmod a 3)).bind λb=>(if !b then some (.stop (Out.ret false)) else some (.next (aZ (a+1)))) else some (.stop (Out.brk ())))
def aWI:(Out Unit Bool)->aw
 |.brk ()=>aWH
 |.ret r=>some r
def aGD(m:Mem):=(loop (yK m) 0).bind (aWI)
def yL(m:Mem):Int->Option (Step Int (Out Unit Bool))
 |a=>(if decide (a<(m.aC.Global.length:Int)) then(idx m.aC.Global a).bind λc=>(EB m.Heap c a).bind λb=>(if !b then some (.stop (Out.ret false)) else some (.next (aZ (a+1)))) else some (.stop (Out.brk ())))
def aGE(m:Mem):(Out Unit Bool)->aw
 |.brk ()=>aGD m
 |.ret r=>some r
def NA(m:Mem)(a:Bool):=(if a then some false else(loop (yL m) 0).bind (aGE m))
def AI(m:Mem):=(OC m.Heap).bind λb=>(if !b then NA m true else(qS m.aC).bind λa=>NA m (!a))
def AJ(a:Bool):=some a
def oE(h:Int):=(if h == 0 then AJ true else(jC h).bind λa=>AJ a)
def yN(m:Mem)(h:Int):bu:=(AB m h).bind λb=>(if !b then some 4 else(JR m.Heap (Int.tmod h 32)).bind λa=>(if !a then some 2 else some 0))
def SK(b:Int)(a:Mem):=some (a,b)
def aCX(b:Int)(a:Mem):=SK b a
def JV(m:Mem)(h a:Int)(g:Bool)(b:Mem):=(if g then some (b,1) else(yN m h).bind λc=>(if c == 0 then(CD m.Heap (Int.tmod h 32)).bind λf=>(m7 a 4).bind λe=>(oD b.Heap.Bytes (aZ (f+6)) e).bind λd=>aCX c (⟨(⟨d,b.Heap.Class⟩:Heap),b.aC⟩:Mem) else SK c b))
def UW(m:Mem)(h a:Int):=(rE m).bind λd=>(AI m).bind λc=>(if !c then JV m h a true d else(oE a).bind λb=>JV m h a (!b) d)
def AK(a:Bool):=some a
def OH(n:gL):=(bV n.Key 0 99).bind λc=>(if c then(bV n.dP 0 65535).bind λb=>(if b then(oE n.Next).bind λa=>AK a else AK false) else AK false)
def PB(b:Int)(a:Mem):=some (a,b)
def aBF(b:Int)(a:Mem):=PB b a
def FQ(m:Mem)(h:Int)(n:gL)(i:Bool)(b:Mem):=
 (if i then some (b,1) else(yN m h).bind λf=>(if f == 0 then(CD m.Heap (Int.tmod h 32)).bind λg=>(m7 n.Key 2).bind λe=>(m7 n.dP 4).bind λd=>need (e.length+d.length<=9223372036854775807)<|(m7 n.Next 4).bind λa=>need ((e++d).length+a.length<=9223372036854775807)<|(oD b.Heap.Bytes g ((e++d)++a)).bind λc=>aBF f (⟨(⟨c,b.Heap.Class⟩:Heap),b.aC⟩:Mem) else PB f b))
def QX(m:Mem)(h:Int)(n:gL):=(rE m).bind λc=>(AI m).bind λb=>(if !b then FQ m h n true c else(OH n).bind λa=>FQ m h n (!a) c)
def G4(t:Table)(j:aK)(b:bZ)(a:Table):=some (({a with aT:=t.aT,aR:=t.aR}:Table),({j with Pc:=13}:aK),b)
def PC(t:Table)(j:aK)(x:aX)(b:bZ):=(X4 j.aH j.K).bind λa=>(if decide ((j.gN.length:Int)<=a) then(dB j 1).bind λf=>some (t,f,b) else(if j.Pc == 12 then(idx j.gN a).bind λe=>(QX t.aA.Mem e ({x with Next:=b.Head}:gL)).bind λd=>G4 t j b ({t with aA:=(⟨d.1,t.aA.aD,t.aA.aQ,t.aA.pJ⟩:aA)}:Table) else(idx j.gN a).bind λc=>some (t,({j with Pc:=9,K:=aZ (j.K+1)}:aK),({b with Head:=c}:bZ))))
def DP(t:Table)(a:bp):=some ({t with aR:=a}:Table)
def nK(d g:Int)(f:Bool)(e:Int)(a:Table):=(idx a.aR d).bind λc=>(qB c (⟨g,f,e⟩:aX)).bind λb=>some ({a with aR:=a.aR.set d.toNat b}:Table)
def DQ(e d:Int)(c:Bool)(b:Int)(a:Table):=nK e d c b a
def sW(c g:Int)(f:Bool)(e:Int)(d:Bool)(b:Table):=
 (if d then(idx b.aR c).bind λa=>need (a.cK.length+([a.H]).length<=1073741824)<|DQ c g f e ({b with aR:=b.aR.set c.toNat ({a with cK:=a.cK++([a.H])}:aK)}:Table) else nK c g f e b)
def nL(d g:Int)(f:Bool)(e:Int)(a:Table):=(idx a.aR d).bind λb=>(jC b.H).bind λc=>(if c then sW d g f e (decide ((b.cK.length:Int)<6)) a else sW d g f e false a)
def DR(e d:Int)(c:Bool)(b:Int)(a:Table):=nL e d c b a
def DS(t:Table)(d e:Int)(h:Bool)(g:Int):=(L8 e).bind λo=>(idx t.aT o).bind λf=>(idx t.aR d).bind λa=>(if a.Pc == 9 then(if f.Head == 0 then(qB ({a with Pc:=10,H:=f.Head,g7:=0}:aK) (⟨e,h,g⟩:aX)).bind λp=>some ({t with aR:=t.aR.set d.toNat p}:Table) else some ({t with aR:=t.aR.set d.toNat ({a with Pc:=10,H:=f.Head,g7:=0}:aK)}:Table)) else(if a.Pc == 10 then(OG t.aA.Mem a.H).bind λc=>(if c.1.Key == e then some ({t with aR:=t.aR.set d.toNat ({a with Pc:=11,Node:=c.1}:aK)}:Table) else(iM c.1).bind λn=>(if n == 0 then(qB ({a with Node:=c.1}:aK) (⟨e,h,g⟩:aX)).bind λm=>some ({t with aR:=t.aR.set d.toNat m}:Table) else(iM c.1).bind λl=>DP t (t.aR.set d.toNat ({a with H:=l,g7:=a.H,Node:=c.1}:aK)))) else(if a.Pc == 11 then(if a.g7 == 0 then(iM a.Node).bind λk=>nL d e h g ({t with aT:=t.aT.set o.toNat ({f with Head:=k}:bZ)}:Table) else(iM a.Node).bind λj=>(UW t.aA.Mem a.g7 j).bind λi=>DR d e h g ({t with aA:=(⟨i.1,t.aA.aD,t.aA.aQ,t.aA.pJ⟩:aA)}:Table)) else(PC t a (⟨e,h,g⟩:aX) f).bind λb=>some (⟨b.1.aA,t.aT.set o.toNat b.2.2,t.aR.set d.toNat b.2.1,b.1.eE,b.1.Log,b.1.aG⟩:Table))))
def DT(t:Table)(c:Int)(d:aK):=(if decide ((d.aH.length:Int)<=d.K) then(idx t.aR c).bind λe=>some ({t with aR:=t.aR.set c.toNat ({e with Pc:=14}:aK)}:Table) else(idx t.aR c).bind λb=>(idx b.aH b.K).bind λa=>DS t c a.Key a.LJ a.dP)
def CG(t:Table)(a:Int):=(idx t.aR a).bind λb=>DT t a b
def rF(s:an)(i j:Int):=need (0<=(i:Int)/\(i:Int)<=(j:Int)/\(j:Int)<=((s.length:Int):Int)/\((s.length:Int):Int)<=(s.length:Int)) ((if i == j then some s else need (0<=(i:Int)/\(i:Int)<=(s.length:Int)) (need (0<=(j:Int)/\(j:Int)<=(s.length:Int)) (need (i.toNat<=j.toNat) (need (0<=(((((dF s i.toNat (s.drop j.toNat)).take (i.toNat+(s.length-j.toNat))).drop 0).length:Int):Int)/\(((((dF s i.toNat (s.drop j.toNat)).take (i.toNat+(s.length-j.toNat))).drop 0).length:Int):Int)<=((s.length:Int):Int)/\((s.length:Int):Int)<=((dF s i.toNat (s.drop j.toNat)).length:Int)) (some (((dF s i.toNat (s.drop j.toNat)).take (i.toNat+(s.length-j.toNat))).drop 0)))))))
def tS(a:aK):=some a
def mK(j:aK):=(if decide (j.K<(j.cK.length:Int)) then(idx j.cK j.K).bind λb=>(mG 2 b).bind λa=>tS ({j with Sub:=a}:aK) else some j)
def mL(t:Table)(b:Int)(d:ay):=(idx t.aR b).bind λa=>(rF a.bH 0 1).bind λc=>some ({t with aT:=d,aR:=t.aR.set b.toNat ({a with bH:=c}:aK)}:Table)
def zD(t:Table)(b:Int):=(idx t.aR b).bind λa=>(if decide (0<(a.bH.length:Int)) then(idx a.bH 0).bind λd=>(idx t.aT d).bind λc=>(if a.Pc == 14 then mL t b (t.aT.set d.toNat (⟨c.Head,if 1000000<(aZ (c.eW+1)) then 1000000 else(aZ (c.eW+1)),0⟩:bZ)) else mL t b (t.aT.set d.toNat ({c with eU:=0}:bZ))) else(if a.Pc == 16 then some ({t with aR:=t.aR.set b.toNat ({a with Pc:=17}:aK)}:Table) else(mK ({a with Pc:=15,K:=0}:aK)).bind λe=>some ({t with aR:=t.aR.set b.toNat e}:Table)))
def AL(t:Table)(a:Int)(d:aK):=(if decide ((d.cK.length:Int)<=d.K) then(idx t.aR a).bind λf=>some ({t with aR:=t.aR.set a.toNat ({f with Pc:=18}:aK)}:Table) else(idx t.aR a).bind λc=>(rZ c.Sub t.aA a).bind λb=>(if b.1.iE then(mK ({c with K:=aZ (c.K+1),Sub:=b.1}:aK)).bind λe=>some ({t with aA:=b.2,aR:=t.aR.set a.toNat e}:Table) else some ({t with aA:=b.2,aR:=t.aR.set a.toNat ({c with Sub:=b.1}:aK)}:Table)))
def zE(t:Table)(a:Int):=(idx t.aR a).bind λb=>AL t a b
def FR(m:Mem)(f h:Int)(e:Bool):Option (Mem×Int):=(if e then(rE m).bind λd=>some (d,1) else(AB m h).bind λc=>(if !c then(rE m).bind λb=>some (b,4) else(SH m f h).bind λa=>some (a,0)))
def QY(m:Mem)(a h:Int):Option (Mem×Int):=(AI m).bind λc=>(if !c then FR m a h true else(iF a).bind λb=>FR m a h (!b))
def FT(t:Table)(b:Int):=(idx t.aR b).bind λa=>(if(a.gN.length:Int) == 0 then some ({t with aR:=t.aR.set b.toNat ({a with Pc:=18}:aK)}:Table) else(idx a.gN 0).bind λd=>(rF a.gN 0 1).bind λc=>(JD t.aA.aQ (Int.tmod d 32)).bind λf=>(if !f then(QY t.aA.Mem b d).bind λe=>some ({t with aA:=(⟨e.1,t.aA.aD,t.aA.aQ,t.aA.pJ⟩:aA),aR:=t.aR.set b.toNat ({a with gN:=c}:aK)}:Table) else some ({t with aR:=t.aR.set b.toNat ({a with gN:=c}:aK)}:Table)))
def EC(b:Int)(a:aD)(c:Bool):=(if c then some (a,false) else(idx a.cV b).bind λd=>some ((⟨a.aL,a.cV.set b.toNat (⟨false,0,false,0⟩:zR)⟩:aD),true))
def ZJ(c:aD)(a:Int):=(mJ c).bind λb=>(qW c).bind λf=>(if !f then EC a b true else(iF a).bind λe=>(if !e then EC a b true else(idx c.cV a).bind λd=>EC a b (!d.On)))
def FU(b:aA)(c:Int):=(ZJ b.aD c).bind λa=>some (a.2,({b with aD:=a.1}:aA))
def LQ(t:Table)(a:Int)(b:aK):=some ({t with aR:=t.aR.set a.toNat (⟨false,(⟨false,[]⟩:Batch),0,0,0,0,0,0,0,0,(⟨0,0,0⟩:gL),false,0,(⟨0,0,0,0,0,0,0,0,0,false⟩:Sub),[],[],[],[],[],[]⟩:aK),Log:=t.Log++([({b with Kind:=3,Who:=a,bR:=[]}:iO)])}:Table)
def LR(t:Table)(w_:Int)(a:aK):=some ({t with aR:=t.aR.set w_.toNat (⟨false,(⟨false,[]⟩:Batch),0,0,0,0,0,0,0,0,(⟨0,0,0⟩:gL),false,0,(⟨0,0,0,0,0,0,0,0,0,false⟩:Sub),[],[],[],[],[],[]⟩:aK),Log:=t.Log++([(⟨3,w_,a.aG,a.Code,[],[]⟩:iO)])}:Table)
def wB(t:Table)(b:Int):=
 (idx t.aR b).bind λa=>(if a.Code == 0 then need (t.Log.length+([({a with Kind:=3,Who:=b,bR:=[]}:iO)]).length<=1073741824)<|LQ t b a else need (t.Log.length+([(⟨3,b,a.aG,a.Code,[],[]⟩:iO)]).length<=1073741824)<|LR t b a)
def lV(t:Table)(a:Int)(b:aK)(k:Bool):=(if k then(zD t a).bind λj=>some j else(if b.Pc == 15 then(zE t a).bind λi=>some i else(if b.Pc == 17 then(FT t a).bind λh=>some h else(if b.Pc == 18 then(FU t.aA a).bind λg=>(idx t.aR a).bind λf=>some ({t with aA:=g.2,aR:=t.aR.set a.toNat ({f with Pc:=19}:aK)}:Table) else(if b.Pc == 19 then(wB t a).bind λe=>some e else(idx t.aR a).bind λd=>(dB d 1).bind λc=>some ({t with aR:=t.aR.set a.toNat c}:Table))))))
def j9(t:Table)(b:Int)(a:aK)(m:Bool):=(if m then(vV t b).bind λl=>some l else(if a.Pc == 1 then(idx t.aR b).bind λk=>(JQ k).bind λj=>some ({t with aR:=t.aR.set b.toNat j}:Table) else(bV a.Pc 2 5).bind λi=>(if i then(FM t b).bind λh=>some h else(if a.Pc == 6 then(CE t b).bind λg=>some g else(if a.Pc == 7 then(FP t b).bind λf=>some f else(if a.Pc == 8 then(sV t b).bind λe=>some e else(bV a.Pc 9 13).bind λd=>(if d then(CG t b).bind λc=>some c else(if a.Pc == 14 then lV t b a true else lV t b a (a.Pc == 16)))))))))
def xJ(t:Table)(b:Int):=(idx t.aR b).bind λa=>(if !a.bU then(B5 t b).bind λc=>some c else(if a.Pc == 0 then j9 t b a true else(if a.Pc == 20 then j9 t b a true else j9 t b a (a.Pc == 21))))
def aJG(a:Table):=some a
def zF(b:Int)(a:Table):Option (Step (Int×Table) Table):=some (.next (aZ (b+1),a))
def rG(x:FA):(Int×Table)->Option (Step (Int×Table) Table)
 |(a,c)=>(if decide (a<(((x.kD.take ((if 400<(x.kD.length:Int) then 400 else(x.kD.length:Int)).toNat)).drop 0).length:Int)) then(idx ((x.kD.take ((if 400<(x.kD.length:Int) then 400 else(x.kD.length:Int)).toNat)).drop 0) a).bind λd=>(iF d).bind λe=>(if e then(xJ c d).bind λb=>zF a b else zF a c) else some (.stop (c)))
def aJH:Table->Option Table
 |a=>aJG a
def tT(x:FA):=(M1 x.eE).bind λa=>(if(a.aR.length:Int) == 0 then some a else need (0<=(if 400<(x.kD.length:Int) then 400 else(x.kD.length:Int):Int)/\(if 400<(x.kD.length:Int) then 400 else(x.kD.length:Int):Int)<=(x.kD.length:Int)) ((loop (rG x) (0,a)).bind (aJH)))
def NB(b:aA):=(rE b.Mem).bind λe=>(mJ b.aD).bind λd=>(mI b.aQ).bind λc=>(gT b.pJ).bind λa=>some (⟨e,d,c,a⟩:aA)
def L9(s:ay):=need (([]:ay).length+s.length<=1073741824) (some (([]:ay)++s))
def tU(s:bq):=need (([]:bq).length+s.length<=1073741824) (some (([]:bq)++s))
def X5(a:aK):=some a
def MA(j d:aK):=(gT j.gN).bind λc=>(gT j.bH).bind λb=>(gT j.cK).bind λa=>X5 ({d with gN:=c,bH:=b,cK:=a}:aK)
def NC(j:aK):=(zY j.Batch).bind λd=>(rC j.Reads).bind λc=>(oX j.aH).bind λb=>(tU j.eX).bind λa=>MA j ({j with Batch:=d,Reads:=c,aH:=b,eX:=a}:aK)
def PD(c:iO)(b:bc)(a:bq):=some ({c with bR:=b,eX:=a}:iO)
def QZ(a:iO):=(lU a.bR).bind λc=>(tU a.eX).bind λb=>PD a c b
def aJI(a:Table):=some a
def JW(b:Int)(a:Table):Option (Step (Int×Table) Table):=some (.next (aZ (b+1),a))
def mV(t:Table):(Int×Table)->Option (Step (Int×Table) Table)
 |(d,a)=>(if decide (d<(t.Log.length:Int)) then(idx t.Log d).bind λc=>(QZ c).bind λb=>need (a.Log.length+([b]).length<=1073741824)<|JW d ({a with Log:=a.Log++([b])}:Table) else some (.stop (a)))
def aJJ:Table->Option Table
 |a=>aJI a
def aJK(t a:Table):=(loop (mV t) (0,({a with Log:=[]}:Table))).bind (aJJ)
def JX(b:Int)(a:Table):Option (Step (Int×Table) Table):=some (.next (aZ (b+1),({a with Log:=[]}:Table)))
def mW(t:Table):(Int×Table)->Option (Step (Int×Table) Table)
 |(d,b)=>(if decide (d<(t.aR.length:Int)) then(idx t.aR d).bind λc=>(NC c).bind λa=>need (b.aR.length+([a]).length<=1073741824)<|JX d ({b with aR:=b.aR++([a]),Log:=[]}:Table) else some (.stop (({b with Log:=[]}:Table))))
def aJL(t:Table):Table->Option Table
 |a=>aJK t a
def JY(t a:Table):=(loop (mW t) (0,({a with aR:=[],Log:=[]}:Table))).bind (aJL t)
def JZ(t:Table):=(NB t.aA).bind λc=>(L9 t.aT).bind λb=>(zZ t.eE).bind λa=>JY t (⟨c,b,[],a,[],t.aG⟩:Table)
def Q0(h:Int):=(oE h).bind λa=>some (!a)
def ND(a:Bool):=some a
def ZK(z:an):=(if(z.length:Int) == 3 then(dQ z (λa=>Q0 a)).bind λb=>ND (!b) else ND false)
def wC(a:Bool):=some a
def FV(a:eR)(b:aA):=(AB b.Mem a.Handle).bind λc=>(if !c then wC true else wC (decide (b.aD.aL<a.aL)))
def NF(l:b7)(c:aA):=(jS l.Rows (λa=>FV a c)).bind λb=>some b
def tV(b:aA)(d:Bool):=(if d then some false else(jJ b.aQ (λa=>NF a b)).bind λc=>some (!c))
def UX(b:aA):=(AI b.Mem).bind λe=>(if !e then tV b true else(qW b.aD).bind λd=>(if !d then tV b true else(vU b.aQ).bind λc=>(if !c then tV b true else(ZK b.pJ).bind λa=>tV b (!a))))
def X6:=some (-1)
def tW(s:ay)(f:(bZ->aw)):Int->Option (Step Int (Out Unit Int))
 |a=>(if decide (a<(s.length:Int)) then(idx s a).bind λc=>(f c).bind λb=>(if b then some (.stop (Out.ret a)) else some (.next (aZ (a+1)))) else some (.stop (Out.brk ())))
def HM:(Out Unit Int)->bu
 |.brk ()=>X6
 |.ret r=>some r
def OI(s:ay)(f:(bZ->aw)):=(loop (tW s f) 0).bind (HM)
def tX(s:ay)(f:(bZ->aw)):=(OI s f).bind λa=>some (decide (0<=a))
def NG(a:Bool):=some a
def aHJ(b:bZ):=(oE b.Head).bind λd=>(if d then(bV b.eW 0 1000000).bind λc=>(if c then(bV b.eU 0 3).bind λa=>NG a else NG false) else NG false)
def SL(b:bZ):=(aHJ b).bind λa=>some (!a)
def WC:=some (-1)
def sA(s:bp)(f:(aK->aw)):Int->Option (Step Int (Out Unit Int))
 |a=>(if decide (a<(s.length:Int)) then(idx s a).bind λc=>(f c).bind λb=>(if b then some (.stop (Out.ret a)) else some (.next (aZ (a+1)))) else some (.stop (Out.brk ())))
def ED:(Out Unit Int)->bu
 |.brk ()=>WC
 |.ret r=>some r
def LS(s:bp)(f:(aK->aw)):=(loop (sA s f) 0).bind (ED)
def iG(s:bp)(f:(aK->aw)):=(LS s f).bind λa=>some (decide (0<=a))
def aFF:=some true
def lA(b e:bq):Int->Option (Step Int (Out Unit Bool))
 |a=>(if decide (a<(b.length:Int)) then(idx b a).bind λd=>(idx e a).bind λc=>(if !(decide (d=c)) then some (.stop (Out.ret false)) else some (.next (aZ (a+1)))) else some (.stop (Out.brk ())))
def aFG:(Out Unit Bool)->aw
 |.brk ()=>aFF
 |.ret r=>some r
def lW(b a:bq):=(if(b.length:Int) != (a.length:Int) then some false else(loop (lA b a) 0).bind (aFG))
def aFH:=some true
def P1(b e:bc):Int->Option (Step Int (Out Unit Bool))
 |a=>(if decide (a<(b.length:Int)) then(idx b a).bind λd=>(idx e a).bind λc=>(if !(decide (d=c)) then some (.stop (Out.ret false)) else some (.next (aZ (a+1)))) else some (.stop (Out.brk ())))
def aFI:(Out Unit Bool)->aw
 |.brk ()=>aFH
 |.ret r=>some r
def MB(b a:bc):=(if(b.length:Int) != (a.length:Int) then some false else(loop (P1 b a) 0).bind (aFI))
def J0(a:Bool):=some a
def J1(a b:Batch):=(if a.Collect == b.Collect then(MB a.bR b.bR).bind λc=>J0 c else J0 false)
def aCY:=some true
def OJ(b e:bx):Int->Option (Step Int (Out Unit Bool))
 |a=>(if decide (a<(b.length:Int)) then(idx b a).bind λd=>(idx e a).bind λc=>(if !(decide (d=c)) then some (.stop (Out.ret false)) else some (.next (aZ (a+1)))) else some (.stop (Out.brk ())))
def aCZ:(Out Unit Bool)->aw
 |.brk ()=>aCY
 |.ret r=>some r
def zG(b a:bx):=(if(b.length:Int) != (a.length:Int) then some false else(loop (OJ b a) 0).bind (aCZ))
def aB4:=some true
def LU(b e:az):Int->Option (Step Int (Out Unit Bool))
 |a=>(if decide (a<(b.length:Int)) then(idx b a).bind λd=>(idx e a).bind λc=>(if !(decide (d=c)) then some (.stop (Out.ret false)) else some (.next (aZ (a+1)))) else some (.stop (Out.brk ())))
def aB5:(Out Unit Bool)->aw
 |.brk ()=>aB4
 |.ret r=>some r
def wD(b a:az):=(if(b.length:Int) != (a.length:Int) then some false else(loop (LU b a) 0).bind (aB5))
def aFJ:=some true
def P2(b e:an):Int->Option (Step Int (Out Unit Bool))
 |a=>(if decide (a<(b.length:Int)) then(idx b a).bind λd=>(idx e a).bind λc=>(if d != c then some (.stop (Out.ret false)) else some (.next (aZ (a+1)))) else some (.stop (Out.brk ())))
def aFK:(Out Unit Bool)->aw
 |.brk ()=>aFJ
 |.ret r=>some r
def oN(b a:an):=(if(b.length:Int) != (a.length:Int) then some false else(loop (P2 b a) 0).bind (aFK))
def cG(a:Bool):=some a
def NH(a b:aK):=(if a.bU == b.bU then(J1 a.Batch b.Batch).bind λi=>(if i then(if a.aG == b.aG then(if a.Pc == b.Pc then(if a.At == b.At then(if a.K == b.K then(if a.bZ == b.bZ then(if a.eW == b.eW then(if a.H == b.H then(if a.g7 == b.g7 then(if decide (a.Node=b.Node) then(if a.Found == b.Found then(if a.Code == b.Code then(if decide (a.Sub=b.Sub) then(zG a.Reads b.Reads).bind λh=>(if h then(wD a.aH b.aH).bind λg=>(if g then(lW a.eX b.eX).bind λf=>(if f then(oN a.gN b.gN).bind λe=>(if e then(oN a.bH b.bH).bind λd=>(if d then(oN a.cK b.cK).bind λc=>cG c else cG false) else cG false) else cG false) else cG false) else cG false) else cG false) else cG false) else cG false) else cG false) else cG false) else cG false) else cG false) else cG false) else cG false) else cG false) else cG false) else cG false) else cG false) else cG false)
def MC(b:Int):=(bV b 0 1).bind λa=>some a
def zH(h:Int):=(jC h).bind λa=>some (!a)
def G5(a:Bool):=some a
def xK(a:an):=(if decide ((a.length:Int)<=6) then(dQ a (λb=>zH b)).bind λc=>G5 (!c) else G5 false)
def WD(s:Seen):=(MC s.bZ).bind λa=>some (!a)
def X7(a:az):=some (decide ((a.length:Int)<=6))
def lX(b:Int)(a:Bool):Option (Step Int (Out Unit Bool)):=(if a then some (.stop (Out.ret false)) else some (.next (aZ (b+1))))
def tY(a:az):Int->Option (Step Int (Out Unit Bool))
 |b=>(if decide (b<(a.length:Int)) then(idx a b).bind λc=>(bV c.Key 0 99).bind λf=>(if !f then lX b true else(bV c.dP 0 65535).bind λe=>(if !e then lX b true else(if decide (0<b) then(idx a (aZ (b-1))).bind λd=>lX b (decide (c.Key<=d.Key)) else lX b false))) else some (.stop (Out.brk ())))
def X8(a:az):(Out Unit Bool)->aw
 |.brk ()=>X7 a
 |.ret r=>some r
def NI(a:az):=(loop (tY a) 0).bind (X8 a)
def iZ(a:Bool):=some a
def aC0(j:aK):=(IW j.Batch).bind λl=>(if l then(oE j.H).bind λk=>(if k then(oE j.g7).bind λi=>(if i then(MC j.bZ).bind λh=>(if h then(bV j.At 0 (j.Batch.bR.length:Int)).bind λg=>(if g then(bV j.K 0 100).bind λe=>(if e then(xK j.gN).bind λd=>(if d then(xK j.cK).bind λc=>(if c then(gH j.Reads (λf=>WD f)).bind λb=>(if !b then(NI j.aH).bind λa=>iZ a else iZ false) else iZ false) else iZ false) else iZ false) else iZ false) else iZ false) else iZ false) else iZ false) else iZ false)
def J2(b:Int)(a:Bool):Option (Step Int (Out Unit Bool)):=(if a then some (.stop (Out.ret false)) else some (.next (aZ (b+1))))
def AM(j:aK):Int->Option (Step Int (Out Unit Bool))
 |a=>(if decide (a<(j.bH.length:Int)) then(idx j.bH a).bind λb=>(MC b).bind λd=>(if !d then J2 a true else need (0<=(a:Int)/\(a:Int)<=(j.bH.length:Int)) ((iL ((j.bH.take a.toNat).drop 0) b).bind λc=>J2 a c)) else some (.stop (Out.brk ())))
def aC1(j:aK):(Out Unit Bool)->aw
 |.brk ()=>aC0 j
 |.ret r=>some r
def vH(j:aK):=(if !j.bU then(NH j (⟨false,(⟨false,[]⟩:Batch),0,0,0,0,0,0,0,0,(⟨0,0,0⟩:gL),false,0,(⟨0,0,0,0,0,0,0,0,0,false⟩:Sub),[],[],[],[],[],[]⟩:aK)).bind λa=>some a else(loop (AM j) 0).bind (aC1 j))
def SM(j:aK):=(vH j).bind λa=>some (!a)
def lD(a:Bool):=some a
def CH(t:Table):=(UX t.aA).bind λf=>(if f then(if(t.aT.length:Int) == 2 then(tX t.aT (λa=>SL a)).bind λe=>(if !e then(if(t.aR.length:Int) == 3 then(iG t.aR (λa=>SM a)).bind λd=>(if !d then(IY t.eE).bind λc=>(if c then(bV t.aG 0 1000000).bind λb=>lD b else lD false) else lD false) else lD false) else lD false) else lD false) else lD false)
def MD(j:aK):=some j.bU
def ME(q:aP):=some (decide (0<(q.List.length:Int)))
def J3(a:Bool):=some a
def AN(t:Table):=(iG t.aR (λa=>MD a)).bind λc=>(if !c then(kQ t.eE (λa=>ME a)).bind λb=>J3 (!b) else J3 false)
def wE(j:aK):=(vH j).bind λa=>some (!a)
def aFL(a:Table):=some a
def nM(b:Int)(d:Bool)(a:Table):Option (Step (Int×Table) (Out Table Table)):=(if d then some (.stop (Out.ret a)) else(xJ a (Int.tmod b 3)).bind λc=>some (.next (aZ (b+1),c)))
def nN(n:Int)(a:Bool):(Int×Table)->Option (Step (Int×Table) (Out Table Table))
 |(c,b)=>(if decide (c<n) then(if a then(AN b).bind λg=>(if g then nM c true b else(iG b.aR (λf=>wE f)).bind λe=>nM c e b) else(iG b.aR (λf=>wE f)).bind λd=>nM c d b) else some (.stop (Out.brk b)))
def P3:(Out Table Table)->Option Table
 |.brk a=>aFL a
 |.ret r=>some r
def MF(t:Table)(n:Int)(a:Bool):=(loop (nN n a) (0,t)).bind (P3)
def DU(a:Table):=some a
def lY(t:Table):=(JZ t).bind λa=>(CH t).bind λc=>(if c then(MF a 3000 true).bind λb=>DU b else DU a)
def aWJ:=some false
def yO(l:an)(x:Int):Int->Option (Step Int (Out Unit Bool))
 |a=>(if decide (a<(l.length:Int)) then(idx l a).bind λb=>(if b == x then some (.stop (Out.ret true)) else some (.next (aZ (a+1)))) else some (.stop (Out.brk ())))
def aWK:(Out Unit Bool)->aw
 |.brk ()=>aWJ
 |.ret r=>some r
def wF(l:an)(x:Int):=(loop (yO l x) 0).bind (aWK)
def aNZ:=some (-1)
def FW(a:Int)(b:Bool):Option (Step Int (Out Unit Int)):=(if b then some (.stop (Out.ret a)) else some (.next (aZ (a+1))))
def aBG(l:a7)(b a:Int):Int->Option (Step Int (Out Unit Int))
 |c=>(if decide (c<(l.length:Int)) then(idx l c).bind λe=>(if e.Kind == b then(idx l c).bind λd=>FW c (d.aG == a) else FW c false) else some (.stop (Out.brk ())))
def aN0:(Out Unit Int)->bu
 |.brk ()=>aNZ
 |.ret r=>some r
def rH(l:a7)(b a:Int):=(loop (aBG l b a) 0).bind (aN0)
def aWL(a:an):=some a
def EE(b:Int)(a:an):Option (Step (an×Int) an):=some (.next (a,aZ (b+1)))
def NJ(l:a7)(d:an)(c:Int)(b:Bool):Option (Step (an×Int) an):=(if b then(idx l c).bind λa=>need (d.length+([a.aG]).length<=1073741824) (EE c (d++([a.aG]))) else EE c d)
def NL(l:a7)(c:an)(a:Int)(f:Bool):Option (Step (an×Int) an):=(if f then EE a c else(idx l a).bind λe=>(rH l 3 e.aG).bind λd=>(if decide (0<=d) then(idx l d).bind λb=>NJ l c a (b.Code == 0) else NJ l c a false))
def EF(l:a7):(an×Int)->Option (Step (an×Int) an)
 |(b,a)=>(if decide (a<(l.length:Int)) then(idx l a).bind λe=>(if e.Kind != 2 then NL l b a true else(idx l a).bind λd=>(wF b d.aG).bind λc=>NL l b a c) else some (.stop (b)))
def aWM:an->Option an
 |a=>aWL a
def SN(l:a7):=(loop (EF l) (([]:an),0)).bind (aWM)
def J4(a:aq):=some a
def aC2(key val:Int)(a:aq)(b:Bool):=(if !b then need (a.length+([(⟨key,val⟩:KV)]).length<=1073741824) (J4 (a++([(⟨key,val⟩:KV)]))) else J4 a)
def o7(c:Int)(b:aq)(a:Bool):Option (Step (aq×Bool×Int) (aq×Bool)):=some (.next (b,a,aZ (c+1)))
def tZ(l:aq)(d:Int)(b:aq)(c:Bool):Option (Step (aq×Bool×Int) (aq×Bool)):=(idx l d).bind λa=>need (b.length+([a]).length<=1073741824) (o7 d (b++([a])) c)
def uA(l:aq)(key val:Int)(b:aq)(d:Bool)(c:Int)(a:Bool):Option (Step (aq×Bool×Int) (aq×Bool)):=(if a then need (b.length+([(⟨key,val⟩:KV)]).length<=1073741824) (tZ l c (b++([(⟨key,val⟩:KV)])) true) else tZ l c b d)
def kW(l:aq)(key val:Int):(aq×Bool×Int)->Option (Step (aq×Bool×Int) (aq×Bool))
 |(c,b,a)=>(if decide (a<(l.length:Int)) then(idx l a).bind λe=>(if e.Key == key then o7 a c b else(if !b then(idx l a).bind λd=>uA l key val c b a (decide (key<d.Key)) else uA l key val c b a false)) else some (.stop ((c,b))))
def J5(key val:Int):(aq×Bool)->Option aq
 |(b,a)=>aC2 key val b a
def HN(l:aq)(key val:Int):=(loop (kW l key val) (([]:aq),false,0)).bind (J5 key val)
def aWN:=some true
def yP(b:Int)(a:Bool):Option (Step Int (Out Unit Bool)):=(if a then some (.stop (Out.ret false)) else some (.next (aZ (b+1))))
def EG(l:aq):Int->Option (Step Int (Out Unit Bool))
 |a=>(if decide (a<(l.length:Int)) then(idx l a).bind λg=>(bX g.Key 0 99).bind λf=>(if !f then yP a true else(idx l a).bind λe=>(bX e.dP 0 65535).bind λd=>(if !d then yP a true else(if decide (0<a) then(idx l a).bind λc=>(idx l (aZ (a-1))).bind λb=>yP a (decide (c.Key<=b.Key)) else yP a false))) else some (.stop (Out.brk ())))
def aWO:(Out Unit Bool)->aw
 |.brk ()=>aWN
 |.ret r=>some r
def ZL(l:aq):=(loop (EG l) 0).bind (aWO)
def aR7:Option (Int×Bool):=some (0,false)
def AO(l:aq)(key:Int):Int->Option (Step Int (Out Unit (Int×Bool)))
 |a=>(if decide (a<(l.length:Int)) then(idx l a).bind λc=>(if c.Key == key then(idx l a).bind λb=>some (.stop (Out.ret (b.dP,true))) else some (.next (aZ (a+1)))) else some (.stop (Out.brk ())))
def aR8:(Out Unit (Int×Bool))->Option (Int×Bool)
 |.brk ()=>aR7
 |.ret r=>some r
def UY(l:aq)(key:Int):=(loop (AO l key) 0).bind (aR8)
def aR9(a:aq):=some a
def AP(b:Int)(a:aq):Option (Step (aq×Int) aq):=some (.next (a,aZ (b+1)))
def AQ(l:aq)(key:Int):(aq×Int)->Option (Step (aq×Int) aq)
 |(b,a)=>(if decide (a<(l.length:Int)) then(idx l a).bind λd=>(if d.Key != key then(idx l a).bind λc=>need (b.length+([c]).length<=1073741824) (AP a (b++([c]))) else AP a b) else some (.stop (b)))
def aSA:aq->Option aq
 |a=>aR9 a
def UZ(l:aq)(key:Int):=(loop (AQ l key) (([]:aq),0)).bind (aSA)
def OK(a b:Int):=some (Int.tmod (aZ ((aZ ((Int.tmod a 65536)+(Int.tmod b 65536)))+65536)) 65536)
def NM(l:aq)(c:iK)(h:Bool):=(if h then some (([]:aq)++l,(⟨false,0⟩:eX)) else(UY l c.Key).bind λa=>(if c.Kind == 2 then(HN l c.Key c.dP).bind λg=>some (g,(⟨false,0⟩:eX)) else(if c.Kind == 3 then(UZ l c.Key).bind λf=>some (f,(⟨false,0⟩:eX)) else(if c.Kind == 4 then(OK a.1 c.dP).bind λe=>(HN l c.Key e).bind λd=>(OK a.1 c.dP).bind λb=>some (d,(⟨true,b⟩:eX)) else some (([]:aq)++l,(⟨a.2,a.1⟩:eX))))))
def ZM(l:aq)(c:iK):=need (([]:aq).length+l.length<=1073741824) ((R8 c).bind λb=>(if !b then NM l c true else(ZL l).bind λa=>NM l c (!a)))
def aC3(b:aq)(a:bq):=some (b,a)
def J6(cmds:bc):(aq×bq×Int)->Option (Step (aq×bq×Int) (aq×bq))
 |(d,c,b)=>(if decide (b<(cmds.length:Int)) then(idx cmds b).bind λe=>(ZM d e).bind λa=>need (c.length+([a.2]).length<=1073741824) (some (.next (a.1,c++([a.2]),aZ (b+1)))) else some (.stop ((d,c))))
def aC4:(aq×bq)->Option (aq×bq)
 |(b,a)=>aC3 b a
def U0(l:aq)(cmds:bc):=need (([]:aq).length+l.length<=1073741824) ((loop (J6 cmds) (([]:aq)++l,([]:bq),0)).bind (aC4))
def aHK:=some true
def o8(c b:bq):Int->Option (Step Int (Out Unit Bool))
 |a=>(if decide (a<(c.length:Int)) then(idx c a).bind λe=>(idx b a).bind λd=>(if !(decide (e=d)) then some (.stop (Out.ret false)) else some (.next (aZ (a+1)))) else some (.stop (Out.brk ())))
def aHL:(Out Unit Bool)->aw
 |.brk ()=>aHK
 |.ret r=>some r
def m9(a b:bq):=(if(a.length:Int) != (b.length:Int) then some false else(loop (o8 a b) 0).bind (aHL))
def NN(m:aq)(l:a7)(g f:Int)(e:Bool):=(if e then some (m,false) else(idx l g).bind λd=>(U0 m d.bR).bind λa=>(idx l f).bind λc=>(m9 a.2 c.eX).bind λb=>some (a.1,b))
def aHM(m:aq)(l:a7)(a:Int):=(rH l 1 a).bind λc=>(rH l 3 a).bind λb=>(if decide (c<0) then NN m l c b true else NN m l c b (decide (b<0)))
def aSB(b:aq)(a:Bool):=some (b,a)
def J7(c:Int)(b:aq)(a:Bool):Option (Step (aq×Bool×Int) (aq×Bool)):=some (.next (b,a,aZ (c+1)))
def J8(l:a7)(f:an):(aq×Bool×Int)->Option (Step (aq×Bool×Int) (aq×Bool))
 |(e,d,b)=>(if decide (b<(f.length:Int)) then(idx f b).bind λc=>(aHM e l c).bind λa=>(if d then J7 b a.1 a.2 else J7 b a.1 false) else some (.stop ((e,d))))
def aSC:(aq×Bool)->Option (aq×Bool)
 |(b,a)=>aSB b a
def OL(l:a7):=(SN l).bind λa=>(loop (J8 l a) (([]:aq),true,0)).bind (aSC)
def AR(a:Bool):=some a
def U1(l:a7)(d b:Int):=(rH l 3 d).bind λc=>(rH l 1 b).bind λa=>(if decide (0<=c) then(if decide (0<=a) then AR (decide (c<a)) else AR false) else AR false)
def aSD:=some true
def aC5(a:Int):Option (Step Int (Out Unit Bool)):=some (.next (aZ (a+1)))
def SO(b:Int)(a:Bool):Option (Step Int (Out Unit Bool)):=(if a then some (.stop (Out.ret false)) else some (.next (aZ (b+1))))
def J9(l:a7)(c:an)(b:Int):Int->Option (Step Int (Out Unit Bool))
 |a=>(if decide (a<b) then(idx c b).bind λf=>(idx c a).bind λe=>(U1 l f e).bind λd=>SO a d else some (.stop (Out.brk ())))
def aC6(a:Int):(Out Unit Bool)->Option (Step Int (Out Unit Bool))
 |.brk ()=>aC5 a
 |.ret r=>some (.stop (Out.ret r))
def KA(l:a7)(b:an):Int->Option (Step Int (Out Unit Bool))
 |a=>(if decide (a<(b.length:Int)) then(loop (J9 l b a) 0).bind (aC6 a) else some (.stop (Out.brk ())))
def aSE:(Out Unit Bool)->aw
 |.brk ()=>aSD
 |.ret r=>some r
def HO(l:a7):=(SN l).bind λa=>(loop (KA l a) 0).bind (aSE)
def aJM:=some true
def mX(t:Table):Int->Option (Step Int (Out Unit Bool))
 |a=>(if decide (a<(t.eE.length:Int)) then(idx t.eE a).bind λb=>(if decide (0<(b.List.length:Int)) then some (.stop (Out.ret false)) else some (.next (aZ (a+1)))) else some (.stop (Out.brk ())))
def U2:(Out Unit Bool)->aw
 |.brk ()=>aJM
 |.ret r=>some r
def aJN(t:Table):=(loop (mX t) 0).bind (U2)
def rI(t:Table):Int->Option (Step Int (Out Unit Bool))
 |a=>(if decide (a<(t.aR.length:Int)) then(idx t.aR a).bind λb=>(if b.bU then some (.stop (Out.ret false)) else some (.next (aZ (a+1)))) else some (.stop (Out.brk ())))
def aJO(t:Table):(Out Unit Bool)->aw
 |.brk ()=>aJN t
 |.ret r=>some r
def AS(t:Table):=(loop (rI t) 0).bind (aJO t)
def aN1:=some true
def xL(c b:aq):Int->Option (Step Int (Out Unit Bool))
 |a=>(if decide (a<(c.length:Int)) then(idx c a).bind λe=>(idx b a).bind λd=>(if !(decide (e=d)) then some (.stop (Out.ret false)) else some (.next (aZ (a+1)))) else some (.stop (Out.brk ())))
def aN2:(Out Unit Bool)->aw
 |.brk ()=>aN1
 |.ret r=>some r
def CI(a b:aq):=(if(a.length:Int) != (b.length:Int) then some false else(loop (xL a b) 0).bind (aN2))
def aSF(a:bo):=some a
def AT(l:bn):(bo×Int)->Option (Step (bo×Int) bo)
 |(b,a)=>(if decide (a<(l.length:Int)) then(idx l a).bind λc=>need (b.length+c.Rows.length<=1073741824) (some (.next (b++c.Rows,aZ (a+1)))) else some (.stop (b)))
def aSG:bo->Option bo
 |a=>aSF a
def HP(l:bn):=(loop (AT l) (([]:bo),0)).bind (aSG)
def aBH(b:an):=some (decide ((b.length:Int)<=1000))
def qC(b:an):Int->Option (Step Int (Out Unit Bool))
 |a=>(if decide (a<(b.length:Int)) then(idx b a).bind λd=>(bX d 0 255).bind λc=>(if !c then some (.stop (Out.ret false)) else some (.next (aZ (a+1)))) else some (.stop (Out.brk ())))
def PE(b:an):(Out Unit Bool)->aw
 |.brk ()=>aBH b
 |.ret r=>some r
def Q1(b:an):=(loop (qC b) 0).bind (PE b)
def aN3:=some true
def qD(h:Heap):Int->Option (Step Int (Out Unit Bool))
 |a=>(if decide (a<6) then(idx h.Class a).bind λc=>(bX c (-1) 2).bind λb=>(if !b then some (.stop (Out.ret false)) else some (.next (aZ (a+1)))) else some (.stop (Out.brk ())))
def aN4:(Out Unit Bool)->aw
 |.brk ()=>aN3
 |.ret r=>some r
def xM(h:Heap)(a:Bool):=(if a then some false else(loop (qD h) 0).bind (aN4))
def RB(h:Heap):=(if(h.Bytes.length:Int) != 384 then xM h true else(if(h.Class.length:Int) != 6 then xM h true else(Q1 h.Bytes).bind λa=>xM h (!a)))
def aSH(a:Int):=some a
def AU(b:an)(at_ a:Int):(Int×Int)->Option (Step (Int×Int) Int)
 |(d,c)=>(if decide (c<a) then(idx b (aZ (at_+c))).bind λe=>some (.next (aZ ((aZ (d*256))+e),aZ (c+1))) else some (.stop (d)))
def aSI:Int->bu
 |a=>aSH a
def vI(b:an)(at_ a:Int):=(loop (AU b at_ a) (0,0)).bind (aSI)
def HQ(a:Int):=(bX a 0 23).bind λb=>(if !b then some (-1) else some (aZ (Int.tdiv a 4)))
def CJ(a:Int):=(bX a 0 23).bind λb=>(if !b then some (-1) else some (Int.tmod a 4))
def HR(c:Int):bu:=(if c == 0 then some 8 else(if c == 1 then some 16 else(if c == 2 then some 40 else some 0)))
def EH(c:Int):=(bX c 0 2).bind λb=>(if !b then some 0 else(HR c).bind λa=>some (aZ (4+a)))
def nX(c:Int):=(bX c 0 2).bind λb=>(if !b then some 0 else(EH c).bind λa=>need (a≠0) (some (aZ (Int.tdiv 56 a))))
def NO(a c:Int)(f:Bool):=(if f then some (-1) else(HQ a).bind λe=>(CJ a).bind λd=>(EH c).bind λb=>some (aZ ((aZ ((aZ (e*64))+8))+(aZ (d*b)))))
def AV(a c:Int):=(HQ a).bind λf=>(if decide (f<0) then NO a c true else(CJ a).bind λe=>(nX c).bind λd=>(bX e 0 (aZ (d-1))).bind λb=>NO a c (!b))
def AW(b a:Int)(c:Bool):=(if c then some (-1) else some (aZ ((aZ (b*4))+a)))
def vJ(b a:Int):=(bX b 0 5).bind λd=>(if !d then AW b a true else(bX a 0 3).bind λc=>AW b a (!c))
def aSJ:=some true
def uB(h:Heap)(p:Int):Int->Option (Step Int (Out Unit Bool))
 |a=>(if decide (a<(aZ ((aZ (p*64))+64))) then(idx h.Bytes a).bind λb=>(if b != 0 then some (.stop (Out.ret false)) else some (.next (aZ (a+1)))) else some (.stop (Out.brk ())))
def aSK:(Out Unit Bool)->aw
 |.brk ()=>aSJ
 |.ret r=>some r
def aSL:=some true
def uC(h:Heap)(p g:Int):Int->Option (Step Int (Out Unit Bool))
 |f=>(nX g).bind λe=>(if decide (f<e) then(vJ p f).bind λd=>(AV d g).bind λc=>(vI h.Bytes c 4).bind λb=>(bX b 1 7).bind λa=>(if !a then some (.stop (Out.ret false)) else some (.next (aZ (f+1)))) else some (.stop (Out.brk ())))
def aSM:(Out Unit Bool)->aw
 |.brk ()=>aSL
 |.ret r=>some r
def aC7(h:Heap)(p a:Int):=(loop (uC h p a) 0).bind (aSM)
def uD(h:Heap)(p:Int):Int->Option (Step Int (Out Unit Bool))
 |b=>(if decide (b<(aZ ((aZ (p*64))+8))) then(idx h.Bytes b).bind λa=>(if a != 0 then some (.stop (Out.ret false)) else some (.next (aZ (b+1)))) else some (.stop (Out.brk ())))
def aC8(h:Heap)(p a:Int):(Out Unit Bool)->aw
 |.brk ()=>aC7 h p a
 |.ret r=>some r
def mM(h:Heap)(p b:Int)(a:Bool):=(if a then some false else(loop (uD h p) (aZ ((aZ (p*64))+3))).bind (aC8 h p b))
def U3(h:Heap)(p:Int):=(idx h.Class p).bind λa=>(if decide (a<0) then(loop (uB h p) (aZ (p*64))).bind (aSK) else(idx h.Bytes (aZ (p*64))).bind λe=>(if e != 171 then mM h p a true else(idx h.Bytes (aZ ((aZ (p*64))+1))).bind λd=>(if d != a then mM h p a true else(idx h.Bytes (aZ ((aZ (p*64))+2))).bind λc=>(nX a).bind λb=>mM h p a (c != b))))
def aSN:=some true
def AX(h:Heap):Int->Option (Step Int (Out Unit Bool))
 |a=>(if decide (a<6) then(U3 h a).bind λb=>(if !b then some (.stop (Out.ret false)) else some (.next (aZ (a+1)))) else some (.stop (Out.brk ())))
def aSO:(Out Unit Bool)->aw
 |.brk ()=>aSN
 |.ret r=>some r
def U4(h:Heap):=(RB h).bind λa=>(if !a then some false else(loop (AX h) 0).bind (aSO))
def aWP(a:an):=some a
def EI(l:aC):(an×Int)->Option (Step (an×Int) an)
 |(c,b)=>(if decide (b<(l.Own.length:Int)) then(idx l.Own b).bind λa=>need (c.length+a.aW.length<=1073741824) (some (.next (c++a.aW,aZ (b+1)))) else some (.stop (c)))
def aWQ:an->Option an
 |a=>aWP a
def aGF(l:aC)(a:an):=(loop (EI l) (a,0)).bind (aWQ)
def EJ(l:aC):(an×Int)->Option (Step (an×Int) an)
 |(c,b)=>(if decide (b<(l.Global.length:Int)) then(idx l.Global b).bind λa=>need (c.length+a.aW.length<=1073741824) (some (.next (c++a.aW,aZ (b+1)))) else some (.stop (c)))
def aGG(l:aC):an->Option an
 |a=>aGF l a
def SP(l:aC):=(loop (EJ l) (([]:an),0)).bind (aGG l)
def aN5:=some true
def FX(b:Int)(a:Bool):Option (Step Int (Out Unit Bool)):=(if a then some (.stop (Out.ret false)) else some (.next (aZ (b+1))))
def qE(b:an):Int->Option (Step Int (Out Unit Bool))
 |a=>(if decide (a<(b.length:Int)) then(idx b a).bind λd=>(bX d 0 23).bind λe=>(if !e then FX a true else need (0<=(a:Int)/\(a:Int)<=(b.length:Int)) ((wF ((b.take a.toNat).drop 0) d).bind λc=>FX a c)) else some (.stop (Out.brk ())))
def aN6:(Out Unit Bool)->aw
 |.brk ()=>aN5
 |.ret r=>some r
def aBI(l:aC):=(SP l).bind λa=>(loop (qE a) 0).bind (aN6)
def qG(l:aC):Int->Option (Step Int (Out Unit Bool))
 |b=>(if decide (b<(l.Own.length:Int)) then(idx l.Own b).bind λa=>(if decide (2<(a.aW.length:Int)) then some (.stop (Out.ret false)) else some (.next (aZ (b+1)))) else some (.stop (Out.brk ())))
def aBJ(l:aC):(Out Unit Bool)->aw
 |.brk ()=>aBI l
 |.ret r=>some r
def FY(l:aC)(a:Bool):=(if a then some false else(loop (qG l) 0).bind (aBJ l))
def RC(l:aC):=(if(l.Global.length:Int) != 3 then FY l true else FY l ((l.Own.length:Int) != 9))
def xN(h:Heap)(c:Int)(b:Bool):=(if b then some (-1) else(idx h.Class c).bind λa=>some a)
def nY(h:Heap)(a:Int):=(HQ a).bind λb=>(if decide (b<0) then xN h b true else(idx h.Class b).bind λf=>(if decide (f<0) then xN h b true else(idx h.Class b).bind λe=>(CJ a).bind λd=>(nX e).bind λc=>xN h b (decide (c<=d))))
def AY(h:Heap)(a:Int):=(nY h a).bind λd=>(AV a d).bind λc=>(vI h.Bytes c 4).bind λb=>some b
def aLO:=some true
def CL(b:Int)(a:Bool):Option (Step Int (Out Unit Bool)):=(if a then some (.stop (Out.ret false)) else some (.next (aZ (b+1))))
def oP(h:Heap)(l:an)(c:Int):Int->Option (Step Int (Out Unit Bool))
 |a=>(if decide (a<(l.length:Int)) then(idx l a).bind λf=>(nY h f).bind λe=>(if e != c then CL a true else(idx l a).bind λd=>(AY h d).bind λb=>CL a (decide (6<b))) else some (.stop (Out.brk ())))
def aLP:(Out Unit Bool)->aw
 |.brk ()=>aLO
 |.ret r=>some r
def EK(h:Heap)(l:an)(c:Int):=(loop (oP h l c) 0).bind (aLP)
def EL(b c:Int)(a:Bool):=(if a then some (-1) else some (aZ ((aZ (b*3))+c)))
def AZ(a c:Int):=(bX a 0 2).bind λd=>(if !d then EL a c true else(bX c 0 2).bind λb=>EL a c (!b))
def aWR:=some true
def aGH(a:Int):Option (Step Int (Out Unit Bool)):=some (.next (aZ (a+1)))
def EM(m:Mem)(c:Int):Int->Option (Step Int (Out Unit Bool))
 |b=>(if decide (b<3) then(AZ b c).bind λe=>(idx m.aC.Own e).bind λd=>(EK m.Heap d.aW c).bind λa=>(if !a then some (.stop (Out.ret false)) else some (.next (aZ (b+1)))) else some (.stop (Out.brk ())))
def aGI(a:Int):(Out Unit Bool)->Option (Step Int (Out Unit Bool))
 |.brk ()=>aGH a
 |.ret r=>some (.stop (Out.ret r))
def EN(m:Mem):Int->Option (Step Int (Out Unit Bool))
 |a=>(if decide (a<3) then(idx m.aC.Global a).bind λc=>(EK m.Heap c.aW a).bind λb=>(if !b then some (.stop (Out.ret false)) else(loop (EM m a) 0).bind (aGI a)) else some (.stop (Out.brk ())))
def aWS:(Out Unit Bool)->aw
 |.brk ()=>aWR
 |.ret r=>some r
def NP(m:Mem)(a:Bool):=(if a then some false else(loop (EN m) 0).bind (aWS))
def ZN(m:Mem):=(U4 m.Heap).bind λb=>(if !b then NP m true else(RC m.aC).bind λa=>NP m (!a))
def aBK:=some true
def nA(b:Int)(a:Bool):Option (Step Int (Out Unit Bool)):=(if a then some (.stop (Out.ret false)) else some (.next (aZ (b+1))))
def xO(c:aD):Int->Option (Step Int (Out Unit Bool))
 |a=>(if decide (a<3) then(idx c.cV a).bind λb=>(if !b.On then(if !(decide (b=(⟨false,0,false,0⟩:zR))) then nA a true else(bX b.aL 0 c.aL).bind λg=>(if !g then nA a true else(bX b.Seen 0 2).bind λf=>nA a (!f))) else(bX b.aL 0 c.aL).bind λe=>(if !e then nA a true else(bX b.Seen 0 2).bind λd=>nA a (!d))) else some (.stop (Out.brk ())))
def PF:(Out Unit Bool)->aw
 |.brk ()=>aBK
 |.ret r=>some r
def qH(c:aD)(a:Bool):=(if a then some false else(loop (xO c) 0).bind (PF))
def rJ(c:aD):=(bX c.aL 0 100000).bind λa=>(if !a then qH c true else qH c ((c.cV.length:Int) != 3))
def CM(a:Bool):=some a
def jU(h:Int):=(bX h 32 223).bind λa=>(if a then CM (decide ((Int.tmod h 32)<24)) else CM false)
def gP(h:Int):=(jU h).bind λa=>(if !a then some (-1) else some (Int.tmod h 32))
def aN7:=some true
def xP(b:an)(d a:Int)(c:Bool):Option (Step (an×Int) (Out Unit Bool)):=(if c then some (.stop (Out.ret false)) else need (b.length+([a]).length<=1073741824) (some (.next (b++([a]),aZ (d+1)))))
def xQ(g:bo):(an×Int)->Option (Step (an×Int) (Out Unit Bool))
 |(c,b)=>(if decide (b<(g.length:Int)) then(idx g b).bind λf=>(gP f.Handle).bind λa=>(if decide (a<0) then xP c b a true else(bX f.aL 0 100000).bind λe=>(if !e then xP c b a true else(wF c a).bind λd=>xP c b a d)) else some (.stop (Out.brk ())))
def aN8:(Out Unit Bool)->aw
 |.brk ()=>aN7
 |.ret r=>some r
def FZ(b:bo)(a:Bool):=(if a then some false else(loop (xQ b) (([]:an),0)).bind (aN8))
def RD(l:bn):=(HP l).bind λa=>(if(l.length:Int) != 3 then FZ a true else FZ a (decide (24<(a.length:Int))))
def aGJ(z:an):=some ((z.length:Int) == 3)
def NQ(b:Int)(a:Bool):Option (Step Int (Out Unit Bool)):=(if a then some (.stop (Out.ret false)) else some (.next (aZ (b+1))))
def EO(z:an):Int->Option (Step Int (Out Unit Bool))
 |a=>(if decide (a<(z.length:Int)) then(idx z a).bind λd=>(if d != 0 then(idx z a).bind λc=>(jU c).bind λb=>NQ a (!b) else NQ a false) else some (.stop (Out.brk ())))
def aGK(z:an):(Out Unit Bool)->aw
 |.brk ()=>aGJ z
 |.ret r=>some r
def ZO(z:an):=(loop (EO z) 0).bind (aGK z)
def U5(l:aC)(a:Int):=(SP l).bind λc=>(wF c a).bind λb=>some b
def RE(m:Mem)(a:Int):bu:=(nY m.Heap a).bind λd=>(if decide (d<0) then some 0 else(U5 m.aC a).bind λc=>(if c then some 1 else(AY m.Heap a).bind λb=>(if decide (6<b) then some 2 else some 3)))
def KB(h:Int):=(jU h).bind λa=>(if !a then some 0 else some (aZ (Int.tdiv h 32)))
def xR(a:Bool):=some a
def CN(m:Mem)(h:Int):=(jU h).bind λf=>(if f then(gP h).bind λe=>(RE m e).bind λd=>(if d == 3 then(gP h).bind λc=>(AY m.Heap c).bind λb=>(KB h).bind λa=>xR (b == a) else xR false) else xR false)
def aSP:=some true
def KC(b:Int)(a:Bool):Option (Step Int (Out Unit Bool)):=(if a then some (.stop (Out.ret false)) else some (.next (aZ (b+1))))
def A0(b:aA)(d:bo):Int->Option (Step Int (Out Unit Bool))
 |a=>(if decide (a<(d.length:Int)) then(idx d a).bind λc=>(CN b.Mem c.Handle).bind λe=>(if !e then KC a true else KC a (decide (b.aD.aL<c.aL))) else some (.stop (Out.brk ())))
def aSQ:(Out Unit Bool)->aw
 |.brk ()=>aSP
 |.ret r=>some r
def uE(b:aA)(c:Bool):=(if c then some false else(HP b.aQ).bind λa=>(loop (A0 b a) 0).bind (aSQ))
def U6(b:aA):=(ZN b.Mem).bind λe=>(if !e then uE b true else(rJ b.aD).bind λd=>(if !d then uE b true else(RD b.aQ).bind λc=>(if !c then uE b true else(ZO b.pJ).bind λa=>uE b (!a))))
def F5(a:Bool):=some a
def wG(h:Int):=(if h == 0 then F5 true else(jU h).bind λa=>F5 a)
def EP(a:Bool):=some a
def ZP(b:bZ):=(wG b.Head).bind λd=>(if d then(bX b.eW 0 1000000).bind λc=>(if c then(bX b.eU 0 3).bind λa=>EP a else EP false) else EP false)
def SQ(l:an):=some (decide ((l.length:Int)<=6))
def o9(l:an):Int->Option (Step Int (Out Unit Bool))
 |a=>(if decide (a<(l.length:Int)) then(idx l a).bind λc=>(jU c).bind λb=>(if !b then some (.stop (Out.ret false)) else some (.next (aZ (a+1)))) else some (.stop (Out.brk ())))
def SR(l:an):(Out Unit Bool)->aw
 |.brk ()=>SQ l
 |.ret r=>some r
def xS(l:an):=(loop (o9 l) 0).bind (SR l)
def aLQ:=some true
def oQ(b:Int)(a:Bool):Option (Step Int (Out Unit Bool)):=(if a then some (.stop (Out.ret false)) else some (.next (aZ (b+1))))
def uF(j:aK):Int->Option (Step Int (Out Unit Bool))
 |a=>(if decide (a<(j.aH.length:Int)) then(idx j.aH a).bind λg=>(bX g.Key 0 99).bind λf=>(if !f then oQ a true else(idx j.aH a).bind λe=>(bX e.dP 0 65535).bind λd=>(if !d then oQ a true else(if decide (0<a) then(idx j.aH a).bind λc=>(idx j.aH (aZ (a-1))).bind λb=>oQ a (decide (c.Key<=b.Key)) else oQ a false))) else some (.stop (Out.brk ())))
def aLR:(Out Unit Bool)->aw
 |.brk ()=>aLQ
 |.ret r=>some r
def MG(j:aK):=(loop (uF j) 0).bind (aLR)
def uG(j:aK):Int->Option (Step Int (Out Unit Bool))
 |c=>(if decide (c<(j.Reads.length:Int)) then(idx j.Reads c).bind λb=>(bX b.bZ 0 1).bind λa=>(if !a then some (.stop (Out.ret false)) else some (.next (aZ (c+1)))) else some (.stop (Out.brk ())))
def aLS(j:aK):(Out Unit Bool)->aw
 |.brk ()=>MG j
 |.ret r=>some r
def MH(j:aK):=(loop (uG j) 0).bind (aLS j)
def CP(b:Int)(a:Bool):Option (Step Int (Out Unit Bool)):=(if a then some (.stop (Out.ret false)) else some (.next (aZ (b+1))))
def uH(j:aK):Int->Option (Step Int (Out Unit Bool))
 |a=>(if decide (a<(j.bH.length:Int)) then(idx j.bH a).bind λe=>(bX e 0 1).bind λd=>(if !d then CP a true else need (0<=(a:Int)/\(a:Int)<=(j.bH.length:Int)) ((idx j.bH a).bind λc=>(wF ((j.bH.take a.toNat).drop 0) c).bind λb=>CP a b)) else some (.stop (Out.brk ())))
def aLT(j:aK):(Out Unit Bool)->aw
 |.brk ()=>MH j
 |.ret r=>some r
def fV(j:aK)(a:Bool):=(if a then some false else(loop (uH j) 0).bind (aLT j))
def NR(j:aK):=(IM j.Batch).bind λh=>(if !h then fV j true else(wG j.H).bind λg=>(if !g then fV j true else(wG j.g7).bind λf=>(if !f then fV j true else(bX j.bZ 0 1).bind λe=>(if !e then fV j true else(bX j.At 0 (j.Batch.bR.length:Int)).bind λd=>(if !d then fV j true else(bX j.K 0 100).bind λc=>(if !c then fV j true else(xS j.gN).bind λb=>(if !b then fV j true else(xS j.cK).bind λa=>(if !a then fV j true else fV j (decide (6<(j.aH.length:Int)))))))))))
def aFM:=some true
def P4(c b:bc):Int->Option (Step Int (Out Unit Bool))
 |a=>(if decide (a<(c.length:Int)) then(idx c a).bind λe=>(idx b a).bind λd=>(if !(decide (e=d)) then some (.stop (Out.ret false)) else some (.next (aZ (a+1)))) else some (.stop (Out.brk ())))
def aFN:(Out Unit Bool)->aw
 |.brk ()=>aFM
 |.ret r=>some r
def uI(a b:bc):=(if(a.length:Int) != (b.length:Int) then some false else(loop (P4 a b) 0).bind (aFN))
def A3(a:Bool):=some a
def zI(a b:Batch):=(if a.Collect == b.Collect then(uI a.bR b.bR).bind λc=>A3 c else A3 false)
def aFO:=some true
def P5(c b:aK):Int->Option (Step Int (Out Unit Bool))
 |a=>(if decide (a<(c.aH.length:Int)) then(idx c.aH a).bind λe=>(idx b.aH a).bind λd=>(if !(decide (e=d)) then some (.stop (Out.ret false)) else some (.next (aZ (a+1)))) else some (.stop (Out.brk ())))
def aFP:(Out Unit Bool)->aw
 |.brk ()=>aFO
 |.ret r=>some r
def P6(a b:aK):=(loop (P5 a b) 0).bind (aFP)
def P7(c b:aK):Int->Option (Step Int (Out Unit Bool))
 |a=>(if decide (a<(c.Reads.length:Int)) then(idx c.Reads a).bind λe=>(idx b.Reads a).bind λd=>(if !(decide (e=d)) then some (.stop (Out.ret false)) else some (.next (aZ (a+1)))) else some (.stop (Out.brk ())))
def P8(a b:aK):(Out Unit Bool)->aw
 |.brk ()=>P6 a b
 |.ret r=>some r
def sY(a b:aK)(c:Bool):=(if c then some false else(loop (P7 a b) 0).bind (P8 a b))
def CQ(a b:aK):=(if(a.Reads.length:Int) != (b.Reads.length:Int) then sY a b true else sY a b ((a.aH.length:Int) != (b.aH.length:Int)))
def aJP:=some true
def U7(c b:an):Int->Option (Step Int (Out Unit Bool))
 |a=>(if decide (a<(c.length:Int)) then(idx c a).bind λe=>(idx b a).bind λd=>(if e != d then some (.stop (Out.ret false)) else some (.next (aZ (a+1)))) else some (.stop (Out.brk ())))
def aJQ:(Out Unit Bool)->aw
 |.brk ()=>aJP
 |.ret r=>some r
def uJ(a b:an):=(if(a.length:Int) != (b.length:Int) then some false else(loop (U7 a b) 0).bind (aJQ))
def cA(a:Bool):=some a
def qI(a b:aK):=(if a.bU == b.bU then(zI a.Batch b.Batch).bind λh=>(if h then(if a.aG == b.aG then(if a.Pc == b.Pc then(if a.At == b.At then(if a.K == b.K then(if a.bZ == b.bZ then(if a.eW == b.eW then(if a.H == b.H then(if a.g7 == b.g7 then(if decide (a.Node=b.Node) then(if a.Found == b.Found then(if a.Code == b.Code then(if decide (a.Sub=b.Sub) then(CQ a b).bind λg=>(if g then(m9 a.eX b.eX).bind λf=>(if f then(uJ a.gN b.gN).bind λe=>(if e then(uJ a.bH b.bH).bind λd=>(if d then(uJ a.cK b.cK).bind λc=>cA c else cA false) else cA false) else cA false) else cA false) else cA false) else cA false) else cA false) else cA false) else cA false) else cA false) else cA false) else cA false) else cA false) else cA false) else cA false) else cA false) else cA false) else cA false)
def aN9:=some true
def nB(b:Int)(a:Bool):Option (Step Int (Out Unit Bool)):=(if a then some (.stop (Out.ret false)) else some (.next (aZ (b+1))))
def xT(t:Table):Int->Option (Step Int (Out Unit Bool))
 |a=>(if decide (a<3) then(idx t.aR a).bind λj=>(if j.bU then(idx t.aR a).bind λi=>(NR i).bind λh=>(if !h then nB a true else(idx t.aR a).bind λg=>(if !g.bU then(idx t.aR a).bind λf=>(qI f (⟨false,(⟨false,[]⟩:Batch),0,0,0,0,0,0,0,0,(⟨0,0,0⟩:gL),false,0,(⟨0,0,0,0,0,0,0,0,0,false⟩:Sub),[],[],[],[],[],[]⟩:aK)).bind λe=>nB a (!e) else nB a false)) else(idx t.aR a).bind λd=>(if !d.bU then(idx t.aR a).bind λc=>(qI c (⟨false,(⟨false,[]⟩:Batch),0,0,0,0,0,0,0,0,(⟨0,0,0⟩:gL),false,0,(⟨0,0,0,0,0,0,0,0,0,false⟩:Sub),[],[],[],[],[],[]⟩:aK)).bind λb=>nB a (!b) else nB a false)) else some (.stop (Out.brk ())))
def aOA:(Out Unit Bool)->aw
 |.brk ()=>aN9
 |.ret r=>some r
def PG(t:Table):=(loop (xT t) 0).bind (aOA)
def xU(t:Table):Int->Option (Step Int (Out Unit Bool))
 |c=>(if decide (c<2) then(idx t.aT c).bind λb=>(ZP b).bind λa=>(if !a then some (.stop (Out.ret false)) else some (.next (aZ (c+1)))) else some (.stop (Out.brk ())))
def aOB(t:Table):(Out Unit Bool)->aw
 |.brk ()=>PG t
 |.ret r=>some r
def lE(t:Table)(a:Bool):=(if a then some false else(loop (xU t) 0).bind (aOB t))
def KD(t:Table):=(U6 t.aA).bind λc=>(if !c then lE t true else(if(t.aT.length:Int) != 2 then lE t true else(if(t.aR.length:Int) != 3 then lE t true else(IN t.eE).bind λb=>(if !b then lE t true else(bX t.aG 0 1000000).bind λa=>lE t (!a)))))
def RF(a c:Int):=(AV a c).bind λb=>(if decide (b<0) then some (-1) else some (aZ (b+4)))
def F6(m:Mem)(h:Int)(f:Bool):Option (Int×Int):=(if f then some (0,4) else(gP h).bind λe=>(nY m.Heap e).bind λa=>(HR a).bind λd=>(if decide (d<10) then some (0,2) else(gP h).bind λc=>(RF c a).bind λb=>some (b,0)))
def KE(m:Mem)(h:Int):Option (Int×Int):=(jU h).bind λc=>(if !c then F6 m h true else(gP h).bind λb=>(nY m.Heap b).bind λa=>F6 m h (decide (a<0)))
def A4(a:Bool):=some a
def U8(n:gL):=(bX n.Key 0 99).bind λc=>(if c then(bX n.dP 0 65535).bind λb=>(if b then(wG n.Next).bind λa=>A4 a else A4 false) else A4 false)
def CR(m:Mem)(at_:Int):=(vI m.Heap.Bytes at_ 2).bind λc=>(vI m.Heap.Bytes (aZ (at_+2)) 4).bind λb=>(vI m.Heap.Bytes (aZ (at_+6)) 4).bind λa=>some (⟨c,b,a⟩:gL)
def aLU(a:an):=some (a,true)
def CS(m:Mem)(b:an)(a:Int)(e:Int×Int)(d:Bool):Option (Step (an×Int) (Out an (an×Bool))):=(if d then some (.stop (Out.ret (([]:an),false))) else need (b.length+([a]).length<=1073741824) ((CR m e.1).bind λc=>some (.next (b++([a]),c.Next))))
def CT(m:Mem)(e:an)(d:Int)(f:Bool):Option (Step (an×Int) (Out an (an×Bool))):=(if f then some (.stop (Out.ret (([]:an),false))) else(KE m d).bind λa=>(if a.2 != 0 then CS m e d a true else(CR m a.1).bind λc=>(U8 c).bind λb=>CS m e d a (!b)))
def CU(m:Mem):(an×Int)->Option (Step (an×Int) (Out an (an×Bool)))
 |(b,a)=>(if a != 0 then(CN m a).bind λd=>(if !d then CT m b a true else(wF b a).bind λc=>CT m b a c) else some (.stop (Out.brk b)))
def aLV:(Out an (an×Bool))->Option (an×Bool)
 |.brk a=>aLU a
 |.ret r=>some r
def NS(m:Mem)(a:Int):=(loop (CU m) (([]:an),a)).bind (aLV)
def aC9(m:Mem)(h:Int):=(KE m h).bind λa=>(if a.2 != 0 then some (⟨0,0,0⟩:gL) else(CR m a.1).bind λb=>some b)
def aLW(a:aq):=some a
def X9(b:Int)(a:aq):Option (Step (aq×Int) (Out aq aq)):=some (.next (a,aZ (b+1)))
def MI(e:aq)(d c b f:Int):Option (Step (aq×Int) aq):=(HN e c b).bind λa=>some (.next (a,aZ (d-1)))
def uK(t:Table)(e:an×Bool):(aq×Int)->Option (Step (aq×Int) aq)
 |(c,b)=>(if decide (0<=b) then(idx e.1 b).bind λd=>(aC9 t.aA.Mem d).bind λa=>MI c b a.Key a.dP a.Next else some (.stop (c)))
def YA(b:Int):aq->Option (Step (aq×Int) (Out aq aq))
 |a=>X9 b a
def CV(t:Table):(aq×Int)->Option (Step (aq×Int) (Out aq aq))
 |(c,b)=>(if decide (b<2) then(idx t.aT b).bind λd=>(NS t.aA.Mem d.Head).bind λa=>(if !a.2 then some (.stop (Out.ret ([]:aq))) else(loop (uK t a) (c,aZ ((a.1.length:Int)-1))).bind (YA b)) else some (.stop (Out.brk c)))
def aLX:(Out aq aq)->Option aq
 |.brk a=>aLW a
 |.ret r=>some r
def NT(t:Table):=(KD t).bind λa=>(if !a then some ([]:aq) else(loop (CV t) (([]:aq),0)).bind (aLX))
def CX(a:Bool):=some a
def CY(t:Table)(f:aq×Bool)(e:Bool):=(if e then some false else(AS t).bind λd=>(if !d then CX true else(KD t).bind λc=>(if c then(NT t).bind λb=>(CI f.1 b).bind λa=>CX a else CX false)))
def NU(t:Table):=(OL t.Log).bind λa=>(if !a.2 then CY t a true else(HO t.Log).bind λb=>CY t a (!b))
def aOC(a:an):=some (a,true)
def F7(m:Mem)(c:an)(a:Int)(e:Bool):Option (Step (an×Int) (Out an (an×Bool))):=(if e then some (.stop (Out.ret ([],false))) else(rB m.Heap (Int.tmod a 32)).bind λb=>(OH b).bind λd=>(if !d then some (.stop (Out.ret ([],false))) else need (c.length+([a]).length<=1073741824) (some (.next (c++([a]),b.Next)))))
def F8(m:Mem):(an×Int)->Option (Step (an×Int) (Out an (an×Bool)))
 |(b,a)=>(if a != 0 then(yN m a).bind λd=>(if d != 0 then F7 m b a true else(iL b a).bind λc=>F7 m b a c) else some (.stop (Out.brk b)))
def aOD:(Out an (an×Bool))->Option (an×Bool)
 |.brk a=>aOC a
 |.ret r=>some r
def KF(m:Mem)(a:Int):=(AI m).bind λb=>(if !b then some (([]:an),false) else(loop (F8 m) (([]:an),a)).bind (aOD))
def aSR(a:List an):=some (a,true)
def A5(t:Table):(b4×Int)->Option (Step (b4×Int) (Out b4 (b4×Bool)))
 |(c,b)=>(if decide (b<(t.aT.length:Int)) then(idx t.aT b).bind λd=>(KF t.aA.Mem d.Head).bind λa=>(if !a.2 then some (.stop (Out.ret ([],false))) else need (c.length+([a.1]).length<=1073741824) (some (.next (c++([a.1]),aZ (b+1))))) else some (.stop (Out.brk c)))
def aSS:(Out b4 (b4×Bool))->Option (b4×Bool)
 |.brk a=>aSR a
 |.ret r=>some r
def OM(t:Table):=(CH t).bind λa=>(if !a then some (([]:List an),false) else(loop (A5 t) (([]:List an),0)).bind (aSS))
def ZQ:=some (-1)
def wH(s:aq)(f:(KV->aw)):Int->Option (Step Int (Out Unit Int))
 |a=>(if decide (a<(s.length:Int)) then(idx s a).bind λc=>(f c).bind λb=>(if b then some (.stop (Out.ret a)) else some (.next (aZ (a+1)))) else some (.stop (Out.brk ())))
def ZR:(Out Unit Int)->bu
 |.brk ()=>ZQ
 |.ret r=>some r
def jL(s:aq)(f:(KV->aw)):=(loop (wH s f) 0).bind (ZR)
def HT(b:aq)(a:Int):=need (0<=(a:Int)/\(a:Int)<=(b.length:Int)) (need (0<=(a:Int)/\(a:Int)<=((dF b a.toNat (List.replicate (b.length-a.toNat) (⟨0,0⟩:KV))).length:Int)) (some (((dF b a.toNat (List.replicate (b.length-a.toNat) (⟨0,0⟩:KV))).take a.toNat).drop 0)))
def kH(c:Int)(b:aq)(a:Int):Option (Step (aq×Int×Int) (aq×Int)):=some (.next (b,a,aZ (c+1)))
def mY(f:(KV->aw)):(aq×Int×Int)->Option (Step (aq×Int×Int) (aq×Int))
 |(a,c,d)=>(if decide (d<(a.length:Int)) then(idx a d).bind λb=>(f b).bind λe=>(if !e then(idx a c).bind λg=>kH d (a.set c.toNat b) (aZ (c+1)) else kH d a c) else some (.stop ((a,c))))
def HU:(aq×Int)->Option aq
 |(b,a)=>HT b a
def rK(s:aq)(a:(KV->aw)):=(jL s a).bind λb=>(if b == (-1) then some s else(loop (mY a) (s,b,aZ (b+1))).bind (HU))
def lF(s:aq):=need (([]:aq).length+s.length<=1073741824) (some (([]:aq)++s))
def NV(x:KV)(a:Int):=some (x.Key == a)
def ON(l:aq)(key:Int):=(lF l).bind λc=>(rK c (λa=>NV a key)).bind λb=>some b
def WE(x:KV)(a:Int):=some (decide (a<x.Key))
def MJ(s:aq)(i:Int)(v:aq):=need (0<=i/\i<=(s.length:Int)/\s.length+v.length<=1073741824) (some (s.take i.toNat++v++s.drop i.toNat))
def A6(key val:Int)(c:aq)(b:Int):=(MJ c b ([(⟨key,val⟩:KV)])).bind λa=>some a
def vK(l:aq)(key val:Int):=(ON l key).bind λa=>(jL a (λc=>WE c key)).bind λb=>(if decide (b<0) then A6 key val a (a.length:Int) else A6 key val a b)
def tmB(t:Table):an->aq->Option aq
 |[],m=>some m
 |h::l,m=>(tmB t l m).bind λm'=>(rB t.aA.Mem.Heap (Int.tmod h 32)).bind λn=>vK m' n.Key n.dP
def tmL(t:Table):List an->aq->Option aq
 |[],m=>some m
 |l::ls,m=>(tmB t l m).bind (tmL t ls)
def yQ(t:Table):cF:=(OM t).bind λx=>tmL t x.1 []
def YB:=some (-1)
def HV(s:a7)(f:(iO->aw)):Int->Option (Step Int (Out Unit Int))
 |a=>(if decide (a<(s.length:Int)) then(idx s a).bind λc=>(f c).bind λb=>(if b then some (.stop (Out.ret a)) else some (.next (aZ (a+1)))) else some (.stop (Out.brk ())))
def YC:(Out Unit Int)->bu
 |.brk ()=>YB
 |.ret r=>some r
def A7(s:a7)(f:(iO->aw)):=(loop (HV s f) 0).bind (YC)
def zJ(a:Bool):=some a
def SS(a:iO)(c b:Int):=(if a.Kind == c then zJ (a.aG == b) else zJ false)
def rL(l:a7)(b a:Int):=(A7 l (λc=>SS c b a)).bind λd=>some d
def aWT(a:an):=some a
def ER(b:Int)(a:an):Option (Step (an×Int) an):=some (.next (a,aZ (b+1)))
def NW(b:an)(d:Int)(c:iO)(a:Bool):Option (Step (an×Int) an):=(if a then need (b.length+([c.aG]).length<=1073741824) (ER d (b++([c.aG]))) else ER d b)
def NX(l:a7)(d:an)(c:Int)(b:iO)(f:Bool):Option (Step (an×Int) an):=(if f then ER c d else(rL l 3 b.aG).bind λe=>(if decide (0<=e) then(idx l e).bind λa=>NW d c b (a.Code == 0) else NW d c b false))
def ES(l:a7):(an×Int)->Option (Step (an×Int) an)
 |(c,b)=>(if decide (b<(l.length:Int)) then(idx l b).bind λa=>(if a.Kind != 2 then NX l c b a true else(iL c a.aG).bind λd=>NX l c b a d) else some (.stop (c)))
def aWU:an->Option an
 |a=>aWT a
def SU(l:a7):=(loop (ES l) (([]:an),0)).bind (aWU)
def aWV:=some true
def yR(b:Int)(a:Bool):Option (Step Int (Out Unit Bool)):=(if a then some (.stop (Out.ret false)) else some (.next (aZ (b+1))))
def ET(l:aq):Int->Option (Step Int (Out Unit Bool))
 |a=>(if decide (a<(l.length:Int)) then(idx l a).bind λb=>(bV b.Key 0 99).bind λe=>(if !e then yR a true else(bV b.dP 0 65535).bind λd=>(if !d then yR a true else(if decide (0<a) then(idx l (aZ (a-1))).bind λc=>yR a (decide (b.Key<=c.Key)) else yR a false))) else some (.stop (Out.brk ())))
def aWW:(Out Unit Bool)->aw
 |.brk ()=>aWV
 |.ret r=>some r
def ZS(l:aq):=(loop (ET l) 0).bind (aWW)
def aST:Option (Int×Bool):=some (0,false)
def A8(l:aq)(key:Int):Int->Option (Step Int (Out Unit (Int×Bool)))
 |a=>(if decide (a<(l.length:Int)) then(idx l a).bind λb=>(if b.Key == key then some (.stop (Out.ret (b.dP,true))) else some (.next (aZ (a+1)))) else some (.stop (Out.brk ())))
def aSU:(Out Unit (Int×Bool))->Option (Int×Bool)
 |.brk ()=>aST
 |.ret r=>some r
def U9(l:aq)(key:Int):=(loop (A8 l key) 0).bind (aSU)
def NY(l:aq)(c:iK)(d:aq)(h:Bool):=(if h then some (d,(⟨false,0⟩:eX)) else(U9 l c.Key).bind λa=>(if c.Kind == 1 then some (d,(⟨a.2,a.1⟩:eX)) else(if c.Kind == 2 then(vK l c.Key c.dP).bind λg=>some (g,(⟨false,0⟩:eX)) else(if c.Kind == 3 then(ON l c.Key).bind λf=>some (f,(⟨false,0⟩:eX)) else(SI a.1 c.dP).bind λb=>(vK l c.Key b).bind λe=>some (e,(⟨true,b⟩:eX))))))
def ZT(l:aq)(c:iK):=(lF l).bind λa=>(ZS l).bind λd=>(if !d then NY l c a true else(GP c).bind λb=>NY l c a (!b))
def aDA(b:aq)(a:bq):=some (b,a)
def KG(cmds:bc):(aq×bq×Int)->Option (Step (aq×bq×Int) (aq×bq))
 |(e,d,c)=>(if decide (c<(cmds.length:Int)) then(idx cmds c).bind λb=>(ZT e b).bind λa=>need (d.length+([a.2]).length<=1073741824) (some (.next (a.1,d++([a.2]),aZ (c+1)))) else some (.stop ((e,d))))
def aDB:(aq×bq)->Option (aq×bq)
 |(b,a)=>aDA b a
def VA(l:aq)(cmds:bc):=(lF l).bind λa=>(loop (KG cmds) (a,([]:bq),0)).bind (aDB)
def aSV(b:aq)(a:Bool):=some (b,a)
def A9(c:Int)(b:aq)(a:Bool):Option (Step (aq×Bool×Int) (aq×Bool)):=some (.next (b,a,aZ (c+1)))
def KH(l:a7)(n:Int)(a:an):(aq×Bool×Int)->Option (Step (aq×Bool×Int) (aq×Bool))
 |(j,k,e)=>(if decide (e<(((a.take ((if(if(a.length:Int)<n then(a.length:Int) else n)<0 then 0 else(if(a.length:Int)<n then(a.length:Int) else n)).toNat)).drop 0).length:Int)) then(idx ((a.take ((if(if(a.length:Int)<n then(a.length:Int) else n)<0 then 0 else(if(a.length:Int)<n then(a.length:Int) else n)).toNat)).drop 0) e).bind λd=>(rL l 1 d).bind λc=>(if decide (c<0) then A9 e j false else(idx l c).bind λi=>(VA j i.bR).bind λb=>(if k then(rL l 3 d).bind λh=>(idx l h).bind λg=>(lW b.2 g.eX).bind λf=>A9 e b.1 f else A9 e b.1 false)) else some (.stop ((j,k))))
def aSW:(aq×Bool)->Option (aq×Bool)
 |(b,a)=>aSV b a
def VB(l:a7)(n:Int):=(SU l).bind λa=>need (0<=(if(if(a.length:Int)<n then(a.length:Int) else n)<0 then 0 else(if(a.length:Int)<n then(a.length:Int) else n):Int)/\(if(if(a.length:Int)<n then(a.length:Int) else n)<0 then 0 else(if(a.length:Int)<n then(a.length:Int) else n):Int)<=(a.length:Int)) ((loop (KH l n a) (([]:aq),true,0)).bind (aSW))
def aDC(l:a7):=(VB l (l.length:Int)).bind λa=>some (a.1,a.2)
def BA(a:Bool):=some a
def VC(l:a7)(d b:Int):=(rL l 3 d).bind λc=>(rL l 1 b).bind λa=>(if decide (0<=c) then(if decide (0<=a) then BA (decide (c<a)) else BA false) else BA false)
def NZ(a:Int)(d:a7)(c:Int):=(VC d c a).bind λb=>some b
def aSX:=some true
def KI(l:a7)(b:an):Int->Option (Step Int (Out Unit Bool))
 |a=>(if decide (a<(b.length:Int)) then(idx b a).bind λe=>need (0<=(a:Int)/\(a:Int)<=(b.length:Int)) ((dQ ((b.take a.toNat).drop 0) (λc=>NZ c l e)).bind λd=>(if d then some (.stop (Out.ret false)) else some (.next (aZ (a+1))))) else some (.stop (Out.brk ())))
def aSY:(Out Unit Bool)->aw
 |.brk ()=>aSX
 |.ret r=>some r
def VD(l:a7):=(SU l).bind λa=>(loop (KI l a) 0).bind (aSY)
def aHN:=some true
def wI(b e:aq):Int->Option (Step Int (Out Unit Bool))
 |a=>(if decide (a<(b.length:Int)) then(idx b a).bind λd=>(idx e a).bind λc=>(if !(decide (d=c)) then some (.stop (Out.ret false)) else some (.next (aZ (a+1)))) else some (.stop (Out.brk ())))
def aHO:(Out Unit Bool)->aw
 |.brk ()=>aHN
 |.ret r=>some r
def F9(b a:aq):=(if(b.length:Int) != (a.length:Int) then some false else(loop (wI b a) 0).bind (aHO))
def ZU(c b:aq):=(F9 c b).bind λa=>some a
def oR(a:Bool):=some a
def N0(t:Table):=(aDC t.Log).bind λa=>(if a.2 then(VD t.Log).bind λf=>(if f then(AN t).bind λe=>(if !e then oR true else(CH t).bind λd=>(if d then(yQ t).bind λc=>(ZU c a.1).bind λb=>oR b else oR false)) else oR false) else oR false)
def iH(a:Bool):=some a
def WG(code:bh):=(aR2 code).bind λn=>(if n then some true else(vP code).bind λh=>(UN h).bind λm=>(if !m then(tT h).bind λl=>some ((l.aR.length:Int) == 0) else(tT h).bind λj=>(lY j).bind λa=>(OL a.Log).bind λi=>(HO j.Log).bind λk=>(if k then(NU a).bind λg=>(if g then(AS a).bind λf=>(if f then(if i.2 then(yQ a).bind λe=>(CI i.1 e).bind λd=>(if d then(N0 a).bind λc=>(if c then(if(a.aR.length:Int) == 3 then(HO a.Log).bind λb=>iH b else iH false) else iH false) else iH false) else iH false) else iH false) else iH false) else iH false)))
def aOE:aw:=some false
def GA(b:Int)(a:Bool):Option (Step Int (Out Unit Bool)):=(if a then some (.stop (Out.ret true)) else some (.next (aZ (b+1))))
def qJ(a:Int)(d:bo):Int->Option (Step Int (Out Unit Bool))
 |b=>(if decide (b<(d.length:Int)) then(idx d b).bind λc=>(jU c.Handle).bind λf=>(if f then(gP c.Handle).bind λe=>GA b (e == a) else GA b false) else some (.stop (Out.brk ())))
def aOF:(Out Unit Bool)->aw
 |.brk ()=>aOE
 |.ret r=>some r
def ZV(l:bn)(a:Int):aw:=(HP l).bind λb=>(loop (qJ a b) 0).bind (aOF)
def aOG:bu:=some (-1)
def gQ(size:Int):Int->Option (Step Int (Out Unit Int))
 |a=>(if decide (a<3) then(HR a).bind λc=>(bX size 1 c).bind λb=>(if b then some (.stop (Out.ret a)) else some (.next (aZ (a+1)))) else some (.stop (Out.brk ())))
def aOH:(Out Unit Int)->bu
 |.brk ()=>aOG
 |.ret r=>some r
def KJ(size:Int):bu:=(loop (gQ size) 0).bind (aOH)
def WH(s:bK)(a:Int):Option (bK×Int):=some ((⟨(s.aW.take ((aZ ((s.aW.length:Int)-1)).toNat)).drop 0⟩:bK),a)
def wJ(s:bK):Option (bK×Int):=(if(s.aW.length:Int) == 0 then some (s,(-1)) else need (0<=(aZ ((s.aW.length:Int)-1):Int)/\(aZ ((s.aW.length:Int)-1):Int)<=(s.aW.length:Int)) ((idx s.aW (aZ ((s.aW.length:Int)-1))).bind λa=>WH s a))
def aOI(a:an):cr:=some a
def GB(at_:Int):(an×Int×Int)->Option (Step (an×Int×Int) an)
 |(b,c,a)=>(if decide (0<=a) then(idx b (aZ (at_+a))).bind λd=>some (.next (b.set ((aZ (at_+a)).toNat) (Int.tmod c 256),aZ (Int.tdiv c 256),aZ (a-1))) else some (.stop (b)))
def aOJ:an->Option an
 |a=>aOI a
def KK(b:an)(at_ a n:Int):cr:=(loop (GB at_) (b,n,aZ (a-1))).bind (aOJ)
def aOK(h:Heap):Option (Heap×an):=some (h,([]:an))
def PH(a:Int):Option (Step Int (Out Unit (Heap×an))):=some (.next (aZ (a+1)))
def aOL(h:Heap)(c d:Int)(b a:an):Option (Step Int (Out Unit (Heap×an))):=some (.stop (Out.ret ((⟨a,h.Class.set d.toNat c⟩:Heap),b)))
def aBL(e:Int)(c:an)(b:Int)(d:an):Option (Step (an×Int×an) (an×an)):=(vJ e b).bind λa=>need (c.length+([a]).length<=1073741824) (some (.next (c++([a]),aZ (b+1),d)))
def GC(c i:Int):(an×Int×an)->Option (Step (an×Int×an) (an×an))
 |(d,a,b)=>(nX c).bind λh=>(if decide (a<h) then(vJ i a).bind λg=>(AV g c).bind λf=>(KK b f 4 1).bind λe=>aBL i d a e else some (.stop ((d,b))))
def aOM(h:Heap)(c d:Int):(an×an)->Option (Step Int (Out Unit (Heap×an)))
 |(b,a)=>aOL h c d b a
def fW(h:Heap)(c:Int):Int->Option (Step Int (Out Unit (Heap×an)))
 |a=>(if decide (a<6) then(idx h.Class a).bind λd=>(if d != (-1) then PH a else(idx h.Bytes (aZ (a*64))).bind λg=>(idx (h.Bytes.set ((aZ (a*64)).toNat) 171) (aZ ((aZ (a*64))+1))).bind λf=>(nX c).bind λb=>(idx ((h.Bytes.set ((aZ (a*64)).toNat) 171).set ((aZ ((aZ (a*64))+1)).toNat) c) (aZ ((aZ (a*64))+2))).bind λe=>(loop (GC c a) (([]:an),0,((h.Bytes.set ((aZ (a*64)).toNat) 171).set ((aZ ((aZ (a*64))+1)).toNat) c).set ((aZ ((aZ (a*64))+2)).toNat) b)).bind (aOM h c a)) else some (.stop (Out.brk ())))
def aON(h:Heap):(Out Unit (Heap×an))->Option (Heap×an)
 |.brk ()=>aOK h
 |.ret r=>some r
def wK(h:Heap)(c:Int):Option (Heap×an):=(loop (fW h c) 0).bind (aON h)
def PI(m:Mem)(c:Int)(a:Heap×an)(d:bK)(b:Int):Option (Mem×Int):=some ((⟨a.1,(⟨m.aC.Global.set c.toNat (⟨d.aW++((a.2.take a.2.length).drop ((1:Int).toNat))⟩:bK),m.aC.Own⟩:aC)⟩:Mem),b)
def KL(m:Mem)(c:Int):Option (Mem×Int):=(wK m.Heap c).bind λa=>(if(a.2.length:Int) == 0 then some ((⟨a.1,m.aC⟩:Mem),(-1)) else(idx m.aC.Global c).bind λb=>need (0<=(1:Int)/\(1:Int)<=(a.2.length:Int)) (need (b.aW.length+((a.2.take a.2.length).drop ((1:Int).toNat)).length<=1073741824) ((idx a.2 0).bind λd=>PI m c a b d)))
def CZ(a gen:Int)(b:Bool):bu:=(if b then some 0 else some (aZ ((aZ (gen*32))+a)))
def WI(a gen:Int):bu:=(bX a 0 23).bind λc=>(if !c then CZ a gen true else(bX gen 1 6).bind λb=>CZ a gen (!b))
def EU(m:Mem)(a:Int):bu:=(AY m.Heap a).bind λc=>(WI a c).bind λb=>some b
def SW(b a:bf):Option aC:=some (⟨b,a⟩:aC)
def aDD(x:aC)(a c:Int)(b:bK):Option aC:=SW x.Global (x.Own.set c.toNat (⟨b.aW++([a])⟩:bK))
def aDE(x:aC)(a:bf):Option aC:=SW a x.Own
def aDF(x:aC)(f c a:Int):Option aC:=
 (AZ f c).bind λe=>(idx x.Own e).bind λb=>(if decide ((b.aW.length:Int)<2) then need (b.aW.length+([a]).length<=1073741824)<|aDD x a e b else(idx x.Global c).bind λd=>need (d.aW.length+([a]).length<=1073741824)<|aDE x (x.Global.set c.toNat (⟨d.aW++([a])⟩:bK)))
def SX(x:Mem)(c:an)(b a:bf):Option Mem:=some (⟨(⟨c,x.Heap.Class⟩:Heap),(⟨b,a⟩:aC)⟩:Mem)
def SY(x:Mem)(f a e d:Int)(c:an):Option Mem:=(if decide ((aZ (d+1))<=6) then(aDF x.aC f e a).bind λb=>SX x c b.Global b.Own else SX x c x.aC.Global x.aC.Own)
def OO(x:Mem)(f a:Int):Option Mem:=(nY x.Heap a).bind λc=>(AY x.Heap a).bind λb=>(AV a c).bind λe=>(KK x.Heap.Bytes e 4 (aZ (b+1))).bind λd=>SY x f a c b d
def C0(c:aD):Option aD:=need (([]:b5).length+c.cV.length<=1073741824) (some (⟨c.aL,([]:b5)++c.cV⟩:aD))
def bW(s:Sub)(code:Int):Option Sub:=some ({s with Code:=code,iE:=true}:Sub)
def ZW(b:aA)(s:Sub)(a pc:Int):Option Sub:=(if decide (0<=a) then(EU b.Mem a).bind λd=>(bW ({s with Out:=d}:Sub) 0).bind λc=>some c else some ({s with Pc:=pc}:Sub))
def C1(s:Sub)(e:Int)(d:Bool)(a:aA):b9:=(if d then(bW s 3).bind λc=>some (a,c) else(ZW a s e (aZ (s.Pc+1))).bind λb=>some (a,b))
def kI(s:Sub)(a:Int)(b:aA):b9:=(if decide (a<0) then C1 s a (s.Pc == 3) b else C1 s a false b)
def C2(b:aA)(s:Sub)(g:Int)(f:Bool):b9:=(if f then(idx b.Mem.aC.Global g).bind λe=>(wJ e).bind λc=>kI s c.2 ({b with Mem:=(⟨b.Mem.Heap,(⟨b.Mem.aC.Global.set g.toNat c.1,b.Mem.aC.Own⟩:aC)⟩:Mem)}:aA) else(if s.Pc == 2 then(KL b.Mem g).bind λa=>kI s a.2 ({b with Mem:=a.1}:aA) else(bW s 1).bind λd=>some (b,d)))
def EV(b:aA)(g:Int)(s:Sub):b9:=(KJ s.A).bind λc=>(if decide (c<0) then(bW s 2).bind λf=>some (b,f) else(if s.Pc == 0 then(AZ g c).bind λe=>(idx b.Mem.aC.Own e).bind λd=>(wJ d).bind λa=>kI s a.2 ({b with Mem:=(⟨b.Mem.Heap,(⟨b.Mem.aC.Global,b.Mem.aC.Own.set e.toNat a.1⟩:aC)⟩:Mem)}:aA) else(if s.Pc == 1 then C2 b s c true else C2 b s c (s.Pc == 3))))
def KM(b:aA)(s:Sub)(c:bn):b9:=(bW s 0).bind λa=>some (({b with aQ:=c}:aA),a)
def zK(b:aA)(c:Int)(s:Sub)(e:Bool):b9:=
 (if e then(bW s 4).bind λd=>some (b,d) else(idx b.aQ c).bind λa=>need (a.Rows.length+([(⟨s.A,s.E⟩:eR)]).length<=1073741824)<|KM b s (b.aQ.set c.toNat (⟨a.Rows++([(⟨s.A,s.E⟩:eR)])⟩:b7)))
def BC(b:aA)(d:Int)(s:Sub):b9:=(if s.Pc == 0 then some (b,({s with Pc:=1,E:=b.aD.aL}:Sub)) else(if s.Pc == 1 then(bX s.E 0 b.aD.aL).bind λh=>(if !h then(bW s 1).bind λg=>some (b,g) else(CN b.Mem s.A).bind λf=>(if !f then zK b d s true else(gP s.A).bind λe=>(ZV b.aQ e).bind λc=>zK b d s c)) else(bW s 1).bind λa=>some (b,a)))
def uL(b:Int)(a:aD)(c:zR)(f:Bool):cy:=(if f then some (a,true) else(if c.Seen == 2 then(idx a.cV b).bind λe=>some ((⟨a.aL,a.cV.set b.toNat ({e with hU:=true,Seen:=0}:zR)⟩:aD),true) else(idx a.cV b).bind λd=>some ((⟨a.aL,a.cV.set b.toNat ({d with Seen:=aZ (c.Seen+1)}:zR)⟩:aD),false)))
def KN(c:aD)(d f:Int)(b:aD)(e:Bool):cy:=(if e then some (b,false) else(idx c.cV d).bind λa=>(if !a.On then uL d b a true else(if a.hU then uL d b a true else uL d b a (a.aL == f))))
def OQ(c:aD)(a d:Int):cy:=(C0 c).bind λb=>(rJ c).bind λf=>(if !f then KN c a d b true else(bX a 0 2).bind λe=>KN c a d b (!e))
def KO(c:Int)(a:aD)(b:Bool):cy:=(if b then some (a,false) else some ((⟨aZ (c+1),a.cV⟩:aD),true))
def YD(c:aD)(a:Int):cy:=(C0 c).bind λb=>(rJ c).bind λd=>(if !d then KO a b true else(if c.aL != a then KO a b true else KO a b (a == 100000)))
def wL(b:aA)(s:Sub)(c:aD×Bool)(a:Int):b9:=some (({b with aD:=c.1}:aA),({s with Pc:=a,B:=aZ (s.B+1)}:Sub))
def wM(b:aA)(s:Sub)(d:aD×Bool)(c:Int):b9:=(bW ({s with Out:=c}:Sub) 0).bind λa=>some (({b with aD:=d.1}:aA),a)
def xV(b:aA)(s:Sub):b9:=(if s.Pc == 0 then some (b,({s with Pc:=1,E:=b.aD.aL,B:=0}:Sub)) else(if s.Pc == 1 then(bX s.B 0 2).bind λg=>(if !g then(bW s 1).bind λf=>some (b,f) else(OQ b.aD s.B s.E).bind λa=>(if !a.2 then(bW s 8).bind λe=>some (({b with aD:=a.1}:aA),e) else(if(aZ (s.B+1)) == 3 then wL b s a 2 else wL b s a s.Pc))) else(if s.Pc == 2 then(YD b.aD s.E).bind λc=>(if c.2 then wM b s c 1 else wM b s c s.Out) else(bW s 1).bind λd=>some (b,d))))
def RG(a:Bool):aw:=some a
def RX(b:eR)(a:Int):aw:=(if decide (2<=a) then RG (decide (b.aL<=(aZ (a-2)))) else RG false)
def aOO:bu:=some (-1)
def fX(l:bo)(d:Int):Int->Option (Step Int (Out Unit Int))
 |a=>(if decide (a<(l.length:Int)) then(idx l a).bind λc=>(RX c d).bind λb=>(if b then some (.stop (Out.ret a)) else some (.next (aZ (a+1)))) else some (.stop (Out.brk ())))
def aOP:(Out Unit Int)->bu
 |.brk ()=>aOO
 |.ret r=>some r
def C3(l:bo)(a b:Int):bu:=(loop (fX l b) (if 0<a then a else 0)).bind (aOP)
def wN(b:aA)(s:Sub)(a:Int):b9:=some (b,({s with Pc:=a,B:=aZ (s.B+1)}:Sub))
def gI(b:aA)(s:Sub)(d:Bool):b9:=(if d then(bW s 1).bind λc=>some (b,c) else(idx b.pJ s.B).bind λa=>(if a == s.H then some (b,({s with Pc:=1,Row:=aZ (s.Row+1)}:Sub)) else(if(aZ (s.B+1)) == 3 then wN b s 3 else wN b s s.Pc)))
def G6(s:Sub)(a:aA):b9:=some (a,({s with Pc:=1,Out:=aZ (s.Out+1)}:Sub))
def gJ(b:aA)(g:Int)(s:Sub)(a:b7)(f:Bool):b9:=(if f then(bW s 1).bind λe=>some (b,e) else need (0<=(s.Row:Int)/\(s.Row:Int)<=(a.Rows.length:Int)) (need (0<=(aZ (s.Row+1):Int)/\(aZ (s.Row+1):Int)<=(a.Rows.length:Int)) (need (s.Row.toNat<=(aZ (s.Row+1)).toNat) ((gP s.H).bind λd=>(OO b.Mem g d).bind λc=>G6 s ({b with Mem:=c,aQ:=b.aQ.set g.toNat (⟨((dF a.Rows s.Row.toNat (a.Rows.drop ((aZ (s.Row+1)).toNat))).take (s.Row.toNat+(a.Rows.length-((aZ (s.Row+1)).toNat)))).drop 0⟩:b7)}:aA)))))
def xW(b:aA)(d:Int)(s:Sub):b9:=(idx b.aQ d).bind λa=>(if s.Pc == 0 then some (b,({s with Pc:=1,E:=b.aD.aL,Row:=0}:Sub)) else(if s.Pc == 1 then(C3 a.Rows s.Row s.E).bind λj=>(if decide (j<0) then(bW s 0).bind λm=>some (b,m) else(idx a.Rows j).bind λl=>some (b,({s with Pc:=2,Row:=j,B:=0,H:=l.Handle}:Sub))) else(if s.Pc == 2 then(bX s.B 0 2).bind λk=>(if !k then gI b s true else(bX s.Row 0 (aZ ((a.Rows.length:Int)-1))).bind λi=>(if !i then gI b s true else(idx a.Rows s.Row).bind λh=>gI b s (h.Handle != s.H))) else(if s.Pc == 3 then(bX s.Row 0 (aZ ((a.Rows.length:Int)-1))).bind λg=>(if !g then gJ b d s a true else(idx a.Rows s.Row).bind λc=>(if c.Handle != s.H then gJ b d s a true else(RX c s.E).bind λf=>gJ b d s a (!f))) else(bW s 1).bind λe=>some (b,e)))))
def EW(b d:Int)(a:aD)(c:Bool):cy:=(if c then some (a,false) else(idx a.cV b).bind λe=>some ((⟨a.aL,a.cV.set b.toNat (⟨true,d,false,0⟩:zR)⟩:aD),true))
def SZ(c:aD)(a b:Int):cy:=(C0 c).bind λd=>(rJ c).bind λg=>(if !g then EW a b d true else(bX a 0 2).bind λf=>(if !f then EW a b d true else(bX b 0 c.aL).bind λe=>EW a b d (!e)))
def OR(b:aA)(f:Int)(s:Sub):b9:=(if s.Pc == 0 then some (b,({s with Pc:=1,E:=b.aD.aL}:Sub)) else(if s.Pc == 1 then(SZ b.aD f s.E).bind λa=>(if !a.2 then(bW s 1).bind λe=>some (({b with aD:=a.1}:aA),e) else some (({b with aD:=a.1}:aA),({s with Pc:=2}:Sub))) else(if s.Pc == 2 then(if b.aD.aL == s.E then(bW s 0).bind λd=>some (b,d) else some (b,({s with Pc:=0}:Sub))) else(bW s 1).bind λc=>some (b,c))))
def ZX(b:aA)(a:Int)(s:Sub):b9:=(if s.iE then some (b,s) else(if s.Kind == 1 then(EV b a s).bind λg=>some (g.1,g.2) else(if s.Kind == 2 then(BC b a s).bind λf=>some (f.1,f.2) else(if s.Kind == 3 then(xV b s).bind λe=>some (e.1,e.2) else(if s.Kind == 4 then(xW b a s).bind λd=>some (d.1,d.2) else(if s.Kind == 5 then(OR b a s).bind λc=>some (c.1,c.2) else(bW s 1).bind λh=>some (b,h)))))))
def EX(b:Int)(a:aD)(c:Bool):cy:=(if c then some (a,false) else(idx a.cV b).bind λd=>some ((⟨a.aL,a.cV.set b.toNat (⟨false,0,false,0⟩:zR)⟩:aD),true))
def ZY(c:aD)(a:Int):cy:=(C0 c).bind λb=>(rJ c).bind λf=>(if !f then EX a b true else(bX a 0 2).bind λe=>(if !e then EX a b true else(idx c.cV a).bind λd=>EX a b (!d.On)))
end
end Go.Gv
end
