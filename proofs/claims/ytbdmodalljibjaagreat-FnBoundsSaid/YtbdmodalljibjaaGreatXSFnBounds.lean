import Derived.Test.YtbdmodalljibjaaGreatXLF
import Derived.Test.YtbdmodalljibjaaGreatProg
set_option linter.unusedVariables false
set_option linter.unusedSimpArgs false
set_option linter.unusedSectionVars false
set_option linter.constructorNameAsVariable false
set_option linter.unnecessarySimpa false
noncomputable section
namespace Go.Gv
noncomputable section
variable {P:Program} {T:TT} {hT:AZ P T} {n:Nat} {c:Ctx} {B0:Bl} {N:Act→World→Prop} {X:Nat→Act→World→Prop} {Q:Act→World→Prop} {K K':List Fr} {m m':Nat} {e e':SE} {L L':List Ch} {cf:sH}
def cG:ME JG:=⟨Unit,fun x _=>[.s x.b],fun _ _ _ _=>True,fun h=>⟨(),by cases h;rfl,trivial⟩,fun x _=>.s x.b,fun _ _ _=>trivial⟩
end
end Go.Gv
end
noncomputable section
set_option linter.unusedVariables false
set_option linter.unusedSimpArgs false
namespace Go.Gv
def oG:CO JG:=cG.o (fun _ _=>[]) (fun h=>by cases h;exact BT rfl) (fun _ _=>rfl) (fun _ _ _=>rfl)
noncomputable section
variable {P:Program} {T:TT} {hT:AZ P T} {n:Nat} {c:Ctx} {B0:Bl} {N:Act→World→Prop} {X:Nat→Act→World→Prop} {Q:Act→World→Prop} {K K':List Fr} {m m':Nat} {e e':SE} {L L':List Ch} {cf cf1 cf2:sH} {o:Oper}
end
end Go.Gv
end
noncomputable section
set_option linter.unusedVariables false
namespace Go.Gv
noncomputable section
def H6(c:aL):Option (Int×(Int×Int)):=
  (nL c 14).bind fun x1=>(if x1.1 then (dZ (⟨c.b,x1.2.1,x1.2.2⟩:aL) ([(-1),3]:List Int)).bind fun x2=>some (x2.1,(x2.2.1,x2.2.2)) else (aQ (⟨c.b,x1.2.1,x1.2.2⟩:aL) 3).bind fun x3=>some (x3.1,(x3.2.1,x3.2.2)))
def E0(c:aL):Option (Int×(Int×Int)):=
  (aQ c 40).bind fun x1=>(aQ (⟨c.b,x1.2.1,x1.2.2⟩:aL) 16).bind fun x2=>(dZ (⟨c.b,x2.2.1,x2.2.2⟩:aL) ([1,8,9,16,17,40,41,0,(-1),aX (1+x1.1),aX (1+x2.1)]:List Int)).bind fun x3=>some (x3.1,(x3.2.1,x3.2.2))
def xW(x2:Sub)(x3 x4 x5:Int):Option (Sub×(Int×Int)):=
  some (({x2 with A:=x5}:Sub),(x3,x4))
def LF(c:aL)(h:Int):Option (Sub×(Int×Int)):=
  (aQ c 5).bind fun x1=>(iG (aX (1+x1.1)) h).bind fun x2=>(if x2.Kind == 1 then (E0 (⟨c.b,x1.2.1,x1.2.2⟩:aL)).bind fun x6=>xW x2 x6.2.1 x6.2.2 x6.1 else xW x2 x1.2.1 x1.2.2 x2.A)
def uR(w_:Int)(s:Sub)(x2:Bool)(x3:aI):Option (aI×Sub):=
  (if x2 then some (x3,s) else (vA x3 w_ s).bind fun x4=>some (x4.1,x4.2))
def CR(b:aI)(w_:Int)(s:Sub):Option (aI×Sub):=
  (wD b).bind fun x1=>(iF b).bind fun x5=>(if !x5 then uR w_ s true x1 else (bG w_ 0 2).bind fun x6=>uR w_ s (!x6) x1)
def gG(x2:Int×(Int×Int))(x13 x14:Int)(x15:aI)(x16:Sub):Option (aI×Int×Sub×(Int×Int)):=
  some (x15,x2.1,x16,(x13,x14))
def LG(c:aL)(x2 x4:Int×(Int×Int))(x11:aI)(x12:Sub):Option (aI×Int×Sub×(Int×Int)):=
  (aQ (⟨c.b,x4.2.1,x4.2.2⟩:aL) 20).bind fun x17=>(if x17.1 == 0 then (aQ (⟨c.b,x17.2.1,x17.2.2⟩:aL) 6).bind fun x18=>gG x2 x18.2.1 x18.2.2 x11 ({x12 with Pc:=aX (x18.1 - 1)}:Sub) else (if x17.1 == 1 then (dZ (⟨c.b,x17.2.1,x17.2.2⟩:aL) ([0,6]:List Int)).bind fun x19=>gG x2 x19.2.1 x19.2.2 x11 ({x12 with Kind:=x19.1}:Sub) else (if x17.1 == 2 then (dZ (⟨c.b,x17.2.1,x17.2.2⟩:aL) ([(-1),3,2]:List Int)).bind fun x20=>gG x2 x20.2.1 x20.2.2 x11 ({x12 with B:=x20.1}:Sub) else (if x17.1 == 3 then gG x2 x17.2.1 x17.2.2 x11 ({x12 with E:=aX (x12.E+1)}:Sub) else (if x17.1 == 4 then gG x2 x17.2.1 x17.2.2 x11 ({x12 with cQ:=true}:Sub) else (if x17.1 == 5 then (dZ (⟨c.b,x17.2.1,x17.2.2⟩:aL) ([(-1),5,1]:List Int)).bind fun x21=>gG x2 x21.2.1 x21.2.2 x11 ({x12 with Row:=x21.1}:Sub) else gG x2 x17.2.1 x17.2.2 x11 x12))))))
def xX(x8:Int)(x22:aI)(x23:Sub):Option (Step (Int×aI×Sub) (aI×Sub)):=
  some (.next (aX (x8 - 1),x22,x23))
def LH(x2:Int×(Int×Int)):(Int×aI×Sub)→Option (Step (Int×aI×Sub) (aI×Sub))
  | (x8,x9,x10)=>(if decide (0 < x8) then (CR x9 x2.1 x10).bind fun x24=>(if !x24.2.cQ then xX x8 x24.1 x24.2 else xX x8 x24.1 x10) else some (.stop ((x9,x10))))
def LI(c:aL)(x2 x4:Int×(Int×Int)):(aI×Sub)→Option (aI×Int×Sub×(Int×Int))
  | (x11,x12)=>LG c x2 x4 x11 x12
def E1(c:aL):Option (aI×Int×Sub×(Int×Int)):=
  (vV c).bind fun x1=>(H6 (⟨c.b,x1.2.2.1,x1.2.2.2⟩:aL)).bind fun x2=>(LF (⟨c.b,x2.2.1,x2.2.2⟩:aL) x1.2.1).bind fun x3=>(aQ (⟨c.b,x3.2.1,x3.2.2⟩:aL) 7).bind fun x4=>(loop (LH x2) (x4.1,x1.1,x3.1)).bind (LI c x2 x4)
def uS(code:List UInt8):Option (aI×Int×Sub):=
  (yP code).bind fun x1=>(E1 (⟨code,x1.1,x1.2⟩:aL)).bind fun x2=>some (x2.1,x2.2.1,x2.2.2.1)
def gH(kind rows:Int):Option Int:=
  (b8 rows 0 24).bind fun x1=>(if !x1 then some 0 else (if kind == 1 then some 4 else (if kind == 2 then some 2 else (if kind == 3 then some 5 else (if kind == 4 then some (aX (2+(aX (5 * rows)))) else (if kind == 5 then some 3 else some 0))))))
def uT(w_:Int)(s:Sub)(x2:Bool)(x3:aI):Option (aI×Sub):=
  (if x2 then some (x3,s) else (jP s x3 w_).bind fun x4=>some (x4.2,x4.1))
def CS(b:aI)(w_:Int)(s:Sub):Option (aI×Sub):=
  (tE b).bind fun x1=>(AK b).bind fun x5=>(if !x5 then uT w_ s true x1 else (dJ w_).bind fun x6=>uT w_ s (!x6) x1)
def H7(kind:Int):Option (List UInt8):=
  (b8 kind 1 5).bind fun x1=>(if !x1 then some ([]) else (idx ([[97,108,108,111,99],[114,101,116,105,114,101],[97,100,118,97,110,99,101],[99,111,108,108,101,99,116],[112,105,110]]:List (List UInt8)) (aX (kind - 1))).bind fun x2=>some x2)
def H8(kind:Int):Option (List UInt8):=
  (bG kind 1 5).bind fun x1=>(if !x1 then some ([]) else (idx ([(⟨[97,108,108,111,99]⟩:JG),(⟨[114,101,116,105,114,101]⟩:JG),(⟨[97,100,118,97,110,99,101]⟩:JG),(⟨[99,111,108,108,101,99,116]⟩:JG),(⟨[112,105,110]⟩:JG)]:List JG) (aX (kind - 1))).bind fun x2=>some x2.b)
def y4(x5:Bool):Option Bool:=
  some x5
def j4(x18:Bool):Option Bool:=
  some x18
def G3(x2:aI×Int×Sub)(x8:aK)(x16:Int)(x17:Sub):Option Bool:=
  (if x17.cQ then (gH x2.2.2.Kind (x8.Rows.length:Int)).bind fun x19=>(if decide (x16≤x19) then (if decide (1≤x16) then (H7 x2.2.2.Kind).bind fun x20=>(H8 x2.2.2.Kind).bind fun x21=>j4 (x20 == x21) else j4 false) else j4 false) else j4 false)
def nG(x2:aI×Int×Sub)(x13:Int)(x15:Sub)(x22:Bool)(x23:aI):Option (Step (Int×aI×Sub) (Out (Int×Sub) Bool)):=
  (if x22 then (CS x23 x2.2.1 x15).bind fun x24=>(iF x24.1).bind fun x25=>(if !x25 then some (.stop (Out.ret false)) else some (.next (aX (x13+1),x24.1,x24.2))) else some (.stop (Out.brk (x13,x15))))
def j5(x2:aI×Int×Sub):(Int×aI×Sub)→Option (Step (Int×aI×Sub) (Out (Int×Sub) Bool))
  | (x13,x14,x15)=>(if !x15.cQ then nG x2 x13 x15 (decide (x13 < 200)) x14 else nG x2 x13 x15 false x14)
def y5(x2:aI×Int×Sub)(x8:aK):(Out (Int×Sub) Bool)→Option Bool
  | .brk (x16,x17)=>G3 x2 x8 x16 x17
  | .ret r=>some r
def eX(x2:aI×Int×Sub)(x3:Bool)(x4:aI):Option Bool:=
  (if x3 then (gH 0 1).bind fun x6=>(if x6 == 0 then (gH 5 25).bind fun x7=>y4 (x7 == 0) else y4 false) else (idx x4.aJ x2.2.1).bind fun x8=>(lN x2.2.2.Kind x2.2.2.A).bind fun x9=>(loop (j5 x2) (0,x4,x9)).bind (y5 x2 x8))
def F9(code:List UInt8):Option Bool:=
  (w7 code).bind fun x1=>(if x1 then some true else (uS code).bind fun x2=>(iF x2.1).bind fun x26=>(if !x26 then eX x2 true x2.1 else (if decide (x2.2.1 < 0) then eX x2 true x2.1 else (if decide (3≤x2.2.1) then eX x2 true x2.1 else (if decide (x2.2.2.Kind < 1) then eX x2 true x2.1 else eX x2 (decide (5 < x2.2.2.Kind)) x2.1)))))
end
end Go.Gv
end
noncomputable section
set_option linter.unusedVariables false
set_option maxHeartbeats 4000000
set_option maxRecDepth 100000
namespace Go.Proofs.YtbdmodalljibjaaGreat
open Go.Gv
theorem aIV:QC Tryz.prog 9 1 (.string ⟨#[]⟩):=JO (b:=16) (by kernel_rfl) rfl
end Go.Proofs.YtbdmodalljibjaaGreat
end
noncomputable section
set_option linter.unusedVariables false
set_option maxHeartbeats 4000000
set_option maxRecDepth 100000
namespace Go.Proofs.YtbdmodalljibjaaGreat
open Go.Gv
noncomputable section
variable {κ:Ctx}
theorem aCA{c:aL}{s1:AC}{b0:Nat×Nat}(h1:bE κ s1 c.b):VS Tryz.prog κ 95 (H6 c) [.p 0 0] [b0] [.box 0 [.h s1 c.b.length,I c.i,I c.h]] (fun(r:Int×(Int×Int)) (y:Unit)=>I r.1) (fun(r:Int×(Int×Int)) (y:Unit)=>[.box 0 [.h s1 c.b.length,I r.2.1,I r.2.2]]):=
 cE tok Tryz.call95 Tryz.func95 Tryz.results95 Q Q<|bP 0 0 0 3 [] Q Q Q Q Q (fun h=>pG (h.a h1)) fun x1 _=>bD [4] Q Q (fun hF=>X2 oI () ([(-1),3]:List Int) aS Q Q Q Q Q Q Q Q Q Q (fun _=>Q) fun s2=>wi hF<|bP 0 0 0 3 [] Q Q Q Q Q (fun h=>cO (c:=(⟨c.b,x1.2.1,x1.2.2⟩:aL)) (h.a h1) (h.o 1 Q Q)) fun x2 _=>eA () [0] Q Q)<|bP 0 0 0 3 [] Q Q Q Q Q (fun h=>aH (c:=(⟨c.b,x1.2.1,x1.2.2⟩:aL)) (h.a h1)) fun x3 _=>eA () [0] Q Q
theorem Y8{c:aL}{s1:AC}{b0:Nat×Nat}(h1:bE κ s1 c.b):VS Tryz.prog κ 374 (E0 c) [.p 0 0] [b0] [.box 0 [.h s1 c.b.length,I c.i,I c.h]] (fun(r:Int×(Int×Int)) (y:Unit)=>I r.1) (fun(r:Int×(Int×Int)) (y:Unit)=>[.box 0 [.h s1 c.b.length,I r.2.1,I r.2.2]]):=
 cE tok Tryz.call374 Tryz.func374 Tryz.results374 Q Q<|bP 0 0 0 3 [] Q Q Q Q Q (fun h=>aH (h.a h1)) fun x1 _=>bP 0 0 0 3 [] Q Q Q Q Q (fun h=>aH (c:=(⟨c.b,x1.2.1,x1.2.2⟩:aL)) (h.a h1)) fun x2 _=>fun hF=>X2 oI () ([1,8,9,16,17,40,41,0,(-1),aX (1+x1.1),aX (1+x2.1)]:List Int) aS Q Q Q Q Q Q Q Q Q Q (fun _=>Q) fun s2=>wi hF<|bP 0 0 0 3 [] Q Q Q Q Q (fun h=>cO (c:=(⟨c.b,x2.2.1,x2.2.2⟩:aL)) (h.a h1) (h.o 1 Q Q)) fun x3 _=>eA () [0] Q Q
theorem Y9{c:aL}{h:Int}{s1:AC}{b0:Nat×Nat}(h1:bE κ s1 c.b):VS Tryz.prog κ 253 (LF c h) [.p 0 0,I h] [b0] [.box 0 [.h s1 c.b.length,I c.i,I c.h]] (fun(r:Sub×(Int×Int)) (y:Unit)=>.g [I r.1.Kind,I r.1.A,I r.1.Pc,I r.1.E,I r.1.Row,I r.1.B,I r.1.H,I r.1.Out,I r.1.Code,.b r.1.cQ]) (fun(r:Sub×(Int×Int)) (y:Unit)=>[.box 0 [.h s1 c.b.length,I r.2.1,I r.2.2]]):=
 cE tok Tryz.call253 Tryz.func253 Tryz.results253 Q Q<|bP 0 0 0 3 [] Q Q Q Q Q (fun h=>aH (h.a h1)) fun x1 _=>c0 Q (fun _=>cL) fun x2=>dL 0 3 (fun(p:Int×Int×Int)=>xW x2 p.1 p.2.1 p.2.2) [0,4,5] (fun(p:Int×Int×Int) (_:Unit)=>[]) [1] (fun p _=>[.box 0 [.h s1 c.b.length,I p.1,I p.2.1],.box 2 [I x2.Kind,I p.2.2,I x2.Pc,I x2.E,I x2.Row,I x2.B,I x2.H,I x2.Out,I x2.Code,.b x2.cQ]]) Q (bD [13] Q Q (bP 0 0 0 3 [] Q Q Q Q Q (fun h=>Y8 (c:=(⟨c.b,x1.2.1,x1.2.2⟩:aL)) (h.a h1)) fun x6 _=>bU (p:=(x6.2.1,x6.2.2,x6.1)) [0,2,1] Q Q)<|bU (p:=(x1.2.1,x1.2.2,x2.A)) [0,2,1] Q Q) fun⟨x3,x4,x5⟩ _=>eA () [0] Q Q
theorem XR{b:aI}{w_:Int}{s:Sub}{s1 s2 s3 s4 s5 s6 s7:AC}(h1:bE κ s1 b.Mem.aB.Bytes)(h2:bE κ s2 b.Mem.aB.Class)(h3:bE κ s3 b.Mem.aA.Global)(h4:bE κ s4 b.Mem.aA.aR)(h5:bE κ s5 b.aC.aN)(h6:bE κ s6 b.aJ)(h7:bE κ s7 b.cA):VS Tryz.prog κ 254 (CR b w_ s) [.g [.h s1 b.Mem.aB.Bytes.length,.h s2 b.Mem.aB.Class.length,.h s3 b.Mem.aA.Global.length,.h s4 b.Mem.aA.aR.length,I b.aC.aE,.h s5 b.aC.aN.length,.h s6 b.aJ.length,.h s7 b.cA.length],I w_,.g [I s.Kind,I s.A,I s.Pc,I s.E,I s.Row,I s.B,I s.H,I s.Out,I s.Code,.b s.cQ]] [] [] (fun r (y:AC×AC×AC×AC×AC×AC×AC)=>.t [.g [.h y.1 r.1.Mem.aB.Bytes.length,.h y.2.1 r.1.Mem.aB.Class.length,.h y.2.2.1 r.1.Mem.aA.Global.length,.h y.2.2.2.1 r.1.Mem.aA.aR.length,I r.1.aC.aE,.h y.2.2.2.2.1 r.1.aC.aN.length,.h y.2.2.2.2.2.1 r.1.aJ.length,.h y.2.2.2.2.2.2 r.1.cA.length],.g [I r.2.Kind,I r.2.A,I r.2.Pc,I r.2.E,I r.2.Row,I r.2.B,I r.2.H,I r.2.Out,I r.2.Code,.b r.2.cQ]]) (fun r y=>[ow y.1 r.1.Mem.aB.Bytes,ow y.2.1 r.1.Mem.aB.Class,ow y.2.2.1 r.1.Mem.aA.Global,ow y.2.2.2.1 r.1.Mem.aA.aR,ow y.2.2.2.2.1 r.1.aC.aN,ow y.2.2.2.2.2.1 r.1.aJ,ow y.2.2.2.2.2.2 r.1.cA]):=
 cE tok Tryz.call254 Tryz.func254 Tryz.results254 Q Q<|c1 Q (fun h=>KM (h.a h1) (h.a h2) (h.a h3) (h.a h4) (h.a h5) (h.a h6) (h.a h7)) fun x1 s8=>dL 0 5 (fun(p:Bool×aI)=>uR w_ s p.1 p.2) [1,5,6,7,8] (fun(p:Bool×aI) (_:Unit)=>[(18,.b p.1)]) [1,2,3] (fun p _=>[ow s8.1 (p.2.Mem.aB.Bytes:List Int),ow s8.2.1 (p.2.Mem.aB.Class:List Int),ow s8.2.2.1 (p.2.Mem.aA.Global:List aD),ow s8.2.2.2.1 (p.2.Mem.aA.aR:List aD),ow s8.2.2.2.2.1 (p.2.aC.aN:List dS),ow s8.2.2.2.2.2.1 (p.2.aJ:List aK),ow s8.2.2.2.2.2.2 (p.2.cA:List Int),.box 4 [.h s8.1 p.2.Mem.aB.Bytes.length,.h s8.2.1 p.2.Mem.aB.Class.length,.h s8.2.2.1 p.2.Mem.aA.Global.length,.h s8.2.2.2.1 p.2.Mem.aA.aR.length,I p.2.aC.aE,.h s8.2.2.2.2.1 p.2.aC.aN.length,.h s8.2.2.2.2.2.1 p.2.aJ.length,.h s8.2.2.2.2.2.2 p.2.cA.length]]) Q (c0 Q (fun h=>jR (h.a h1) (h.a h2) (h.a h3) (h.a h4) (h.a h5) (h.a h6) (h.a h7)) fun x5=>dR [13,14] Q Q (bU (p:=(true,x1)) [4,5,6,7,8,9,10,11,1,2,3] Q Q)<|c0 Q (fun _=>aY) fun x6=>bU (p:=(!x6,x1)) [4,5,6,7,8,9,10,11,1,2,3] Q Q) fun⟨x2,x3⟩ _=>bD [18] Q Q (eM aG [7,8] Q<|eA (s8.1,s8.2.1,s8.2.2.1,s8.2.2.2.1,s8.2.2.2.2.1,s8.2.2.2.2.2.1,s8.2.2.2.2.2.2) [0,1,2,3,4,5,6] Q Q)<|pW [0,1,2,3,4,5,6] Q Q Q Q (fun _=>O6) fun x4 s9=>eA (s9.1,s9.2.1,s9.2.2.1,s9.2.2.2.1,s9.2.2.2.2.1,s9.2.2.2.2.2.1,s9.2.2.2.2.2.2) [11,12,13,14,15,16,17] Q Q
theorem ZA{c:aL}{s1:AC}{b0:Nat×Nat}(h1:bE κ s1 c.b):VS Tryz.prog κ 142 (E1 c) [.p 0 0] [b0] [.box 0 [.h s1 c.b.length,I c.i,I c.h]] (fun(r:aI×Int×Sub×(Int×Int)) (y:AC×AC×AC×AC×AC×AC×AC)=>.t [.g [.h y.1 r.1.Mem.aB.Bytes.length,.h y.2.1 r.1.Mem.aB.Class.length,.h y.2.2.1 r.1.Mem.aA.Global.length,.h y.2.2.2.1 r.1.Mem.aA.aR.length,I r.1.aC.aE,.h y.2.2.2.2.1 r.1.aC.aN.length,.h y.2.2.2.2.2.1 r.1.aJ.length,.h y.2.2.2.2.2.2 r.1.cA.length],I r.2.1,.g [I r.2.2.1.Kind,I r.2.2.1.A,I r.2.2.1.Pc,I r.2.2.1.E,I r.2.2.1.Row,I r.2.2.1.B,I r.2.2.1.H,I r.2.2.1.Out,I r.2.2.1.Code,.b r.2.2.1.cQ]]) (fun(r:aI×Int×Sub×(Int×Int)) (y:AC×AC×AC×AC×AC×AC×AC)=>[.box 0 [.h s1 c.b.length,I r.2.2.2.1,I r.2.2.2.2],ow y.1 r.1.Mem.aB.Bytes,ow y.2.1 r.1.Mem.aB.Class,ow y.2.2.1 r.1.Mem.aA.Global,ow y.2.2.2.1 r.1.Mem.aA.aR,ow y.2.2.2.2.1 r.1.aC.aN,ow y.2.2.2.2.2.1 r.1.aJ,ow y.2.2.2.2.2.2 r.1.cA]):=
 cE tok Tryz.call142 Tryz.func142 Tryz.results142 Q Q<|bP 0 0 0 3 [] Q Q Q Q Q (fun h=>FU (h.a h1)) fun x1 s2=>bP 0 0 0 3 [] Q Q Q Q Q (fun h=>aCA (c:=(⟨c.b,x1.2.2.1,x1.2.2.2⟩:aL)) (h.a h1)) fun x2 _=>bP 0 0 0 3 [] Q Q Q Q Q (fun h=>Y9 (c:=(⟨c.b,x2.2.1,x2.2.2⟩:aL)) (h.a h1)) fun x3 _=>bP 0 0 0 3 [] Q Q Q Q Q (fun h=>aH (c:=(⟨c.b,x3.2.1,x3.2.2⟩:aL)) (h.a h1)) fun x4 _=>LX (s2.1,s2.2.1,s2.2.2.1,s2.2.2.2.1,s2.2.2.2.2.1,s2.2.2.2.2.2.1,s2.2.2.2.2.2.2) [0,2,4,5,7,8] (fun(p:Int×aI×Sub) (u:AC×AC×AC×AC×AC×AC×AC)=>[(9,I p.1)]) [3,4,5,6,7,8,9,10,11,0,1,2] [0,1,2] (fun p u=>[ow u.1 (p.2.1.Mem.aB.Bytes:List Int),ow u.2.1 (p.2.1.Mem.aB.Class:List Int),ow u.2.2.1 (p.2.1.Mem.aA.Global:List aD),ow u.2.2.2.1 (p.2.1.Mem.aA.aR:List aD),ow u.2.2.2.2.1 (p.2.1.aC.aN:List dS),ow u.2.2.2.2.2.1 (p.2.1.aJ:List aK),ow u.2.2.2.2.2.2 (p.2.1.cA:List Int),.box 3 [.h u.1 p.2.1.Mem.aB.Bytes.length,.h u.2.1 p.2.1.Mem.aB.Class.length,.h u.2.2.1 p.2.1.Mem.aA.Global.length,.h u.2.2.2.1 p.2.1.Mem.aA.aR.length,I p.2.1.aC.aE,.h u.2.2.2.2.1 p.2.1.aC.aN.length,.h u.2.2.2.2.2.1 p.2.1.aJ.length,.h u.2.2.2.2.2.2 p.2.1.cA.length],.box 4 [I p.2.2.Kind,I p.2.2.A,I p.2.2.Pc,I p.2.2.E,I p.2.2.Row,I p.2.2.B,I p.2.2.H,I p.2.2.Out,I p.2.2.Code,.b p.2.2.cQ]]) id [0,2,4,5,7,8] (fun(p:aI×Sub) (u:AC×AC×AC×AC×AC×AC×AC)=>[]) [0,1,2] (fun p u=>[ow u.1 (p.1.Mem.aB.Bytes:List Int),ow u.2.1 (p.1.Mem.aB.Class:List Int),ow u.2.2.1 (p.1.Mem.aA.Global:List aD),ow u.2.2.2.1 (p.1.Mem.aA.aR:List aD),ow u.2.2.2.2.1 (p.1.aC.aN:List dS),ow u.2.2.2.2.2.1 (p.1.aJ:List aK),ow u.2.2.2.2.2.2 (p.1.cA:List Int),.box 3 [.h u.1 p.1.Mem.aB.Bytes.length,.h u.2.1 p.1.Mem.aB.Class.length,.h u.2.2.1 p.1.Mem.aA.Global.length,.h u.2.2.2.1 p.1.Mem.aA.aR.length,I p.1.aC.aE,.h u.2.2.2.2.1 p.1.aC.aN.length,.h u.2.2.2.2.2.1 p.1.aJ.length,.h u.2.2.2.2.2.2 p.1.cA.length],.box 4 [I p.2.Kind,I p.2.A,I p.2.Pc,I p.2.E,I p.2.Row,I p.2.B,I p.2.H,I p.2.Out,I p.2.Code,.b p.2.cQ]]) Q Q (fun hF1 ⟨x8,x9,x10⟩ ⟨s10,s11,s12,s13,s14,s15,s16⟩ hr1=>bD [25] Q Q (dL 2 5 (fun(p:aI×Sub)=>xX x8 p.1 p.2) [0,2,4,5,7,8,9] (fun(p:aI×Sub) (u:AC×AC×AC×AC×AC×AC×AC)=>[]) [9,10,11] (fun p u=>[ow u.1 (p.1.Mem.aB.Bytes:List Int),ow u.2.1 (p.1.Mem.aB.Class:List Int),ow u.2.2.1 (p.1.Mem.aA.Global:List aD),ow u.2.2.2.1 (p.1.Mem.aA.aR:List aD),ow u.2.2.2.2.1 (p.1.aC.aN:List dS),ow u.2.2.2.2.2.1 (p.1.aJ:List aK),ow u.2.2.2.2.2.2 (p.1.cA:List Int),.box 3 [.h u.1 p.1.Mem.aB.Bytes.length,.h u.2.1 p.1.Mem.aB.Class.length,.h u.2.2.1 p.1.Mem.aA.Global.length,.h u.2.2.2.1 p.1.Mem.aA.aR.length,I p.1.aC.aE,.h u.2.2.2.2.1 p.1.aC.aN.length,.h u.2.2.2.2.2.1 p.1.aJ.length,.h u.2.2.2.2.2.2 p.1.cA.length],.box 4 [I p.2.Kind,I p.2.A,I p.2.Pc,I p.2.E,I p.2.Row,I p.2.B,I p.2.H,I p.2.Out,I p.2.Code,.b p.2.cQ]]) Q (c1 Q (fun h=>XR (h.o 0 Q) (h.o 1 Q) (h.o 2 Q) (h.o 3 Q) (h.o 4 Q) (h.o 5 Q) (h.o 6 Q)) fun x24 s34=>bD [38] Q Q (e7 (p:=(x24.1,x24.2)) (s34.1,s34.2.1,s34.2.2.1,s34.2.2.2.1,s34.2.2.2.2.1,s34.2.2.2.2.2.1,s34.2.2.2.2.2.2) [12,13,14,15,16,17,18,7,8,9,10,11] Q Q)<|e7 (p:=(x24.1,x10)) (s34.1,s34.2.1,s34.2.2.1,s34.2.2.2.1,s34.2.2.2.2.1,s34.2.2.2.2.2.1,s34.2.2.2.2.2.2) [12,13,14,15,16,17,18,7,8,9,10,11] Q Q) fun⟨x22,x23⟩ ⟨s27,s28,s29,s30,s31,s32,s33⟩=>RK (s27,s28,s29,s30,s31,s32,s33) [0,1,2,3,4,5,6,7,8,9,10,11] Q)<|T8 (s10,s11,s12,s13,s14,s15,s16) [0,1,2,3,4,5,6,7,8,9,10,11] Q) fun⟨x11,x12⟩ ⟨s17,s18,s19,s20,s21,s22,s23⟩=>dL 1 5 (fun(p:Int×Int×aI×Sub)=>gG x2 p.1 p.2.1 p.2.2.1 p.2.2.2) [0,2,4,5,7,8] (fun(p:Int×Int×aI×Sub) (_:Unit)=>[]) [10,11] (fun p _=>[.box 0 [.h s1 c.b.length,I p.1,I p.2.1],ow s17 (p.2.2.1.Mem.aB.Bytes:List Int),ow s18 (p.2.2.1.Mem.aB.Class:List Int),ow s19 (p.2.2.1.Mem.aA.Global:List aD),ow s20 (p.2.2.1.Mem.aA.aR:List aD),ow s21 (p.2.2.1.aC.aN:List dS),ow s22 (p.2.2.1.aJ:List aK),ow s23 (p.2.2.1.cA:List Int),.box 3 [.h s17 p.2.2.1.Mem.aB.Bytes.length,.h s18 p.2.2.1.Mem.aB.Class.length,.h s19 p.2.2.1.Mem.aA.Global.length,.h s20 p.2.2.1.Mem.aA.aR.length,I p.2.2.1.aC.aE,.h s21 p.2.2.1.aC.aN.length,.h s22 p.2.2.1.aJ.length,.h s23 p.2.2.1.cA.length],.box 4 [I p.2.2.2.Kind,I p.2.2.2.A,I p.2.2.2.Pc,I p.2.2.2.E,I p.2.2.2.Row,I p.2.2.2.B,I p.2.2.2.H,I p.2.2.2.Out,I p.2.2.2.Code,.b p.2.2.2.cQ]]) Q (bP 9 0 0 3 [] Q Q Q Q Q (fun h=>aH (c:=(⟨c.b,x4.2.1,x4.2.2⟩:aL)) (h.a h1)) fun x17 _=>bD [42,43] Q Q (bP 9 0 0 3 [] Q Q Q Q Q (fun h=>aH (c:=(⟨c.b,x17.2.1,x17.2.2⟩:aL)) (h.a h1)) fun x18 _=>bU (p:=(x18.2.1,x18.2.2,x11,({x12 with Pc:=aX (x18.1 - 1)}:Sub))) [9,0,1,2,3,4,5,6,7,8,10,11] Q Q)<|bD [48,49] Q Q (fun hF=>X2 oI () ([0,6]:List Int) aS Q Q Q Q Q Q Q Q Q Q (fun _=>Q) fun s24=>wi hF<|bP 9 0 0 3 [] Q Q Q Q Q (fun h=>cO (c:=(⟨c.b,x17.2.1,x17.2.2⟩:aL)) (h.a h1) (h.o 12 Q Q)) fun x19 _=>bU (p:=(x19.2.1,x19.2.2,x11,({x12 with Kind:=x19.1}:Sub))) [9,0,1,2,3,4,5,6,7,8,10,11] Q Q)<|bD [54,55] Q Q (fun hF=>X2 oI () ([(-1),3,2]:List Int) aS Q Q Q Q Q Q Q Q Q Q (fun _=>Q) fun s25=>wi hF<|bP 9 0 0 3 [] Q Q Q Q Q (fun h=>cO (c:=(⟨c.b,x17.2.1,x17.2.2⟩:aL)) (h.a h1) (h.o 12 Q Q)) fun x20 _=>bU (p:=(x20.2.1,x20.2.2,x11,({x12 with B:=x20.1}:Sub))) [9,0,1,2,3,4,5,6,7,8,10,11] Q Q)<|bD [60,61] Q Q (bU (p:=(x17.2.1,x17.2.2,x11,({x12 with E:=aX (x12.E+1)}:Sub))) [9,0,1,2,3,4,5,6,7,8,10,11] Q Q)<|bD [66,67] Q Q (bU (p:=(x17.2.1,x17.2.2,x11,({x12 with cQ:=true}:Sub))) [9,0,1,2,3,4,5,6,7,8,10,11] Q Q)<|bD [69,70] Q Q (fun hF=>X2 oI () ([(-1),5,1]:List Int) aS Q Q Q Q Q Q Q Q Q Q (fun _=>Q) fun s26=>wi hF<|bP 9 0 0 3 [] Q Q Q Q Q (fun h=>cO (c:=(⟨c.b,x17.2.1,x17.2.2⟩:aL)) (h.a h1) (h.o 12 Q Q)) fun x21 _=>bU (p:=(x21.2.1,x21.2.2,x11,({x12 with Row:=x21.1}:Sub))) [9,0,1,2,3,4,5,6,7,8,10,11] Q Q)<|bU (p:=(x17.2.1,x17.2.2,x11,x12)) [9,0,1,2,3,4,5,6,7,8,10,11] Q Q) fun⟨x13,x14,x15,x16⟩ _=>eM aG [0,8,9] Q<|eA (s17,s18,s19,s20,s21,s22,s23) [0,1,2,3,4,5,6,7] Q Q
theorem P2{code:List UInt8}{s1:AC}(h1:bE κ s1 code):VS Tryz.prog κ 53 (uS code) [.h s1 code.length] [] [] (fun r (y:AC×AC×AC×AC×AC×AC×AC)=>.t [.g [.h y.1 r.1.Mem.aB.Bytes.length,.h y.2.1 r.1.Mem.aB.Class.length,.h y.2.2.1 r.1.Mem.aA.Global.length,.h y.2.2.2.1 r.1.Mem.aA.aR.length,I r.1.aC.aE,.h y.2.2.2.2.1 r.1.aC.aN.length,.h y.2.2.2.2.2.1 r.1.aJ.length,.h y.2.2.2.2.2.2 r.1.cA.length],I r.2.1,.g [I r.2.2.Kind,I r.2.2.A,I r.2.2.Pc,I r.2.2.E,I r.2.2.Row,I r.2.2.B,I r.2.2.H,I r.2.2.Out,I r.2.2.Code,.b r.2.2.cQ]]) (fun r y=>[ow y.1 r.1.Mem.aB.Bytes,ow y.2.1 r.1.Mem.aB.Class,ow y.2.2.1 r.1.Mem.aA.Global,ow y.2.2.2.1 r.1.Mem.aA.aR,ow y.2.2.2.2.1 r.1.aC.aN,ow y.2.2.2.2.2.1 r.1.aJ,ow y.2.2.2.2.2.2 r.1.cA]):=
 cE tok Tryz.call53 Tryz.func53 Tryz.results53 Q Q<|cP Q (fun h=>HW (h.a h1)) fun x1=>bP 2 2 0 3 [] Q Q Q Q Q (fun h=>ZA (c:=(⟨code,x1.1,x1.2⟩:aL)) (h.a h1)) fun x2 s2=>eA (s2.1,s2.2.1,s2.2.2.1,s2.2.2.2.1,s2.2.2.2.2.1,s2.2.2.2.2.2.1,s2.2.2.2.2.2.2) [3,4,5,6,7,8,9] Q Q
theorem D4{kind rows:Int}:V0 Tryz.prog κ 54 (gH kind rows) [I kind,I rows] I:=
 cE tok Tryz.call54 Tryz.func54 Tryz.results54 Q Q<|c0 Q (fun _=>cN) fun x1=>bD [7] Q Q (cB Q Q)<|bD [9,10] Q Q (cB Q Q)<|bD [11,12] Q Q (cB Q Q)<|bD [13,14] Q Q (cB Q Q)<|bD [15,16] Q Q (cB Q Q)<|bD [20,21] Q Q (cB Q Q)<|cB Q Q
theorem XS{b:aI}{w_:Int}{s:Sub}{s1 s2 s3 s4 s5 s6 s7:AC}(h1:bE κ s1 b.Mem.aB.Bytes)(h2:bE κ s2 b.Mem.aB.Class)(h3:bE κ s3 b.Mem.aA.Global)(h4:bE κ s4 b.Mem.aA.aR)(h5:bE κ s5 b.aC.aN)(h6:bE κ s6 b.aJ)(h7:bE κ s7 b.cA):VS Tryz.prog κ 55 (CS b w_ s) [.g [.h s1 b.Mem.aB.Bytes.length,.h s2 b.Mem.aB.Class.length,.h s3 b.Mem.aA.Global.length,.h s4 b.Mem.aA.aR.length,I b.aC.aE,.h s5 b.aC.aN.length,.h s6 b.aJ.length,.h s7 b.cA.length],I w_,.g [I s.Kind,I s.A,I s.Pc,I s.E,I s.Row,I s.B,I s.H,I s.Out,I s.Code,.b s.cQ]] [] [] (fun r (y:AC×AC×AC×AC×AC×AC×AC)=>.t [.g [.h y.1 r.1.Mem.aB.Bytes.length,.h y.2.1 r.1.Mem.aB.Class.length,.h y.2.2.1 r.1.Mem.aA.Global.length,.h y.2.2.2.1 r.1.Mem.aA.aR.length,I r.1.aC.aE,.h y.2.2.2.2.1 r.1.aC.aN.length,.h y.2.2.2.2.2.1 r.1.aJ.length,.h y.2.2.2.2.2.2 r.1.cA.length],.g [I r.2.Kind,I r.2.A,I r.2.Pc,I r.2.E,I r.2.Row,I r.2.B,I r.2.H,I r.2.Out,I r.2.Code,.b r.2.cQ]]) (fun r y=>[ow y.1 r.1.Mem.aB.Bytes,ow y.2.1 r.1.Mem.aB.Class,ow y.2.2.1 r.1.Mem.aA.Global,ow y.2.2.2.1 r.1.Mem.aA.aR,ow y.2.2.2.2.1 r.1.aC.aN,ow y.2.2.2.2.2.1 r.1.aJ,ow y.2.2.2.2.2.2 r.1.cA]):=
 cE tok Tryz.call55 Tryz.func55 Tryz.results55 Q Q<|c1 Q (fun h=>IU (h.a h1) (h.a h2) (h.a h3) (h.a h4) (h.a h5) (h.a h6) (h.a h7)) fun x1 s8=>dL 0 5 (fun(p:Bool×aI)=>uT w_ s p.1 p.2) [1,5,6,7,8] (fun(p:Bool×aI) (_:Unit)=>[(18,.b p.1)]) [1,2,3] (fun p _=>[ow s8.1 (p.2.Mem.aB.Bytes:List Int),ow s8.2.1 (p.2.Mem.aB.Class:List Int),ow s8.2.2.1 (p.2.Mem.aA.Global:List aD),ow s8.2.2.2.1 (p.2.Mem.aA.aR:List aD),ow s8.2.2.2.2.1 (p.2.aC.aN:List dS),ow s8.2.2.2.2.2.1 (p.2.aJ:List aK),ow s8.2.2.2.2.2.2 (p.2.cA:List Int),.box 4 [.h s8.1 p.2.Mem.aB.Bytes.length,.h s8.2.1 p.2.Mem.aB.Class.length,.h s8.2.2.1 p.2.Mem.aA.Global.length,.h s8.2.2.2.1 p.2.Mem.aA.aR.length,I p.2.aC.aE,.h s8.2.2.2.2.1 p.2.aC.aN.length,.h s8.2.2.2.2.2.1 p.2.aJ.length,.h s8.2.2.2.2.2.2 p.2.cA.length]]) Q (c0 Q (fun h=>NA (h.a h1) (h.a h2) (h.a h3) (h.a h4) (h.a h5) (h.a h6) (h.a h7)) fun x5=>dR [13,14] Q Q (bU (p:=(true,x1)) [4,5,6,7,8,9,10,11,1,2,3] Q Q)<|c0 Q (fun _=>eO) fun x6=>bU (p:=(!x6,x1)) [4,5,6,7,8,9,10,11,1,2,3] Q Q) fun⟨x2,x3⟩ _=>bD [18] Q Q (eM aG [7,8] Q<|eA (s8.1,s8.2.1,s8.2.2.1,s8.2.2.2.1,s8.2.2.2.2.1,s8.2.2.2.2.2.1,s8.2.2.2.2.2.2) [0,1,2,3,4,5,6] Q Q)<|aC8 8 1 0 10 7 4 0 8 [0,1,2,3,4,5,6] Q Q Q Q Q (fun _=>IX) fun x4 s9=>eM aG [7,8] Q<|eA (s9.1,s9.2.1,s9.2.2.1,s9.2.2.2.1,s9.2.2.2.2.1,s9.2.2.2.2.2,s8.2.2.2.2.2.2) [11,12,13,14,15,16,17] Q Q
theorem XT{kind:Int}:V0 Tryz.prog κ 56 (H7 kind) [I kind] .s:=
 cE tok Tryz.call56 Tryz.func56 Tryz.results56 Q Q<|c0 Q (fun _=>cN) fun x1=>bD [5] Q Q (cB Q Q)<|fun hF=>qba [.s ([97,108,108,111,99]),.s ([114,101,116,105,114,101]),.s ([97,100,118,97,110,99,101]),.s ([99,111,108,108,101,99,116]),.s ([112,105,110])] Tryz.zeroValue181 Tryz.underlying181 Tryz.sizeOf9 Q Q Q Q Q Q<|qai (fun q:List UInt8=>sv q) (fun q=>.s q) (l:=([[97,108,108,111,99],[114,101,116,105,114,101],[97,100,118,97,110,99,101],[99,111,108,108,101,99,116],[112,105,110]]:List (List UInt8))) Tryz.underlying181 Tryz.sizeOf9 Tryz.isAgg9 (fun _=>Q) Q Q Q Q Q Q hF fun x2 _ hF=>wi hF<|cB Q Q
theorem XU{kind:Int}:V0 Tryz.prog κ 57 (H8 kind) [I kind] .s:=
 cE tok Tryz.call57 Tryz.func57 Tryz.results57 Q Q<|c0 Q (fun _=>aY) fun x1=>bD [5] Q Q (cB Q Q)<|fun hF=>X2 oG () ([(⟨[97,108,108,111,99]⟩:JG),(⟨[114,101,116,105,114,101]⟩:JG),(⟨[97,100,118,97,110,99,101]⟩:JG),(⟨[99,111,108,108,101,99,116]⟩:JG),(⟨[112,105,110]⟩:JG)]:List JG) aIV Q Q Q Q Q Q Q Q Q Q (fun _=>Q) fun s1=>wi hF<|oB oG 0 Q Q Q fun x2 h1 _ h2=>fun hF=>gW 0 h2 h1 Q Q Q Q Q<|sR Q<|rI oG 1 [] h1 () Q Q Q Q Q Q Q<|JV (hT:=tok) () [] hF Q Tryz.results57 Q Q Q Q
theorem TO{code:List UInt8}{s1:AC}(h1:bE κ s1 code):V0 Tryz.prog κ 10 (F9 code) [.h s1 code.length] .b:=
 cE tok Tryz.call10 Tryz.func10 Tryz.results10 Q Q<|c0 Q (fun h=>HV (h.a h1)) fun x1=>bD [12] Q Q (cB Q Q)<|c1 Q (fun h=>P2 (h.a h1)) fun x2 s2=>dL 0 2 (fun(p:Bool×aI)=>eX x2 p.1 p.2) [3,4,5] (fun(p:Bool×aI) (_:Unit)=>[(39,.b p.1)]) [8] (fun p _=>[ow s2.1 (p.2.Mem.aB.Bytes:List Int),ow s2.2.1 (p.2.Mem.aB.Class:List Int),ow s2.2.2.1 (p.2.Mem.aA.Global:List aD),ow s2.2.2.2.1 (p.2.Mem.aA.aR:List aD),ow s2.2.2.2.2.1 (p.2.aC.aN:List dS),ow s2.2.2.2.2.2.1 (p.2.aJ:List aK),ow s2.2.2.2.2.2.2 (p.2.cA:List Int),.box 0 [.h s2.1 p.2.Mem.aB.Bytes.length,.h s2.2.1 p.2.Mem.aB.Class.length,.h s2.2.2.1 p.2.Mem.aA.Global.length,.h s2.2.2.2.1 p.2.Mem.aA.aR.length,I p.2.aC.aE,.h s2.2.2.2.2.1 p.2.aC.aN.length,.h s2.2.2.2.2.2.1 p.2.aJ.length,.h s2.2.2.2.2.2.2 p.2.cA.length]]) Q (c0 Q (fun h=>jR (h.o 0 Q) (h.o 1 Q) (h.o 2 Q) (h.o 3 Q) (h.o 4 Q) (h.o 5 Q) (h.o 6 Q)) fun x26=>dR [21,22] Q Q (bU (p:=(true,x2.1)) [0,1,2,3,4,5,6,7,8] Q Q)<|dR [24,25,26] Q Q (bU (p:=(true,x2.1)) [0,1,2,3,4,5,6,7,8] Q Q)<|dR [28,29,30] Q Q (bU (p:=(true,x2.1)) [0,1,2,3,4,5,6,7,8] Q Q)<|dR [33,34,35] Q Q (bU (p:=(true,x2.1)) [0,1,2,3,4,5,6,7,8] Q Q)<|bU (p:=(decide (5 < x2.2.2.Kind),x2.1)) [0,1,2,3,4,5,6,7,8] Q Q) fun⟨x3,x4⟩ _=>bD [39] Q Q (cW 0 2 y4 [] 2 [] Q (c0 Q (fun _=>D4) fun x6=>dR [41,42] Q Q (c0 Q (fun _=>D4) fun x7=>bU [] Q Q)<|bU [] Q Q) fun x5=>cB Q Q)<|oB d8 5 Q Q Q fun x8 h2 s3 h3=>fun hF=>gW 2 h3 h2 Q Q Q Q Q<|wi hF<|c0 Q (fun _=>dK) fun x9=>fun hF=>cqS d8 9 [12] h2 s3 Q Q Q Q Q Q Q Q Q<|wi hF<|LX (s2.1,s2.2.1,s2.2.2.1,s2.2.2.2.1,s2.2.2.2.2.1,s2.2.2.2.2.2.1,s2.2.2.2.2.2.2) [3,4,5,6,7] (fun(p:Int×aI×Sub) (u:AC×AC×AC×AC×AC×AC×AC)=>[(8,I p.1)]) [0,1,2,3,4,14,6,7,13,8] [8] (fun p u=>[ow u.1 (p.2.1.Mem.aB.Bytes:List Int),ow u.2.1 (p.2.1.Mem.aB.Class:List Int),ow u.2.2.1 (p.2.1.Mem.aA.Global:List aD),ow u.2.2.2.1 (p.2.1.Mem.aA.aR:List aD),ow u.2.2.2.2.1 (p.2.1.aC.aN:List dS),ow u.2.2.2.2.2.1 (p.2.1.aJ:List aK),ow u.2.2.2.2.2.2 (p.2.1.cA:List Int),.box 0 [.h u.1 p.2.1.Mem.aB.Bytes.length,.h u.2.1 p.2.1.Mem.aB.Class.length,.h u.2.2.1 p.2.1.Mem.aA.Global.length,.h u.2.2.2.1 p.2.1.Mem.aA.aR.length,I p.2.1.aC.aE,.h u.2.2.2.2.1 p.2.1.aC.aN.length,.h u.2.2.2.2.2.1 p.2.1.aJ.length,.h u.2.2.2.2.2.2 p.2.1.cA.length],.box 3 [I p.2.2.Kind,I p.2.2.A,I p.2.2.Pc,I p.2.2.E,I p.2.2.Row,I p.2.2.B,I p.2.2.H,I p.2.2.Out,I p.2.2.Code,.b p.2.2.cQ]]) Out.brk [5,6,7] (fun(p:Int×Sub) (_:Unit)=>[(8,I p.1)]) [8] (fun p _=>[.box 3 [I p.2.Kind,I p.2.A,I p.2.Pc,I p.2.E,I p.2.Row,I p.2.B,I p.2.H,I p.2.Out,I p.2.Code,.b p.2.cQ]]) Q Q (fun hF3 ⟨x13,x14,x15⟩ ⟨s11,s12,s13,s14,s15,s16,s17⟩ hr3=>dL 0 4 (fun(p:Bool×aI)=>nG x2 x13 x15 p.1 p.2) [3,4,5,6,7,8] (fun(p:Bool×aI) (_:Unit)=>[(64,.b p.1)]) [9,8] (fun p _=>[ow s11 (p.2.Mem.aB.Bytes:List Int),ow s12 (p.2.Mem.aB.Class:List Int),ow s13 (p.2.Mem.aA.Global:List aD),ow s14 (p.2.Mem.aA.aR:List aD),ow s15 (p.2.aC.aN:List dS),ow s16 (p.2.aJ:List aK),ow s17 (p.2.cA:List Int),.box 0 [.h s11 p.2.Mem.aB.Bytes.length,.h s12 p.2.Mem.aB.Class.length,.h s13 p.2.Mem.aA.Global.length,.h s14 p.2.Mem.aA.aR.length,I p.2.aC.aE,.h s15 p.2.aC.aN.length,.h s16 p.2.aJ.length,.h s17 p.2.cA.length]]) Q (dR [60,61] Q Q (bU (p:=(decide (x13 < 200),x14)) [0,1,2,3,4,5,6,7,9,8] Q Q)<|bU (p:=(false,x14)) [0,1,2,3,4,5,6,7,9,8] Q Q) fun⟨x22,x23⟩ _=>bD [64] Q Q (c1 Q (fun h=>XS (h.o 0 Q) (h.o 1 Q) (h.o 2 Q) (h.o 3 Q) (h.o 4 Q) (h.o 5 Q) (h.o 6 Q)) fun x24 s18=>c0 Q (fun h=>jR (h.o 10 Q) (h.o 11 Q) (h.o 12 Q) (h.o 13 Q) (h.o 14 Q) (h.o 15 Q) (h.o 16 Q)) fun x25=>bD [78] Q Q (GL hr3 hF3<|cB Q Q)<|RK (s18.1,s18.2.1,s18.2.2.1,s18.2.2.2.1,s18.2.2.2.2.1,s18.2.2.2.2.2.1,s18.2.2.2.2.2.2) [10,11,12,13,14,15,16,7,9,8] Q)<|C3 [9,8] Q) fun⟨x16,x17⟩ _=>cW 0 4 j4 [] 2 [] Q (eM aG [0,1] Q<|dR [80,81] Q Q (c0 Q (fun _=>D4) fun x19=>dR [87,88,89] Q Q (dR [91,92,93] Q Q (c0 Q (fun _=>XT) fun x20=>c0 Q (fun _=>XU) fun x21=>bU [] Q Q)<|bU [] Q Q)<|bU [] Q Q)<|bU [] Q Q) fun x18=>cB Q Q
end
end Go.Proofs.YtbdmodalljibjaaGreat
end
noncomputable section
set_option linter.unusedVariables false
set_option linter.unusedSimpArgs false
set_option linter.unusedSectionVars false
namespace Go.Gv
theorem aF3{l:List bM}{e:Int}{k:Nat}(h:rC l e k < l.length):k≤rC l e k∧D2 l[rC l e k] e:=by
  refine⟨by unfold rC;omega,?_⟩
  have h1:(l.drop k).findIdx (fun r=>decide (D2 r e)) < (l.drop k).length:=by
    rw [List.length_drop];unfold rC at h;omega
  have:=List.findIdx_getElem (xs:=l.drop k) (p:=fun r=>decide (D2 r e)) (w:=h1)
  rw [List.getElem_drop] at this
  exact of_decide_eq_true this
end Go.Gv
end
noncomputable section
set_option linter.unusedVariables false
set_option linter.unusedSimpArgs false
set_option linter.unusedSectionVars false
namespace Go.Gv
noncomputable section
variable {b:List UInt8} {i h:Int} (hc:Cu b i)
include hc
theorem aT4:fB (H6 ⟨b,i,h⟩) (fun x=>(-1≤x.1∧x.1≤3)∧Cu b x.2.1):=by
  unfold H6
  refine .bind (aAC hc (by omega)) fun x1 h1=>.ite (fun _=>?_) fun _=>?_
  · exact .bind (LD h1 (by decide) (by decide)) fun x2 ⟨hx,c⟩=>.ret ⟨by simp at hx;simp only;omega,c⟩
  · exact .bind (below h1 (by omega)) fun x2 ⟨hx,c⟩=>.ret ⟨by (try simp only);omega,c⟩
end
end Go.Gv
end
noncomputable section
set_option linter.unusedVariables false
set_option linter.unusedSimpArgs false
set_option linter.unusedSectionVars false
set_option maxRecDepth 20000
namespace Go.Gv
def aOP(b:aI)(w:Int)(s:Sub):aI×Sub:=if eQ b∧0≤w∧w≤2 then l7 b w s else (b,s)
theorem aF4{b:aI}(hs:kS b)(w:Int)(s:Sub):CR b w s=some (aOP b w s):=by
  unfold CR aOP uR
  rw [PI hs,Option.bind_some,gE hs.fits,Option.bind_some,bJ,Option.bind_some]
  by_cases hb:eQ b
  · by_cases hw:0≤w∧w≤2
    · rw [decide_eq_true hb,decide_eq_true hw,if_neg (by simp),if_neg (by simp),aBW hb hw,if_pos ⟨hb,hw⟩];rfl
    · rw [decide_eq_true hb,decide_eq_false hw,if_neg (by simp),if_pos (by simp),if_neg (fun q=>hw q.2)]
  · rw [decide_eq_false hb,if_pos (by simp),if_pos rfl,if_neg (fun q=>hb q.1)]
theorem aF5{b:aI}(hb:eQ b){w:Int}(hw:0≤w∧w≤2)(s:Sub):CS b w s=some (l7 b w s):=by
  have hs:=hb.small
  unfold CS
  rw [PJ hs,K7 hs.fits,fU]
  simp only [Option.bind_some,decide_eq_true hb,decide_eq_true hw,Bool.not_true,Bool.false_eq_true,if_false,if_true,uT,aAE hb hw]
theorem aF6{b:aI}(hs:kS b)(w:Int)(s:Sub):kS (aOP b w s).1:=by
  unfold aOP
  split
  · rename_i q;exact(UD q.1 q.2 s).small
  · exact hs
noncomputable section
variable {b:List UInt8} {i h:Int} (hc:Cu b i)
include hc
theorem aSZ:fB (E0 ⟨b,i,h⟩) (fun x=>Cu b x.2.1):=by
  unfold E0
  exact .bind (below hc (by omega)) fun x1 ⟨_,h1⟩=>.bind (below h1 (by omega)) fun x2 ⟨_,h2⟩=>.bind (LD h2 (by simp) (by simp)) fun x3 ⟨_,h3⟩=>.ret h3
theorem aT5:fB (E1 ⟨b,i,h⟩) (fun x=>kS x.1∧Cu b x.2.2.2.1):=by
  unfold E1
  refine .bind (W9 hc) fun x1 ⟨hs,h1⟩=>.bind (aT4 h1) fun x2 ⟨_,h2⟩=>.bind (P:=fun x=>Cu b x.2.1) ?_ fun x3 h3=>.bind (below h3 (by omega)) fun x4 ⟨hx4,h4⟩=>?_
  · unfold LF xW
    refine .bind (below h2 (by omega)) fun y ⟨_,h3⟩=>?_
    simp only [iG,Option.bind_some]
    exact .ite (fun _=>.bind (aSZ h3) fun z h4=>.ret h4) fun _=>.ret h3
  · refine .bind (P:=fun x=>kS x.1) (.loop (fun s=>s.1.toNat) (fun s=>(0≤s.1∧s.1≤100)∧kS s.2.1) ⟨⟨hx4.1,by (try simp only);omega⟩,hs⟩ ?_) ?_
    · rintro⟨n,B,s⟩ ⟨⟨n0,n1⟩,hB⟩
      simp only at n0 n1 hB
      simp only [LH,xX]
      refine .ite (fun q=>?_) (fun q=>.ret hB)
      have q':=of_decide_eq_true q
      rw [aF4 hB,Option.bind_some,aP (by omega) (by omega)]
      have:=aF6 hB x2.1 s
      exact .ite (fun _=>.ret ⟨⟨⟨by (try simp only);omega,by (try simp only);omega⟩,this⟩,by (try simp only);omega⟩) fun _=>.ret ⟨⟨⟨by (try simp only);omega,by (try simp only);omega⟩,this⟩,by (try simp only);omega⟩
    · rintro⟨B,s⟩ hB
      simp only at hB
      simp only [LI,LG,gG]
      refine .bind (below h4 (by omega)) fun x17 ⟨_,c⟩=>.ite (fun _=>.bind (below c (by omega)) fun _ ⟨_,c2⟩=>.ret ⟨hB,c2⟩) fun _=>.ite (fun _=>.bind (LD c (by decide) (by decide)) fun _ ⟨_,c2⟩=>.ret ⟨hB,c2⟩) fun _=>.ite (fun _=>.bind (LD c (by decide) (by decide)) fun _ ⟨_,c2⟩=>.ret ⟨hB,c2⟩) fun _=>.ite (fun _=>.ret ⟨hB,c⟩) fun _=>.ite (fun _=>.ret ⟨hB,c⟩) fun _=>.ite (fun _=>.bind (LD c (by decide) (by decide)) fun _ ⟨_,c2⟩=>.ret ⟨hB,c2⟩) fun _=>.ret ⟨hB,c⟩
end
theorem aOQ{code:List UInt8}(hl:code.length≤1048576):fB (uS code) (fun x=>kS x.1):=by
  unfold uS
  exact .bind (aQ5 hl) fun x1 h1=>.bind (aT5 h1) fun x2 ⟨h2,_⟩=>.ret h2
def aF7(w:Int)(I:aI→Sub→Nat→Prop):Prop:=∀b s m,eQ b→s.cQ=false→I b s m→1≤m∧((l7 b w s).2.cQ=true∨((l7 b w s).2.cQ=false∧I (l7 b w s).1 (l7 b w s).2 (m - 1)))
theorem aF8{x2:aI×Int×Sub}(hw:0≤x2.2.1∧x2.2.1≤2){I:aI→Sub→Nat→Prop}(hI:aF7 x2.2.1 I):∀(m n:Nat) b s,eQ b→s.cQ=false→I b s m→n+m≤190 →
    ∃(n':Nat) (s':Sub),loop (j5 x2) ((n:Int),b,s)=some (Out.brk ((n':Int),s'))∧s'.cQ=true∧n < n'∧n'≤n+m:=by
  intro m
  induction m with
  | zero=>intro n b s hb hd hi _;have:=(hI b s 0 hb hd hi).1;omega
  | succ m ih =>
    intro n b s hb hd hi hn
    obtain⟨_,hx⟩:=hI b s (m+1) hb hd hi
    have ok:=UD hb hw s
    have st:j5 x2 ((n:Int),b,s)=some (.next (((n+1:Nat):Int),(l7 b x2.2.1 s).1,(l7 b x2.2.1 s).2)):=by
      simp only [j5,nG]
      rw [hd,Bool.not_false,if_pos rfl,if_pos (by simp;omega),aF5 hb hw,Option.bind_some,gE ok.small.fits,decide_eq_true ok,Option.bind_some,if_neg (by simp),aP (by omega) (by omega)];rfl
    rw [bT st]
    rcases hx with hd' | ⟨hd',hi'⟩
    · refine⟨n+1,_,bN ?_,hd',by omega,by omega⟩
      simp only [j5,nG,hd']
      rw [if_neg (by simp),if_neg (by simp)]
    · obtain⟨n',s',e1,e2,e3,e4⟩:=ih (n+1) _ _ ok hd' hi' (by omega)
      exact⟨n',s',e1,e2,by omega,by omega⟩
def I1(_:aI)(s:Sub)(m:Nat):Prop:=s.Kind=1∧0≤s.Pc∧s.Pc≤3∧4 - s.Pc≤m
theorem mu1(w:Int):aF7 w I1:=fun b s m hb hd ⟨k,p0,p3,hm⟩=>by
  refine⟨by omega,?_⟩
  have e:l7 b w s=F7 b w s:=by unfold l7;simp [hd,k]
  rw [e]
  have T:∀p:Mem×Int,(nD b s p).2.cQ=true∨((nD b s p).2.cQ=false∧I1 (nD b s p).1 (nD b s p).2 (m - 1)):=fun p=>by
    unfold nD
    split
    · exact .inl rfl
    · split
      · exact .inl rfl
      · exact .inr ⟨hd,k,by (try simp only);omega,by (try simp only);omega,by (try simp only);omega⟩
  unfold F7
  split
  · exact .inl rfl
  · split
    · exact T _
    · split
      · exact T _
      · split
        · exact T _
        · exact .inl rfl
def I2(_:aI)(s:Sub)(m:Nat):Prop:=s.Kind=2∧(s.Pc=0∧2≤m∨s.Pc=1∧1≤m)
theorem mu2(w:Int):aF7 w I2:=fun b s m hb hd ⟨k,hp⟩=>by
  refine⟨by omega,?_⟩
  have e:l7 b w s=PW b w s:=by unfold l7;simp [hd,k]
  rw [e]
  unfold PW
  rcases hp with ⟨p,hm⟩ | ⟨p,hm⟩
  · rw [if_pos p]
    exact .inr ⟨hd,k,.inr ⟨rfl,by omega⟩⟩
  · rw [if_neg (by omega),if_pos p]
    left
    split
    · split <;> rfl
    · rfl
def I3(_:aI)(s:Sub)(m:Nat):Prop:=s.Kind=3∧(s.Pc=0∧5≤m∨s.Pc=1∧(0≤s.B∧s.B≤2)∧4 - s.B≤m∨s.Pc=2∧1≤m)
theorem mu3(w:Int):aF7 w I3:=fun b s m hb hd ⟨k,hp⟩=>by
  refine⟨by omega,?_⟩
  have e:l7 b w s=D0 b s:=by unfold l7;simp [hd,k]
  rw [e]
  unfold D0
  rcases hp with ⟨p,hm⟩ | ⟨p,hB,hm⟩ | ⟨p,hm⟩
  · rw [if_pos p]
    exact .inr ⟨hd,k,.inr (.inl ⟨rfl,by simp,by (try simp only);omega⟩)⟩
  · rw [if_neg (by omega),if_pos p,if_pos hB]
    split
    · by_cases q:s.B=2
      · exact .inr ⟨hd,k,.inr (.inr ⟨by simp only [if_pos q],by omega⟩)⟩
      · exact .inr ⟨hd,k,.inr (.inl ⟨by simp only [if_neg q],by (try simp only);omega,by (try simp only);omega⟩)⟩
    · exact .inl rfl
  · rw [if_neg (by omega),if_neg (by omega),if_pos p];exact .inl rfl
def I5(b:aI)(s:Sub)(m:Nat):Prop:=s.Kind=5∧(s.Pc=0∧3≤m∨s.Pc=1∧s.E=b.aC.aE∧2≤m∨s.Pc=2∧s.E=b.aC.aE∧1≤m)
theorem mu5(w:Int):aF7 w I5:=fun b s m hb hd ⟨k,hp⟩=>by
  refine⟨by omega,?_⟩
  have e:l7 b w s=aFM b w s:=by unfold l7;simp [hd,k]
  rw [e]
  unfold aFM
  rcases hp with ⟨p,hm⟩ | ⟨p,hE,hm⟩ | ⟨p,hE,hm⟩
  · rw [if_pos p]
    exact .inr ⟨hd,k,.inr (.inl ⟨rfl,rfl,by omega⟩)⟩
  · rw [if_neg (by omega),if_pos p]
    have ep:(F8 b.aC w s.E).1.aE=b.aC.aE:=by unfold F8;split <;> rfl
    split
    · exact .inr ⟨hd,k,.inr (.inr ⟨rfl,by simp only [ep];exact hE,by omega⟩)⟩
    · exact .inl rfl
  · rw [if_neg (by omega),if_neg (by omega),if_pos p,if_pos hE.symm];exact .inl rfl
def I4(w:Int)(b:aI)(s:Sub)(m:Nat):Prop:=s.Kind=4∧(s.Pc=0∧2+5 * (fV b.aJ w).length≤m∨s.Pc=1∧0≤s.Row∧1+5 * ((fV b.aJ w).length - s.Row.toNat)≤m ∨
  s.Pc=2∧(0≤s.B∧s.B≤2)∧EZ (fV b.aJ w) s∧5 * ((fV b.aJ w).length - s.Row.toNat)≤m+s.B∨s.Pc=3∧EZ (fV b.aJ w) s∧5 * ((fV b.aJ w).length - s.Row.toNat)≤m+3)
theorem aF9{l:List aK}(h3:l.length=3){w:Int}(hw:0≤w∧w≤2)(r:List bM):fV (l.set w.toNat ⟨r⟩) w=r:=by
  unfold fV
  rw [List.getD_eq_getElem?_getD,List.getElem?_set_self (by omega)];rfl
theorem mu4{w:Int}(hw:0≤w∧w≤2):aF7 w (I4 w):=fun b s m hb hd ⟨k,hp⟩=>by
  have h3:=hb.1.2.2.1.1
  have h24:=MB hb.1.2.2.1 hw
  have e:l7 b w s=LC b w s:=by unfold l7;simp [hd,k]
  rw [e]
  unfold LC
  rcases hp with ⟨p,hm⟩ | ⟨p,r0,hm⟩ | ⟨p,hB,ha,hm⟩ | ⟨p,ha,hm⟩
  · refine⟨by omega,?_⟩
    rw [if_pos p]
    exact .inr ⟨hd,k,.inr (.inl ⟨rfl,by simp,by simp only [Int.toNat_zero];omega⟩)⟩
  · refine⟨by omega,?_⟩
    rw [if_neg (by omega),if_pos p]
    by_cases q:rC (fV b.aJ w) s.E s.Row.toNat < (fV b.aJ w).length
    · rw [if_pos q]
      have:=(aF3 q).1
      exact .inr ⟨hd,k,.inr (.inr (.inl ⟨rfl,by simp,⟨by (try simp only);omega,by (try simp only);omega,rfl⟩,by simp only [Int.toNat_natCast];omega⟩))⟩
    · rw [if_neg q];exact .inl rfl
  · have ha':=ha
    obtain⟨a0,a1,a2⟩:=ha'
    refine⟨by omega,?_⟩
    rw [if_neg (by omega),if_neg (by omega),if_pos p,if_pos ⟨hB,ha⟩]
    split
    · exact .inr ⟨hd,k,.inr (.inl ⟨rfl,by (try simp only);omega,by (try simp only);omega⟩)⟩
    · by_cases z:s.B=2
      · exact .inr ⟨hd,k,.inr (.inr (.inr ⟨by simp only [if_pos z],⟨a0,a1,a2⟩,by (try simp only);omega⟩))⟩
      · exact .inr ⟨hd,k,.inr (.inr (.inl ⟨by simp only [if_neg z],by (try simp only);omega,⟨a0,a1,a2⟩,by (try simp only);omega⟩))⟩
  · have ha':=ha
    obtain⟨a0,a1,a2⟩:=ha'
    refine⟨by omega,?_⟩
    rw [if_neg (by omega),if_neg (by omega),if_neg (by omega),if_pos p]
    split
    · refine .inr ⟨hd,k,.inr (.inl ⟨rfl,a0,?_⟩)⟩
      simp only
      rw [aF9 h3 hw,List.length_eraseIdx_of_lt (by omega)]
      omega
    · exact .inl rfl
theorem aCB{code:List UInt8}(_:fit code):F9 code=some true:=by
  unfold F9 w7
  rw [Option.bind_some]
  by_cases hcl:1048576 < (code.length:Int)
  · rw [if_pos (by simpa using hcl)]
  rw [if_neg (by simpa using hcl)]
  obtain⟨⟨b,w,s⟩,eb,hs⟩:=aOQ (code:=code) (by omega)
  simp only at hs
  rw [eb,Option.bind_some,gE hs.fits,Option.bind_some]
  have no:eX (b,w,s) true b=some true:=by
    unfold eX gH
    simp only [d6,if_true,Option.bind_some]
    decide
  by_cases hb:eQ b
  rotate_left
  · rw [decide_eq_false hb,if_pos (by simp)];exact no
  rw [decide_eq_true hb,if_neg (by simp)]
  by_cases w0:w < 0
  · rw [if_pos (by simpa using w0)];exact no
  rw [if_neg (by simpa using w0)]
  by_cases w3:3≤w
  · rw [if_pos (by simpa using w3)];exact no
  rw [if_neg (by simpa using w3)]
  by_cases k1:s.Kind < 1
  · rw [if_pos (by simpa using k1)];exact no
  rw [if_neg (by simpa using k1)]
  by_cases k5:5 < s.Kind
  · simp only [decide_eq_true k5];exact no
  simp only [decide_eq_false k5]
  have hw:0≤w∧w≤2:=by omega
  have hL:=hb.1.2.2.1
  have h24:=MB hL hw
  unfold eX lN
  rw [if_neg (by simp),D1 hL hw,Option.bind_some,Option.bind_some]
  have fin:∀(m:Nat) (I:aI→Sub→Nat→Prop),aF7 w I→I b ⟨s.Kind,s.A,0,0,0,0,0,0,0,false⟩ m→m≤190→gH s.Kind ((fV b.aJ w).length:Int)=some (m:Int)→(∃t,H7 s.Kind=some t∧H8 s.Kind=some t) →
      (loop (j5 (b,w,s)) (0,b,⟨s.Kind,s.A,0,0,0,0,0,0,0,false⟩)).bind (y5 (b,w,s) ⟨fV b.aJ w⟩)=some true:=fun m I hI hi hm hst ⟨t,t1,t2⟩=>by
    obtain⟨n',s',e1,e2,e3,e4⟩:=aF8 (x2:=(b,w,s)) hw hI m 0 b _ hb rfl hi (by omega)
    rw [show((0:Nat):Int)=0 from rfl] at e1
    rw [e1,Option.bind_some]
    simp only [y5,G3]
    rw [if_pos e2,hst,Option.bind_some,if_pos (by simp;omega),if_pos (by simp;omega),t1,t2,Option.bind_some,Option.bind_some]
    simp [j4]
  have hkk:s.Kind=1∨s.Kind=2∨s.Kind=3∨s.Kind=4∨s.Kind=5:=by omega
  have hst:b8 ((fV b.aJ w).length:Int) 0 24=some true:=by rw [d6,decide_eq_true (by omega)]
  rcases hkk with e | e | e | e | e
  · refine fin 4 I1 (mu1 w) ⟨e,by simp,by simp,by simp⟩ (by omega) (by unfold gH;rw [hst,e];rfl) ?_
    rw [e];exact⟨_,rfl,rfl⟩
  · refine fin 2 I2 (mu2 w) ⟨e,.inl ⟨rfl,by omega⟩⟩ (by omega) (by unfold gH;rw [hst,e];rfl) ?_
    rw [e];exact⟨_,rfl,rfl⟩
  · refine fin 5 I3 (mu3 w) ⟨e,.inl ⟨rfl,by omega⟩⟩ (by omega) (by unfold gH;rw [hst,e];rfl) ?_
    rw [e];exact⟨_,rfl,rfl⟩
  · refine fin (2+5 * (fV b.aJ w).length) (I4 w) (mu4 hw) ⟨e,.inl ⟨rfl,by omega⟩⟩ (by omega) ?_ ?_
    · unfold gH
      rw [hst,e]
      simp only [Option.bind_some,Bool.not_true,Bool.false_eq_true,if_false]
      rw [aP (x:=5 * ((fV b.aJ w).length:Int)) (by omega) (by omega),aP (by omega) (by omega)]
      simp
    · rw [e];exact⟨_,rfl,rfl⟩
  · refine fin 3 I5 (mu5 w) ⟨e,.inl ⟨rfl,by omega⟩⟩ (by omega) (by unfold gH;rw [hst,e];rfl) ?_
    rw [e];exact⟨_,rfl,rfl⟩
end Go.Gv
end
