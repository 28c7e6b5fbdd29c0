import Derived.Test.YtmaknhppafajdaaGreatXLC
set_option linter.unusedVariables false
set_option linter.unusedSimpArgs false
set_option linter.unusedSectionVars false
set_option linter.constructorNameAsVariable false
set_option linter.unnecessarySimpa false
noncomputable section
set_option maxHeartbeats 4000000
set_option maxRecDepth 100000
namespace Go.Proofs.YtmaknhppafajdaaGreat
open Go.Gv
abbrev A4C:=AC×AC×AC×AC
abbrev A5C:=AC×AC×AC×AC×AC
abbrev A6C:=AC×AC×AC×AC×AC×AC
abbrev A7C:=AC×AC×AC×AC×AC×AC×AC
abbrev A8C:=AC×AC×AC×AC×AC×AC×AC×AC
abbrev a6B:=AC×AC×AC×AC×AC×AC×AC×AC×AC×AC
abbrev aBK:=AC×AC×AC×AC×AC×AC×AC×AC×AC×AC×AC
def gS(x:aB)(w1 w2 w3 w4 w5 w6 w7 w8 w9 w10 w11:AC):List SV:=[.h w1 x.aA.Mem.aE.Bytes.length,.h w2 x.aA.Mem.aE.Class.length,.h w3 x.aA.Mem.aD.Global.length,.h w4 x.aA.Mem.aD.cT.length,I x.aA.aC.aJ,.h w5 x.aA.aC.cK.length,.h w6 x.aA.aM.length,.h w7 x.aA.mP.length,.h w8 x.Cells.length,.h w9 x.aT.length,.h w10 x.aZ.length,.h w11 x.Log.length,I x.aI]
def yS(x:aB)(y:AC×AC×AC×AC×AC×AC×AC×AC×AC×AC×AC):List SV:=gS x y.1 y.2.1 y.2.2.1 y.2.2.2.1 y.2.2.2.2.1 y.2.2.2.2.2.1 y.2.2.2.2.2.2.1 y.2.2.2.2.2.2.2.1 y.2.2.2.2.2.2.2.2.1 y.2.2.2.2.2.2.2.2.2.1 y.2.2.2.2.2.2.2.2.2.2
def oS(x:aB)(w1 w2 w3 w4 w5 w6 w7 w8 w9 w10 w11:AC)(t:List Ch):List Ch:=ow w1 x.aA.Mem.aE.Bytes :: ow w2 x.aA.Mem.aE.Class :: ow w3 x.aA.Mem.aD.Global :: ow w4 x.aA.Mem.aD.cT :: ow w5 x.aA.aC.cK :: ow w6 x.aA.aM :: ow w7 x.aA.mP :: ow w8 x.Cells :: ow w9 x.aT :: ow w10 x.aZ :: ow w11 x.Log :: t
def zS(x:aB)(y:AC×AC×AC×AC×AC×AC×AC×AC×AC×AC×AC)(t:List Ch):List Ch:=oS x y.1 y.2.1 y.2.2.1 y.2.2.2.1 y.2.2.2.2.1 y.2.2.2.2.2.1 y.2.2.2.2.2.2.1 y.2.2.2.2.2.2.2.1 y.2.2.2.2.2.2.2.2.1 y.2.2.2.2.2.2.2.2.2.1 y.2.2.2.2.2.2.2.2.2.2 t
def gB(x:aA)(w1 w2 w3 w4 w5 w6 w7:AC):List SV:=[.h w1 x.Mem.aE.Bytes.length,.h w2 x.Mem.aE.Class.length,.h w3 x.Mem.aD.Global.length,.h w4 x.Mem.aD.cT.length,I x.aC.aJ,.h w5 x.aC.cK.length,.h w6 x.aM.length,.h w7 x.mP.length]
def yB(x:aA)(y:AC×AC×AC×AC×AC×AC×AC):List SV:=gB x y.1 y.2.1 y.2.2.1 y.2.2.2.1 y.2.2.2.2.1 y.2.2.2.2.2.1 y.2.2.2.2.2.2
def oB(x:aA)(w1 w2 w3 w4 w5 w6 w7:AC)(t:List Ch):List Ch:=ow w1 x.Mem.aE.Bytes :: ow w2 x.Mem.aE.Class :: ow w3 x.Mem.aD.Global :: ow w4 x.Mem.aD.cT :: ow w5 x.aC.cK :: ow w6 x.aM :: ow w7 x.mP :: t
def zB(x:aA)(y:AC×AC×AC×AC×AC×AC×AC)(t:List Ch):List Ch:=oB x y.1 y.2.1 y.2.2.1 y.2.2.2.1 y.2.2.2.2.1 y.2.2.2.2.2.1 y.2.2.2.2.2.2 t
def gM(x:Mem)(w1 w2 w3 w4:AC):List SV:=[.h w1 x.aE.Bytes.length,.h w2 x.aE.Class.length,.h w3 x.aD.Global.length,.h w4 x.aD.cT.length]
def yM(x:Mem)(y:AC×AC×AC×AC):List SV:=gM x y.1 y.2.1 y.2.2.1 y.2.2.2
def oM(x:Mem)(w1 w2 w3 w4:AC)(t:List Ch):List Ch:=ow w1 x.aE.Bytes :: ow w2 x.aE.Class :: ow w3 x.aD.Global :: ow w4 x.aD.cT :: t
def zM(x:Mem)(y:AC×AC×AC×AC)(t:List Ch):List Ch:=oM x y.1 y.2.1 y.2.2.1 y.2.2.2 t
def tt:TT:=[(22,⟨.sl 5,false,1,[.h ⟨none,0⟩ 0]⟩),
 (5,⟨.i .u8,false,1,[.y (0:UInt8)]⟩),
 (3,⟨.i .i64,false,1,[I 0]⟩),
 (49,⟨.st [(0,8),(8,1),(9,1),(10,1),(11,1),(12,1)],true,13,[.h ⟨none,0⟩ 0,.h ⟨none,0⟩ 0,.h ⟨none,0⟩ 0,.h ⟨none,0⟩ 0,I 0,.h ⟨none,0⟩ 0,.h ⟨none,0⟩ 0,.h ⟨none,0⟩ 0,.h ⟨none,0⟩ 0,.h ⟨none,0⟩ 0,.h ⟨none,0⟩ 0,.h ⟨none,0⟩ 0,I 0]⟩),
 (46,⟨.st [(0,4),(4,2),(6,1),(7,1)],true,8,[.h ⟨none,0⟩ 0,.h ⟨none,0⟩ 0,.h ⟨none,0⟩ 0,.h ⟨none,0⟩ 0,I 0,.h ⟨none,0⟩ 0,.h ⟨none,0⟩ 0,.h ⟨none,0⟩ 0]⟩),
 (40,⟨.st [(0,2),(2,2)],true,4,[.h ⟨none,0⟩ 0,.h ⟨none,0⟩ 0,.h ⟨none,0⟩ 0,.h ⟨none,0⟩ 0]⟩),
 (35,⟨.st [(0,1),(1,1)],true,2,[.h ⟨none,0⟩ 0,.h ⟨none,0⟩ 0]⟩),
 (33,⟨.sl 3,false,1,[.h ⟨none,0⟩ 0]⟩),
 (38,⟨.st [(0,1),(1,1)],true,2,[.h ⟨none,0⟩ 0,.h ⟨none,0⟩ 0]⟩),
 (36,⟨.sl 121,false,1,[.h ⟨none,0⟩ 0]⟩),
 (121,⟨.st [(0,1)],true,1,[.h ⟨none,0⟩ 0]⟩),
 (43,⟨.st [(0,1),(1,1)],true,2,[I 0,.h ⟨none,0⟩ 0]⟩),
 (41,⟨.sl 59,false,1,[.h ⟨none,0⟩ 0]⟩),
 (59,⟨.st [(0,1),(1,1),(2,1),(3,1)],true,4,[.l false,I 0,.l false,I 0]⟩),
 (4,⟨.b,false,1,[.l false]⟩),
 (44,⟨.sl 106,false,1,[.h ⟨none,0⟩ 0]⟩),
 (106,⟨.st [(0,1)],true,1,[.h ⟨none,0⟩ 0]⟩),
 (94,⟨.sl 108,false,1,[.h ⟨none,0⟩ 0]⟩),
 (108,⟨.st [(0,1),(1,1)],true,2,[I 0,I 0]⟩),
 (47,⟨.sl 63,false,1,[.h ⟨none,0⟩ 0]⟩),
 (63,⟨.st [(0,1),(1,4),(5,1),(6,1),(7,10),(17,1),(18,1),(19,1),(20,1)],true,21,[.l false,I 0,I 0,I 0,I 0,I 0,I 0,I 0,I 0,I 0,I 0,I 0,I 0,I 0,I 0,I 0,.l false,I 0,I 0,I 0,I 0]⟩),
 (27,⟨.st [(0,1),(1,1),(2,1),(3,1)],true,4,[I 0,I 0,I 0,I 0]⟩),
 (61,⟨.st [(0,1),(1,1),(2,1),(3,1),(4,1),(5,1),(6,1),(7,1),(8,1),(9,1)],true,10,[I 0,I 0,I 0,I 0,I 0,I 0,I 0,I 0,I 0,.l false]⟩),
 (25,⟨.sl 30,false,1,[.h ⟨none,0⟩ 0]⟩),
 (30,⟨.st [(0,1)],true,1,[.h ⟨none,0⟩ 0]⟩),
 (28,⟨.sl 27,false,1,[.h ⟨none,0⟩ 0]⟩),
 (31,⟨.sl 53,false,1,[.h ⟨none,0⟩ 0]⟩),
 (53,⟨.st [(0,1),(1,1),(2,1),(3,1),(4,1),(5,1),(6,1)],true,7,[I 0,I 0,I 0,I 0,I 0,I 0,I 0]⟩),
 (272,⟨.sl 36,false,1,[.h ⟨none,0⟩ 0]⟩),
 (178,⟨.i .u64,false,1,[.i .u64 0]⟩),
 (9,⟨.s,false,1,[.s ([])]⟩),
 (279,⟨.st [(0,1),(1,1)],true,2,[I 0,I 0]⟩),
 (259,⟨.i .u32,false,1,[.i .u32 0]⟩),
 (262,⟨.i .u64,false,1,[.i .u64 0]⟩),
 (173,⟨.st [(0,1),(1,1),(2,1)],true,3,[.h ⟨none,0⟩ 0,I 0,I 0]⟩),
 (110,⟨.st [(0,1),(1,1)],true,2,[.s ([]),.l false]⟩),
 (82,⟨.st [(0,1),(1,1)],true,2,[.h ⟨none,0⟩ 0,.h ⟨none,0⟩ 0]⟩),
 (146,⟨.sl 9,false,1,[.h ⟨none,0⟩ 0]⟩)]
theorem tok:HQ Tryz.prog tt:=.add (k:=.sl 5) Tryz.underlying22 rfl Tryz.isAgg22 Tryz.sizeOf22 Tryz.zeroValue22 rfl<|
 .add (k:=.i .u8) Tryz.underlying5 rfl Tryz.isAgg5 Tryz.sizeOf5 Tryz.zeroValue5 rfl<|
 .add (k:=.i .i64) Tryz.underlying3 rfl Tryz.isAgg3 Tryz.sizeOf3 Tryz.zeroValue3 rfl<|
 .st Tryz.underlying49 (.c Tryz.sizeOf46 (.c Tryz.sizeOf33 (.c Tryz.sizeOf47 (.c Tryz.sizeOf25 (.c Tryz.sizeOf31 (.c Tryz.sizeOf3 .n)))))) Tryz.isAgg49 Tryz.sizeOf49 Tryz.zeroValue49 rfl<|
 .st Tryz.underlying46 (.c Tryz.sizeOf40 (.c Tryz.sizeOf43 (.c Tryz.sizeOf44 (.c Tryz.sizeOf33 .n)))) Tryz.isAgg46 Tryz.sizeOf46 Tryz.zeroValue46 rfl<|
 .st Tryz.underlying40 (.c Tryz.sizeOf35 (.c Tryz.sizeOf38 .n)) Tryz.isAgg40 Tryz.sizeOf40 Tryz.zeroValue40 rfl<|
 .st Tryz.underlying35 (.c Tryz.sizeOf33 (.c Tryz.sizeOf33 .n)) Tryz.isAgg35 Tryz.sizeOf35 Tryz.zeroValue35 rfl<|
 .add (k:=.sl 3) Tryz.underlying33 rfl Tryz.isAgg33 Tryz.sizeOf33 Tryz.zeroValue33 rfl<|
 .st Tryz.underlying38 (.c Tryz.sizeOf36 (.c Tryz.sizeOf36 .n)) Tryz.isAgg38 Tryz.sizeOf38 Tryz.zeroValue38 rfl<|
 .add (k:=.sl 121) Tryz.underlying36 rfl Tryz.isAgg36 Tryz.sizeOf36 Tryz.zeroValue36 rfl<|
 .st Tryz.underlying121 (.c Tryz.sizeOf33 .n) Tryz.isAgg121 Tryz.sizeOf121 Tryz.zeroValue121 rfl<|
 .st Tryz.underlying43 (.c Tryz.sizeOf3 (.c Tryz.sizeOf41 .n)) Tryz.isAgg43 Tryz.sizeOf43 Tryz.zeroValue43 rfl<|
 .add (k:=.sl 59) Tryz.underlying41 rfl Tryz.isAgg41 Tryz.sizeOf41 Tryz.zeroValue41 rfl<|
 .st Tryz.underlying59 (.c Tryz.sizeOf4 (.c Tryz.sizeOf3 (.c Tryz.sizeOf4 (.c Tryz.sizeOf3 .n)))) Tryz.isAgg59 Tryz.sizeOf59 Tryz.zeroValue59 rfl<|
 .add (k:=.b) Tryz.underlying4 rfl Tryz.isAgg4 Tryz.sizeOf4 Tryz.zeroValue4 rfl<|
 .add (k:=.sl 106) Tryz.underlying44 rfl Tryz.isAgg44 Tryz.sizeOf44 Tryz.zeroValue44 rfl<|
 .st Tryz.underlying106 (.c Tryz.sizeOf94 .n) Tryz.isAgg106 Tryz.sizeOf106 Tryz.zeroValue106 rfl<|
 .add (k:=.sl 108) Tryz.underlying94 rfl Tryz.isAgg94 Tryz.sizeOf94 Tryz.zeroValue94 rfl<|
 .st Tryz.underlying108 (.c Tryz.sizeOf3 (.c Tryz.sizeOf3 .n)) Tryz.isAgg108 Tryz.sizeOf108 Tryz.zeroValue108 rfl<|
 .add (k:=.sl 63) Tryz.underlying47 rfl Tryz.isAgg47 Tryz.sizeOf47 Tryz.zeroValue47 rfl<|
 .st Tryz.underlying63 (.c Tryz.sizeOf4 (.c Tryz.sizeOf27 (.c Tryz.sizeOf3 (.c Tryz.sizeOf3 (.c Tryz.sizeOf61 (.c Tryz.sizeOf3 (.c Tryz.sizeOf3 (.c Tryz.sizeOf3 (.c Tryz.sizeOf3 .n))))))))) Tryz.isAgg63 Tryz.sizeOf63 Tryz.zeroValue63 rfl<|
 .st Tryz.underlying27 (.c Tryz.sizeOf3 (.c Tryz.sizeOf3 (.c Tryz.sizeOf3 (.c Tryz.sizeOf3 .n)))) Tryz.isAgg27 Tryz.sizeOf27 Tryz.zeroValue27 rfl<|
 .st Tryz.underlying61 (.c Tryz.sizeOf3 (.c Tryz.sizeOf3 (.c Tryz.sizeOf3 (.c Tryz.sizeOf3 (.c Tryz.sizeOf3 (.c Tryz.sizeOf3 (.c Tryz.sizeOf3 (.c Tryz.sizeOf3 (.c Tryz.sizeOf3 (.c Tryz.sizeOf4 .n)))))))))) Tryz.isAgg61 Tryz.sizeOf61 Tryz.zeroValue61 rfl<|
 .add (k:=.sl 30) Tryz.underlying25 rfl Tryz.isAgg25 Tryz.sizeOf25 Tryz.zeroValue25 rfl<|
 .st Tryz.underlying30 (.c Tryz.sizeOf28 .n) Tryz.isAgg30 Tryz.sizeOf30 Tryz.zeroValue30 rfl<|
 .add (k:=.sl 27) Tryz.underlying28 rfl Tryz.isAgg28 Tryz.sizeOf28 Tryz.zeroValue28 rfl<|
 .add (k:=.sl 53) Tryz.underlying31 rfl Tryz.isAgg31 Tryz.sizeOf31 Tryz.zeroValue31 rfl<|
 .st Tryz.underlying53 (.c Tryz.sizeOf3 (.c Tryz.sizeOf3 (.c Tryz.sizeOf3 (.c Tryz.sizeOf3 (.c Tryz.sizeOf3 (.c Tryz.sizeOf3 (.c Tryz.sizeOf3 .n))))))) Tryz.isAgg53 Tryz.sizeOf53 Tryz.zeroValue53 rfl<|
 .add (k:=.sl 36) Tryz.underlying272 rfl Tryz.isAgg272 Tryz.sizeOf272 Tryz.zeroValue272 rfl<|
 .add (k:=.i .u64) Tryz.underlying178 rfl Tryz.isAgg178 Tryz.sizeOf178 Tryz.zeroValue178 rfl<|
 .add (k:=.s) Tryz.underlying9 rfl Tryz.isAgg9 Tryz.sizeOf9 Tryz.zeroValue9 rfl<|
 .st Tryz.underlying279 (.c Tryz.sizeOf3 (.c Tryz.sizeOf3 .n)) Tryz.isAgg279 Tryz.sizeOf279 Tryz.zeroValue279 rfl<|
 .add (k:=.i .u32) Tryz.underlying259 rfl Tryz.isAgg259 Tryz.sizeOf259 Tryz.zeroValue259 rfl<|
 .add (k:=.i .u64) Tryz.underlying262 rfl Tryz.isAgg262 Tryz.sizeOf262 Tryz.zeroValue262 rfl<|
 .st Tryz.underlying173 (.c Tryz.sizeOf22 (.c Tryz.sizeOf3 (.c Tryz.sizeOf3 .n))) Tryz.isAgg173 Tryz.sizeOf173 Tryz.zeroValue173 rfl<|
 .st Tryz.underlying110 (.c Tryz.sizeOf9 (.c Tryz.sizeOf4 .n)) Tryz.isAgg110 Tryz.sizeOf110 Tryz.zeroValue110 rfl<|
 .st Tryz.underlying82 (.c Tryz.sizeOf25 (.c Tryz.sizeOf33 .n)) Tryz.isAgg82 Tryz.sizeOf82 Tryz.zeroValue82 rfl<|
 .add (k:=.sl 9) Tryz.underlying146 rfl Tryz.isAgg146 Tryz.sizeOf146 Tryz.zeroValue146 rfl<|.nil
def FJ:LS aR:=⟨AC,fun x y=>[.h y x.aS.length],fun S w x y=>aL.rd S w [y.v x.aS.length] x.aS,(fun h=>by
  obtain⟨v0,rfl,h0⟩:=aM8 h
  obtain⟨a0,e0⟩:=aAG h0
  cases e0
  exact⟨a0,rfl,h0⟩),fun x y=>.g [.h y x.aS.length],fun h h1 h2=>aL.rd_mono (aL.rd_agree h h1) h2⟩
def aND:LS qA:=⟨Unit,fun x _=>[.b x.On,I x.aJ,.b x.dJ,I x.Seen],fun _ _ _ _=>True,(fun h=>⟨(),by rw [a3X h];rfl,trivial⟩),fun x _=>.g [.b x.On,I x.aJ,.b x.dJ,I x.Seen],fun _ _ _=>trivial⟩
def aR6:LS dO:=⟨Unit,fun x _=>[I x.Handle,I x.aJ],fun _ _ _ _=>True,(fun h=>⟨(),by rw [aR5 h];rfl,trivial⟩),fun x _=>.g [I x.Handle,I x.aJ],fun _ _ _=>trivial⟩
def WM:LS bB:=⟨AC,fun x y=>[.h y x.Rows.length],fun S w x y=>aL.rd S w [y.v x.Rows.length] x.Rows,(fun h=>by
  obtain⟨v0,rfl,h0⟩:=aM9 h
  obtain⟨a0,e0⟩:=aAG h0
  cases e0
  exact⟨a0,rfl,h0⟩),fun x y=>.g [.h y x.Rows.length],fun h h1 h2=>aL.rd_mono (aL.rd_agree h h1) h2⟩
def aWX:LS bK:=⟨Unit,fun x _=>[I x.Kind,I x.Cell,I x.gP,I x.dK],fun _ _ _ _=>True,(fun h=>⟨(),by rw [aWT h];rfl,trivial⟩),fun x _=>.g [I x.Kind,I x.Cell,I x.gP,I x.dK],fun _ _ _=>trivial⟩
def aKV:LS bD:=⟨Unit,fun x _=>[.b x.cY,I x.Op.Kind,I x.Op.Cell,I x.Op.gP,I x.Op.dK,I x.aI,I x.Pc,I x.Sub.Kind,I x.Sub.A,I x.Sub.Pc,I x.Sub.E,I x.Sub.Row,I x.Sub.B,I x.Sub.H,I x.Sub.Out,I x.Sub.Code,.b x.Sub.cW,I x.H,I x.Old,I x.dK,I x.Code],fun _ _ _ _=>True,(fun h=>⟨(),by rw [a31 h];rfl,trivial⟩),fun x _=>.g [.b x.cY,I x.Op.Kind,I x.Op.Cell,I x.Op.gP,I x.Op.dK,I x.aI,I x.Pc,I x.Sub.Kind,I x.Sub.A,I x.Sub.Pc,I x.Sub.E,I x.Sub.Row,I x.Sub.B,I x.Sub.H,I x.Sub.Out,I x.Sub.Code,.b x.Sub.cW,I x.H,I x.Old,I x.dK,I x.Code],fun _ _ _=>trivial⟩
def NA:LS Queue:=⟨AC,fun x y=>[.h y x.fM.length],fun S w x y=>aL.rd S w [y.v x.fM.length] x.fM,(fun h=>by
  obtain⟨v0,rfl,h0⟩:=aWV h
  obtain⟨a0,e0⟩:=aAG h0
  cases e0
  exact⟨a0,rfl,h0⟩),fun x y=>.g [.h y x.fM.length],fun h h1 h2=>aL.rd_mono (aL.rd_agree h h1) h2⟩
def cEv:LS Ev:=⟨Unit,fun x _=>[I x.Kind,I x.LI,I x.aI,I x.Cell,I x.Handle,I x.dK,I x.Code],fun _ _ _ _=>True,(fun h=>⟨(),by rw [a59 h];rfl,trivial⟩),fun x _=>.g [I x.Kind,I x.LI,I x.aI,I x.Cell,I x.Handle,I x.dK,I x.Code],fun _ _ _=>trivial⟩
def uS:CO aR:=FJ.o (fun x y=>[ow y x.aS]) (fun h=>by cases h;exact CT _) (fun _ _=>rfl) (fun _ _ _=>rfl)
def LJ:CO qA:=aND.o (fun x _=>[]) (fun h=>by cases h;exact a3Y _) (fun _ _=>rfl) (fun _ _ _=>rfl)
def KL:CO dO:=aR6.o (fun x _=>[]) (fun h=>by cases h;exact a0I _) (fun _ _=>rfl) (fun _ _ _=>rfl)
def FK:CO bB:=WM.o (fun x y=>[ow y x.Rows]) (fun h=>by cases h;exact aEK _) (fun _ _=>rfl) (fun _ _ _=>rfl)
def D8:CO bK:=aWX.o (fun x _=>[]) (fun h=>by cases h;exact a3Z _) (fun _ _=>rfl) (fun _ _ _=>rfl)
def cL:CO bD:=aKV.o (fun x _=>[]) (fun h=>by cases h;exact a32 _) (fun _ _=>rfl) (fun _ _ _=>rfl)
def dS:CO Queue:=NA.o (fun x y=>[ow y x.fM]) (fun h=>by cases h;exact qS _) (fun _ _=>rfl) (fun _ _ _=>rfl)
def GP:CO Ev:=cEv.o (fun x _=>[]) (fun h=>by cases h;exact a6A _) (fun _ _=>rfl) (fun _ _ _=>rfl)
noncomputable section
variable {κ:Ctx}
theorem KM{code:List UInt8}{s1:AC}(h1:bL κ s1 code):V0 Tryz.prog κ 10 (vS code) [.h s1 code.length] .b:=
 dW tok Tryz.call10 Tryz.func10 Tryz.results10 Q Q<|dE Q Q
theorem g8{code:List UInt8}{i:Int}{s1:AC}(h1:bL κ s1 code):V0 Tryz.prog κ 11 (nN code i) [.h s1 code.length,I i] I:=
 dW tok Tryz.call11 Tryz.func11 Tryz.results11 Q Q<|b8 [8] Q Q (OG cU Q h1 Q fun x1 _ _=>dE Q Q)<|dE Q Q
theorem D9{s:aB}{s1 s2 s3 s4 s5 s6 s7 s8 s9 s10 s11:AC}(h1:bL κ s1 s.aA.Mem.aE.Bytes)(h2:bL κ s2 s.aA.Mem.aE.Class)(h3:bL κ s3 s.aA.Mem.aD.Global)(h4:bL κ s4 s.aA.Mem.aD.cT)(h5:bL κ s5 s.aA.aC.cK)(h6:bL κ s6 s.aA.aM)(h7:bL κ s7 s.aA.mP)(h8:bL κ s8 s.Cells)(h9:bL κ s9 s.aT)(h10:bL κ s10 s.aZ)(h11:bL κ s11 s.Log):VS Tryz.prog κ 12 (vT s) [.g (gS s s1 s2 s3 s4 s5 s6 s7 s8 s9 s10 s11)] [] [] (fun r (y:AC)=>.h y r.length) (fun r y=>[ow y r]):=
 dW tok Tryz.call12 Tryz.func12 Tryz.results12 Q Q<|fun hF=>WJ (α:=Ev) sU Q Q Q Q fun s12=>wi hF<|QX s12 [8,9] (fun(p:(List Ev)×Int) (s14:AC)=>[(3,.h s14 p.1.length),(10,I p.2)]) [1] [] (fun p s14=>[ow s14 (p.1:List Ev)]) id [] (fun(x5:(List Ev)) (s15:AC)=>[(3,.h s15 x5.length)]) [] (fun x5 s15=>[ow s15 (x5:List Ev)]) Q Q (fun hF1 ⟨x3,x4⟩ s14 hr1=>b8 [11] Q Q (iT 2 1 (FX x4) [8,9,10] (fun(x6:(List Ev)) (s16:AC)=>[(3,.h s16 x6.length)]) [] (fun x6 s16=>[ow s16 (x6:List Ev)]) Q (OG cEv Q h11 Q fun x7 _ _=>b8 [16] Q Q (fun hG1=>RY GP [] (x7) () sU Q Q Q Q Q Q Q Q Q Q Q Q Q fun s17=>ap 0 sU Q Q Q Q Q Q Q (fun h=>(h.o 3 Q)) Q Q hG1 fun hG1 s18=>wi hG1<|pR s18 [0] Q Q)<|pR s14 [0] Q Q) fun x6 s16=>nxW s16 [0] Q)<|bkW s14 [0] Q) fun x5 s15=>nP s15 [0] Q Q
theorem XT{s:List bK}{s1:AC}(h1:bL κ s1 s):VS Tryz.prog κ 133 (HR s) [.h s1 s.length] [] [] (fun r (y:AC)=>.h y r.length) (fun r y=>[ow y r]):=
 dW tok Tryz.call133 Tryz.func133 Tryz.results133 Q Q<|fun hF=>eqn Q Q Q Q (fun h2=>have hF:=cln h1 h2 hF;sR Q<|W5 bK<|tF (hT:=tok) ⟨none,0⟩ [0] hF Q Tryz.results133 Q Q Q Q)<|WJ (α:=bK) bG Q Q Q Q fun s2=>ap 0 bG Q Q Q Q Q Q Q (fun h=>(h.a h1)) Q Q hF fun hF s3=>wi hF<|nP s3 [0] Q Q
theorem fP{todo:List Queue}{s1:AC}(h1:bL κ s1 todo):VS Tryz.prog κ 53 (zP todo) [.h s1 todo.length] [] [] (fun r (y:AC)=>.h y r.length) (fun r y=>[ow y r]):=
 dW tok Tryz.call53 Tryz.func53 Tryz.results53 Q Q<|fun hF=>WJ (α:=Queue) fI Q Q Q Q fun s2=>wi hF<|QX s2 [7,8] (fun(p:(List Queue)×Int) (s4:AC)=>[(3,.h s4 p.1.length),(9,I p.2)]) [0] [] (fun p s4=>[ow s4 (p.1:List Queue)]) id [] (fun(x5:(List Queue)) (s5:AC)=>[(3,.h s5 x5.length)]) [] (fun x5 s5=>[ow s5 (x5:List Queue)]) Q Q (fun hF1 ⟨x3,x4⟩ s4 hr1=>b8 [10] Q Q (OG NA Q h1 Q fun x6 s6 h2=>c1 Q (fun h=>XT (h.a h2)) fun x7 s7=>fun hG1=>RY dS [3] ((⟨x7⟩:Queue)) s7 fI Q Q Q Q Q Q Q Q Q Q Q Q Q fun s8=>apN 0 4 fI Q Q Q Q Q Q Q Q Q Q Q hG1 fun hG1 s9=>wi hG1<|nxW s9 [5] Q)<|bkW s4 [0] Q) fun x5 s5=>nP s5 [0] Q Q
theorem fJ{s:List Int}{s1:AC}(h1:bL κ s1 s):VS Tryz.prog κ 105 (fV s) [.h s1 s.length] [] [] (fun r (y:AC)=>.h y r.length) (fun r y=>[ow y r]):=
 dW tok Tryz.call105 Tryz.func105 Tryz.results105 Q Q<|fun hF=>eqn Q Q Q Q (fun h2=>have hF:=cln h1 h2 hF;sR Q<|W5 Int<|tF (hT:=tok) ⟨none,0⟩ [0] hF Q Tryz.results105 Q Q Q Q)<|WJ (α:=Int) aW Q Q Q Q fun s2=>ap 0 aW Q Q Q Q Q Q Q (fun h=>(h.a h1)) Q Q hF fun hF s3=>wi hF<|nP s3 [0] Q Q
theorem BN{h:aE}{s1 s2:AC}(h1:bL κ s1 h.Bytes)(h2:bL κ s2 h.Class):VS Tryz.prog κ 261 (uC h) [.g [.h s1 h.Bytes.length,.h s2 h.Class.length]] [] [] (fun r (y:AC×AC)=>.g [.h y.1 r.Bytes.length,.h y.2 r.Class.length]) (fun r y=>[ow y.1 r.Bytes,ow y.2 r.Class]):=
 dW tok Tryz.call261 Tryz.func261 Tryz.results261 Q Q<|nZ aO [0] Q<|c1 Q (fun h=>fJ (h.a h1)) fun x1 s3=>c1 Q (fun h=>fJ (h.a h2)) fun x2 s4=>nP (s3,s4) [2,3] Q Q
theorem jM{l:aD}{s1 s2:AC}(h1:bL κ s1 l.Global)(h2:bL κ s2 l.cT):VS Tryz.prog κ 262 (iX l) [.g [.h s1 l.Global.length,.h s2 l.cT.length]] [] [] (fun r (y:AC×AC)=>.g [.h y.1 r.Global.length,.h y.2 r.cT.length]) (fun r y=>[ow y.1 r.Global,ow y.2 r.cT]):=
 dW tok Tryz.call262 Tryz.func262 Tryz.results262 Q Q<|fun hF=>nw aR Q<|wi hF<|QX ⟨none,0⟩ [1,2,3,10,11] (fun(p:Int×(List aR)) (s4:AC)=>[(12,I p.1)]) [3,2,0,1] [0,1] (fun p s4=>[ow s4 (p.2:List aR),.box 2 [.h s4 p.2.length,.h ⟨none,0⟩ 0]]) id [1,2,3] (fun(x5:(List aR)) (s5:AC)=>[]) [0,1] (fun x5 s5=>[ow s5 (x5:List aR),.box 2 [.h s5 x5.length,.h ⟨none,0⟩ 0]]) Q Q (fun hF1 ⟨x3,x4⟩ s4 hr1=>b8 [13] Q Q (OG FJ Q h1 Q fun x14 s22 h4=>iT 0 5 (CX x3) [1,2,3,10,11,12] (fun(x15:(List aR)) (s23:AC)=>[]) [2,3] (fun x15 s23=>[ow s23 (x15:List aR),.box 2 [.h s23 x15.length,.h ⟨none,0⟩ 0]]) Q (nZ aO [2,3,4,5] Q<|fun hG1=>bd hG1 fun x16 hA3 hG1=>nd hG1 fun hA4 hG1=>hC Q Q (have hq6:=rb hA3;wi hq6<|c1 Q (fun h=>fJ (h.a h4)) fun u3 s27=>fun hq6=>match u3,hq6 with | _,rfl=>RY uS [6] ((⟨x16⟩:aR)) s27 d9 Q Q Q Q Q Q Q Q Q Q Q Q Q fun s28=>have hq7:=rn hA4;apN 0 7 d9 Q Q Q Q Q Q Q Q Q Q Q hq7 fun hq7 s29=>wi hG1<|pR (p:=(x4++([(⟨x16⟩:aR)]))) s29 [8,1,2,3] Q Q) (have hq8:=rb hA3;wi hq8<|c1 Q (fun h=>fJ (h.a h4)) fun u4 s30=>fun hq8=>match u4,hq8 with | _,rfl=>hC Q Q (RY uS [6] ((⟨x16⟩:aR)) s30 d9 Q Q Q Q Q Q Q Q Q Q Q Q Q fun s31=>have hq9:=rn hA4;apN 0 7 d9 Q Q Q Q Q Q Q Q Q Q Q hq9 fun hq9 s32=>wi hG1<|pR (p:=(x4++([(⟨x16⟩:aR)]))) s32 [8,1,2,3] Q Q) (RY uS [6] ((⟨x16⟩:aR)) s30 d9 Q Q Q Q Q Q Q Q Q Q Q Q Q fun s33=>have hq10:=rn hA4;apN 0 7 d9 Q Q Q Q Q Q Q Q Q Q Q hq10 fun hq10 s34=>wi hG1<|pR (p:=(x4++([(⟨x16⟩:aR)]))) s34 [8,1,2,3] Q Q))) fun x15 s23=>nxW s23 [0,1,2,3] Q)<|bkW s4 [0,1,2,3] Q) fun x5 s5=>fun hF=>nw aR Q<|wi hF<|QX ⟨none,0⟩ [2,3,27,28] (fun(p:Int×(List aR)) (s7:AC)=>[(29,I p.1)]) [4,1,3,0] [3,0] (fun p s7=>[ow s7 (p.2:List aR),.box 2 [.h s5 x5.length,.h s7 p.2.length]]) id [2,3] (fun(x10:(List aR)) (s8:AC)=>[]) [3,0] (fun x10 s8=>[ow s8 (x10:List aR),.box 2 [.h s5 x5.length,.h s8 x10.length]]) Q Q (fun hF2 ⟨x8,x9⟩ s7 hr2=>b8 [30] Q Q (OG FJ Q h2 Q fun x11 s9 h3=>iT 0 5 (CU x8) [2,3,27,28,29] (fun(x12:(List aR)) (s10:AC)=>[]) [2,3] (fun x12 s10=>[ow s10 (x12:List aR),.box 2 [.h s5 x5.length,.h s10 x12.length]]) Q (nZ aO [2,4,5] Q<|fun hG2=>bd hG2 fun x13 hA1 hG2=>nd hG2 fun hA2 hG2=>hC Q Q (have hq1:=rb hA1;wi hq1<|c1 Q (fun h=>fJ (h.a h3)) fun u1 s14=>fun hq1=>match u1,hq1 with | _,rfl=>RY uS [6] ((⟨x13⟩:aR)) s14 d9 Q Q Q Q Q Q Q Q Q Q Q Q Q fun s15=>have hq2:=rn hA2;apN 0 7 d9 Q Q Q Q Q Q Q Q Q Q Q hq2 fun hq2 s16=>wi hG2<|pR (p:=(x9++([(⟨x13⟩:aR)]))) s16 [8,1,2,3] Q Q) (have hq3:=rb hA1;wi hq3<|c1 Q (fun h=>fJ (h.a h3)) fun u2 s17=>fun hq3=>match u2,hq3 with | _,rfl=>hC Q Q (RY uS [6] ((⟨x13⟩:aR)) s17 d9 Q Q Q Q Q Q Q Q Q Q Q Q Q fun s18=>have hq4:=rn hA2;apN 0 7 d9 Q Q Q Q Q Q Q Q Q Q Q hq4 fun hq4 s19=>wi hG2<|pR (p:=(x9++([(⟨x13⟩:aR)]))) s19 [8,1,2,3] Q Q) (RY uS [6] ((⟨x13⟩:aR)) s17 d9 Q Q Q Q Q Q Q Q Q Q Q Q Q fun s20=>have hq5:=rn hA2;apN 0 7 d9 Q Q Q Q Q Q Q Q Q Q Q hq5 fun hq5 s21=>wi hG2<|pR (p:=(x9++([(⟨x13⟩:aR)]))) s21 [8,1,2,3] Q Q))) fun x12 s10=>nxW s10 [0,1,2,3] Q)<|bkW s7 [0,1,2,3] Q) fun x10 s8=>nP (s5,s8) [3,0] Q Q
theorem S8{m:Mem}{s1 s2 s3 s4:AC}(h1:bL κ s1 m.aE.Bytes)(h2:bL κ s2 m.aE.Class)(h3:bL κ s3 m.aD.Global)(h4:bL κ s4 m.aD.cT):VS Tryz.prog κ 182 (CZ m) [.g (gM m s1 s2 s3 s4)] [] [] (fun r (y:A4C)=>.g (yM r y)) (fun r y=>(zM r y [])):=
 dW tok Tryz.call182 Tryz.func182 Tryz.results182 Q Q<|nZ aO [0] Q<|c1 Q (fun h=>BN (h.a h1) (h.a h2)) fun x1 s5=>c1 Q (fun h=>jM (h.a h3) (h.a h4)) fun x2 s6=>nP (s5.1,s5.2,s6.1,s6.2) [2,3,4,5] Q Q
theorem WN{s:List qA}{s1:AC}(h1:bL κ s1 s):VS Tryz.prog κ 263 (xJ s) [.h s1 s.length] [] [] (fun r (y:AC)=>.h y r.length) (fun r y=>[ow y r]):=
 dW tok Tryz.call263 Tryz.func263 Tryz.results263 Q Q<|fun hF=>eqn Q Q Q Q (fun h2=>have hF:=cln h1 h2 hF;sR Q<|W5 qA<|tF (hT:=tok) ⟨none,0⟩ [0] hF Q Tryz.results263 Q Q Q Q)<|WJ (α:=qA) P3 Q Q Q Q fun s2=>ap 0 P3 Q Q Q Q Q Q Q (fun h=>(h.a h1)) Q Q hF fun hF s3=>wi hF<|nP s3 [0] Q Q
theorem rL{c:aC}{s1:AC}(h1:bL κ s1 c.cK):VS Tryz.prog κ 183 (k9 c) [.g [I c.aJ,.h s1 c.cK.length]] [] [] (fun r (y:AC)=>.g [I r.aJ,.h y r.cK.length]) (fun r y=>[ow y r.cK]):=
 dW tok Tryz.call183 Tryz.func183 Tryz.results183 Q Q<|nZ aO [0] Q<|c1 Q (fun h=>WN (h.a h1)) fun x1 s2=>nP s2 [2] Q Q
theorem U4{s:List dO}{s1:AC}(h1:bL κ s1 s):VS Tryz.prog κ 264 (vB s) [.h s1 s.length] [] [] (fun r (y:AC)=>.h y r.length) (fun r y=>[ow y r]):=
 dW tok Tryz.call264 Tryz.func264 Tryz.results264 Q Q<|fun hF=>eqn Q Q Q Q (fun h2=>have hF:=cln h1 h2 hF;sR Q<|W5 dO<|tF (hT:=tok) ⟨none,0⟩ [0] hF Q Tryz.results264 Q Q Q Q)<|WJ (α:=dO) wT Q Q Q Q fun s2=>ap 0 wT Q Q Q Q Q Q Q (fun h=>(h.a h1)) Q Q hF fun hF s3=>wi hF<|nP s3 [0] Q Q
theorem rM{l:List bB}{s1:AC}(h1:bL κ s1 l):VS Tryz.prog κ 184 (lA l) [.h s1 l.length] [] [] (fun r (y:AC)=>.h y r.length) (fun r y=>[ow y r]):=
 dW tok Tryz.call184 Tryz.func184 Tryz.results184 Q Q<|fun hF=>WJ (α:=bB) HK Q Q Q Q fun s2=>wi hF<|QX s2 [7,8] (fun(p:(List bB)×Int) (s4:AC)=>[(3,.h s4 p.1.length),(9,I p.2)]) [0] [] (fun p s4=>[ow s4 (p.1:List bB)]) id [] (fun(x5:(List bB)) (s5:AC)=>[(3,.h s5 x5.length)]) [] (fun x5 s5=>[ow s5 (x5:List bB)]) Q Q (fun hF1 ⟨x3,x4⟩ s4 hr1=>b8 [10] Q Q (OG WM Q h1 Q fun x6 s6 h2=>c1 Q (fun h=>U4 (h.a h2)) fun x7 s7=>fun hG1=>RY FK [3] ((⟨x7⟩:bB)) s7 HK Q Q Q Q Q Q Q Q Q Q Q Q Q fun s8=>apN 0 4 HK Q Q Q Q Q Q Q Q Q Q Q hG1 fun hG1 s9=>wi hG1<|nxW s9 [5] Q)<|bkW s4 [0] Q) fun x5 s5=>nP s5 [0] Q Q
theorem aBL{b:aA}{s1 s2 s3 s4 s5 s6 s7:AC}(h1:bL κ s1 b.Mem.aE.Bytes)(h2:bL κ s2 b.Mem.aE.Class)(h3:bL κ s3 b.Mem.aD.Global)(h4:bL κ s4 b.Mem.aD.cT)(h5:bL κ s5 b.aC.cK)(h6:bL κ s6 b.aM)(h7:bL κ s7 b.mP):VS Tryz.prog κ 91 (FY b) [.g (gB b s1 s2 s3 s4 s5 s6 s7)] [] [] (fun r (y:A7C)=>.g (yB r y)) (fun r y=>(zB r y [])):=
 dW tok Tryz.call91 Tryz.func91 Tryz.results91 Q Q<|nZ aO [0] Q<|c1 Q (fun h=>S8 (h.a h1) (h.a h2) (h.a h3) (h.a h4)) fun x1 s8=>c1 Q (fun h=>rL (h.a h5)) fun x2 s9=>c1 Q (fun h=>rM (h.a h6)) fun x3 s10=>c1 Q (fun h=>fJ (h.a h7)) fun x4 s11=>nP (s8.1,s8.2.1,s8.2.2.1,s8.2.2.2,s9,s10,s11) [2,3,4,5,6,7,8] Q Q
theorem WO{s:List bD}{s1:AC}(h1:bL κ s1 s):VS Tryz.prog κ 106 (FD s) [.h s1 s.length] [] [] (fun r (y:AC)=>.h y r.length) (fun r y=>[ow y r]):=
 dW tok Tryz.call106 Tryz.func106 Tryz.results106 Q Q<|fun hF=>eqn Q Q Q Q (fun h2=>have hF:=cln h1 h2 hF;sR Q<|W5 bD<|tF (hT:=tok) ⟨none,0⟩ [0] hF Q Tryz.results106 Q Q Q Q)<|WJ (α:=bD) fX Q Q Q Q fun s2=>ap 0 fX Q Q Q Q Q Q Q (fun h=>(h.a h1)) Q Q hF fun hF s3=>wi hF<|nP s3 [0] Q Q
theorem XU{s:List Ev}{s1:AC}(h1:bL κ s1 s):VS Tryz.prog κ 107 (HT s) [.h s1 s.length] [] [] (fun r (y:AC)=>.h y r.length) (fun r y=>[ow y r]):=
 dW tok Tryz.call107 Tryz.func107 Tryz.results107 Q Q<|fun hF=>eqn Q Q Q Q (fun h2=>have hF:=cln h1 h2 hF;sR Q<|W5 Ev<|tF (hT:=tok) ⟨none,0⟩ [0] hF Q Tryz.results107 Q Q Q Q)<|WJ (α:=Ev) sU Q Q Q Q fun s2=>ap 0 sU Q Q Q Q Q Q Q (fun h=>(h.a h1)) Q Q hF fun hF s3=>wi hF<|nP s3 [0] Q Q
theorem FL{s:aB}{s1 s2 s3 s4 s5 s6 s7 s8 s9 s10 s11:AC}(h1:bL κ s1 s.aA.Mem.aE.Bytes)(h2:bL κ s2 s.aA.Mem.aE.Class)(h3:bL κ s3 s.aA.Mem.aD.Global)(h4:bL κ s4 s.aA.Mem.aD.cT)(h5:bL κ s5 s.aA.aC.cK)(h6:bL κ s6 s.aA.aM)(h7:bL κ s7 s.aA.mP)(h8:bL κ s8 s.Cells)(h9:bL κ s9 s.aT)(h10:bL κ s10 s.aZ)(h11:bL κ s11 s.Log):VS Tryz.prog κ 47 (qT s) [.g (gS s s1 s2 s3 s4 s5 s6 s7 s8 s9 s10 s11)] [] [] (fun r (y:aBK)=>.g (yS r y)) (fun r y=>(zS r y [])):=
 dW tok Tryz.call47 Tryz.func47 Tryz.results47 Q Q<|nZ aO [0] Q<|c1 Q (fun h=>aBL (h.a h1) (h.a h2) (h.a h3) (h.a h4) (h.a h5) (h.a h6) (h.a h7)) fun x1 s12=>c1 Q (fun h=>fJ (h.a h8)) fun x2 s13=>c1 Q (fun h=>WO (h.a h9)) fun x3 s14=>c1 Q (fun h=>fP (h.a h10)) fun x4 s15=>c1 Q (fun h=>XU (h.a h11)) fun x5 s16=>nP (s12.1,s12.2.1,s12.2.2.1,s12.2.2.2.1,s12.2.2.2.2.1,s12.2.2.2.2.2.1,s12.2.2.2.2.2.2,s13,s14,s15,s16) [2,3,4,5,6,7,8,9,10,11,12] Q Q
theorem NB{s:List Queue}{f:(Queue→Option Bool)}{s1:AC}{g_f:FuncId}{cap_f:List Value}(h1:bL κ s1 s)(h_f:Fu1 Tryz.prog κ (NA:LS Queue) .b g_f cap_f f):V0 Tryz.prog κ 208 (rX s f) [.h s1 s.length,.k (.func (.func g_f) #[] cap_f.toArray)] I:=
 dW tok Tryz.call208 Tryz.func208 Tryz.results208 Q Q<|PG 8 [0,1,7] [] Out.brk [] [] Q Q (fun hF1 x2 hr1=>b8 [9] Q Q (OG NA Q h1 Q fun x3 s2 h2=>fun hG1=>fa1 h_f x3 s2 Q Q Q Q Q h2 hG1 fun x4 _ hG1=>wi hG1<|b8 [16] Q Q (MT hr1 hF1<|dE Q Q)<|J4 [] Q)<|FW [] Q)<|dE Q Q
theorem vG{s:List Queue}{f:(Queue→Option Bool)}{s1:AC}{g_f:FuncId}{cap_f:List Value}(h1:bL κ s1 s)(h_f:Fu1 Tryz.prog κ (NA:LS Queue) .b g_f cap_f f):V0 Tryz.prog κ 116 (iK s f) [.h s1 s.length,.k (.func (.func g_f) #[] cap_f.toArray)] .b:=
 dW tok Tryz.call116 Tryz.func116 Tryz.results116 Q Q<|c0 Q (fun h=>NB (h.a h1) (h.u1 h_f)) fun x1=>dE Q Q
theorem R0{s:List bK}{f:(bK→Option Bool)}{s1:AC}{g_f:FuncId}{cap_f:List Value}(h1:bL κ s1 s)(h_f:Fu1 Tryz.prog κ (aWX:LS bK) .b g_f cap_f f):V0 Tryz.prog κ 219 (zE s f) [.h s1 s.length,.k (.func (.func g_f) #[] cap_f.toArray)] I:=
 dW tok Tryz.call219 Tryz.func219 Tryz.results219 Q Q<|PG 8 [0,1,7] [] Out.brk [] [] Q Q (fun hF1 x2 hr1=>b8 [9] Q Q (OG aWX Q h1 Q fun x3 _ _=>fun hG1=>fa1 h_f x3 () Q Q Q Q Q trivial hG1 fun x4 _ hG1=>wi hG1<|b8 [16] Q Q (MT hr1 hF1<|dE Q Q)<|J4 [] Q)<|FW [] Q)<|dE Q Q
theorem NC{s:List bK}{f:(bK→Option Bool)}{s1:AC}{g_f:FuncId}{cap_f:List Value}(h1:bL κ s1 s)(h_f:Fu1 Tryz.prog κ (aWX:LS bK) .b g_f cap_f f):V0 Tryz.prog κ 126 (mH s f) [.h s1 s.length,.k (.func (.func g_f) #[] cap_f.toArray)] .b:=
 dW tok Tryz.call126 Tryz.func126 Tryz.results126 Q Q<|c0 Q (fun h=>R0 (h.a h1) (h.u1 h_f)) fun x1=>dE Q Q
theorem cV{n low high:Int}:V0 Tryz.prog κ 108 (cS n low high) [I n,I low,I high] .b:=
 dW tok Tryz.call108 Tryz.func108 Tryz.results108 Q Q<|d5 0 0 qU [] 6 [] Q (eP [9,10] Q Q (cQ [] Q Q)<|cQ [] Q Q) fun x1=>dE Q Q
theorem aAH{o_:bK}:V0 Tryz.prog κ 128 (JU o_) [.g [I o_.Kind,I o_.Cell,I o_.gP,I o_.dK]] .b:=
 dW tok Tryz.call128 Tryz.func128 Tryz.results128 Q Q<|d5 0 1 (o8 o_) [1] 3 [0] Q (aM7 [6,7] Q Q (fun hb8=>cQ [0] Q Q) fun hb8=>aM7 [10,11,12] Q Q (fun hb9=>cQ [0] Q Q) fun hb9=>aM7 [15,16,17] Q Q (fun hb10=>cQ [0] Q Q) fun hb10=>cQ [0] Q Q) fun x1=>c0 Q (fun _=>cV) fun x2=>aM6 [22,26] Q Q (fun hb1=>dE Q Q) fun hb1=>d5 0 1 (C2 o_) [1] 27 [0] Q (aM7 [3,28,29] Q Q (fun hb6=>c0 Q (fun _=>cV) fun x8=>aM7 [33,34,35] Q Q (fun hb7=>cQ [0] Q Q) fun hb7=>cQ [0] Q Q) fun hb6=>cQ [0] Q Q) fun x3=>aM6 [27] Q Q (fun hb2=>dE Q Q) fun hb2=>aM6 [44,47] Q Q (fun hb3=>d5 0 1 IK [] 2 [] Q (c0 Q (fun _=>cV) fun x5=>aM7 [50,51] Q Q (fun hb4=>c0 Q (fun _=>cV) fun x6=>cQ [] Q Q) fun hb4=>cQ [] Q Q) fun x4=>dE Q Q) fun hb3=>d5 0 1 IL [] 2 [] Q (aM7 [58,59] Q Q (fun hb5=>cQ [] Q Q) fun hb5=>cQ [] Q Q) fun x7=>dE Q Q
theorem XV{o_:bK}:V0 Tryz.prog κ 127 (A2 o_) [.g [I o_.Kind,I o_.Cell,I o_.gP,I o_.dK]] .b:=
 dW tok Tryz.call127 Tryz.func127 Tryz.results127 Q Q<|c0 Q (fun _=>aAH) fun x1=>dE Q Q
theorem aBM{q:Queue}{s1:AC}(h1:bL κ s1 q.fM):V0 Tryz.prog κ 125 (FZ q) [.g [.h s1 q.fM.length]] .b:=
 dW tok Tryz.call125 Tryz.func125 Tryz.results125 Q Q<|d5 0 1 xK [] 2 [] Q (eP [6,7] Q Q (cQ [] Q Q)<|c0 Q (fun h=>NC (h.a h1) (aHM Tryz.call127 fun _=>XV)) fun x2=>cQ [] Q Q) fun x1=>dE Q Q
theorem VM{todo:List Queue}{s1:AC}(h1:bL κ s1 todo):V0 Tryz.prog κ 51 (G6 todo) [.h s1 todo.length] .b:=
 dW tok Tryz.call51 Tryz.func51 Tryz.results51 Q Q<|d5 0 0 C3 [] 2 [] Q (eP [5,6] Q Q (c0 Q (fun h=>vG (h.a h1) (aHM Tryz.call125 fun hy=>aBM hy)) fun x2=>cQ [] Q Q)<|cQ [] Q Q) fun x1=>dE Q Q
theorem P4{s:List Int}{f:(Int→Option Bool)}{s1:AC}{g_f:FuncId}{cap_f:List Value}(h1:bL κ s1 s)(h_f:Fu1 Tryz.prog κ (cI:LS Int) .b g_f cap_f f):V0 Tryz.prog κ 205 (vU s f) [.h s1 s.length,.k (.func (.func g_f) #[] cap_f.toArray)] I:=
 dW tok Tryz.call205 Tryz.func205 Tryz.results205 Q Q<|PG 8 [0,1,7] [] Out.brk [] [] Q Q (fun hF1 x2 hr1=>b8 [9] Q Q (VA Q h1 Q fun x3=>fun hG1=>fa1 h_f x3 () Q Q Q Q Q trivial hG1 fun x4 _ hG1=>wi hG1<|b8 [16] Q Q (MT hr1 hF1<|dE Q Q)<|J4 [] Q)<|FW [] Q)<|dE Q Q
theorem iN{s:List Int}{f:(Int→Option Bool)}{s1:AC}{g_f:FuncId}{cap_f:List Value}(h1:bL κ s1 s)(h_f:Fu1 Tryz.prog κ (cI:LS Int) .b g_f cap_f f):V0 Tryz.prog κ 109 (eR s f) [.h s1 s.length,.k (.func (.func g_f) #[] cap_f.toArray)] .b:=
 dW tok Tryz.call109 Tryz.func109 Tryz.results109 Q Q<|c0 Q (fun h=>P4 (h.a h1) (h.u1 h_f)) fun x1=>dE Q Q
theorem aH4{x:Int}:V0 Tryz.prog κ 346 (SH x) [I x] .b:=
 dW tok Tryz.call346 Tryz.func346 Tryz.results346 Q Q<|c0 Q (fun _=>cV) fun x1=>dE Q Q
theorem ZL{x:Int}:V0 Tryz.prog κ 345 (C4 x) [I x] .b:=
 dW tok Tryz.call345 Tryz.func345 Tryz.results345 Q Q<|c0 Q (fun _=>aH4) fun x1=>dE Q Q
theorem aE9{b:List Int}{s1:AC}(h1:bL κ s1 b):V0 Tryz.prog κ 317 (IM b) [.h s1 b.length] .b:=
 dW tok Tryz.call317 Tryz.func317 Tryz.results317 Q Q<|d5 0 0 A3 [] 2 [] Q (eP [5,6] Q Q (c0 Q (fun h=>iN (h.a h1) (aHM Tryz.call345 fun _=>ZL)) fun x2=>cQ [] Q Q)<|cQ [] Q Q) fun x1=>dE Q Q
theorem aBN{c:Int}:V0 Tryz.prog κ 318 (F5 c) [I c] .b:=
 dW tok Tryz.call318 Tryz.func318 Tryz.results318 Q Q<|c0 Q (fun _=>cV) fun x1=>dE Q Q
theorem VN{h:aE}{s1 s2:AC}(h1:bL κ s1 h.Bytes)(h2:bL κ s2 h.Class):V0 Tryz.prog κ 244 (G7 h) [.g [.h s1 h.Bytes.length,.h s2 h.Class.length]] .b:=
 dW tok Tryz.call244 Tryz.func244 Tryz.results244 Q Q<|d5 0 1 qW [] 2 [] Q (eP [6,7] Q Q (c0 Q (fun h=>aE9 (h.a h1)) fun x2=>eP [10,11,12] Q Q (eP [16,17,18] Q Q (c0 Q (fun h=>iN (h.a h2) (aHM Tryz.call318 fun _=>aBN)) fun x3=>cQ [] Q Q)<|cQ [] Q Q)<|cQ [] Q Q)<|cQ [] Q Q) fun x1=>dE Q Q
theorem EA{b:List Int}{at_ width:Int}{s1:AC}(h1:bL κ s1 b):V0 Tryz.prog κ 307 (mI b at_ width) [.h s1 b.length,I at_,I width] I:=
 dW tok Tryz.call307 Tryz.func307 Tryz.results307 Q Q<|fun hF=>aPK Q Q Q Q Q h1 Q Q Q hF fun hF s2 h2=>wi hF<|QX () [15,16] (fun(p:Int×Int) (_:Unit)=>[(7,I p.1),(17,I p.2)]) [] [] (fun p _=>[]) id [] (fun(x5:Int) (_:Unit)=>[(7,I x5)]) [] (fun x5 _=>[]) Q Q (fun hF1 ⟨x3,x4⟩ _ hr1=>b8 [18] Q Q (VA Q h2 Q fun x6=>J4 [] Q)<|FW [] Q) fun x5 _=>dE Q Q
theorem aBO{x:Int}:V0 Tryz.prog κ 347 (F6 x) [I x] .b:=
 dW tok Tryz.call347 Tryz.func347 Tryz.results347 Q Q<|dE Q Q
theorem VO{b:List Int}{s1:AC}(h1:bL κ s1 b):V0 Tryz.prog κ 319 (G8 b) [.h s1 b.length] .b:=
 dW tok Tryz.call319 Tryz.func319 Tryz.results319 Q Q<|c0 Q (fun h=>iN (h.a h1) (aHM Tryz.call347 fun _=>aBO)) fun x1=>dE Q Q
theorem nJ{c:Int}:V0 Tryz.prog κ 328 (kP c) [I c] .b:=
 dW tok Tryz.call328 Tryz.func328 Tryz.results328 Q Q<|c0 Q (fun _=>cV) fun x1=>dE Q Q
theorem ND{c:Int}:V0 Tryz.prog κ 325 (CE c) [I c] I:=
 dW tok Tryz.call325 Tryz.func325 Tryz.results325 Q Q<|c0 Q (fun _=>nJ) fun x1=>b8 [5] Q Q (dE Q Q)<|fun hF=>qba [I 8,I 16,I 40] Tryz.zeroValue283 Tryz.underlying283 Tryz.sizeOf3 Q Q Q Q Q Q<|qai (fun q:Int=>.int .i64 q) (fun q=>.i .i64 q) (l:=([8,16,40]:List Int)) Tryz.underlying283 Tryz.sizeOf3 Tryz.isAgg3 (fun _=>Q) Q Q Q Q Q Q hF fun x2 _ hF=>wi hF<|dE Q Q
theorem H3{c:Int}:V0 Tryz.prog κ 321 (uD c) [I c] I:=
 dW tok Tryz.call321 Tryz.func321 Tryz.results321 Q Q<|c0 Q (fun _=>nJ) fun x1=>b8 [5] Q Q (dE Q Q)<|c0 Q (fun _=>ND) fun x2=>dE Q Q
theorem rN{c:Int}:V0 Tryz.prog κ 320 (o9 c) [I c] I:=
 dW tok Tryz.call320 Tryz.func320 Tryz.results320 Q Q<|c0 Q (fun _=>nJ) fun x1=>b8 [5] Q Q (dE Q Q)<|c0 Q (fun _=>H3) fun x2=>fun hF=>a5U Q Q Q Q hF fun hF=>wi hF<|dE Q Q
theorem aH5{h:aE}{page:Int}{s1 s2:AC}(h1:bL κ s1 h.Bytes)(h2:bL κ s2 h.Class):V0 Tryz.prog κ 245 (LX h page) [.g [.h s1 h.Bytes.length,.h s2 h.Class.length],I page] .b:=
 dW tok Tryz.call245 Tryz.func245 Tryz.results245 Q Q<|nZ aO [0] Q<|VA Q h2 Q fun x1=>fun hF=>aPK Q Q Q Q Q h1 Q Q Q hF fun hF s3 h3=>wi hF<|b8 [22] Q Q (c0 Q (fun h=>VO (h.a h3)) fun x2=>dE Q Q)<|d5 0 2 (jT h page x1) [5,6] 49 [] Q (nZ aO [0,1] Q<|VA Q h3 Q fun x10=>eP [28,29] Q Q (cQ [] Q Q)<|VA Q h3 Q fun x11=>eP [34,35,36] Q Q (cQ [] Q Q)<|VA Q h3 Q fun x12=>c0 Q (fun _=>rN) fun x13=>eP [42,43,44] Q Q (cQ [] Q Q)<|fun hF=>aPK Q Q Q Q Q h3 Q Q Q hF fun hF s4 h4=>wi hF<|c0 Q (fun h=>VO (h.a h4)) fun x14=>cQ [] Q Q) fun x3=>b8 [49] Q Q (dE Q Q)<|c0 Q (fun _=>rN) fun x4=>PG 52 [5,6,51] [] Out.brk [] [] Q Q (fun hF2 x6 hr2=>b8 [53] Q Q (c0 Q (fun _=>H3) fun x7=>c0 Q (fun h=>EA (h.a h3)) fun x8=>c0 Q (fun _=>cV) fun x9=>b8 [63] Q Q (MT hr2 hF2<|dE Q Q)<|J4 [] Q)<|FW [] Q)<|dE Q Q
theorem VQ{h:aE}{s1 s2:AC}(h1:bL κ s1 h.Bytes)(h2:bL κ s2 h.Class):V0 Tryz.prog κ 162 (G9 h) [.g [.h s1 h.Bytes.length,.h s2 h.Class.length]] .b:=
 dW tok Tryz.call162 Tryz.func162 Tryz.results162 Q Q<|c0 Q (fun h=>VN (h.a h1) (h.a h2)) fun x1=>b8 [6] Q Q (dE Q Q)<|PG 7 [1] [0] Out.brk [] [] Q Q (fun hF1 x3 hr1=>b8 [8] Q Q (c0 Q (fun h=>aH5 (h.a h1) (h.a h2)) fun x4=>b8 [13] Q Q (MT hr1 hF1<|dE Q Q)<|J4 [0] Q)<|FW [] Q)<|dE Q Q
theorem GQ{slot:Int}:V0 Tryz.prog κ 247 (mU slot) [I slot] .b:=
 dW tok Tryz.call247 Tryz.func247 Tryz.results247 Q Q<|c0 Q (fun _=>cV) fun x1=>dE Q Q
theorem EB{l:aD}{s1:AC}{s2:AC}(h_s1:bL κ s1 l.Global)(h_s2:bL κ s2 l.cT):V0 Tryz.prog κ 163 (kQ l) [.g [.h s1 l.Global.length,.h s2 l.cT.length]] .b:=
 fun r hF=>a56 Tryz.call163 fun hm vs hv=>by cases hv;exact Calls.mono (aE7 (hm (CP [AC.v s1 l.Global.length] l.Global) h_s1) (hm (CP [AC.v s2 l.cT.length] l.cT) h_s2) hF) fun _ _ ⟨v,h1,h2,h3⟩=>⟨v,h1,by rw [h2];rfl,h3⟩
theorem sV{slot c:Int}:V0 Tryz.prog κ 308 (vW slot c) [I slot,I c] I:=
 dW tok Tryz.call308 Tryz.func308 Tryz.results308 Q Q<|d5 0 0 (zQ slot c) [0,1] 19 [] Q (c0 Q (fun _=>GQ) fun x3=>eP [7,8] Q Q (cQ [] Q Q)<|c0 Q (fun _=>nJ) fun x4=>eP [11,12,13] Q Q (cQ [] Q Q)<|c0 Q (fun _=>rN) fun x5=>cQ [] Q Q) fun x1=>b8 [19] Q Q (dE Q Q)<|c0 Q (fun _=>H3) fun x2=>dE Q Q
theorem wU{h:aE}{slot:Int}{s1 s2:AC}(h1:bL κ s1 h.Bytes)(h2:bL κ s2 h.Class):V0 Tryz.prog κ 248 (pA h slot) [.g [.h s1 h.Bytes.length,.h s2 h.Class.length],I slot] I:=
 dW tok Tryz.call248 Tryz.func248 Tryz.results248 Q Q<|d5 0 1 (A5 h slot) [1,2] 18 [0] Q (c0 Q (fun _=>GQ) fun x3=>eP [7,8] Q Q (cQ [0] Q Q)<|VA Q h2 Q fun x4=>c0 Q (fun _=>sV) fun x5=>cQ [0] Q Q) fun x1=>b8 [18] Q Q (dE Q Q)<|VA Q h2 Q fun x2=>dE Q Q
theorem wV{h:aE}{slot:Int}{s1 s2:AC}(h1:bL κ s1 h.Bytes)(h2:bL κ s2 h.Class):V0 Tryz.prog κ 306 (r9 h slot) [.g [.h s1 h.Bytes.length,.h s2 h.Class.length],I slot] I:=
 dW tok Tryz.call306 Tryz.func306 Tryz.results306 Q Q<|c0 Q (fun h=>VN (h.a h1) (h.a h2)) fun x1=>b8 [7] Q Q (dE Q Q)<|c0 Q (fun h=>wU (h.a h1) (h.a h2)) fun x2=>dE Q Q
theorem JH{h:aE}{slot:Int}{s1 s2:AC}(h1:bL κ s1 h.Bytes)(h2:bL κ s2 h.Class):V0 Tryz.prog κ 238 (BV h slot) [.g [.h s1 h.Bytes.length,.h s2 h.Class.length],I slot] I:=
 dW tok Tryz.call238 Tryz.func238 Tryz.results238 Q Q<|c0 Q (fun h=>wV (h.a h1) (h.a h2)) fun x1=>b8 [10] Q Q (dE Q Q)<|nZ aO [0] Q<|c0 Q (fun _=>sV) fun x2=>c0 Q (fun h=>EA (h.a h1)) fun x3=>dE Q Q
theorem RG{h:aE}{s:aR}{c:Int}{s1 s2:AC}{s3:AC}(h1:bL κ s1 h.Bytes)(h2:bL κ s2 h.Class)(h3:bL κ s3 s.aS):V0 Tryz.prog κ 164 (zR h s c) [.g [.h s1 h.Bytes.length,.h s2 h.Class.length],.g [.h s3 s.aS.length],I c] .b:=
 dW tok Tryz.call164 Tryz.func164 Tryz.results164 Q Q<|PG 12 [2,3,10,11] [0] Out.brk [] [] Q Q (fun hF1 x2 hr1=>b8 [13] Q Q (VA Q h3 Q fun x3=>d5 0 3 (xL x2) [2,3,10,11,12] 26 [0] Q (c0 Q (fun h=>wU (h.a h1) (h.a h2)) fun x5=>eP [20,21] Q Q (cQ [0] Q Q)<|c0 Q (fun h=>JH (h.a h1) (h.a h2)) fun x6=>cQ [0] Q Q) fun x4=>b8 [26] Q Q (MT hr1 hF1<|dE Q Q)<|J4 [0] Q)<|FW [] Q)<|dE Q Q
theorem XW{m:Mem}{s1 s2 s3 s4:AC}(h1:bL κ s1 m.aE.Bytes)(h2:bL κ s2 m.aE.Class)(h3:bL κ s3 m.aD.Global)(h4:bL κ s4 m.aD.cT):V0 Tryz.prog κ 76 (J5 m) [.g (gM m s1 s2 s3 s4)] .b:=
 dW tok Tryz.call76 Tryz.func76 Tryz.results76 Q Q<|d5 0 1 (F7 m) [1] 16 [0] Q (c0 Q (fun h=>VQ (h.a h1) (h.a h2)) fun x10=>eP [10,11] Q Q (cQ [0] Q Q)<|c0 Q (fun h=>EB (h.a h3) (h.a h4)) fun x11=>cQ [0] Q Q) fun x1=>b8 [16] Q Q (dE Q Q)<|PG 21 [1,19,20] [0] Out.brk [1] [0] Q Q (fun hF2 x3 hr2=>b8 [22] Q Q (OG FJ Q h3 Q fun x8 s6 h6=>c0 Q (fun h=>RG (h.a h1) (h.a h2) (h.a h6)) fun x9=>b8 [31] Q Q (MT hr2 hF2<|dE Q Q)<|J4 [0] Q)<|FW [0] Q)<|PG 37 [1,35,36] [0] Out.brk [] [] Q Q (fun hF3 x5 hr3=>b8 [38] Q Q (OG FJ Q h4 Q fun x6 s5 h5=>c0 Q (fun h=>RG (h.a h1) (h.a h2) (h.a h5)) fun x7=>b8 [48] Q Q (MT hr3 hF3<|dE Q Q)<|J4 [0] Q)<|FW [] Q)<|dE Q Q
theorem P5{s:List qA}{f:(qA→Option Bool)}{s1:AC}{g_f:FuncId}{cap_f:List Value}(h1:bL κ s1 s)(h_f:Fu1 Tryz.prog κ (aND:LS qA) .b g_f cap_f f):V0 Tryz.prog κ 304 (vX s f) [.h s1 s.length,.k (.func (.func g_f) #[] cap_f.toArray)] I:=
 dW tok Tryz.call304 Tryz.func304 Tryz.results304 Q Q<|PG 8 [0,1,7] [] Out.brk [] [] Q Q (fun hF1 x2 hr1=>b8 [9] Q Q (OG aND Q h1 Q fun x3 _ _=>fun hG1=>fa1 h_f x3 () Q Q Q Q Q trivial hG1 fun x4 _ hG1=>wi hG1<|b8 [16] Q Q (MT hr1 hF1<|dE Q Q)<|J4 [] Q)<|FW [] Q)<|dE Q Q
theorem LK{s:List qA}{f:(qA→Option Bool)}{s1:AC}{g_f:FuncId}{cap_f:List Value}(h1:bL κ s1 s)(h_f:Fu1 Tryz.prog κ (aND:LS qA) .b g_f cap_f f):V0 Tryz.prog κ 231 (lK s f) [.h s1 s.length,.k (.func (.func g_f) #[] cap_f.toArray)] .b:=
 dW tok Tryz.call231 Tryz.func231 Tryz.results231 Q Q<|c0 Q (fun h=>P5 (h.a h1) (h.u1 h_f)) fun x1=>dE Q Q
theorem ZM{p:qA}{k0:aC}{s1:AC}{b0:Nat×Nat}(h1:bL κ s1 k0.cK):VS Tryz.prog κ 232 (vY p k0) [.g [.b p.On,I p.aJ,.b p.dJ,I p.Seen],.p 0 0] [b0] [.ro 0 [I k0.aJ,.h s1 k0.cK.length]] (fun r (_:Unit)=>.b r) (fun _ _=>[]):=
 dW tok Tryz.call232 Tryz.func232 Tryz.results232 Q Q<|d5 0 2 lL [] 3 [] Q (c0 Q (fun _=>cV) fun x2=>eP [9,10] Q Q (cQ [] Q Q)<|c0 Q (fun _=>cV) fun x3=>eP [14,15,16] Q Q (cQ [] Q Q)<|eP [19,20] Q Q (fun hF=>neS Tryz.eqGuardType59 Tryz.stoodInHeld59 Tryz.underlying59 (aE5 9997 p (⟨false,0,false,0⟩:qA)) Q Q Q Q Q Q<|wi hF<|cQ [] Q Q)<|cQ [] Q Q) fun x1=>dE Q Q
theorem wW{c:aC}{s1:AC}(h1:bL κ s1 c.cK):V0 Tryz.prog κ 145 (pB c) [.g [I c.aJ,.h s1 c.cK.length]] .b:=
 dW tok Tryz.call145 Tryz.func145 Tryz.results145 Q Q<|d5 0 1 tI [] 2 [] Q (c0 Q (fun _=>cV) fun x2=>eP [5,6] Q Q (eP [10,11,12] Q Q (fun hF=>mf [0] Q Q Q<|wi hF<|aPQ [0] Q Q Q Q (fun h=>fun hB=>LK (h.a h1) (aPP (cs:=[(0,[I c.aJ,.h s1 c.cK.length])]) Tryz.call232 hB Q fun hk _=>ZM (rk hk (h.a h1)))) fun x3=>cQ [] Q Q)<|cQ [] Q Q)<|cQ [] Q Q) fun x1=>dE Q Q
theorem oQ{h:Int}:V0 Tryz.prog κ 206 (iB h) [I h] .b:=
 dW tok Tryz.call206 Tryz.func206 Tryz.results206 Q Q<|d5 0 0 m4 [] 2 [] Q (c0 Q (fun _=>cV) fun x2=>eP [4,5] Q Q (cQ [] Q Q)<|cQ [] Q Q) fun x1=>dE Q Q
theorem EC{l:List bB}{s1:AC}(h_s1:bL κ s1 l):V0 Tryz.prog κ 146 (mK l) [.h s1 l.length] .b:=
 fun r hF=>a56 Tryz.call146 fun hm vs hv=>by cases hv;exact Calls.mono (aE8 (hm (CP [AC.v s1 l.length] l) h_s1) hF) fun _ _ ⟨v,h1,h2,h3⟩=>⟨v,h1,by rw [h2];rfl,h3⟩
theorem GR{h:Int}:V0 Tryz.prog κ 111 (rU h) [I h] .b:=
 dW tok Tryz.call111 Tryz.func111 Tryz.results111 Q Q<|d5 0 0 v5 [] 2 [] Q (eP [4,5] Q Q (cQ [] Q Q)<|c0 Q (fun _=>oQ) fun x2=>cQ [] Q Q) fun x1=>dE Q Q
theorem aFA{h:Int}:V0 Tryz.prog κ 234 (IN h) [I h] .b:=
 dW tok Tryz.call234 Tryz.func234 Tryz.results234 Q Q<|c0 Q (fun _=>GR) fun x1=>dE Q Q
theorem P6{z:List Int}{s1:AC}(h1:bL κ s1 z):V0 Tryz.prog κ 147 (FE z) [.h s1 z.length] .b:=
 dW tok Tryz.call147 Tryz.func147 Tryz.results147 Q Q<|d5 0 0 F8 [] 2 [] Q (eP [5,6] Q Q (c0 Q (fun h=>iN (h.a h1) (aHM Tryz.call234 fun _=>aFA)) fun x2=>cQ [] Q Q)<|cQ [] Q Q) fun x1=>dE Q Q
theorem NF{s:List bB}{f:(bB→Option Bool)}{s1:AC}{g_f:FuncId}{cap_f:List Value}(h1:bL κ s1 s)(h_f:Fu1 Tryz.prog κ (WM:LS bB) .b g_f cap_f f):V0 Tryz.prog κ 235 (sA s f) [.h s1 s.length,.k (.func (.func g_f) #[] cap_f.toArray)] I:=
 dW tok Tryz.call235 Tryz.func235 Tryz.results235 Q Q<|PG 8 [0,1,7] [] Out.brk [] [] Q Q (fun hF1 x2 hr1=>b8 [9] Q Q (OG WM Q h1 Q fun x3 s2 h2=>fun hG1=>fa1 h_f x3 s2 Q Q Q Q Q h2 hG1 fun x4 _ hG1=>wi hG1<|b8 [16] Q Q (MT hr1 hF1<|dE Q Q)<|J4 [] Q)<|FW [] Q)<|dE Q Q
theorem vH{s:List bB}{f:(bB→Option Bool)}{s1:AC}{g_f:FuncId}{cap_f:List Value}(h1:bL κ s1 s)(h_f:Fu1 Tryz.prog κ (WM:LS bB) .b g_f cap_f f):V0 Tryz.prog κ 148 (iL s f) [.h s1 s.length,.k (.func (.func g_f) #[] cap_f.toArray)] .b:=
 dW tok Tryz.call148 Tryz.func148 Tryz.results148 Q Q<|c0 Q (fun h=>NF (h.a h1) (h.u1 h_f)) fun x1=>dE Q Q
theorem OV{s:List dO}{f:(dO→Option Bool)}{s1:AC}{g_f:FuncId}{cap_f:List Value}(h1:bL κ s1 s)(h_f:Fu1 Tryz.prog κ (aR6:LS dO) .b g_f cap_f f):V0 Tryz.prog κ 236 (uR s f) [.h s1 s.length,.k (.func (.func g_f) #[] cap_f.toArray)] I:=
 dW tok Tryz.call236 Tryz.func236 Tryz.results236 Q Q<|PG 8 [0,1,7] [] Out.brk [] [] Q Q (fun hF1 x2 hr1=>b8 [9] Q Q (OG aR6 Q h1 Q fun x3 _ _=>fun hG1=>fa1 h_f x3 () Q Q Q Q Q trivial hG1 fun x4 _ hG1=>wi hG1<|b8 [16] Q Q (MT hr1 hF1<|dE Q Q)<|J4 [] Q)<|FW [] Q)<|dE Q Q
theorem wX{s:List dO}{f:(dO→Option Bool)}{s1:AC}{g_f:FuncId}{cap_f:List Value}(h1:bL κ s1 s)(h_f:Fu1 Tryz.prog κ (aR6:LS dO) .b g_f cap_f f):V0 Tryz.prog κ 150 (iY s f) [.h s1 s.length,.k (.func (.func g_f) #[] cap_f.toArray)] .b:=
 dW tok Tryz.call150 Tryz.func150 Tryz.results150 Q Q<|c0 Q (fun h=>OV (h.a h1) (h.u1 h_f)) fun x1=>dE Q Q
theorem KN{s:List Int}{v:Int}{s1:AC}(h1:bL κ s1 s):V0 Tryz.prog κ 348 (m5 s v) [.h s1 s.length,I v] I:=
 dW tok Tryz.call348 Tryz.func348 Tryz.results348 Q Q<|PG 8 [0,1,7] [] Out.brk [] [] Q Q (fun hF1 x2 hr1=>b8 [9] Q Q (VA Q h1 Q fun x3=>b8 [16] Q Q (MT hr1 hF1<|dE Q Q)<|J4 [] Q)<|FW [] Q)<|dE Q Q
theorem R1{s:List Int}{v:Int}{s1:AC}(h1:bL κ s1 s):V0 Tryz.prog κ 342 (qE s v) [.h s1 s.length,I v] .b:=
 dW tok Tryz.call342 Tryz.func342 Tryz.results342 Q Q<|c0 Q (fun h=>KN (h.a h1)) fun x1=>dE Q Q
theorem RH{s:aR}{k0:Int}{s1:AC}{b0:Nat×Nat}(h1:bL κ s1 s.aS):VS Tryz.prog κ 341 (pU s k0) [.g [.h s1 s.aS.length],.p 0 0] [b0] [.ro 0 [I k0]] (fun r (_:Unit)=>.b r) (fun _ _=>[]):=
 dW tok Tryz.call341 Tryz.func341 Tryz.results341 Q Q<|c0 Q (fun h=>R1 (h.a h1)) fun x1=>dE Q Q
theorem NG{s:List aR}{f:(aR→Option Bool)}{s1:AC}{g_f:FuncId}{cap_f:List Value}(h1:bL κ s1 s)(h_f:Fu1 Tryz.prog κ (FJ:LS aR) .b g_f cap_f f):V0 Tryz.prog κ 351 (sB s f) [.h s1 s.length,.k (.func (.func g_f) #[] cap_f.toArray)] I:=
 dW tok Tryz.call351 Tryz.func351 Tryz.results351 Q Q<|PG 8 [0,1,7] [] Out.brk [] [] Q Q (fun hF1 x2 hr1=>b8 [9] Q Q (OG FJ Q h1 Q fun x3 s2 h2=>fun hG1=>fa1 h_f x3 s2 Q Q Q Q Q h2 hG1 fun x4 _ hG1=>wi hG1<|b8 [16] Q Q (MT hr1 hF1<|dE Q Q)<|J4 [] Q)<|FW [] Q)<|dE Q Q
theorem vI{s:List aR}{f:(aR→Option Bool)}{s1:AC}{g_f:FuncId}{cap_f:List Value}(h1:bL κ s1 s)(h_f:Fu1 Tryz.prog κ (FJ:LS aR) .b g_f cap_f f):V0 Tryz.prog κ 343 (iM s f) [.h s1 s.length,.k (.func (.func g_f) #[] cap_f.toArray)] .b:=
 dW tok Tryz.call343 Tryz.func343 Tryz.results343 Q Q<|c0 Q (fun h=>NG (h.a h1) (h.u1 h_f)) fun x1=>dE Q Q
theorem VR{l:aD}{slot:Int}{s1 s2:AC}(h1:bL κ s1 l.Global)(h2:bL κ s2 l.cT):V0 Tryz.prog κ 305 (HA l slot) [.g [.h s1 l.Global.length,.h s2 l.cT.length],I slot] .b:=
 dW tok Tryz.call305 Tryz.func305 Tryz.results305 Q Q<|fun hF=>mf [1] Q Q Q<|wi hF<|d5 0 2 C7 [] 4 [] Q (aPQ [1] Q Q Q Q (fun h=>fun hB=>vI (h.a h1) (aPP (cs:=[(1,[I slot])]) Tryz.call341 hB Q fun _ hy=>RH hy)) fun x2=>eP [10,11] Q Q (cQ [] Q Q)<|aPQ [1] Q Q Q Q (fun h=>fun hB=>vI (h.a h2) (aPP (cs:=[(1,[I slot])]) Tryz.call341 hB Q fun _ hy=>RH hy)) fun x3=>cQ [] Q Q) fun x1=>dE Q Q
theorem aFB{m:Mem}{slot:Int}{s1 s2 s3 s4:AC}(h1:bL κ s1 m.aE.Bytes)(h2:bL κ s2 m.aE.Class)(h3:bL κ s3 m.aD.Global)(h4:bL κ s4 m.aD.cT):V0 Tryz.prog κ 237 (IP m slot) [.g (gM m s1 s2 s3 s4),I slot] I:=
 dW tok Tryz.call237 Tryz.func237 Tryz.results237 Q Q<|c0 Q (fun h=>wU (h.a h1) (h.a h2)) fun x1=>b8 [5,10] Q Q (dE Q Q)<|c0 Q (fun h=>VR (h.a h3) (h.a h4)) fun x2=>b8 [11,15] Q Q (dE Q Q)<|c0 Q (fun h=>JH (h.a h1) (h.a h2)) fun x3=>b8 [16,21] Q Q (dE Q Q)<|dE Q Q
theorem NH{m:Mem}{h:Int}{s1 s2 s3 s4:AC}(h1:bL κ s1 m.aE.Bytes)(h2:bL κ s2 m.aE.Class)(h3:bL κ s3 m.aD.Global)(h4:bL κ s4 m.aD.cT):V0 Tryz.prog κ 152 (CG m h) [.g (gM m s1 s2 s3 s4),I h] .b:=
 dW tok Tryz.call152 Tryz.func152 Tryz.results152 Q Q<|d5 0 1 v7 [] 4 [] Q (c0 Q (fun _=>oQ) fun x2=>eP [6,7] Q Q (c0 Q (fun h=>aFB (h.a h1) (h.a h2) (h.a h3) (h.a h4)) fun x3=>eP [12,13,14] Q Q (c0 Q (fun h=>JH (h.a h1) (h.a h2)) fun x4=>cQ [] Q Q)<|cQ [] Q Q)<|cQ [] Q Q) fun x1=>dE Q Q
theorem XX{r_:dO}{k0:aA}{s1 s2 s3 s4 s5 s6 s7:AC}{b0:Nat×Nat}(h1:bL κ s1 k0.Mem.aE.Bytes)(h2:bL κ s2 k0.Mem.aE.Class)(h3:bL κ s3 k0.Mem.aD.Global)(h4:bL κ s4 k0.Mem.aD.cT)(h5:bL κ s5 k0.aC.cK)(h6:bL κ s6 k0.aM)(h7:bL κ s7 k0.mP):VS Tryz.prog κ 151 (A8 r_ k0) [.g [I r_.Handle,I r_.aJ],.p 0 0] [b0] [.ro 0 (gB k0 s1 s2 s3 s4 s5 s6 s7)] (fun r (_:Unit)=>.b r) (fun _ _=>[]):=
 dW tok Tryz.call151 Tryz.func151 Tryz.results151 Q Q<|d5 0 2 sC [] 3 [] Q (c0 Q (fun h=>NH (h.a h1) (h.a h2) (h.a h3) (h.a h4)) fun x2=>eP [9,10] Q Q (cQ [] Q Q)<|cQ [] Q Q) fun x1=>dE Q Q
theorem aBP{l:bB}{k0:aA}{s1:AC}{s2 s3 s4 s5 s6 s7 s8:AC}{b0:Nat×Nat}(h1:bL κ s1 l.Rows)(h2:bL κ s2 k0.Mem.aE.Bytes)(h3:bL κ s3 k0.Mem.aE.Class)(h4:bL κ s4 k0.Mem.aD.Global)(h5:bL κ s5 k0.Mem.aD.cT)(h6:bL κ s6 k0.aC.cK)(h7:bL κ s7 k0.aM)(h8:bL κ s8 k0.mP):VS Tryz.prog κ 149 (F9 l k0) [.g [.h s1 l.Rows.length],.p 0 0] [b0] [.ro 0 (gB k0 s2 s3 s4 s5 s6 s7 s8)] (fun r (_:Unit)=>.b r) (fun _ _=>[]):=
 dW tok Tryz.call149 Tryz.func149 Tryz.results149 Q Q<|fun hF=>mf [0] Q Q Q<|wi hF<|aPQ [0] Q Q Q Q (fun h=>fun hB=>wX (h.a h1) (aPP (cs:=[(0,(gB k0 s2 s3 s4 s5 s6 s7 s8))]) Tryz.call151 hB Q fun hk _=>XX (rk hk (h.a h2)) (rk hk (h.a h3)) (rk hk (h.a h4)) (rk hk (h.a h5)) (rk hk (h.a h6)) (rk hk (h.a h7)) (rk hk (h.a h8)))) fun x1=>dE Q Q
theorem aH6{b:aA}{s1 s2 s3 s4 s5 s6 s7:AC}(h1:bL κ s1 b.Mem.aE.Bytes)(h2:bL κ s2 b.Mem.aE.Class)(h3:bL κ s3 b.Mem.aD.Global)(h4:bL κ s4 b.Mem.aD.cT)(h5:bL κ s5 b.aC.cK)(h6:bL κ s6 b.aM)(h7:bL κ s7 b.mP):V0 Tryz.prog κ 63 (LY b) [.g (gB b s1 s2 s3 s4 s5 s6 s7)] .b:=
 dW tok Tryz.call63 Tryz.func63 Tryz.results63 Q Q<|d5 0 1 (qZ b) [1] 24 [0] Q (c0 Q (fun h=>XW (h.a h1) (h.a h2) (h.a h3) (h.a h4)) fun x3=>eP [6,7] Q Q (cQ [0] Q Q)<|c0 Q (fun h=>wW (h.a h5)) fun x4=>eP [11,12,13] Q Q (cQ [0] Q Q)<|c0 Q (fun h=>EC (h.a h6)) fun x5=>eP [17,18,19] Q Q (cQ [0] Q Q)<|c0 Q (fun h=>P6 (h.a h7)) fun x6=>cQ [0] Q Q) fun x1=>b8 [24] Q Q (dE Q Q)<|fun hF=>mf [0] Q Q Q<|wi hF<|aPQ [0] Q Q Q Q (fun h=>fun hB=>vH (h.a h6) (aPP (cs:=[(0,(gB b s1 s2 s3 s4 s5 s6 s7))]) Tryz.call149 hB Q fun hk hy=>aBP hy (rk hk (h.a h1)) (rk hk (h.a h2)) (rk hk (h.a h3)) (rk hk (h.a h4)) (rk hk (h.a h5)) (rk hk (h.a h6)) (rk hk (h.a h7)))) fun x2=>dE Q Q
theorem ZN{h:Int}:V0 Tryz.prog κ 110 (v8 h) [I h] .b:=
 dW tok Tryz.call110 Tryz.func110 Tryz.results110 Q Q<|c0 Q (fun _=>GR) fun x1=>dE Q Q
theorem P7{s:List bD}{f:(bD→Option Bool)}{s1:AC}{g_f:FuncId}{cap_f:List Value}(h1:bL κ s1 s)(h_f:Fu1 Tryz.prog κ (aKV:LS bD) .b g_f cap_f f):V0 Tryz.prog κ 207 (v9 s f) [.h s1 s.length,.k (.func (.func g_f) #[] cap_f.toArray)] I:=
 dW tok Tryz.call207 Tryz.func207 Tryz.results207 Q Q<|PG 8 [0,1,7] [] Out.brk [] [] Q Q (fun hF1 x2 hr1=>b8 [9] Q Q (OG aKV Q h1 Q fun x3 _ _=>fun hG1=>fa1 h_f x3 () Q Q Q Q Q trivial hG1 fun x4 _ hG1=>wi hG1<|b8 [16] Q Q (MT hr1 hF1<|dE Q Q)<|J4 [] Q)<|FW [] Q)<|dE Q Q
theorem y6{s:List bD}{f:(bD→Option Bool)}{s1:AC}{g_f:FuncId}{cap_f:List Value}(h1:bL κ s1 s)(h_f:Fu1 Tryz.prog κ (aKV:LS bD) .b g_f cap_f f):V0 Tryz.prog κ 112 (jH s f) [.h s1 s.length,.k (.func (.func g_f) #[] cap_f.toArray)] .b:=
 dW tok Tryz.call112 Tryz.func112 Tryz.results112 Q Q<|c0 Q (fun h=>P7 (h.a h1) (h.u1 h_f)) fun x1=>dE Q Q
theorem aKW{j:bD}:V0 Tryz.prog κ 114 (PO j) [.g [.b j.cY,I j.Op.Kind,I j.Op.Cell,I j.Op.gP,I j.Op.dK,I j.aI,I j.Pc,I j.Sub.Kind,I j.Sub.A,I j.Sub.Pc,I j.Sub.E,I j.Sub.Row,I j.Sub.B,I j.Sub.H,I j.Sub.Out,I j.Sub.Code,.b j.Sub.cW,I j.H,I j.Old,I j.dK,I j.Code]] .b:=
 dW tok Tryz.call114 Tryz.func114 Tryz.results114 Q Q<|b8 [5] Q Q (fun hF=>eqS Tryz.eqGuardType63 Tryz.stoodInHeld63 Tryz.underlying63 (aE6 9996 j (⟨false,(⟨0,0,0,0⟩:bK),0,0,(⟨0,0,0,0,0,0,0,0,0,false⟩:Sub),0,0,0,0⟩:bD)) Q Q Q Q Q Q<|wi hF<|dE Q Q)<|d5 0 1 zU [] 2 [] Q (c0 Q (fun _=>aAH) fun x2=>eP [11,12] Q Q (c0 Q (fun _=>GR) fun x3=>eP [15,16,17] Q Q (c0 Q (fun _=>GR) fun x4=>cQ [] Q Q)<|cQ [] Q Q)<|cQ [] Q Q) fun x1=>dE Q Q
theorem ZO{j:bD}:V0 Tryz.prog κ 113 (C8 j) [.g [.b j.cY,I j.Op.Kind,I j.Op.Cell,I j.Op.gP,I j.Op.dK,I j.aI,I j.Pc,I j.Sub.Kind,I j.Sub.A,I j.Sub.Pc,I j.Sub.E,I j.Sub.Row,I j.Sub.B,I j.Sub.H,I j.Sub.Out,I j.Sub.Code,.b j.Sub.cW,I j.H,I j.Old,I j.dK,I j.Code]] .b:=
 dW tok Tryz.call113 Tryz.func113 Tryz.results113 Q Q<|c0 Q (fun _=>aKW) fun x1=>dE Q Q
theorem ED{s:aB}{s1 s2 s3 s4 s5 s6 s7 s8 s9 s10 s11:AC}(h1:bL κ s1 s.aA.Mem.aE.Bytes)(h2:bL κ s2 s.aA.Mem.aE.Class)(h3:bL κ s3 s.aA.Mem.aD.Global)(h4:bL κ s4 s.aA.Mem.aD.cT)(h5:bL κ s5 s.aA.aC.cK)(h6:bL κ s6 s.aA.aM)(h7:bL κ s7 s.aA.mP)(h8:bL κ s8 s.Cells)(h9:bL κ s9 s.aT)(h10:bL κ s10 s.aZ)(h11:bL κ s11 s.Log):V0 Tryz.prog κ 48 (pC s) [.g (gS s s1 s2 s3 s4 s5 s6 s7 s8 s9 s10 s11)] .b:=
 dW tok Tryz.call48 Tryz.func48 Tryz.results48 Q Q<|d5 0 1 i6 [] 2 [] Q (c0 Q (fun h=>aH6 (h.a h1) (h.a h2) (h.a h3) (h.a h4) (h.a h5) (h.a h6) (h.a h7)) fun x2=>eP [5,6] Q Q (eP [10,11,12] Q Q (eP [16,17,18] Q Q (c0 Q (fun h=>VM (h.a h10)) fun x3=>eP [21,22,23] Q Q (c0 Q (fun _=>cV) fun x4=>eP [26,27,28] Q Q (c0 Q (fun h=>iN (h.a h8) (aHM Tryz.call110 fun _=>ZN)) fun x5=>eP [32,33,34] Q Q (c0 Q (fun h=>y6 (h.a h9) (aHM Tryz.call113 fun _=>ZO)) fun x6=>cQ [] Q Q)<|cQ [] Q Q)<|cQ [] Q Q)<|cQ [] Q Q)<|cQ [] Q Q)<|cQ [] Q Q)<|cQ [] Q Q) fun x1=>dE Q Q
theorem aH7{j:bD}:V0 Tryz.prog κ 115 (SI j) [.g [.b j.cY,I j.Op.Kind,I j.Op.Cell,I j.Op.gP,I j.Op.dK,I j.aI,I j.Pc,I j.Sub.Kind,I j.Sub.A,I j.Sub.Pc,I j.Sub.E,I j.Sub.Row,I j.Sub.B,I j.Sub.H,I j.Sub.Out,I j.Sub.Code,.b j.Sub.cW,I j.H,I j.Old,I j.dK,I j.Code]] .b:=
 dW tok Tryz.call115 Tryz.func115 Tryz.results115 Q Q<|dE Q Q
theorem aH8{q:Queue}{s1:AC}(h1:bL κ s1 q.fM):V0 Tryz.prog κ 117 (SJ q) [.g [.h s1 q.fM.length]] .b:=
 dW tok Tryz.call117 Tryz.func117 Tryz.results117 Q Q<|dE Q Q
theorem aAI{s:aB}{s1 s2 s3 s4 s5 s6 s7 s8 s9 s10 s11:AC}(h1:bL κ s1 s.aA.Mem.aE.Bytes)(h2:bL κ s2 s.aA.Mem.aE.Class)(h3:bL κ s3 s.aA.Mem.aD.Global)(h4:bL κ s4 s.aA.Mem.aD.cT)(h5:bL κ s5 s.aA.aC.cK)(h6:bL κ s6 s.aA.aM)(h7:bL κ s7 s.aA.mP)(h8:bL κ s8 s.Cells)(h9:bL κ s9 s.aT)(h10:bL κ s10 s.aZ)(h11:bL κ s11 s.Log):V0 Tryz.prog κ 49 (OI s) [.g (gS s s1 s2 s3 s4 s5 s6 s7 s8 s9 s10 s11)] .b:=
 dW tok Tryz.call49 Tryz.func49 Tryz.results49 Q Q<|d5 0 1 IQ [] 2 [] Q (c0 Q (fun h=>y6 (h.a h9) (aHM Tryz.call115 fun _=>aH7)) fun x2=>eP [6,7] Q Q (c0 Q (fun h=>vG (h.a h10) (aHM Tryz.call117 fun hy=>aH8 hy)) fun x3=>cQ [] Q Q)<|cQ [] Q Q) fun x1=>dE Q Q
theorem AN{kind a_:Int}:V0 Tryz.prog κ 35 (j9 kind a_) [I kind,I a_] (fun r=>.g [I r.Kind,I r.A,I r.Pc,I r.E,I r.Row,I r.B,I r.H,I r.Out,I r.Code,.b r.cW]):=
 dW tok Tryz.call35 Tryz.func35 Tryz.results35 Q Q<|dE Q Q
theorem jW{s:aB}{kind w_ handle val code:Int}{s1 s2 s3 s4 s5 s6 s7 s8 s9 s10 s11:AC}{b0:Nat×Nat}:VS Tryz.prog κ 119 (dP s kind w_ handle val code) [.p 0 0,I kind,I w_,I handle,I val,I code] [b0] ([.box 0 (gS s s1 s2 s3 s4 s5 s6 s7 s8 s9 s10 s11)]++(oS s s1 s2 s3 s4 s5 s6 s7 s8 s9 s10 s11 [])) (fun(r:aB) (y:AC)=>.t []) (fun(r:aB) (y:AC)=>([.box 0 (gS r s1 s2 s3 s4 s5 s6 s7 s8 s9 s10 y)]++(oS r s1 s2 s3 s4 s5 s6 s7 s8 s9 s10 y []))):=
 dW tok Tryz.call119 Tryz.func119 Tryz.results119 Q Q<|nQ cL 9 Q Q Q fun x1 h1 _ h2=>fun hF=>iS 1 h2 h1 Q Q Q Q Q<|wi hF<|iT 0 3 (fun(_:Unit)=>dY s kind w_ handle val code x1) [0] (fun(_:Unit) (s12:AC)=>[]) [1,2,3,4,5,6,7,8,10] (fun _ s12=>[ow s9 (s.aT:List bD),ow s12 (s.Log++([(⟨kind,w_,x1.aI,x1.Op.Cell,handle,val,code⟩:Ev)]):List Ev),.box 0 [.h s1 s.aA.Mem.aE.Bytes.length,.h s2 s.aA.Mem.aE.Class.length,.h s3 s.aA.Mem.aD.Global.length,.h s4 s.aA.Mem.aD.cT.length,I s.aA.aC.aJ,.h s5 s.aA.aC.cK.length,.h s6 s.aA.aM.length,.h s7 s.aA.mP.length,.h s8 s.Cells.length,.h s9 s.aT.length,.h s10 s.aZ.length,.h s12 (s.Log++([(⟨kind,w_,x1.aI,x1.Op.Cell,handle,val,code⟩:Ev)])).length,I s.aI]]) Q (nZ aO [14,15] Q<|fun hF=>nd hF fun hA1 hF=>hC Q Q (RY GP [] ((⟨kind,w_,x1.aI,x1.Op.Cell,handle,val,code⟩:Ev)) () sU Q Q Q Q Q Q Q Q Q Q Q Q Q fun s15=>have hq1:=rn hA1;ap 11 sU Q Q Q Q Q Q Q (fun h=>(h.o 16 Q)) Q Q hq1 fun hq1 s16=>sF Q<|jR cL 12 [] h1 () Q Q Q Q Q Q Q<|kK (p:=()) s16 [17,11,0,1,2,3,4,5,6,7,8,10] hF Q) (RY GP [] ((⟨kind,w_,x1.aI,x1.Op.Cell,handle,val,code⟩:Ev)) () sU Q Q Q Q Q Q Q Q Q Q Q Q Q fun s17=>have hq2:=rn hA1;ap 11 sU Q Q Q Q Q Q Q (fun h=>(h.o 16 Q)) Q Q hq2 fun hq2 s18=>sF Q<|jR cL 12 [] h1 () Q Q Q Q Q Q Q<|kK (p:=()) s18 [17,11,0,1,2,3,4,5,6,7,8,10] hF Q)) fun _ s12=>N3 s12 [2,3,4,5,6,7,8,9,10,0,11,1] Q Q
theorem WQ{s:List bK}{i j:Int}{s1:AC}:VS Tryz.prog κ 209 (xM s i j) [.h s1 s.length,I i,I j] [] [ow s1 (s:List bK)] (fun(r:(List bK)) (y:AC)=>.h y r.length) (fun(r:(List bK)) (y:AC)=>[ow y r]):=
 dW tok Tryz.call209 Tryz.func209 Tryz.results209 Q Q<|fun hF=>cpc 0 Q Q fun hc1=>aWO hc1 Q Q Q Q Q Q Q Q hF fun hF h1=>wi hF<|b8 [16] Q Q (nP s1 [0] Q Q)<|nZ aO [] Q<|fun hF=>aS2 hc1 Q Q Q Q Q Q hF fun hF h2=>aM5 hc1 Q Q Q Q Q Q hF fun hF h3=>nd hF fun hab hF=>ap2 0 i.toNat j.toNat ⟨hab,h3.1⟩ Q Q Q Q Q Q Q Q Q fun h4=>a2I 0 (i.toNat+(s.length - j.toNat)) h4.2 (CR h4.1 h4.2) Q Q Q Q Q Q Q Q Q hF fun hF h5=>clr 0 (((((dQ s i.toNat (s.drop j.toNat)).take (i.toNat+(s.length - j.toNat))).drop 0).length:Int).toNat) ((s.length:Int).toNat) ((⟨0,0,0,0⟩:bK):bK) h5 bG Q (fun _=>(aKU (⟨0,0,0,0⟩:bK))) Q Q Q Q Q Q Q Q<|sR Q<|poR 0 0 (i.toNat+(s.length - j.toNat)) Q Q (aWN h4 (Nat.le_trans h5.1 h5.2)) (aRY (Nat.le_of_eq (by rw [Int.toNat_natCast,CR h4.1 h4.2];rfl)) (Nat.le_trans h5.1 h5.2))<|tF (hT:=tok) (AC.sub s1 4 0) [0] hF Q Tryz.results209 Q Q Q Q
theorem cN{j:bD}{code:Int}{b0:Nat×Nat}:VS Tryz.prog κ 210 (bT j code) [.p 0 0,I code] [b0] [.box 0 [.b j.cY,I j.Op.Kind,I j.Op.Cell,I j.Op.gP,I j.Op.dK,I j.aI,I j.Pc,I j.Sub.Kind,I j.Sub.A,I j.Sub.Pc,I j.Sub.E,I j.Sub.Row,I j.Sub.B,I j.Sub.H,I j.Sub.Out,I j.Sub.Code,.b j.Sub.cW,I j.H,I j.Old,I j.dK,I j.Code]] (fun(r:bD) (y:Unit)=>.t []) (fun(r:bD) (y:Unit)=>[.box 0 [.b r.cY,I r.Op.Kind,I r.Op.Cell,I r.Op.gP,I r.Op.dK,I r.aI,I r.Pc,I r.Sub.Kind,I r.Sub.A,I r.Sub.Pc,I r.Sub.E,I r.Sub.Row,I r.Sub.B,I r.Sub.H,I r.Sub.Out,I r.Sub.Code,.b r.Sub.cW,I r.H,I r.Old,I r.dK,I r.Code]]):=
 dW tok Tryz.call210 Tryz.func210 Tryz.results210 Q Q<|N3 () [0] Q Q
theorem WR{s:aB}{w_:Int}{s1 s2 s3 s4 s5 s6 s7 s8 s9 s10 s11:AC}{b0:Nat×Nat}:VS Tryz.prog κ 118 (xN s w_) [.p 0 0,I w_] [b0] ([.box 0 (gS s s1 s2 s3 s4 s5 s6 s7 s8 s9 s10 s11)]++(oS s s1 s2 s3 s4 s5 s6 s7 s8 s9 s10 s11 [])) (fun(r:aB) (y:AC)=>.t []) (fun(r:aB) (y:AC)=>([.box 0 (gS r s1 s2 s3 s4 s5 s6 s7 s8 s9 s10 y)]++(oS r s1 s2 s3 s4 s5 s6 s7 s8 s9 s10 y []))):=
 dW tok Tryz.call118 Tryz.func118 Tryz.results118 Q Q<|d5 0 1 (qF s w_) [0,1] 22 [1,2,3,4,5,6,7,8,9,10,11,0] Q (nQ dS 10 Q Q Q fun x14 h9 s15 h10=>fun hF=>iS 1 h10 h9 Q Q Q Q Q<|wi hF<|eP [15,16] Q Q (fun hF=>sF Q<|jR dS 12 [15] h9 s15 Q Q Q Q Q Q Q<|kK () [1,2,3,4,5,6,7,8,9,16,11,0] hF Q)<|fun hF=>sF Q<|jR dS 12 [15] h9 s15 Q Q Q Q Q Q Q<|kK () [1,2,3,4,5,6,7,8,9,16,11,0] hF Q) fun x1=>b8 [22] Q Q (nP s11 [11,0,1,2,3,4,5,6,7,8,9,10] Q Q)<|nQ dS 9 Q Q Q fun x2 h1 s12 h2=>fun hF=>iS 1 h2 h1 Q Q Q Q Q<|wi hF<|nQ D8 15 Q Q Q fun x3 h3 _ h4=>fun hF=>iS 2 h4 h3 Q Q Q Q Q<|U1 D8 16 [] h3 () Q Q Q Q Q Q Q Q Q<|wi hF<|nZ aO [11,14,18,19] Q<|fun hF=>iS 1 h2 h1 Q Q Q Q Q<|wi hF<|aEJ [20] Q Q Q Q (fun _=>WQ) fun x4 s13=>fun hF=>iS 1 h2 h1 Q Q Q Q Q<|wi hF<|nZ aO [11,14,18,19] Q<|iT 1 5 (eB s w_ x4) [0,1,5] (fun(x5:bD) (_:Unit)=>[]) [0,1,2,3,4,5,6,7,8,10] (fun x5 _=>[ow s10 (s.aZ.set w_.toNat (⟨x4⟩:Queue):List Queue),.box 0 [.h s1 s.aA.Mem.aE.Bytes.length,.h s2 s.aA.Mem.aE.Class.length,.h s3 s.aA.Mem.aD.Global.length,.h s4 s.aA.Mem.aD.cT.length,I s.aA.aC.aJ,.h s5 s.aA.aC.cK.length,.h s6 s.aA.aM.length,.h s7 s.aA.mP.length,.h s8 s.Cells.length,.h s9 s.aT.length,.h s10 (s.aZ.set w_.toNat (⟨x4⟩:Queue)).length,.h s11 s.Log.length,I (aY (s.aI+1))],.box 4 [.b x5.cY,I x5.Op.Kind,I x5.Op.Cell,I x5.Op.gP,I x5.Op.dK,I x5.aI,I x5.Pc,I x5.Sub.Kind,I x5.Sub.A,I x5.Sub.Pc,I x5.Sub.E,I x5.Sub.Row,I x5.Sub.B,I x5.Sub.H,I x5.Sub.Out,I x5.Sub.Code,.b x5.Sub.cW,I x5.H,I x5.Old,I x5.dK,I x5.Code]]) Q (b8 [64,65] Q Q (c0 Q (fun _=>AN) fun x8=>fun hF=>sF Q<|pY dS 12 [21] [26,36,41] (⟨x4⟩:Queue) s13 Q Q Q Q Q Q Q Q<|vA s10 List.length_set.symm [] [(11,10)] Q Q Q<|fR Q Q<|kK () [23,11,22,0,1,2,3,4,5,6,7,8,10] hF Q)<|iT 0 5 (j4 s w_ x3 x4) [0,1,5,63] (fun(x9:Bool) (_:Unit)=>[(70,.b x9)]) [0,1,2,3,4,5,6,7,8,10,22] (fun x9 _=>[ow s10 (s.aZ.set w_.toNat (⟨x4⟩:Queue):List Queue),.box 0 [.h s1 s.aA.Mem.aE.Bytes.length,.h s2 s.aA.Mem.aE.Class.length,.h s3 s.aA.Mem.aD.Global.length,.h s4 s.aA.Mem.aD.cT.length,I s.aA.aC.aJ,.h s5 s.aA.aC.cK.length,.h s6 s.aA.aM.length,.h s7 s.aA.mP.length,.h s8 s.Cells.length,.h s9 s.aT.length,.h s10 (s.aZ.set w_.toNat (⟨x4⟩:Queue)).length,.h s11 s.Log.length,I (aY (s.aI+1))]]) Q (b8 [70,71] Q Q (fun hF=>sF Q<|pY dS 12 [21] [26,36,41] (⟨x4⟩:Queue) s13 Q Q Q Q Q Q Q Q<|vA s10 List.length_set.symm [] [(11,10)] Q Q Q<|fR Q Q<|kK () [23,11,0,1,2,3,4,5,6,7,8,10,22] hF Q)<|fun hF=>sF Q<|pY dS 12 [21] [26,36,41] (⟨x4⟩:Queue) s13 Q Q Q Q Q Q Q Q<|vA s10 List.length_set.symm [] [(11,10)] Q Q Q<|fR Q Q<|kK () [23,11,0,1,2,3,4,5,6,7,8,10,22] hF Q) fun x9 _=>b8 [70] Q Q (c0 Q (fun _=>AN) fun x10=>nQ LJ 6 Q Q Q fun x11 h7 _ h8=>fun hF=>iS 5 h8 h7 Q Q Q Q Q<|wi hF<|b8 [84] Q Q (fun hF=>bx 12 Q Q Q<|wi hF<|d6 12 4 0 21 [] Q Q Q Q Q (fun _=>cN (j:=(⟨true,x3,aY (s.aI+1),0,x10,0,0,0,0⟩:bD))) fun x12 _=>fun hF=>sF Q<|jR LJ 13 [] h7 () Q Q Q Q Q Q Q<|kK () [0,1,12,2,3,4,5,16,7,8,9,10,11] hF Q)<|fun hF=>sF Q<|jR LJ 13 [] h7 () Q Q Q Q Q Q Q<|kK () [0,1,12,2,3,4,5,16,7,8,9,10,11] hF Q)<|b8 [86,87] Q Q (c0 Q (fun _=>AN) fun x13=>cQ [0,1,12,2,3,4,5,6,7,8,9,10,11] Q Q)<|cQ [0,1,12,2,3,4,5,6,7,8,9,10,11] Q Q) fun x5 _=>nZ aO [1,2] Q<|nQ cL 11 Q Q Q fun x6 h5 _ h6=>fun hF=>iS 5 h6 h5 Q Q Q Q Q<|ceS cL 13 [] [93] x5 () Q Q Q Q Q Q Q Q Q Q<|rh s9 List.length_set.symm [] [(1,9)] Q Q Q<|wi hF<|d6 1 0 0 13 [3,4,5,6,7,8,9,10,16,0,12] Q Q Q Q Q (fun _=>jW (s:=({s with aT:=s.aT.set w_.toNat x5,aZ:=s.aZ.set w_.toNat (⟨x4⟩:Queue),aI:=aY (s.aI+1)}:aB))) fun x7 s14=>N3 s14 [1,17,18,19,20,21,22,23,24,25,26,27] Q Q
theorem dF{s:Sub}{code:Int}{b0:Nat×Nat}:VS Tryz.prog κ 190 (bM s code) [.p 0 0,I code] [b0] [.box 0 [I s.Kind,I s.A,I s.Pc,I s.E,I s.Row,I s.B,I s.H,I s.Out,I s.Code,.b s.cW]] (fun(r:Sub) (y:Unit)=>.t []) (fun(r:Sub) (y:Unit)=>[.box 0 [I r.Kind,I r.A,I r.Pc,I r.E,I r.Row,I r.B,I r.H,I r.Out,I r.Code,.b r.cW]]):=
 dW tok Tryz.call190 Tryz.func190 Tryz.results190 Q Q<|N3 () [0] Q Q
theorem aFC{size:Int}:V0 Tryz.prog κ 265 (IS size) [I size] I:=
 dW tok Tryz.call265 Tryz.func265 Tryz.results265 Q Q<|PG 4 [0] [] Out.brk [] [] Q Q (fun hF1 x2 hr1=>b8 [5] Q Q (d5 0 0 (A9 x2) [0,3,4] 14 [] Q (eP [8,9] Q Q (c0 Q (fun _=>ND) fun x4=>cQ [] Q Q)<|cQ [] Q Q) fun x3=>b8 [14] Q Q (MT hr1 hF1<|dE Q Q)<|J4 [] Q)<|FW [] Q)<|dE Q Q
theorem fQ{w_:Int}:V0 Tryz.prog κ 56 (fF w_) [I w_] .b:=
 dW tok Tryz.call56 Tryz.func56 Tryz.results56 Q Q<|c0 Q (fun _=>cV) fun x1=>dE Q Q
theorem XY{w_ c:Int}:V0 Tryz.prog κ 326 (J6 w_ c) [I w_,I c] I:=
 dW tok Tryz.call326 Tryz.func326 Tryz.results326 Q Q<|d5 0 0 (GA w_ c) [0,1] 12 [] Q (c0 Q (fun _=>fQ) fun x2=>eP [7,8] Q Q (cQ [] Q Q)<|c0 Q (fun _=>nJ) fun x3=>cQ [] Q Q) fun x1=>b8 [12] Q Q (dE Q Q)<|dE Q Q
theorem OW{s:aR}{s1:AC}{b0:Nat×Nat}:VS Tryz.prog κ 327 (wA s) [.p 0 0] [b0] [.box 0 [.h s1 s.aS.length],ow s1 (s.aS:List Int)] (fun(r:Int×aR) (y:AC)=>I r.1) (fun(r:Int×aR) (y:AC)=>[.box 0 [.h y r.2.aS.length],ow y r.2.aS]):=
 dW tok Tryz.call327 Tryz.func327 Tryz.results327 Q Q<|b8 [12] Q Q (nP s1 [0,1] Q Q)<|nQ oI 1 Q Q Q fun x1 h1 _ h2=>fun hF=>iS 1 h2 h1 Q Q Q Q Q<|U1 oI 2 [] h1 () Q Q Q Q Q Q Q Q Q<|cpc 5 Q Q fun hc1=>a55 hc1 Q Q Q Q Q Q Q hF fun hF h3=>sR Q<|pmR 5 ((aY ((s.aS.length:Int) - 1)).toNat) ((aY ((s.aS.length:Int) - 1)).toNat) Q Q h3 Q<|tF (hT:=tok) ⟨(AC.sub s1 1 0).a,(aY ((s.aS.length:Int) - 1)).toNat⟩ [0,5] hF Q Tryz.results327 Q Q Q Q
theorem aFD{l:aD}{w_ c:Int}{s1 s2:AC}(h1:bL κ s1 l.Global)(h2:bL κ s2 l.cT):VS Tryz.prog κ 266 (IT l w_ c) [.g [.h s1 l.Global.length,.h s2 l.cT.length],I w_,I c] [] [] (fun r (y:AC×AC)=>.t [.g [.h y.1 r.1.Global.length,.h y.2 r.1.cT.length],I r.2]) (fun r y=>[ow y.1 r.1.Global,ow y.2 r.1.cT]):=
 dW tok Tryz.call266 Tryz.func266 Tryz.results266 Q Q<|c1 Q (fun h=>jM (h.a h1) (h.a h2)) fun x1 s3=>c0 Q (fun _=>XY) fun x2=>d5 0 3 (BA x1 x2) [6,8,9] 22 [1,2,3,4] Q (c0 Q (fun h=>EB (h.a h1) (h.a h2)) fun x6=>eP [18,19] Q Q (cQ [1,2,3,4] Q Q)<|cQ [1,2,3,4] Q Q) fun x3=>b8 [22] Q Q (nP (s3.1,s3.2) [1,2] Q Q)<|nQ uS 2 Q Q Q fun x4 h3 s4 h4=>fun hF=>iS 3 h4 h3 Q Q Q Q Q<|wi hF<|d6 5 3 0 1 [7] Q Q Q Q Q (fun _=>OW) fun x5 s5=>fun hF=>sR Q<|pY uS 4 [8] [25] x5.2 s5 Q Q Q Q Q Q Q Q<|vA s3.2 List.length_set.symm [(29,1)] [(0,1),(3,1)] Q Q Q<|fR Q Q<|tF (hT:=tok) (s3.1,s3.2) [1,9] hF Q Tryz.results266 Q Q Q Q
theorem XZ{l:aD}{c:Int}{s1 s2:AC}(h1:bL κ s1 l.Global)(h2:bL κ s2 l.cT):VS Tryz.prog κ 267 (BC l c) [.g [.h s1 l.Global.length,.h s2 l.cT.length],I c] [] [] (fun r (y:AC×AC)=>.t [.g [.h y.1 r.1.Global.length,.h y.2 r.1.cT.length],I r.2]) (fun r y=>[ow y.1 r.1.Global,ow y.2 r.1.cT]):=
 dW tok Tryz.call267 Tryz.func267 Tryz.results267 Q Q<|c1 Q (fun h=>jM (h.a h1) (h.a h2)) fun x1 s3=>d5 0 3 (sD c x1) [1,4,6] 17 [1,2,3,4] Q (c0 Q (fun h=>EB (h.a h1) (h.a h2)) fun x5=>eP [12,13] Q Q (cQ [1,2,3,4] Q Q)<|c0 Q (fun _=>nJ) fun x6=>cQ [1,2,3,4] Q Q) fun x2=>b8 [17] Q Q (nP (s3.1,s3.2) [1,2] Q Q)<|nQ uS 1 Q Q Q fun x3 h3 s4 h4=>fun hF=>iS 3 h4 h3 Q Q Q Q Q<|wi hF<|d6 5 3 0 1 [7] Q Q Q Q Q (fun _=>OW) fun x4 s5=>fun hF=>sR Q<|pY uS 4 [8] [20] x4.2 s5 Q Q Q Q Q Q Q Q<|vA s3.1 List.length_set.symm [(24,0)] [(0,0),(3,0)] Q Q Q<|fR Q Q<|tF (hT:=tok) (s3.1,s3.2) [9,2] hF Q Tryz.results267 Q Q Q Q
theorem KO{width:Int}:V0 Tryz.prog κ 339 (kS width) [I width] .b:=
 dW tok Tryz.call339 Tryz.func339 Tryz.results339 Q Q<|c0 Q (fun _=>cV) fun x1=>dE Q Q
theorem sW{n width:Int}:V0 Tryz.prog κ 292 (BW n width) [I n,I width] .s:=
 dW tok Tryz.call292 Tryz.func292 Tryz.results292 Q Q<|d5 0 0 (zV n width) [0,1] 21 [] Q (c0 Q (fun _=>KO) fun x10=>eP [9,10] Q Q (cQ [] Q Q)<|eP [12,13,14] Q Q (cQ [] Q Q)<|fun hF=>a7R Q Q Q Q hF fun hF=>wi hF<|cQ [] Q Q) fun x1=>b8 [21] Q Q (dE Q Q)<|fun hF=>xI (0:UInt8) aS4 (fun w=>nE Q w) Q Q Q Q Q Q Q hF fun hF s1=>wi hF<|QX () [] (fun(p:Int×(List UInt8)×Int) (_:Unit)=>[(0,I p.1),(5,.h s1 p.2.1.length),(6,I p.2.2)]) [0] [] (fun p _=>[ow s1 (p.2.1:List UInt8)]) id [] (fun(x8:(List UInt8)) (_:Unit)=>[(5,.h s1 x8.length)]) [] (fun x8 _=>[ow s1 (x8:List UInt8)]) Q Q (fun hF2 ⟨x5,x6,x7⟩ _ hr2=>b8 [27] Q Q (nQ oU 0 Q Q Q fun x9 h1 _ h2=>fun hG2=>iS 0 h2 h1 Q Q Q Q Q<|sF Q<|pY oU 1 [] [5,30] (u8 x5) () Q Q Q Q Q Q Q Q<|nxR () [4] hG2 Q)<|FW [0] Q) fun x8 _=>fun hF=>qbo 0 Q Q Q Q Q Q Q<|wi hF<|dE Q Q
theorem mV{b:List Int}{at_:Int}{text:List UInt8}{s1:AC}:VS Tryz.prog κ 294 (wB b at_ text) [.h s1 b.length,I at_,.s text] [] [ow s1 (b:List Int)] (fun(r:(List Int)) (y:Unit)=>.t []) (fun(r:(List Int)) (y:Unit)=>[.o (gO [AC.v s1 b.length] r)]):=
 dW tok Tryz.call294 Tryz.func294 Tryz.results294 Q Q<|QX () [1,2,8] (fun(p:(List Int)×Int) (_:Unit)=>[(0,.h s1 p.1.length),(9,I p.2)]) [0] [] (fun p _=>[ow s1 (p.1:List Int)]) id [] (fun(x5:(List Int)) (_:Unit)=>[(0,.h s1 x5.length)]) [] (fun x5 _=>[ow s1 (x5:List Int)]) Q Q (fun hF1 ⟨x3,x4⟩ _ hr1=>fun hG1=>nd hG1 fun hl3 hG1=>wi hG1<|b8 [10] Q Q (fun hG1=>qsi Q Q Q Q Q hG1 fun x6 _ hG1=>wi hG1<|nQ oI 0 Q Q Q fun x7 h1 _ h2=>fun hG1=>iS 0 h2 h1 Q Q Q Q Q<|sF Q<|pY oI 1 [] [0,12] (x6.toNat:Int) () Q Q Q Q Q Q Q Q<|nxR () [4] hG1 Q)<|FW [0] Q) fun x5 _=>fun hF=>nd hF fun hl2 hF=>sF Q<|pnR 0 hl2 Q<|tF (hT:=tok) () [0] hF Q Tryz.results294 Q Q Q Q
theorem aH9{page index:Int}:V0 Tryz.prog κ 349 (LZ page index) [I page,I index] I:=
 dW tok Tryz.call349 Tryz.func349 Tryz.results349 Q Q<|d5 0 0 (DA page index) [0,1] 12 [] Q (c0 Q (fun _=>cV) fun x2=>eP [7,8] Q Q (cQ [] Q Q)<|c0 Q (fun _=>cV) fun x3=>cQ [] Q Q) fun x1=>b8 [12] Q Q (dE Q Q)<|dE Q Q
theorem aKX{h:aE}{c:Int}{s1 s2:AC}(h1:bL κ s1 h.Bytes)(h2:bL κ s2 h.Class):VS Tryz.prog κ 329 (FF h c) [.g [.h s1 h.Bytes.length,.h s2 h.Class.length],I c] [] [] (fun r (y:AC×AC×AC)=>.t [.g [.h y.1 r.1.Bytes.length,.h y.2.1 r.1.Class.length],.h y.2.2 r.2.length]) (fun r y=>[ow y.1 r.1.Bytes,ow y.2.1 r.1.Class,ow y.2.2 r.2]):=
 dW tok Tryz.call329 Tryz.func329 Tryz.results329 Q Q<|c1 Q (fun h=>BN (h.a h1) (h.a h2)) fun x1 s3=>fun hF=>WJ (α:=Int) aW Q Q Q Q fun s4=>wi hF<|c0 Q (fun h=>KN (h.a h2)) fun x2=>d5 0 3 (zW c x1 x2) [1,4,6,7,8] 28 [4,1,2,3,5] Q (c0 Q (fun h=>VQ (h.a h1) (h.a h2)) fun x21=>eP [19,20] Q Q (cQ [4,1,2,3,5] Q Q)<|c0 Q (fun _=>nJ) fun x22=>eP [23,24,25] Q Q (cQ [4,1,2,3,5] Q Q)<|cQ [4,1,2,3,5] Q Q) fun x3=>b8 [28] Q Q (nP (s3.1,s3.2,s4) [2,3,0] Q Q)<|nQ oI 3 Q Q Q fun x4 h3 _ h4=>fun hF=>iS 3 h4 h3 Q Q Q Q Q<|wi hF<|iT 0 4 (MV c x1 x2) [1,4,6,7,8] (fun(x5:(List Int)) (_:Unit)=>[]) [0,1] (fun x5 _=>[ow s3.1 (x5:List Int),ow s3.2 (x1.Class.set x2.toNat c:List Int),.box 2 [.h s3.1 x5.length,.h s3.2 (x1.Class.set x2.toNat c).length]]) Q (nZ aO [1,7] Q<|fun hF=>nd hF fun hA4 hF=>bd hF fun x20 hA5 hF=>hC Q Q (cpc 2 Q Q fun hc2=>have hq9:=rn hA4;aM5 hc2 Q Q Q Q Q Q hq9 fun hq9 h6=>have hq10:=rb hA5;wi hq10<|c0 Q (fun _=>rN) fun u9=>fun hq10=>match u9,hq10 with | _,rfl=>ltK oI () ([171,c,x20]:List Int) aW Q Q Q Q Q Q Q Q Q Q (fun _=>Q) fun s11=>cpy (xs:=([171,c,x20]:List Int)) 2 ((aY (x2 * 64)).toNat) h6 (fun h=>(h.o 8 Q)) Q Q Q Q Q Q Q Q<|rr s3.1 (e9 (xs:=([171,c,x20]:List Int)) h6.1).symm [37] [] [(4,0)] Q Q Q Q<|sF Q<|pY oI 5 [] [32] c () Q Q Q Q Q Q Q Q<|vA s3.2 List.length_set.symm [] [(4,1)] Q Q Q<|fR Q Q<|kK (p:=(dQ x1.Bytes ((aY (x2 * 64)).toNat) ([171,c,x20]:List Int))) () [2,9,4,0,1] hF Q) (have hq11:=rb hA5;wi hq11<|c0 Q (fun _=>rN) fun u10=>fun hq11=>match u10,hq11 with | _,rfl=>hC Q Q (cpc 2 Q Q fun hc3=>have hq12:=rn hA4;aM5 hc3 Q Q Q Q Q Q hq12 fun hq12 h7=>ltK oI () ([171,c,x20]:List Int) aW Q Q Q Q Q Q Q Q Q Q (fun _=>Q) fun s12=>cpy (xs:=([171,c,x20]:List Int)) 2 ((aY (x2 * 64)).toNat) h7 (fun h=>(h.o 8 Q)) Q Q Q Q Q Q Q Q<|rr s3.1 (e9 (xs:=([171,c,x20]:List Int)) h7.1).symm [37] [] [(4,0)] Q Q Q Q<|sF Q<|pY oI 5 [] [32] c () Q Q Q Q Q Q Q Q<|vA s3.2 List.length_set.symm [] [(4,1)] Q Q Q<|fR Q Q<|kK (p:=(dQ x1.Bytes ((aY (x2 * 64)).toNat) ([171,c,x20]:List Int))) () [2,9,4,0,1] hF Q) (ltK oI () ([171,c,x20]:List Int) aW Q Q Q Q Q Q Q Q Q Q (fun _=>Q) fun s13=>cpc 2 Q Q fun hc4=>have hq13:=rn hA4;aM5 hc4 Q Q Q Q Q Q hq13 fun hq13 h8=>cpy (xs:=([171,c,x20]:List Int)) 2 ((aY (x2 * 64)).toNat) h8 (fun h=>(h.o 8 Q)) Q Q Q Q Q Q Q Q<|rr s3.1 (e9 (xs:=([171,c,x20]:List Int)) h8.1).symm [37] [] [(4,0)] Q Q Q Q<|sF Q<|pY oI 5 [] [32] c () Q Q Q Q Q Q Q Q<|vA s3.2 List.length_set.symm [] [(4,1)] Q Q Q<|fR Q Q<|kK (p:=(dQ x1.Bytes ((aY (x2 * 64)).toNat) ([171,c,x20]:List Int))) () [2,9,4,0,1] hF Q))) fun x5 _=>c0 Q (fun _=>rN) fun x6=>QX s4 [1,4,6,8,47] (fun(p:(List Int)×Int×(List Int)) (s6:AC)=>[(7,.h s6 p.1.length),(48,I p.2.1)]) [3,0,2,4,1] [4,1] (fun p s6=>[ow s6 (p.1:List Int),ow s3.1 (p.2.2:List Int),.box 2 [.h s3.1 p.2.2.length,.h s3.2 (x1.Class.set x2.toNat c).length]]) id [4,6] (fun(p:(List Int)×(List Int)) (s7:AC)=>[(7,.h s7 p.1.length)]) [4,1] (fun p s7=>[ow s7 (p.1:List Int),ow s3.1 (p.2:List Int),.box 2 [.h s3.1 p.2.length,.h s3.2 (x1.Class.set x2.toNat c).length]]) Q Q (fun hF3 ⟨x10,x11,x12⟩ s6 hr3=>b8 [49] Q Q (c0 Q (fun _=>aH9) fun x15=>iT 0 4 (MU x10 x11 x15) [1,4,6,7,8,10,47,48] (fun(x16:(List Int)) (_:Unit)=>[]) [0,3,4] (fun x16 _=>[ow s3.1 (x16:List Int),.box 2 [.h s3.1 x16.length,.h s3.2 (x1.Class.set x2.toNat c).length]]) Q (nZ aO [3] Q<|fun hG3=>bd hG3 fun x17 hA1 hG3=>bd hG3 fun x18 hA2 hG3=>bd hG3 fun x19 hA3 hG3=>hC Q Q (have hq1:=rb hA1;wi hq1<|c0 Q (fun _=>sV) fun u1=>fun hq1=>match u1,hq1 with | _,rfl=>have hq2:=rb hA2;wi hq2<|c0 Q (fun _=>sW) fun u2=>fun hq2=>match u2,hq2 with | _,rfl=>have hq3:=rb hA3;wi hq3<|aEJ [1] Q Q Q Q (fun _=>mV) fun u3 _=>fun hq3=>un 5 [55] [] [(2,0)] Q Q Q Q Q Q fun hl3=>match u3,hq3 with | _,rfl=>wi hG3<|cQ (p:=(x19)) [5,2,0,3,4] Q Q) (have hq4:=rb hA1;wi hq4<|c0 Q (fun _=>sV) fun u4=>fun hq4=>match u4,hq4 with | _,rfl=>hC Q Q (have hq5:=rb hA2;wi hq5<|c0 Q (fun _=>sW) fun u5=>fun hq5=>match u5,hq5 with | _,rfl=>have hq6:=rb hA3;wi hq6<|aEJ [1] Q Q Q Q (fun _=>mV) fun u6 _=>fun hq6=>un 5 [55] [] [(2,0)] Q Q Q Q Q Q fun hl4=>match u6,hq6 with | _,rfl=>wi hG3<|cQ (p:=(x19)) [5,2,0,3,4] Q Q) (have hq7:=rb hA2;wi hq7<|c0 Q (fun _=>sW) fun u7=>fun hq7=>match u7,hq7 with | _,rfl=>have hq8:=rb hA3;wi hq8<|aEJ [1] Q Q Q Q (fun _=>mV) fun u8 _=>fun hq8=>un 5 [55] [] [(2,0)] Q Q Q Q Q Q fun hl5=>match u8,hq8 with | _,rfl=>wi hG3<|cQ (p:=(x19)) [5,2,0,3,4] Q Q))) fun x16 _=>fun hG3=>lt1 Q aW Q Q Q Q fun s8=>ap 2 aW Q Q Q Q Q Q Q (fun h=>(h.o 5 Q)) Q Q hG3 fun hG3 s9=>wi hG3<|nxW s9 [2,0,1,3,4] Q)<|bkW s6 [0,1,2,3,4] Q) fun⟨x13,x14⟩ s7=>nP (s3.1,s3.2,s7) [1,4,0] Q Q
theorem aFE{m:Mem}{c:Int}{s1 s2 s3 s4:AC}(h1:bL κ s1 m.aE.Bytes)(h2:bL κ s2 m.aE.Class)(h3:bL κ s3 m.aD.Global)(h4:bL κ s4 m.aD.cT):VS Tryz.prog κ 268 (IU m c) [.g (gM m s1 s2 s3 s4),I c] [] [] (fun r (y:A4C)=>.t [.g (yM r.1 y),I r.2]) (fun r y=>(zM r.1 y [])):=
 dW tok Tryz.call268 Tryz.func268 Tryz.results268 Q Q<|c1 Q (fun h=>aKX (h.a h1) (h.a h2)) fun x1 s5=>iT 0 4 (HW c x1) [1,4,7] (fun(x2:Mem) (u:AC×AC)=>[(8,.p 3 0)]) [4,1] (fun x2 u=>(oM x2 s5.1 s5.2.1 u.1 u.2 [.box 3 (gM x2 s5.1 s5.2.1 u.1 u.2)])) Q (nZ aO [0,1,5] Q<|fun hF=>bd hF fun x7 hA1 hF=>hC Q Q (have hq1:=rb hA1;wi hq1<|c1 Q (fun h=>jM (h.a h3) (h.a h4)) fun u1 s11=>fun hq1=>match u1,hq1 with | _,rfl=>wi hF<|pR (p:=((⟨x1.1,x7⟩:Mem))) (s11.1,s11.2) [2,3,6,7,8,4,1] Q Q) (have hq2:=rb hA1;wi hq2<|c1 Q (fun h=>jM (h.a h3) (h.a h4)) fun u2 s12=>fun hq2=>match u2,hq2 with | _,rfl=>wi hF<|pR (p:=((⟨x1.1,x7⟩:Mem))) (s12.1,s12.2) [2,3,7,8,6,4,1] Q Q)) fun x2 ⟨s6,s7⟩=>b8 [23] Q Q (nP (s5.1,s5.2.1,s6,s7) [0,1,2,3] Q Q)<|nZ aO [4,6] Q<|nQ uS 2 Q Q Q fun x3 h5 s8 h6=>fun hF=>iS 4 h6 h5 Q Q Q Q Q<|cpc 5 Q Q fun hc1=>aM5 hc1 Q Q Q Q Q Q hF fun hF h7=>ap 10 aW Q Q Q Q Q Q Q (fun h=>((h.o 5 Q).sub (OF h7.1 h7.2) h7)) Q Q hF fun hF s9=>iS 4 h6 h5 Q Q Q Q Q<|wi hF<|iT 0 5 (fun(p:Int×Mem)=>HV p.1 p.2) [4] (fun(p:Int×Mem) (_:Unit)=>[(5,I p.1)]) [] (fun p _=>(oM p.2 s5.1 s5.2.1 s6 s7 [.box 1 (gM p.2 s5.1 s5.2.1 s6 s7)])) Q (nZ aO [4,9] Q<|nQ oI 5 Q Q Q fun x6 h8 _ h9=>fun hF=>iS 5 h9 h8 Q Q Q Q Q<|hC Q Q (sF Q<|jR oI 11 [] h8 () Q Q Q Q Q Q Q<|pY uS 7 [10] [27,31] (⟨x3.aS++((x1.2.take x1.2.length).drop ((1:Int).toNat))⟩:aR) s9 Q Q Q Q Q Q Q Q<|vA s6 List.length_set.symm [(41,2)] [(4,2),(6,2)] Q Q Q<|fR Q Q<|kK (p:=(x6,(⟨x2.aE,(⟨x2.aD.Global.set c.toNat (⟨x3.aS++((x1.2.take x1.2.length).drop ((1:Int).toNat))⟩:aR),x2.aD.cT⟩:aD)⟩:Mem))) () [0,1,15,3,6] hF Q) (sF Q<|jR oI 11 [] h8 () Q Q Q Q Q Q Q<|pY uS 7 [10] [27,31] (⟨x3.aS++((x1.2.take x1.2.length).drop ((1:Int).toNat))⟩:aR) s9 Q Q Q Q Q Q Q Q<|vA s6 List.length_set.symm [(41,2)] [(4,2),(6,2)] Q Q Q<|fR Q Q<|kK (p:=(x6,(⟨x2.aE,(⟨x2.aD.Global.set c.toNat (⟨x3.aS++((x1.2.take x1.2.length).drop ((1:Int).toNat))⟩:aR),x2.aD.cT⟩:aD)⟩:Mem))) () [0,1,15,3,6] hF Q)) fun⟨x4,x5⟩ _=>nP (s5.1,s5.2.1,s6,s7) [0,1,2,3] Q Q
theorem aBQ{slot gen:Int}:V0 Tryz.prog κ 330 (MW slot gen) [I slot,I gen] I:=
 dW tok Tryz.call330 Tryz.func330 Tryz.results330 Q Q<|d5 0 0 (xO slot gen) [0,1] 12 [] Q (c0 Q (fun _=>GQ) fun x2=>eP [7,8] Q Q (cQ [] Q Q)<|c0 Q (fun _=>cV) fun x3=>cQ [] Q Q) fun x1=>b8 [12] Q Q (dE Q Q)<|dE Q Q
theorem aBR{m:Mem}{slot:Int}{s1 s2 s3 s4:AC}(h1:bL κ s1 m.aE.Bytes)(h2:bL κ s2 m.aE.Class)(h3:bL κ s3 m.aD.Global)(h4:bL κ s4 m.aD.cT):V0 Tryz.prog κ 269 (GD m slot) [.g (gM m s1 s2 s3 s4),I slot] I:=
 dW tok Tryz.call269 Tryz.func269 Tryz.results269 Q Q<|c0 Q (fun h=>JH (h.a h1) (h.a h2)) fun x1=>c0 Q (fun _=>aBQ) fun x2=>dE Q Q
theorem S9{s:Sub}{b:aA}{w_:Int}{s1 s2 s3 s4 s5 s6 s7:AC}{b0 b1:Nat×Nat}:VS Tryz.prog κ 185 (sG s b w_) [.p 0 0,.p 1 0,I w_] [b0,b1] ([.box 0 [I s.Kind,I s.A,I s.Pc,I s.E,I s.Row,I s.B,I s.H,I s.Out,I s.Code,.b s.cW],.box 1 (gB b s1 s2 s3 s4 s5 s6 s7)]++(oB b s1 s2 s3 s4 s5 s6 s7 [])) (fun(r:Sub×aA) (y:A4C)=>.t []) (fun(r:Sub×aA) (y:A4C)=>([.box 0 [I r.1.Kind,I r.1.A,I r.1.Pc,I r.1.E,I r.1.Row,I r.1.B,I r.1.H,I r.1.Out,I r.1.Code,.b r.1.cW],.box 1 (gB r.2 y.1 y.2.1 y.2.2.1 y.2.2.2 s5 s6 s7)]++(oB r.2 y.1 y.2.1 y.2.2.1 y.2.2.2 s5 s6 s7 []))):=
 dW tok Tryz.call185 Tryz.func185 Tryz.results185 Q Q<|c0 Q (fun _=>aFC) fun x1=>b8 [14] Q Q (d6 0 0 0 10 [] Q Q Q Q Q (fun _=>dF) fun x2 _=>nP (s1,s2,s3,s4) [0,1,2,3,4,5,6,7,8] Q Q)<|iT 1 2 (fun(p:Int×aA)=>iU s p.1 p.2) [0,1] (fun(p:Int×aA) (u:A4C)=>[(7,I p.1)]) [0] (fun p u=>(oB p.2 u.1 u.2.1 u.2.2.1 u.2.2.2 s5 s6 s7 [.box 1 (gB p.2 u.1 u.2.1 u.2.2.1 u.2.2.2 s5 s6 s7)])) Q (b8 [23,24] Q Q (c1 Q (fun h=>aFD (h.o 4 Q) (h.o 5 Q)) fun x8 s12=>pR (p:=(x8.2,({b with Mem:=(⟨b.Mem.aE,x8.1⟩:Mem)}:aA))) (s1,s2,s12.1,s12.2) [2,3,9,10,6,7,8,1,0] Q Q)<|d5 0 2 (nO s b x1) [0,1,6,20] 40 [0,2,3,4,5,6,7,8,1] Q (b8 [40,41] Q Q (cQ [0,2,3,4,5,6,7,8,1] Q Q)<|cQ [0,2,3,4,5,6,7,8,1] Q Q) fun x9=>b8 [40] Q Q (c1 Q (fun h=>XZ (h.o 3 Q) (h.o 4 Q)) fun x10 s13=>pR (p:=(x10.2,({b with Mem:=(⟨b.Mem.aE,x10.1⟩:Mem)}:aA))) (s1,s2,s13.1,s13.2) [1,2,9,10,5,6,7,8,0] Q Q)<|b8 [57,58] Q Q (c1 Q (fun h=>aFE (h.o 1 Q) (h.o 2 Q) (h.o 3 Q) (h.o 4 Q)) fun x11 s14=>pR (p:=(x11.2,({b with Mem:=x11.1}:aA))) s14 [9,10,11,12,5,6,7,8,0] Q Q)<|d6 0 0 0 10 [] Q Q Q Q Q (fun _=>dF) fun x12 _=>nP (s1,s2,s3,s4) [0,8,1,2,3,4,5,6,7] Q Q) fun⟨x3,x4⟩ ⟨s8,s9,s10,s11⟩=>b8 [78,80] Q Q (c0 Q (fun h=>aBR (h.o 0 Q) (h.o 1 Q) (h.o 2 Q) (h.o 3 Q)) fun x5=>d6 8 0 0 10 [] Q Q Q Q Q (fun _=>dF (s:=({s with Out:=x5}:Sub))) fun x6 _=>N3 (s8,s9,s10,s11) [8,7,0,1,2,3,4,5,6] Q Q)<|b8 [92,97] Q Q (d6 8 0 0 10 [] Q Q Q Q Q (fun _=>dF) fun x7 _=>N3 (s8,s9,s10,s11) [8,7,0,1,2,3,4,5,6] Q Q)<|N3 (s8,s9,s10,s11) [8,7,0,1,2,3,4,5,6] Q Q
theorem WS{r_:dO}{k0:Int}{b0:Nat×Nat}:VS Tryz.prog κ 332 (rB r_ k0) [.g [I r_.Handle,I r_.aJ],.p 0 0] [b0] [.ro 0 [I k0]] (fun r (_:Unit)=>.b r) (fun _ _=>[]):=
 dW tok Tryz.call332 Tryz.func332 Tryz.results332 Q Q<|d5 0 2 qG [] 3 [] Q (c0 Q (fun _=>oQ) fun x2=>eP [6,7] Q Q (cQ [] Q Q)<|cQ [] Q Q) fun x1=>dE Q Q
theorem ZP{own:bB}{k0:Int}{s1:AC}{b0:Nat×Nat}(h1:bL κ s1 own.Rows):VS Tryz.prog κ 331 (DB own k0) [.g [.h s1 own.Rows.length],.p 0 0] [b0] [.ro 0 [I k0]] (fun r (_:Unit)=>.b r) (fun _ _=>[]):=
 dW tok Tryz.call331 Tryz.func331 Tryz.results331 Q Q<|fun hF=>mf [0] Q Q Q<|wi hF<|aPQ [0] Q Q Q Q (fun h=>fun hB=>wX (h.a h1) (aPP (cs:=[(0,[I k0])]) Tryz.call332 hB Q fun _ _=>WS)) fun x1=>dE Q Q
theorem aFF{l:List bB}{slot:Int}{s1:AC}(h1:bL κ s1 l):V0 Tryz.prog κ 270 (IV l slot) [.h s1 l.length,I slot] .b:=
 dW tok Tryz.call270 Tryz.func270 Tryz.results270 Q Q<|fun hF=>mf [0] Q Q Q<|wi hF<|aPQ [0] Q Q Q Q (fun h=>fun hB=>vH (h.a h1) (aPP (cs:=[(0,[I slot])]) Tryz.call331 hB Q fun _ hy=>ZP hy)) fun x1=>dE Q Q
theorem aBS{l:List bB}{w_ h e_:Int}{s1:AC}(h1:bL κ s1 l):VS Tryz.prog κ 271 (GF l w_ h e_) [.h s1 l.length,I w_,I h,I e_] [] [] (fun r (y:AC)=>.t [.h y r.1.length,.b r.2]) (fun r y=>[ow y r.1]):=
 dW tok Tryz.call271 Tryz.func271 Tryz.results271 Q Q<|d5 0 0 (xQ l w_ h e_) [0,1,2,3] 18 [] Q (c0 Q (fun h=>EC (h.a h1)) fun x7=>eP [13,14] Q Q (cQ [] Q Q)<|c0 Q (fun _=>fQ) fun x8=>cQ [] Q Q) fun x1=>b8 [18] Q Q (c1 Q (fun h=>rM (h.a h1)) fun x2 s2=>nP s2 [0] Q Q)<|c1 Q (fun h=>rM (h.a h1)) fun x3 s3=>nQ FK 0 Q Q Q fun x4 h2 s4 h3=>fun hF=>iS 0 h3 h2 Q Q Q Q Q<|RY KL [] ((⟨h,e_⟩:dO)) () wT Q Q Q Q Q Q Q Q Q Q Q Q Q fun s5=>ap 4 wT Q Q Q Q Q Q Q (fun h=>(h.o 5 Q)) Q Q hF fun hF s6=>iS 0 h3 h2 Q Q Q Q Q<|ceS FK 1 [4] [10,22,23,25,37] (⟨x4.Rows++([(⟨h,e_⟩:dO)])⟩:bB) s6 Q Q Q Q Q Q Q Q Q Q<|wi hF<|c0 Q (fun h=>EC (h.o 6 Q)) fun x5=>b8 [39] Q Q (c1 Q (fun h=>rM (h.a h1)) fun x6 s7=>nP s7 [7] Q Q)<|nP s3 [6] Q Q
theorem R2{s:Sub}{b:aA}{w_:Int}{s1 s2 s3 s4 s5 s6 s7:AC}{b0 b1:Nat×Nat}:VS Tryz.prog κ 186 (qH s b w_) [.p 0 0,.p 1 0,I w_] [b0,b1] ([.box 0 [I s.Kind,I s.A,I s.Pc,I s.E,I s.Row,I s.B,I s.H,I s.Out,I s.Code,.b s.cW],.box 1 (gB b s1 s2 s3 s4 s5 s6 s7)]++(oB b s1 s2 s3 s4 s5 s6 s7 [])) (fun(r:Sub×aA) (y:AC)=>.t []) (fun(r:Sub×aA) (y:AC)=>([.box 0 [I r.1.Kind,I r.1.A,I r.1.Pc,I r.1.E,I r.1.Row,I r.1.B,I r.1.H,I r.1.Out,I r.1.Code,.b r.1.cW],.box 1 (gB r.2 s1 s2 s3 s4 s5 y s7)]++(oB r.2 s1 s2 s3 s4 s5 y s7 []))):=
 dW tok Tryz.call186 Tryz.func186 Tryz.results186 Q Q<|b8 [28,33] Q Q (N3 s6 [0,1,2,3,4,5,6,7,8] Q Q)<|d5 0 2 (mM s b w_) [0,1,2] 45 [0,2,3,4,5,6,7,8,1] Q (nZ aO [0,1] Q<|eP [50,51] Q Q (cQ [0,2,3,4,5,6,7,8,1] Q Q)<|c0 Q (fun _=>cV) fun x9=>cQ [0,2,3,4,5,6,7,8,1] Q Q) fun x1=>b8 [45] Q Q (d6 0 0 0 10 [] Q Q Q Q Q (fun _=>dF) fun x2 _=>N3 s6 [0,8,1,2,3,4,5,6,7] Q Q)<|d5 0 2 (mL s b w_) [0,1,2] 66 [0,1,2,3,4,5,6,7,8] Q (nZ aO [0,8] Q<|c0 Q (fun h=>NH (h.o 1 Q) (h.o 2 Q) (h.o 3 Q) (h.o 4 Q)) fun x7=>eP [76,77] Q Q (cQ [0,1,2,3,4,5,6,7,8] Q Q)<|c0 Q (fun h=>aFF (h.o 6 Q)) fun x8=>cQ [0,1,2,3,4,5,6,7,8] Q Q) fun x3=>b8 [66] Q Q (d6 0 0 0 10 [] Q Q Q Q Q (fun _=>dF) fun x4 _=>N3 s6 [0,8,1,2,3,4,5,6,7] Q Q)<|nZ aO [0] Q<|c1 Q (fun h=>aBS (h.o 6 Q)) fun x5 s8=>d6 0 0 0 10 [] Q Q Q Q Q (fun _=>dF) fun x6 _=>N3 s8 [0,8,1,2,3,4,5,9,7] Q Q
theorem aIA{c:aC}{w_ e_:Int}{s1:AC}(h1:bL κ s1 c.cK):VS Tryz.prog κ 272 (L4 c w_ e_) [.g [I c.aJ,.h s1 c.cK.length],I w_,I e_] [] [] (fun r (y:AC)=>.t [.g [I r.1.aJ,.h y r.1.cK.length],.b r.2]) (fun r y=>[ow y r.1.cK]):=
 dW tok Tryz.call272 Tryz.func272 Tryz.results272 Q Q<|c1 Q (fun h=>rL (h.a h1)) fun x1 s2=>d5 0 3 (DC w_ e_ x1) [1,2,6,8] 19 [1,2,3] Q (c0 Q (fun h=>wW (h.a h1)) fun x6=>eP [14,15] Q Q (cQ [1,2,3] Q Q)<|c0 Q (fun _=>fQ) fun x7=>cQ [1,2,3] Q Q) fun x2=>b8 [19] Q Q (nP s2 [1] Q Q)<|nQ LJ 1 Q Q Q fun x3 h2 _ h3=>fun hF=>iS 3 h3 h2 Q Q Q Q Q<|wi hF<|iT 0 4 (rC w_ x1) [6,8,9] (fun(x4:Bool) (_:Unit)=>[(25,.b x4)]) [0,2,5] (fun x4 _=>[ow s2 (x1.cK:List qA)]) Q (eP [30,31] Q Q (fun hF=>sF Q<|jR LJ 3 [] h2 () Q Q Q Q Q Q Q<|kK () [6,0,2,5] hF Q)<|eP [35,36,37] Q Q (fun hF=>sF Q<|jR LJ 3 [] h2 () Q Q Q Q Q Q Q<|kK () [6,0,2,5] hF Q)<|fun hF=>sF Q<|jR LJ 3 [] h2 () Q Q Q Q Q Q Q<|kK () [6,0,2,5] hF Q) fun x4 _=>b8 [25] Q Q (nP s2 [0] Q Q)<|fun hF=>ro LJ 0 3 3 Q Q Q Q hF fun x5 h4 hF _=>wi hF<|b8 [46,51] Q Q (fun hF=>sR Q<|pY LJ 4 [] [] ({x5 with Seen:=aY (x5.Seen+1)}:qA) () Q Q Q Q Q Q Q Q<|vA s2 List.length_set.symm [(59,1)] [(1,1),(2,1)] Q Q Q<|fR Q Q<|tF (hT:=tok) s2 [7] hF Q Tryz.results272 Q Q Q Q)<|fun hF=>sR Q<|pY LJ 4 [] [] ({x5 with dJ:=true,Seen:=0}:qA) () Q Q Q Q Q Q Q Q<|vA s2 List.length_set.symm [(66,1)] [(1,1),(2,1)] Q Q Q<|fR Q Q<|tF (hT:=tok) s2 [7] hF Q Tryz.results272 Q Q Q Q
theorem aNE{c:aC}{e_:Int}{s1:AC}(h1:bL κ s1 c.cK):VS Tryz.prog κ 273 (UR c e_) [.g [I c.aJ,.h s1 c.cK.length],I e_] [] [] (fun r (y:AC)=>.t [.g [I r.1.aJ,.h y r.1.cK.length],.b r.2]) (fun r y=>[ow y r.1.cK]):=
 dW tok Tryz.call273 Tryz.func273 Tryz.results273 Q Q<|c1 Q (fun h=>rL (h.a h1)) fun x1 s2=>d5 0 3 (DD x1) [4,6] 22 [1,2,3] Q (c0 Q (fun h=>wW (h.a h1)) fun x3=>eP [11,12] Q Q (cQ [1,2,3] Q Q)<|eP [16,17,18] Q Q (cQ [1,2,3] Q Q)<|cQ [1,2,3] Q Q) fun x2=>b8 [22] Q Q (nP s2 [1] Q Q)<|nP s2 [1] Q Q
theorem P8{s:Sub}{b:aA}{s1 s2 s3 s4 s5 s6 s7:AC}{b0 b1:Nat×Nat}:VS Tryz.prog κ 187 (pD s b) [.p 0 0,.p 1 0] [b0,b1] ([.box 0 [I s.Kind,I s.A,I s.Pc,I s.E,I s.Row,I s.B,I s.H,I s.Out,I s.Code,.b s.cW],.box 1 (gB b s1 s2 s3 s4 s5 s6 s7)]++(oB b s1 s2 s3 s4 s5 s6 s7 [])) (fun(r:Sub×aA) (y:AC)=>.t []) (fun(r:Sub×aA) (y:AC)=>([.box 0 [I r.1.Kind,I r.1.A,I r.1.Pc,I r.1.E,I r.1.Row,I r.1.B,I r.1.H,I r.1.Out,I r.1.Code,.b r.1.cW],.box 1 (gB r.2 s1 s2 s3 s4 y s6 s7)]++(oB r.2 s1 s2 s3 s4 y s6 s7 []))):=
 dW tok Tryz.call187 Tryz.func187 Tryz.results187 Q Q<|b8 [7,12] Q Q (N3 s5 [0,1,2,3,4,5,6,7,8] Q Q)<|d5 0 2 (lO s b) [0,1] 27 [0,2,3,4,5,6,7,8,1] Q (eP [32,33] Q Q (c0 Q (fun _=>fQ) fun x8=>cQ [0,2,3,4,5,6,7,8,1] Q Q)<|cQ [0,2,3,4,5,6,7,8,1] Q Q) fun x1=>b8 [27] Q Q (nZ aO [0] Q<|c1 Q (fun h=>aIA (h.o 5 Q)) fun x2 s8=>b8 [60] Q Q (d6 0 0 0 10 [] Q Q Q Q Q (fun _=>dF) fun x3 _=>nP s8 [0,8,1,2,3,4,9,6,7] Q Q)<|b8 [74] Q Q (N3 s8 [0,8,1,2,3,4,9,6,7] Q Q)<|N3 s8 [0,8,1,2,3,4,9,6,7] Q Q)<|b8 [78,83] Q Q (nZ aO [0] Q<|c1 Q (fun h=>aNE (h.o 5 Q)) fun x4 s9=>iT 0 2 (lN s b x4) [0,1] (fun(x5:Int) (_:Unit)=>[]) [1,2,3,4,9,6,7,8] (fun x5 _=>[.box 0 [I s.Kind,I s.A,I s.Pc,I s.E,I s.Row,I s.B,I s.H,I x5,I s.Code,.b s.cW]]) Q (b8 [4,96,99] Q Q (cQ [0,1,2,3,4,9,6,7,8] Q Q)<|cQ [0,1,2,3,4,9,6,7,8] Q Q) fun x5 _=>d6 0 0 0 10 [] Q Q Q Q Q (fun _=>dF (s:=({s with Out:=x5}:Sub))) fun x6 _=>N3 s9 [0,8,1,2,3,4,5,6,7] Q Q)<|d6 0 0 0 10 [] Q Q Q Q Q (fun _=>dF) fun x7 _=>N3 s5 [0,8,1,2,3,4,5,6,7] Q Q
theorem VT{l:List bB}{w_ i:Int}{s1:AC}(h1:bL κ s1 l):V0 Tryz.prog κ 274 (HB l w_ i) [.h s1 l.length,I w_,I i] .b:=
 dW tok Tryz.call274 Tryz.func274 Tryz.results274 Q Q<|d5 0 0 DE [] 6 [] Q (c0 Q (fun _=>fQ) fun x2=>eP [8,9] Q Q (OG WM Q h1 Q fun x3 s2 h2=>c0 Q (fun _=>cV) fun x4=>cQ [] Q Q)<|cQ [] Q Q) fun x1=>dE Q Q
theorem aAJ{r_:dO}{e_:Int}:V0 Tryz.prog κ 276 (OJ r_ e_) [.g [I r_.Handle,I r_.aJ],I e_] .b:=
 dW tok Tryz.call276 Tryz.func276 Tryz.results276 Q Q<|d5 0 1 IW [] 4 [] Q (eP [6,7] Q Q (cQ [] Q Q)<|cQ [] Q Q) fun x1=>dE Q Q
theorem U5{s:Sub}{b:aA}{w_:Int}{s1 s2 s3 s4 s5 s6 s7:AC}{b0 b1:Nat×Nat}:VS Tryz.prog κ 275 (pE s b w_) [.p 0 0,.p 1 0,I w_] [b0,b1] ([.box 0 [I s.Kind,I s.A,I s.Pc,I s.E,I s.Row,I s.B,I s.H,I s.Out,I s.Code,.b s.cW],.box 1 (gB b s1 s2 s3 s4 s5 s6 s7)]++(oB b s1 s2 s3 s4 s5 s6 s7 [])) (fun(r:Sub×aA) (y:Unit)=>.t []) (fun(r:Sub×aA) (y:Unit)=>([.box 0 [I r.1.Kind,I r.1.A,I r.1.Pc,I r.1.E,I r.1.Row,I r.1.B,I r.1.H,I r.1.Out,I r.1.Code,.b r.1.cW],.box 1 (gB r.2 s1 s2 s3 s4 s5 s6 s7)]++(oB r.2 s1 s2 s3 s4 s5 s6 s7 []))):=
 dW tok Tryz.call275 Tryz.func275 Tryz.results275 Q Q<|fun hF=>a7N Q Q Q Q<|wi hF<|PG 6 [0,1,2] [0,2,3,4,5,6,7,8,1] Out.brk [0,1] [0,2,3,4,5,6,7,8,1] Q Q (fun hF1 x2 hr1=>nQ FK 6 Q Q Q fun x4 h1 s8 h2=>fun hG1=>iS 2 h2 h1 Q Q Q Q Q<|wi hG1<|b8 [23] Q Q (fun hG1=>iS 2 h2 h1 Q Q Q Q Q<|wi hG1<|nQ KL 12 Q Q Q fun x5 h3 _ h4=>fun hG1=>iS 3 h4 h3 Q Q Q Q Q<|wi hG1<|nZ aO [0,8,11,15,16] Q<|c0 Q (fun _=>aAJ) fun x6=>b8 [42] Q Q (nZ aO [8,11,15,16] Q<|fun hG1=>sR Q<|jR KL 13 [] h3 () Q Q Q Q Q Q Q<|jR FK 9 [17] h1 s8 Q Q Q Q Q Q Q<|tF (hT:=tok) () [0,8,1,2,3,4,5,18,7] (re hG1 Q hr1 hF1) Q Tryz.results275 Q Q Q Q)<|fun hG1=>sF Q<|jR KL 13 [] h3 () Q Q Q Q Q Q Q<|jR FK 9 [17] h1 s8 Q Q Q Q Q Q Q<|nxR () [0,1,2,3,4,5,18,7,8] hG1 Q)<|fun hG1=>sX Q<|jR FK 9 [12] h1 s8 Q Q Q Q Q Q Q<|bkR () [0,1,2,3,4,5,13,7,8] hG1 hr1 Q)<|wm (F:=HC s b) Q<|d6 0 0 0 10 [] Q Q Q Q Q (fun _=>dF) fun x3 _=>N3 () [0,8,1,2,3,4,5,6,7] Q Q
theorem TA{s:List dO}{i j:Int}{s1:AC}:VS Tryz.prog κ 333 (BX s i j) [.h s1 s.length,I i,I j] [] [ow s1 (s:List dO)] (fun(r:(List dO)) (y:AC)=>.h y r.length) (fun(r:(List dO)) (y:AC)=>[ow y r]):=
 dW tok Tryz.call333 Tryz.func333 Tryz.results333 Q Q<|fun hF=>cpc 0 Q Q fun hc1=>aWO hc1 Q Q Q Q Q Q Q Q hF fun hF h1=>wi hF<|b8 [16] Q Q (nP s1 [0] Q Q)<|nZ aO [] Q<|fun hF=>aS2 hc1 Q Q Q Q Q Q hF fun hF h2=>aM5 hc1 Q Q Q Q Q Q hF fun hF h3=>nd hF fun hab hF=>ap2 0 i.toNat j.toNat ⟨hab,h3.1⟩ Q Q Q Q Q Q Q Q Q fun h4=>a2I 0 (i.toNat+(s.length - j.toNat)) h4.2 (CR h4.1 h4.2) Q Q Q Q Q Q Q Q Q hF fun hF h5=>clr 0 (((((dQ s i.toNat (s.drop j.toNat)).take (i.toNat+(s.length - j.toNat))).drop 0).length:Int).toNat) ((s.length:Int).toNat) ((⟨0,0⟩:dO):dO) h5 wT Q (fun _=>(a0H (⟨0,0⟩:dO))) Q Q Q Q Q Q Q Q<|sR Q<|poR 0 0 (i.toNat+(s.length - j.toNat)) Q Q (aWN h4 (Nat.le_trans h5.1 h5.2)) (aRY (Nat.le_of_eq (by rw [Int.toNat_natCast,CR h4.1 h4.2];rfl)) (Nat.le_trans h5.1 h5.2))<|tF (hT:=tok) (AC.sub s1 2 0) [0] hF Q Tryz.results333 Q Q Q Q
theorem aFG{l:List bB}{w_ i:Int}{s1:AC}(h1:bL κ s1 l):VS Tryz.prog κ 277 (IX l w_ i) [.h s1 l.length,I w_,I i] [] [] (fun r (y:AC)=>.t [.h y r.1.length,.b r.2]) (fun r y=>[ow y r.1]):=
 dW tok Tryz.call277 Tryz.func277 Tryz.results277 Q Q<|c1 Q (fun h=>rM (h.a h1)) fun x1 s2=>d5 0 0 (BD w_ i x1) [1,2,8] 20 [0] Q (c0 Q (fun h=>EC (h.a h1)) fun x5=>eP [13,14] Q Q (cQ [0] Q Q)<|c0 Q (fun h=>VT (h.a h1)) fun x6=>cQ [0] Q Q) fun x2=>b8 [20] Q Q (nP s2 [0] Q Q)<|nQ FK 0 Q Q Q fun x3 h2 s3 h3=>fun hF=>iS 0 h3 h2 Q Q Q Q Q<|wi hF<|aEJ [4] Q Q Q Q (fun _=>TA) fun x4 s4=>fun hF=>iS 0 h3 h2 Q Q Q Q Q<|sR Q<|pY FK 1 [5] [6,8,22,24,35] (⟨x4⟩:bB) s4 Q Q Q Q Q Q Q Q<|tF (hT:=tok) s2 [6] hF Q Tryz.results277 Q Q Q Q
theorem aIB{h:aE}{slot gen:Int}{s1 s2:AC}(h1:bL κ s1 h.Bytes)(h2:bL κ s2 h.Class):VS Tryz.prog κ 334 (SN h slot gen) [.g [.h s1 h.Bytes.length,.h s2 h.Class.length],I slot,I gen] [] [] (fun r (y:AC×AC)=>.t [.g [.h y.1 r.1.Bytes.length,.h y.2 r.1.Class.length],.b r.2]) (fun r y=>[ow y.1 r.1.Bytes,ow y.2 r.1.Class]):=
 dW tok Tryz.call334 Tryz.func334 Tryz.results334 Q Q<|iT 0 3 (fun(p:Int×(List Int)×(List Int))=>J8 slot gen p.1 p.2.1 p.2.2) [1,2,6] (fun(p:Int×(List Int)×(List Int)) (u:AC×AC)=>[(8,.p 2 0),(9,I p.1)]) [1] (fun p u=>[ow u.1 (p.2.1:List Int),ow u.2 (p.2.2:List Int),.box 2 [.h u.1 p.2.1.length,.h u.2 p.2.2.length]]) Q (nZ aO [0,1] Q<|fun hF=>bd hF fun x10 hA4 hF=>bd hF fun x11 hA5 hF=>hC Q Q (have hq9:=rb hA4;wi hq9<|c1 Q (fun h=>BN (h.a h1) (h.a h2)) fun u9 s6=>fun hq9=>match u9,hq9 with | _,rfl=>hC Q Q (have hq10:=rb hA5;wi hq10<|c0 Q (fun h=>wV (h.a h1) (h.a h2)) fun u10=>fun hq10=>match u10,hq10 with | _,rfl=>wi hF<|pR (p:=(x11,x10.Bytes,x10.Class)) (s6.1,s6.2) [2,3,4,1] Q Q) (have hq11:=rb hA5;wi hq11<|c0 Q (fun h=>wV (h.a h1) (h.a h2)) fun u11=>fun hq11=>match u11,hq11 with | _,rfl=>wi hF<|pR (p:=(x11,x10.Bytes,x10.Class)) (s6.1,s6.2) [2,3,4,1] Q Q)) (have hq12:=rb hA4;wi hq12<|c1 Q (fun h=>BN (h.a h1) (h.a h2)) fun u12 s7=>fun hq12=>match u12,hq12 with | _,rfl=>have hq13:=rb hA5;wi hq13<|c0 Q (fun h=>wV (h.a h1) (h.a h2)) fun u13=>fun hq13=>match u13,hq13 with | _,rfl=>wi hF<|pR (p:=(x11,x10.Bytes,x10.Class)) (s7.1,s7.2) [3,4,2,1] Q Q)) fun⟨x1,x2,x3⟩ ⟨s3,s4⟩=>d5 0 3 (DF slot gen x1 x2 x3) [1,2,6,8,9] 21 [3,0,1,2] Q (eP [16,17] Q Q (cQ [3,0,1,2] Q Q)<|c0 Q (fun _=>cV) fun x9=>cQ [3,0,1,2] Q Q) fun x4=>b8 [21] Q Q (nP (s3,s4) [1,2] Q Q)<|iT 0 3 (J7 x3) [6,8] (fun(x5:(List Int)) (_:Unit)=>[]) [0,2] (fun x5 _=>[ow s3 (x5:List Int),.box 2 [.h s3 x5.length,.h s4 x3.length]]) Q (nZ aO [0] Q<|fun hF=>bd hF fun x6 hA1 hF=>bd hF fun x7 hA2 hF=>bd hF fun x8 hA3 hF=>hC Q Q (have hq1:=rb hA1;wi hq1<|c0 Q (fun _=>sV) fun u1=>fun hq1=>match u1,hq1 with | _,rfl=>have hq2:=rb hA2;wi hq2<|c0 Q (fun _=>sW) fun u2=>fun hq2=>match u2,hq2 with | _,rfl=>have hq3:=rb hA3;wi hq3<|aEJ [1] Q Q Q Q (fun _=>mV) fun u3 _=>fun hq3=>un 4 [24] [] [(3,0)] Q Q Q Q Q Q fun hl2=>match u3,hq3 with | _,rfl=>wi hF<|cQ (p:=(x8)) [4,3,0,2] Q Q) (have hq4:=rb hA1;wi hq4<|c0 Q (fun _=>sV) fun u4=>fun hq4=>match u4,hq4 with | _,rfl=>hC Q Q (have hq5:=rb hA2;wi hq5<|c0 Q (fun _=>sW) fun u5=>fun hq5=>match u5,hq5 with | _,rfl=>have hq6:=rb hA3;wi hq6<|aEJ [1] Q Q Q Q (fun _=>mV) fun u6 _=>fun hq6=>un 4 [24] [] [(3,0)] Q Q Q Q Q Q fun hl3=>match u6,hq6 with | _,rfl=>wi hF<|cQ (p:=(x8)) [4,3,0,2] Q Q) (have hq7:=rb hA2;wi hq7<|c0 Q (fun _=>sW) fun u7=>fun hq7=>match u7,hq7 with | _,rfl=>have hq8:=rb hA3;wi hq8<|aEJ [1] Q Q Q Q (fun _=>mV) fun u8 _=>fun hq8=>un 4 [24] [] [(3,0)] Q Q Q Q Q Q fun hl4=>match u8,hq8 with | _,rfl=>wi hF<|cQ (p:=(x8)) [4,3,0,2] Q Q))) fun x5 _=>nP (s3,s4) [0,3] Q Q
theorem aNF{l:aD}{w_ c slot:Int}{s1 s2:AC}(h1:bL κ s1 l.Global)(h2:bL κ s2 l.cT):VS Tryz.prog κ 335 (ZF l w_ c slot) [.g [.h s1 l.Global.length,.h s2 l.cT.length],I w_,I c,I slot] [] [] (fun r (y:AC×AC)=>.t [.g [.h y.1 r.1.Global.length,.h y.2 r.1.cT.length],.b r.2]) (fun r y=>[ow y.1 r.1.Global,ow y.2 r.1.cT]):=
 dW tok Tryz.call335 Tryz.func335 Tryz.results335 Q Q<|c1 Q (fun h=>jM (h.a h1) (h.a h2)) fun x1 s3=>c0 Q (fun _=>XY) fun x2=>d5 0 3 (xR c slot x1 x2) [2,3,8,10,11] 34 [1,2,3,4] Q (c0 Q (fun h=>EB (h.a h1) (h.a h2)) fun x6=>eP [20,21] Q Q (cQ [1,2,3,4] Q Q)<|eP [23,24,25] Q Q (cQ [1,2,3,4] Q Q)<|c0 Q (fun _=>GQ) fun x7=>eP [28,29,30] Q Q (cQ [1,2,3,4] Q Q)<|c0 Q (fun h=>VR (h.a h1) (h.a h2)) fun x8=>cQ [1,2,3,4] Q Q) fun x3=>b8 [34] Q Q (nP (s3.1,s3.2) [1,2] Q Q)<|nQ uS 2 Q Q Q fun x4 h3 s4 h4=>fun hF=>iS 3 h4 h3 Q Q Q Q Q<|wi hF<|b8 [45] Q Q (nQ uS 1 Q Q Q fun x5 h5 s5 h6=>fun hF=>iS 4 h6 h5 Q Q Q Q Q<|lt1 Q aW Q Q Q Q fun s6=>ap 11 aW Q Q Q Q Q Q Q (fun h=>(h.o 12 Q)) Q Q hF fun hF s7=>sR Q<|pY uS 8 [11] [47] (⟨x5.aS++([slot])⟩:aR) s7 Q Q Q Q Q Q Q Q<|vA s3.1 List.length_set.symm [(60,0)] [(0,0),(3,0)] Q Q Q<|jR uS 4 [7] h3 s4 Q Q Q Q Q Q Q<|fR Q Q<|tF (hT:=tok) (s3.1,s3.2) [13,14] hF Q Tryz.results335 Q Q Q Q)<|fun hF=>lt1 Q aW Q Q Q Q fun s8=>ap 7 aW Q Q Q Q Q Q Q (fun h=>(h.o 8 Q)) Q Q hF fun hF s9=>sR Q<|pY uS 4 [7] [37] (⟨x4.aS++([slot])⟩:aR) s9 Q Q Q Q Q Q Q Q<|vA s3.2 List.length_set.symm [(60,1)] [(0,1),(3,1)] Q Q Q<|fR Q Q<|tF (hT:=tok) (s3.1,s3.2) [1,9] hF Q Tryz.results335 Q Q Q Q
theorem aKY{m:Mem}{w_ h:Int}{s1 s2 s3 s4:AC}(h1:bL κ s1 m.aE.Bytes)(h2:bL κ s2 m.aE.Class)(h3:bL κ s3 m.aD.Global)(h4:bL κ s4 m.aD.cT):VS Tryz.prog κ 278 (PQ m w_ h) [.g (gM m s1 s2 s3 s4),I w_,I h] [] [] (fun r (y:A4C)=>.g (yM r y)) (fun r y=>(zM r y [])):=
 dW tok Tryz.call278 Tryz.func278 Tryz.results278 Q Q<|c1 Q (fun h=>aIB (h.a h1) (h.a h2)) fun x1 s5=>iT 0 4 (MY m w_ h) [1,3,6,7,8] (fun(x2:Mem) (u:AC×AC)=>[(11,.p 3 0)]) [0,1] (fun x2 u=>(oM x2 s5.1 s5.2 u.1 u.2 [.box 3 (gM x2 s5.1 s5.2 u.1 u.2)])) Q (nZ aO [0,1,4] Q<|fun hF=>bd hF fun x6 hA1 hF=>hC Q Q (have hq1:=rb hA1;wi hq1<|c1 Q (fun h=>jM (h.a h3) (h.a h4)) fun u1 s12=>fun hq1=>match u1,hq1 with | _,rfl=>wi hF<|pR (p:=((⟨x1.1,x6⟩:Mem))) (s12.1,s12.2) [2,3,5,6,7,0,1] Q Q) (have hq2:=rb hA1;wi hq2<|c1 Q (fun h=>jM (h.a h3) (h.a h4)) fun u2 s13=>fun hq2=>match u2,hq2 with | _,rfl=>wi hF<|pR (p:=((⟨x1.1,x6⟩:Mem))) (s13.1,s13.2) [2,3,6,7,5,0,1] Q Q)) fun x2 ⟨s6,s7⟩=>iT 0 4 MX [6,11] (fun(x3:Mem) (u:AC×AC)=>[]) [6] (fun x3 u=>(oM x3 s5.1 s5.2 u.1 u.2 [.box 3 (gM x3 s5.1 s5.2 u.1 u.2)])) Q (b8 [31] Q Q (nZ aO [5,6] Q<|c0 Q (fun h=>wU (h.a h1) (h.a h2)) fun x4=>c1 Q (fun h=>aNF (h.a h3) (h.a h4)) fun x5 s10=>pR (s10.1,s10.2) [0,1,7,8,4,6] Q Q)<|pR (s6,s7) [0,1,2,3,4,6] Q Q) fun x3 ⟨s8,s9⟩=>nP (s5.1,s5.2,s8,s9) [0,1,2,3] Q Q
theorem P9{s:Sub}{b:aA}{w_:Int}{s1 s2 s3 s4 s5 s6 s7:AC}{b0 b1:Nat×Nat}:VS Tryz.prog κ 188 (pG s b w_) [.p 0 0,.p 1 0,I w_] [b0,b1] ([.box 0 [I s.Kind,I s.A,I s.Pc,I s.E,I s.Row,I s.B,I s.H,I s.Out,I s.Code,.b s.cW],.box 1 (gB b s1 s2 s3 s4 s5 s6 s7)]++(oB b s1 s2 s3 s4 s5 s6 s7 [])) (fun(r:Sub×aA) (y:A5C)=>.t []) (fun(r:Sub×aA) (y:A5C)=>([.box 0 [I r.1.Kind,I r.1.A,I r.1.Pc,I r.1.E,I r.1.Row,I r.1.B,I r.1.H,I r.1.Out,I r.1.Code,.b r.1.cW],.box 1 (gB r.2 y.1 y.2.1 y.2.2.1 y.2.2.2.1 s5 y.2.2.2.2 s7)]++(oB r.2 y.1 y.2.1 y.2.2.1 y.2.2.2.1 s5 y.2.2.2.2 s7 []))):=
 dW tok Tryz.call188 Tryz.func188 Tryz.results188 Q Q<|d5 0 2 (fW s b w_) [0,1,2] 6 [0,2,3,4,5,6,7,8,1] Q (nZ aO [0,1] Q<|c0 Q (fun h=>VT (h.o 7 Q)) fun x13=>eP [16,17] Q Q (nQ FK 7 Q Q Q fun x14 h7 s11 h8=>fun hF=>iS 2 h8 h7 Q Q Q Q Q<|wi hF<|nQ KL 12 Q Q Q fun x15 h9 _ h10=>fun hF=>iS 3 h10 h9 Q Q Q Q Q<|sF Q<|jR KL 13 [] h9 () Q Q Q Q Q Q Q<|jR FK 9 [16] h7 s11 Q Q Q Q Q Q Q<|kK () [0,2,3,4,5,6,17,8,1] hF Q)<|cQ [0,2,3,4,5,6,7,8,1] Q Q) fun x1=>b8 [41,46] Q Q (N3 (s1,s2,s3,s4,s6) [0,8,1,2,3,4,5,6,7] Q Q)<|b8 [61,66] Q Q (aAR 0 0 0 10 8 1 0 8 [1,2,3,4,5,6,7] Q Q Q Q Q (fun _=>U5) fun x2 _=>N3 (s1,s2,s3,s4,s6) [0,8,9,10,11,12,13,14,15] Q Q)<|d5 0 2 (eU s b w_ x1) [0,1,2,6] 71 [0,1,2,3,4,5,6,7,8] Q (eP [76,77] Q Q (c0 Q (fun _=>fQ) fun x12=>eP [82,83,84] Q Q (cQ [0,1,2,3,4,5,6,7,8] Q Q)<|cQ [0,1,2,3,4,5,6,7,8] Q Q)<|cQ [0,1,2,3,4,5,6,7,8] Q Q) fun x3=>b8 [71] Q Q (nZ aO [0,8] Q<|nQ oI 7 Q Q Q fun x4 h1 _ h2=>fun hF=>iS 2 h2 h1 Q Q Q Q Q<|wi hF<|b8 [101] Q Q (fun hF=>sR Q<|jR oI 9 [] h1 () Q Q Q Q Q Q Q<|tF (hT:=tok) (s1,s2,s3,s4,s6) [0,8,1,2,3,4,5,6,12] hF Q Tryz.results188 Q Q Q Q)<|b8 [124] Q Q (fun hF=>sF Q<|jR oI 9 [] h1 () Q Q Q Q Q Q Q<|tF (hT:=tok) (s1,s2,s3,s4,s6) [0,8,1,2,3,4,5,6,12] hF Q Tryz.results188 Q Q Q Q)<|fun hF=>sF Q<|jR oI 9 [] h1 () Q Q Q Q Q Q Q<|tF (hT:=tok) (s1,s2,s3,s4,s6) [0,8,1,2,3,4,5,6,12] hF Q Tryz.results188 Q Q Q Q)<|d5 0 2 (dX s b w_) [0,1,2] 128 [0,1,2,3,4,5,6,7,8] Q (nZ aO [0,8] Q<|eP [133,134] Q Q (eP [6,135,136,137] Q Q (nQ FK 6 Q Q Q fun x9 h3 s10 h4=>fun hF=>iS 2 h4 h3 Q Q Q Q Q<|wi hF<|nQ KL 12 Q Q Q fun x10 h5 _ h6=>fun hF=>iS 3 h6 h5 Q Q Q Q Q<|wi hF<|c0 Q (fun _=>aAJ) fun x11=>fun hF=>sF Q<|jR KL 13 [] h5 () Q Q Q Q Q Q Q<|jR FK 9 [16] h3 s10 Q Q Q Q Q Q Q<|kK () [0,1,2,3,4,5,17,7,8] hF Q)<|cQ [0,1,2,3,4,5,6,7,8] Q Q)<|cQ [0,1,2,3,4,5,6,7,8] Q Q) fun x5=>b8 [128] Q Q (nZ aO [0] Q<|c1 Q (fun h=>aFG (h.o 6 Q)) fun x6 s8=>nZ aO [0] Q<|c1 Q (fun h=>aKY (h.o 1 Q) (h.o 2 Q) (h.o 3 Q) (h.o 4 Q)) fun x7 s9=>N3 (s9.1,s9.2.1,s9.2.2.1,s9.2.2.2,s8) [0,8,10,11,12,13,5,9,7] Q Q)<|d6 0 0 0 10 [] Q Q Q Q Q (fun _=>dF) fun x8 _=>N3 (s1,s2,s3,s4,s6) [0,8,1,2,3,4,5,6,7] Q Q
theorem X0{c:aC}{w_ e_:Int}{s1:AC}(h1:bL κ s1 c.cK):VS Tryz.prog κ 279 (PR c w_ e_) [.g [I c.aJ,.h s1 c.cK.length],I w_,I e_] [] [] (fun r (y:AC)=>.t [.g [I r.1.aJ,.h y r.1.cK.length],.b r.2]) (fun r y=>[ow y r.1.cK]):=
 dW tok Tryz.call279 Tryz.func279 Tryz.results279 Q Q<|c1 Q (fun h=>rL (h.a h1)) fun x1 s2=>d5 0 3 (zX w_ e_ x1) [1,2,6,8] 25 [1,2,3] Q (c0 Q (fun h=>wW (h.a h1)) fun x4=>eP [13,14] Q Q (cQ [1,2,3] Q Q)<|c0 Q (fun _=>fQ) fun x5=>eP [17,18,19] Q Q (cQ [1,2,3] Q Q)<|c0 Q (fun _=>cV) fun x6=>cQ [1,2,3] Q Q) fun x2=>b8 [25] Q Q (nP s2 [1] Q Q)<|nQ LJ 1 Q Q Q fun x3 h2 _ h3=>fun hF=>iS 3 h3 h2 Q Q Q Q Q<|sR Q<|pY LJ 3 [] [28] (⟨true,e_,false,0⟩:qA) () Q Q Q Q Q Q Q Q<|vA s2 List.length_set.symm [(33,1)] [(0,1),(2,1)] Q Q Q<|fR Q Q<|tF (hT:=tok) s2 [6] hF Q Tryz.results279 Q Q Q Q
theorem WT{s:Sub}{b:aA}{w_:Int}{s1 s2 s3 s4 s5 s6 s7:AC}{b0 b1:Nat×Nat}:VS Tryz.prog κ 189 (xS s b w_) [.p 0 0,.p 1 0,I w_] [b0,b1] ([.box 0 [I s.Kind,I s.A,I s.Pc,I s.E,I s.Row,I s.B,I s.H,I s.Out,I s.Code,.b s.cW],.box 1 (gB b s1 s2 s3 s4 s5 s6 s7)]++(oB b s1 s2 s3 s4 s5 s6 s7 [])) (fun(r:Sub×aA) (y:AC)=>.t []) (fun(r:Sub×aA) (y:AC)=>([.box 0 [I r.1.Kind,I r.1.A,I r.1.Pc,I r.1.E,I r.1.Row,I r.1.B,I r.1.H,I r.1.Out,I r.1.Code,.b r.1.cW],.box 1 (gB r.2 s1 s2 s3 s4 y s6 s7)]++(oB r.2 s1 s2 s3 s4 y s6 s7 []))):=
 dW tok Tryz.call189 Tryz.func189 Tryz.results189 Q Q<|b8 [14,15] Q Q (N3 s5 [0,1,2,3,4,5,6,7,8] Q Q)<|b8 [27,28] Q Q (iT 0 3 (fun(p:Bool×Int×(List qA))=>zF s b p.1 p.2.1 p.2.2) [0,1] (fun(p:Bool×Int×(List qA)) (s8:AC)=>[(6,.p 2 0),(7,.b p.1)]) [0,2,3,4,5,6,7,8,1] (fun p s8=>[ow s8 (p.2.2:List qA),.box 2 [I p.2.1,.h s8 p.2.2.length]]) Q (nZ aO [0,1] Q<|fun hF=>bd hF fun x5 hA1 hF=>hC Q Q (have hq1:=rb hA1;wi hq1<|c1 Q (fun h=>X0 (h.o 6 Q)) fun u1 s10=>fun hq1=>match u1,hq1 with | _,rfl=>wi hF<|pR (p:=(x5.2,x5.1.aJ,x5.1.cK)) s10 [9,10,0,2,3,4,5,6,7,8,1] Q Q) (have hq2:=rb hA1;wi hq2<|c1 Q (fun h=>X0 (h.o 6 Q)) fun u2 s11=>fun hq2=>match u2,hq2 with | _,rfl=>wi hF<|pR (p:=(x5.2,x5.1.aJ,x5.1.cK)) s11 [10,9,0,2,3,4,5,6,7,8,1] Q Q)) fun⟨x1,x2,x3⟩ s8=>b8 [43] Q Q (d6 2 0 0 10 [] Q Q Q Q Q (fun _=>dF) fun x4 _=>nP s5 [2,10,3,4,5,6,7,8,9] Q Q)<|N3 s8 [2,10,3,4,5,6,0,8,9] Q Q)<|b8 [53,54] Q Q (nZ aO [0,1] Q<|b8 [64] Q Q (d6 0 0 0 10 [] Q Q Q Q Q (fun _=>dF) fun x6 _=>N3 s5 [0,1,2,3,4,5,6,7,8] Q Q)<|N3 s5 [0,1,2,3,4,5,6,7,8] Q Q)<|d6 0 0 0 10 [] Q Q Q Q Q (fun _=>dF) fun x7 _=>N3 s5 [0,1,2,3,4,5,6,7,8] Q Q
theorem oR{s:Sub}{b:aA}{w_:Int}{s1 s2 s3 s4 s5 s6 s7:AC}{b0 b1:Nat×Nat}:VS Tryz.prog κ 92 (kT s b w_) [.p 0 0,.p 1 0,I w_] [b0,b1] ([.box 0 [I s.Kind,I s.A,I s.Pc,I s.E,I s.Row,I s.B,I s.H,I s.Out,I s.Code,.b s.cW],.box 1 (gB b s1 s2 s3 s4 s5 s6 s7)]++(oB b s1 s2 s3 s4 s5 s6 s7 [])) (fun(r:Sub×aA) (y:A6C)=>.t []) (fun(r:Sub×aA) (y:A6C)=>([.box 0 [I r.1.Kind,I r.1.A,I r.1.Pc,I r.1.E,I r.1.Row,I r.1.B,I r.1.H,I r.1.Out,I r.1.Code,.b r.1.cW],.box 1 (gB r.2 y.1 y.2.1 y.2.2.1 y.2.2.2.1 y.2.2.2.2.1 y.2.2.2.2.2 s7)]++(oB r.2 y.1 y.2.1 y.2.2.1 y.2.2.2.1 y.2.2.2.2.1 y.2.2.2.2.2 s7 []))):=
 dW tok Tryz.call92 Tryz.func92 Tryz.results92 Q Q<|b8 [9] Q Q (nP (s1,s2,s3,s4,s5,s6) [0,1,2,3,4,5,6,7,8] Q Q)<|b8 [16,17] Q Q (aAR 0 0 0 10 1 1 0 8 [2,3,4,5,6,7,8] Q Q Q Q Q (fun _=>S9) fun x1 s8=>N3 (s8.1,s8.2.1,s8.2.2.1,s8.2.2.2,s5,s6) [0,1,9,10,11,12,13,14,15] Q Q)<|b8 [22,23] Q Q (aAR 0 0 0 10 1 1 0 8 [2,3,4,5,6,7,8] Q Q Q Q Q (fun _=>R2) fun x2 s9=>N3 (s1,s2,s3,s4,s5,s9) [0,1,9,10,11,12,13,14,15] Q Q)<|b8 [28,29] Q Q (aAR 0 0 0 10 1 1 0 8 [2,3,4,5,6,7,8] Q Q Q Q Q (fun _=>P8) fun x3 s10=>N3 (s1,s2,s3,s4,s10,s6) [0,1,9,10,11,12,13,14,15] Q Q)<|b8 [33,34] Q Q (aAR 0 0 0 10 1 1 0 8 [2,3,4,5,6,7,8] Q Q Q Q Q (fun _=>P9) fun x4 s11=>N3 (s11.1,s11.2.1,s11.2.2.1,s11.2.2.2.1,s5,s11.2.2.2.2) [0,1,9,10,11,12,13,14,15] Q Q)<|b8 [39,40] Q Q (aAR 0 0 0 10 1 1 0 8 [2,3,4,5,6,7,8] Q Q Q Q Q (fun _=>WT) fun x5 s12=>N3 (s1,s2,s3,s4,s12,s6) [0,1,9,10,11,12,13,14,15] Q Q)<|d6 0 0 0 10 [] Q Q Q Q Q (fun _=>dF) fun x6 _=>N3 (s1,s2,s3,s4,s5,s6) [0,1,2,3,4,5,6,7,8] Q Q
theorem fK{j:bD}{pc:Int}{b0:Nat×Nat}:VS Tryz.prog κ 211 (dU j pc) [.p 0 0,I pc] [b0] [.box 0 [.b j.cY,I j.Op.Kind,I j.Op.Cell,I j.Op.gP,I j.Op.dK,I j.aI,I j.Pc,I j.Sub.Kind,I j.Sub.A,I j.Sub.Pc,I j.Sub.E,I j.Sub.Row,I j.Sub.B,I j.Sub.H,I j.Sub.Out,I j.Sub.Code,.b j.Sub.cW,I j.H,I j.Old,I j.dK,I j.Code]] (fun(r:bD) (y:Unit)=>.t []) (fun(r:bD) (y:Unit)=>[.box 0 [.b r.cY,I r.Op.Kind,I r.Op.Cell,I r.Op.gP,I r.Op.dK,I r.aI,I r.Pc,I r.Sub.Kind,I r.Sub.A,I r.Sub.Pc,I r.Sub.E,I r.Sub.Row,I r.Sub.B,I r.Sub.H,I r.Sub.Out,I r.Sub.Code,.b r.Sub.cW,I r.H,I r.Old,I r.dK,I r.Code]]):=
 dW tok Tryz.call211 Tryz.func211 Tryz.results211 Q Q<|N3 () [0] Q Q
theorem aFH{slot c:Int}:V0 Tryz.prog κ 350 (IY slot c) [I slot,I c] I:=
 dW tok Tryz.call350 Tryz.func350 Tryz.results350 Q Q<|c0 Q (fun _=>sV) fun x1=>b8 [10] Q Q (dE Q Q)<|dE Q Q
theorem aFI{slot c:Int}:V0 Tryz.prog κ 340 (PT slot c) [I slot,I c] (fun r=>.g [I r.aWW,I r.To]):=
 dW tok Tryz.call340 Tryz.func340 Tryz.results340 Q Q<|c0 Q (fun _=>aFH) fun x1=>b8 [10] Q Q (dE Q Q)<|c0 Q (fun _=>ND) fun x2=>dE Q Q
theorem EE{h:aE}{slot at_ width:Int}{s1 s2:AC}(h1:bL κ s1 h.Bytes)(h2:bL κ s2 h.Class):V0 Tryz.prog κ 295 (xU h slot at_ width) [.g [.h s1 h.Bytes.length,.h s2 h.Class.length],I slot,I at_,I width] I:=
 dW tok Tryz.call295 Tryz.func295 Tryz.results295 Q Q<|c0 Q (fun h=>wU (h.a h1) (h.a h2)) fun x1=>c0 Q (fun _=>aFI) fun x2=>c0 Q (fun _=>cV) fun x3=>b8 [24] Q Q (dE Q Q)<|dE Q Q
theorem aIC{m:Mem}{h at_ width:Int}{s1 s2 s3 s4:AC}(h1:bL κ s1 m.aE.Bytes)(h2:bL κ s2 m.aE.Class)(h3:bL κ s3 m.aD.Global)(h4:bL κ s4 m.aD.cT):V0 Tryz.prog κ 293 (SO m h at_ width) [.g (gM m s1 s2 s3 s4),I h,I at_,I width] (fun r=>.t [I r.1,I r.2]):=
 dW tok Tryz.call293 Tryz.func293 Tryz.results293 Q Q<|d5 0 1 (DG m h at_ width) [1,2,3,4] 11 [0] Q (c0 Q (fun h=>XW (h.a h1) (h.a h2) (h.a h3) (h.a h4)) fun x5=>eP [14,15] Q Q (cQ [0] Q Q)<|c0 Q (fun _=>KO) fun x6=>cQ [0] Q Q) fun x1=>b8 [11] Q Q (dE Q Q)<|c0 Q (fun h=>NH (h.a h1) (h.a h2) (h.a h3) (h.a h4)) fun x2=>b8 [20,24] Q Q (dE Q Q)<|c0 Q (fun h=>EE (h.a h1) (h.a h2)) fun x3=>b8 [33] Q Q (dE Q Q)<|c0 Q (fun h=>EA (h.a h1)) fun x4=>dE Q Q
theorem lE{m:Mem}{h at_ width n:Int}{s1 s2 s3 s4:AC}(h1:bL κ s1 m.aE.Bytes)(h2:bL κ s2 m.aE.Class)(h3:bL κ s3 m.aD.Global)(h4:bL κ s4 m.aD.cT):VS Tryz.prog κ 212 (IZ m h at_ width n) [.g (gM m s1 s2 s3 s4),I h,I at_,I width,I n] [] [] (fun r (y:A4C)=>.t [.g (yM r.1 y),I r.2]) (fun r y=>(zM r.1 y [])):=
 dW tok Tryz.call212 Tryz.func212 Tryz.results212 Q Q<|c1 Q (fun h=>S8 (h.a h1) (h.a h2) (h.a h3) (h.a h4)) fun x1 s5=>c0 Q (fun _=>sW) fun x2=>c0 Q (fun h=>aIC (h.a h1) (h.a h2) (h.a h3) (h.a h4)) fun x3=>b8 [30] Q Q (nP s5 [2,3,4,5] Q Q)<|b8 [34] Q Q (nP s5 [2,3,4,5] Q Q)<|iT 0 3 Q1 [10,12] (fun(x4:Mem) (_:Unit)=>[]) [1] (fun x4 _=>(zM x4 s5 [.box 2 (yM x4 s5)])) Q (nZ aO [0,1] Q<|fun hF=>bd hF fun x5 hA1 hF=>bd hF fun x6 hA2 hF=>hC Q Q (have hq1:=rb hA1;wi hq1<|c0 Q (fun h=>EE (h.a h1) (h.a h2)) fun u1=>fun hq1=>match u1,hq1 with | _,rfl=>have hq2:=rb hA2;wi hq2<|aEJ [2] Q Q Q Q (fun _=>mV) fun u2 _=>fun hq2=>un 7 [38] [(17,0)] [(6,0)] Q Q Q Q Q Q fun hl2=>match u2,hq2 with | _,rfl=>wi hF<|cQ (p:=((⟨(⟨x6,x1.aE.Class⟩:aE),x1.aD⟩:Mem))) [7,3,4,5,6,1] Q Q) (have hq3:=rb hA1;wi hq3<|c0 Q (fun h=>EE (h.a h1) (h.a h2)) fun u3=>fun hq3=>match u3,hq3 with | _,rfl=>have hq4:=rb hA2;wi hq4<|aEJ [2] Q Q Q Q (fun _=>mV) fun u4 _=>fun hq4=>un 7 [38] [(17,0)] [(6,0)] Q Q Q Q Q Q fun hl3=>match u4,hq4 with | _,rfl=>wi hF<|cQ (p:=((⟨(⟨x6,x1.aE.Class⟩:aE),x1.aD⟩:Mem))) [7,3,4,5,6,1] Q Q)) fun x4 _=>nP s5 [0,1,2,3] Q Q
theorem ZQ{s:aB}{w_:Int}{s1 s2 s3 s4 s5 s6 s7 s8 s9 s10 s11:AC}{b0:Nat×Nat}:VS Tryz.prog κ 120 (DK s w_) [.p 0 0,I w_] [b0] ([.box 0 (gS s s1 s2 s3 s4 s5 s6 s7 s8 s9 s10 s11)]++(oS s s1 s2 s3 s4 s5 s6 s7 s8 s9 s10 s11 [])) (fun(r:aB) (y:A7C)=>.t []) (fun(r:aB) (y:A7C)=>([.box 0 (gS r y.1 y.2.1 y.2.2.1 y.2.2.2.1 y.2.2.2.2.1 y.2.2.2.2.2.1 s7 s8 s9 s10 y.2.2.2.2.2.2)]++(oS r y.1 y.2.1 y.2.2.1 y.2.2.2.1 y.2.2.2.2.1 y.2.2.2.2.2.1 s7 s8 s9 s10 y.2.2.2.2.2.2 []))):=
 dW tok Tryz.call120 Tryz.func120 Tryz.results120 Q Q<|nQ cL 9 Q Q Q fun x1 h1 _ h2=>fun hF=>iS 1 h2 h1 Q Q Q Q Q<|wi hF<|b8 [19,20] Q Q (nZ aO [14] Q<|aAR 13 1 7 10 0 0 0 8 [1,2,3,4,5,6,7] Q Q Q Q Q (fun _=>oR) fun x2 s12=>b8 [39,45] Q Q (fun hF=>sF Q<|pY cL 12 [] [10] ({x1 with Sub:=x2.1}:bD) () Q Q Q Q Q Q Q Q<|vA s9 List.length_set.symm [] [(0,9)] Q Q Q<|fR Q Q<|tF (hT:=tok) (s12.1,s12.2.1,s12.2.2.1,s12.2.2.2.1,s12.2.2.2.2.1,s12.2.2.2.2.2,s11) [0,15,16,17,18,19,20,21,8,22,10,11] hF Q Tryz.results120 Q Q Q Q)<|b8 [46,52] Q Q (d6 13 1 0 21 [] Q Q Q Q Q (fun _=>cN (j:=({x1 with Sub:=x2.1}:bD))) fun x3 _=>fun hF=>sF Q<|pY cL 12 [] [10] x3 () Q Q Q Q Q Q Q Q<|vA s9 List.length_set.symm [] [(0,9)] Q Q Q<|fR Q Q<|tF (hT:=tok) (s12.1,s12.2.1,s12.2.2.1,s12.2.2.2.1,s12.2.2.2.2.1,s12.2.2.2.2.2,s11) [0,15,16,17,18,19,20,21,8,22,10,11] hF Q Tryz.results120 Q Q Q Q)<|c0 Q (fun _=>oQ) fun x4=>b8 [60,67] Q Q (d6 13 1 0 21 [] Q Q Q Q Q (fun _=>cN (j:=({x1 with Sub:=x2.1}:bD))) fun x5 _=>fun hF=>sF Q<|pY cL 12 [] [10] x5 () Q Q Q Q Q Q Q Q<|vA s9 List.length_set.symm [] [(0,9)] Q Q Q<|fR Q Q<|tF (hT:=tok) (s12.1,s12.2.1,s12.2.2.1,s12.2.2.2.1,s12.2.2.2.2.1,s12.2.2.2.2.2,s11) [0,15,16,17,18,19,20,21,8,22,10,11] hF Q Tryz.results120 Q Q Q Q)<|d6 13 1 0 21 [] Q Q Q Q Q (fun _=>fK (j:=({x1 with Sub:=x2.1,H:=x2.1.Out}:bD))) fun x6 _=>fun hF=>sF Q<|pY cL 12 [] [10] x6 () Q Q Q Q Q Q Q Q<|vA s9 List.length_set.symm [] [(0,9)] Q Q Q<|fR Q Q<|tF (hT:=tok) (s12.1,s12.2.1,s12.2.2.1,s12.2.2.2.1,s12.2.2.2.2.1,s12.2.2.2.2.2,s11) [0,15,16,17,18,19,20,21,8,22,10,11] hF Q Tryz.results120 Q Q Q Q)<|b8 [70,71] Q Q (iT 0 3 (fun(p:Int×Mem)=>DH s w_ p.1 p.2) [0,4] (fun(p:Int×Mem) (u:A4C)=>[(5,.p 2 0),(6,I p.1)]) [1,2,3,4,5,6,7,8,10,11,0,14] (fun p u=>([ow s9 (s.aT:List bD)]++(zM p.2 u [.box 2 (yM p.2 u)]))) Q (nZ aO [0,14] Q<|fun hF=>bd hF fun x13 hA1 hF=>aPJ Q Q (hC Q Q (hC Q Q (have hq1:=rb hA1;wi hq1<|c1 Q (fun h=>lE (h.o 1 Q) (h.o 2 Q) (h.o 3 Q) (h.o 4 Q)) fun u1 s18=>fun hq1=>match u1,hq1 with | _,rfl=>sF Q<|jR cL 12 [] h1 () Q Q Q Q Q Q Q<|kK (p:=(x13.2,x13.1)) s18 [20,15,16,17,18,19,1,2,3,4,5,6,7,8,10,11,0,14] hF Q) (have hq2:=rb hA1;wi hq2<|c1 Q (fun h=>lE (h.o 1 Q) (h.o 2 Q) (h.o 3 Q) (h.o 4 Q)) fun u2 s19=>fun hq2=>match u2,hq2 with | _,rfl=>sF Q<|jR cL 12 [] h1 () Q Q Q Q Q Q Q<|kK (p:=(x13.2,x13.1)) s19 [20,16,17,18,19,15,1,2,3,4,5,6,7,8,10,11,0,14] hF Q)) (have hq3:=rb hA1;wi hq3<|c1 Q (fun h=>lE (h.o 1 Q) (h.o 2 Q) (h.o 3 Q) (h.o 4 Q)) fun u3 s20=>fun hq3=>match u3,hq3 with | _,rfl=>sF Q<|jR cL 12 [] h1 () Q Q Q Q Q Q Q<|kK (p:=(x13.2,x13.1)) s20 [20,16,17,18,19,15,1,2,3,4,5,6,7,8,10,11,0,14] hF Q)) (hC Q Q (hC Q Q (have hq4:=rb hA1;wi hq4<|c1 Q (fun h=>lE (h.o 1 Q) (h.o 2 Q) (h.o 3 Q) (h.o 4 Q)) fun u4 s21=>fun hq4=>match u4,hq4 with | _,rfl=>sF Q<|jR cL 12 [] h1 () Q Q Q Q Q Q Q<|kK (p:=(x13.2,x13.1)) s21 [20,15,16,17,18,19,1,2,3,4,5,6,7,8,10,11,0,14] hF Q) (have hq5:=rb hA1;wi hq5<|c1 Q (fun h=>lE (h.o 1 Q) (h.o 2 Q) (h.o 3 Q) (h.o 4 Q)) fun u5 s22=>fun hq5=>match u5,hq5 with | _,rfl=>sF Q<|jR cL 12 [] h1 () Q Q Q Q Q Q Q<|kK (p:=(x13.2,x13.1)) s22 [20,16,17,18,19,15,1,2,3,4,5,6,7,8,10,11,0,14] hF Q)) (have hq6:=rb hA1;wi hq6<|c1 Q (fun h=>lE (h.o 1 Q) (h.o 2 Q) (h.o 3 Q) (h.o 4 Q)) fun u6 s23=>fun hq6=>match u6,hq6 with | _,rfl=>sF Q<|jR cL 12 [] h1 () Q Q Q Q Q Q Q<|kK (p:=(x13.2,x13.1)) s23 [20,16,17,18,19,15,1,2,3,4,5,6,7,8,10,11,0,14] hF Q)) (hC Q Q (have hq7:=rb hA1;wi hq7<|c1 Q (fun h=>lE (h.o 1 Q) (h.o 2 Q) (h.o 3 Q) (h.o 4 Q)) fun u7 s24=>fun hq7=>match u7,hq7 with | _,rfl=>sF Q<|jR cL 12 [] h1 () Q Q Q Q Q Q Q<|kK (p:=(x13.2,x13.1)) s24 [20,16,17,18,19,15,1,2,3,4,5,6,7,8,10,11,0,14] hF Q) (have hq8:=rb hA1;wi hq8<|c1 Q (fun h=>lE (h.o 1 Q) (h.o 2 Q) (h.o 3 Q) (h.o 4 Q)) fun u8 s25=>fun hq8=>match u8,hq8 with | _,rfl=>sF Q<|jR cL 12 [] h1 () Q Q Q Q Q Q Q<|kK (p:=(x13.2,x13.1)) s25 [20,16,17,18,19,15,1,2,3,4,5,6,7,8,10,11,0,14] hF Q))) fun⟨x7,x8⟩ ⟨s13,s14,s15,s16⟩=>b8 [91] Q Q (fun hF=>ro cL 0 17 1 Q Q Q Q hF fun x9 h3 hF _=>wi hF<|d6 19 1 0 21 [] Q Q Q Q Q (fun _=>cN) fun x10 _=>fun hF=>sR Q<|pY cL 18 [] [] x10 () Q Q Q Q Q Q Q Q<|vA s9 List.length_set.symm [] [(16,9)] Q Q Q<|fR Q Q<|tF (hT:=tok) (s1,s2,s3,s4,s5,s6,s11) [16,6,7,8,9,10,11,12,13,21,14,15] hF Q Tryz.results120 Q Q Q Q)<|fun hF=>ro cL 0 17 1 Q Q Q Q hF fun x11 h5 hF _=>wi hF<|d6 19 1 0 21 [] Q Q Q Q Q (fun _=>fK) fun x12 _=>fun hF=>sF Q<|pY cL 18 [] [] x12 () Q Q Q Q Q Q Q Q<|vA s9 List.length_set.symm [] [(16,9)] Q Q Q<|fR Q Q<|tF (hT:=tok) (s13,s14,s15,s16,s5,s6,s11) [16,1,2,3,4,10,11,12,13,21,14,15] hF Q Tryz.results120 Q Q Q Q)<|b8 [102,103] Q Q (fun hF=>U1 cL 12 [] h1 () Q Q Q Q Q Q Q Q Q<|wi hF<|nZ aO [0,14] Q<|fun hF=>ro cL 15 14 1 Q Q Q Q hF fun x14 h7 hF _=>wi hF<|nQ oI 8 Q Q Q fun x15 h9 _ h10=>fun hF=>iS 2 h10 h9 Q Q Q Q Q<|wi hF<|iT 0 3 (DJ s w_ x14 x15) [0,1,4] (fun(x16:(List Int)) (_:Unit)=>[]) [1,2,3,4,5,6,7,10,11,14] (fun x16 _=>[ow s8 (x16:List Int),ow s9 (s.aT.set w_.toNat ({x14 with Old:=x15}:bD):List bD),.box 0 [.h s1 s.aA.Mem.aE.Bytes.length,.h s2 s.aA.Mem.aE.Class.length,.h s3 s.aA.Mem.aD.Global.length,.h s4 s.aA.Mem.aD.cT.length,I s.aA.aC.aJ,.h s5 s.aA.aC.cK.length,.h s6 s.aA.aM.length,.h s7 s.aA.mP.length,.h s8 x16.length,.h s9 (s.aT.set w_.toNat ({x14 with Old:=x15}:bD)).length,.h s10 s.aZ.length,.h s11 s.Log.length,I s.aI]]) Q (fun hF=>U1 oI 19 [] h9 () Q Q Q Q Q Q Q Q Q<|ceS cL 16 [] [10] ({x14 with Old:=x15}:bD) () Q Q Q Q Q Q Q Q Q Q<|rh s9 List.length_set.symm [] [(0,9)] Q Q Q<|wi hF<|nZ aO [0,14,18,21] Q<|fun hF=>bd hF fun x24 hA4 hF=>bd hF fun x25 hA5 hF=>hC Q Q (have hq13:=rb hA4;ro cL 23 14 1 Q Q Q Q hq13 fun u13 h23 hq13 _=>match u13,hq13 with | _,rfl=>have hq14:=rb hA5;wi hq14<|nQ oI 22 Q Q Q fun u14 h25 _ h26=>fun hq14=>iS 3 h26 h25 Q Q Q Q Q<|match u14,hq14 with | _,rfl=>sF Q<|pY oI 27 [] [108,121] x24.H () Q Q Q Q Q Q Q Q<|vA s8 List.length_set.symm [] [(0,8)] Q Q Q<|jR cL 24 [] h23 () Q Q Q Q Q Q Q<|fR Q Q<|kK (p:=(s.Cells.set x24.Op.Cell.toNat x24.H)) () [30,31,0,1,2,3,4,5,6,7,10,11,14] hF Q) (have hq15:=rb hA4;ro cL 23 14 1 Q Q Q Q hq15 fun u15 h27 hq15 _=>match u15,hq15 with | _,rfl=>have hq16:=rb hA5;wi hq16<|nQ oI 22 Q Q Q fun u16 h29 _ h30=>fun hq16=>iS 3 h30 h29 Q Q Q Q Q<|match u16,hq16 with | _,rfl=>sF Q<|pY oI 27 [] [108,121] x24.H () Q Q Q Q Q Q Q Q<|vA s8 List.length_set.symm [] [(0,8)] Q Q Q<|jR cL 24 [] h27 () Q Q Q Q Q Q Q<|fR Q Q<|kK (p:=(s.Cells.set x24.Op.Cell.toNat x24.H)) () [30,31,0,1,2,3,4,5,6,7,10,11,14] hF Q)) fun x16 _=>iT 0 3 (DI w_) [0,4] (fun(x17:aB) (s26:AC)=>[]) [12] (fun x17 s26=>(oS x17 s1 s2 s3 s4 s5 s6 s7 s8 s9 s10 s26 [.box 0 (gS x17 s1 s2 s3 s4 s5 s6 s7 s8 s9 s10 s26)])) Q (nZ aO [12] Q<|fun hF=>bd hF fun x22 hA2 hF=>bd hF fun x23 hA3 hF=>hC Q Q (have hq9:=rb hA2;ro cL 1 12 1 Q Q Q Q hq9 fun u9 h15 hq9 _=>match u9,hq9 with | _,rfl=>U1 cL 13 [] h15 () Q Q Q Q Q Q Q Q Q<|have hq10:=rb hA3;wi hq10<|d6 2 0 0 13 [3,4,5,6,7,8,9,0,16,10,11] Q Q Q Q Q (fun _=>jW (s:=({s with Cells:=x16,aT:=s.aT.set w_.toNat ({x14 with Old:=x15}:bD)}:aB))) fun u10 s28=>fun hq10=>match u10,hq10 with | _,rfl=>wi hF<|pR (p:=(x23)) s28 [17,18,19,20,21,22,23,24,25,26,27,2,12] Q Q) (have hq11:=rb hA2;ro cL 1 12 1 Q Q Q Q hq11 fun u11 h17 hq11 _=>match u11,hq11 with | _,rfl=>U1 cL 13 [] h17 () Q Q Q Q Q Q Q Q Q<|have hq12:=rb hA3;wi hq12<|d6 2 0 0 13 [3,4,5,6,7,8,9,0,16,10,11] Q Q Q Q Q (fun _=>jW (s:=({s with Cells:=x16,aT:=s.aT.set w_.toNat ({x14 with Old:=x15}:bD)}:aB))) fun u12 s29=>fun hq12=>match u12,hq12 with | _,rfl=>wi hF<|pR (p:=(x23)) s29 [17,18,19,20,21,22,23,24,25,26,27,2,12] Q Q)) fun x17 s26=>fun hF=>ro cL 8 12 1 Q Q Q Q hF fun x18 h11 hF _=>wi hF<|b8 [148] Q Q (d6 14 1 0 21 [] Q Q Q Q Q (fun _=>cN) fun x19 _=>fun hF=>sR Q<|pY cL 13 [] [] x19 () Q Q Q Q Q Q Q Q<|vA s9 List.length_set.symm [] [(11,9)] Q Q Q<|fR Q Q<|tF (hT:=tok) (s1,s2,s3,s4,s5,s6,s26) [11,0,1,2,3,4,5,6,7,16,9,10] hF Q Tryz.results120 Q Q Q Q)<|c0 Q (fun _=>AN) fun x20=>d6 14 1 0 21 [] Q Q Q Q Q (fun _=>fK (j:=({x18 with Sub:=x20}:bD))) fun x21 _=>fun hF=>sF Q<|pY cL 13 [] [] x21 () Q Q Q Q Q Q Q Q<|vA s9 List.length_set.symm [] [(11,9)] Q Q Q<|fR Q Q<|tF (hT:=tok) (s1,s2,s3,s4,s5,s6,s26) [11,0,1,2,3,4,5,6,7,16,9,10] hF Q Tryz.results120 Q Q Q Q)<|b8 [161,162] Q Q (nZ aO [14] Q<|aAR 13 1 7 10 0 0 0 8 [1,2,3,4,5,6,7] Q Q Q Q Q (fun _=>oR) fun x26 s30=>b8 [175] Q Q (d6 13 1 0 21 [] Q Q Q Q Q (fun _=>cN (j:=({x1 with Sub:=x26.1}:bD))) fun x27 _=>fun hF=>sF Q<|pY cL 12 [] [10] x27 () Q Q Q Q Q Q Q Q<|vA s9 List.length_set.symm [] [(0,9)] Q Q Q<|fR Q Q<|tF (hT:=tok) (s30.1,s30.2.1,s30.2.2.1,s30.2.2.2.1,s30.2.2.2.2.1,s30.2.2.2.2.2,s11) [0,15,16,17,18,19,20,21,8,22,10,11] hF Q Tryz.results120 Q Q Q Q)<|fun hF=>sF Q<|pY cL 12 [] [10] ({x1 with Sub:=x26.1}:bD) () Q Q Q Q Q Q Q Q<|vA s9 List.length_set.symm [] [(0,9)] Q Q Q<|fR Q Q<|tF (hT:=tok) (s30.1,s30.2.1,s30.2.2.1,s30.2.2.2.1,s30.2.2.2.2.1,s30.2.2.2.2.2,s11) [0,15,16,17,18,19,20,21,8,22,10,11] hF Q Tryz.results120 Q Q Q Q)<|d6 13 1 0 21 [] Q Q Q Q Q (fun _=>cN) fun x28 _=>fun hF=>sF Q<|pY cL 12 [] [10] x28 () Q Q Q Q Q Q Q Q<|vA s9 List.length_set.symm [] [(0,9)] Q Q Q<|fR Q Q<|tF (hT:=tok) (s1,s2,s3,s4,s5,s6,s11) [0,1,2,3,4,5,6,7,8,15,10,11] hF Q Tryz.results120 Q Q Q Q
theorem OX{s:aB}{w_:Int}{s1 s2 s3 s4 s5 s6 s7 s8 s9 s10 s11:AC}{b0:Nat×Nat}:VS Tryz.prog κ 213 (wC s w_) [.p 0 0,I w_] [b0] ([.box 0 (gS s s1 s2 s3 s4 s5 s6 s7 s8 s9 s10 s11)]++(oS s s1 s2 s3 s4 s5 s6 s7 s8 s9 s10 s11 [])) (fun(r:aB) (y:AC)=>.t []) (fun(r:aB) (y:AC)=>([.box 0 (gS r s1 s2 s3 s4 s5 s6 s7 s8 s9 s10 y)]++(oS r s1 s2 s3 s4 s5 s6 s7 s8 s9 s10 y []))):=
 dW tok Tryz.call213 Tryz.func213 Tryz.results213 Q Q<|nQ cL 9 Q Q Q fun x1 h1 _ h2=>fun hF=>iS 1 h2 h1 Q Q Q Q Q<|U1 cL 12 [] h1 () Q Q Q Q Q Q Q Q Q<|wi hF<|nZ aO [0,14] Q<|fun hF=>ro cL 15 14 1 Q Q Q Q hF fun x2 h3 hF _=>wi hF<|nQ oI 8 Q Q Q fun x3 h5 _ h6=>fun hF=>iS 2 h6 h5 Q Q Q Q Q<|U1 oI 19 [] h5 () Q Q Q Q Q Q Q Q Q<|ceS cL 16 [] [8] ({x2 with H:=x3}:bD) () Q Q Q Q Q Q Q Q Q Q<|rh s9 List.length_set.symm [] [(0,9)] Q Q Q<|wi hF<|d6 0 0 0 13 [1,2,3,4,5,6,7,22,23,10,11] Q Q Q Q Q (fun _=>jW (s:=({s with aT:=s.aT.set w_.toNat ({x2 with H:=x3}:bD)}:aB))) fun x4 s12=>N3 s12 [0,24,25,26,27,28,29,30,31,32,33,34] Q Q
theorem aFJ{b:aA}{h at_ width:Int}{s1 s2 s3 s4 s5 s6 s7:AC}(h1:bL κ s1 b.Mem.aE.Bytes)(h2:bL κ s2 b.Mem.aE.Class)(h3:bL κ s3 b.Mem.aD.Global)(h4:bL κ s4 b.Mem.aD.cT)(h5:bL κ s5 b.aC.cK)(h6:bL κ s6 b.aM)(h7:bL κ s7 b.mP):V0 Tryz.prog κ 296 (I0 b h at_ width) [.g (gB b s1 s2 s3 s4 s5 s6 s7),I h,I at_,I width] (fun r=>.t [I r.1,.b r.2]):=
 dW tok Tryz.call296 Tryz.func296 Tryz.results296 Q Q<|d5 0 2 (tJ b h at_ width) [1,2,3,10] 29 [1] Q (c0 Q (fun _=>oQ) fun x4=>eP [17,18] Q Q (cQ [1] Q Q)<|c0 Q (fun h=>wV (h.a h1) (h.a h2)) fun x5=>eP [23,24,25] Q Q (cQ [1] Q Q)<|c0 Q (fun _=>KO) fun x6=>cQ [1] Q Q) fun x1=>b8 [29] Q Q (dE Q Q)<|c0 Q (fun h=>EE (h.a h1) (h.a h2)) fun x2=>b8 [37] Q Q (dE Q Q)<|c0 Q (fun h=>EA (h.a h1)) fun x3=>dE Q Q
theorem EF{s:aB}{w_:Int}{s1 s2 s3 s4 s5 s6 s7 s8 s9 s10 s11:AC}{b0:Nat×Nat}:VS Tryz.prog κ 214 (lZ s w_) [.p 0 0,I w_] [b0] ([.box 0 (gS s s1 s2 s3 s4 s5 s6 s7 s8 s9 s10 s11)]++(oS s s1 s2 s3 s4 s5 s6 s7 s8 s9 s10 s11 [])) (fun(r:aB) (y:Unit)=>.t []) (fun(r:aB) (y:Unit)=>([.box 0 (gS r s1 s2 s3 s4 s5 s6 s7 s8 s9 s10 s11)]++(oS r s1 s2 s3 s4 s5 s6 s7 s8 s9 s10 s11 []))):=
 dW tok Tryz.call214 Tryz.func214 Tryz.results214 Q Q<|nZ aO [0] Q<|nQ cL 9 Q Q Q fun x1 h1 _ h2=>fun hF=>iS 1 h2 h1 Q Q Q Q Q<|wi hF<|c0 Q (fun h=>aFJ (h.o 1 Q) (h.o 2 Q) (h.o 3 Q) (h.o 4 Q) (h.o 5 Q) (h.o 6 Q) (h.o 7 Q)) fun x2=>fun hF=>iS 1 h2 h1 Q Q Q Q Q<|sF Q<|pY cL 12 [] [8,17] ({x1 with dK:=x2.1}:bD) () Q Q Q Q Q Q Q Q<|vA s9 List.length_set.symm [] [(0,9)] Q Q Q<|fR Q Q<|tF (hT:=tok) () [0,1,2,3,4,5,6,7,8,15,10,11] hF Q Tryz.results214 Q Q Q Q
theorem TB{p:qA}:V0 Tryz.prog κ 297 (sH p) [.g [.b p.On,I p.aJ,.b p.dJ,I p.Seen]] .b:=
 dW tok Tryz.call297 Tryz.func297 Tryz.results297 Q Q<|d5 0 1 kJ [] 2 [] Q (eP [4,5] Q Q (cQ [] Q Q)<|cQ [] Q Q) fun x1=>dE Q Q
theorem E7{s:aB}{w_ pc:Int}{s1 s2 s3 s4 s5 s6 s7 s8 s9 s10 s11:AC}{b0:Nat×Nat}:VS Tryz.prog κ 215 (mC s w_ pc) [.p 0 0,I w_,I pc] [b0] ([.box 0 (gS s s1 s2 s3 s4 s5 s6 s7 s8 s9 s10 s11)]++(oS s s1 s2 s3 s4 s5 s6 s7 s8 s9 s10 s11 [])) (fun(r:aB) (y:Unit)=>.t []) (fun(r:aB) (y:Unit)=>([.box 0 (gS r s1 s2 s3 s4 s5 s6 s7 s8 s9 s10 s11)]++(oS r s1 s2 s3 s4 s5 s6 s7 s8 s9 s10 s11 []))):=
 dW tok Tryz.call215 Tryz.func215 Tryz.results215 Q Q<|nQ cL 9 Q Q Q fun x1 h1 _ h2=>fun hF=>iS 1 h2 h1 Q Q Q Q Q<|wi hF<|d6 13 1 0 21 [] Q Q Q Q Q (fun _=>fK) fun x2 _=>nQ LJ 5 Q Q Q fun x3 h3 _ h4=>fun hF=>iS 2 h4 h3 Q Q Q Q Q<|wi hF<|c0 Q (fun _=>TB) fun x4=>b8 [26] Q Q (fun hF=>sF Q<|jR LJ 15 [] h3 () Q Q Q Q Q Q Q<|pY cL 12 [] [10] ({x2 with dK:=0,Code:=6}:bD) () Q Q Q Q Q Q Q Q<|vA s9 List.length_set.symm [] [(0,9)] Q Q Q<|fR Q Q<|tF (hT:=tok) () [0,1,2,3,4,18,6,7,8,19,10,11] hF Q Tryz.results215 Q Q Q Q)<|fun hF=>sF Q<|jR LJ 15 [] h3 () Q Q Q Q Q Q Q<|pY cL 12 [] [10] x2 () Q Q Q Q Q Q Q Q<|vA s9 List.length_set.symm [] [(0,9)] Q Q Q<|fR Q Q<|tF (hT:=tok) () [0,1,2,3,4,18,6,7,8,19,10,11] hF Q Tryz.results215 Q Q Q Q
theorem aKZ{c:aC}{w_:Int}{s1:AC}(h1:bL κ s1 c.cK):VS Tryz.prog κ 298 (PU c w_) [.g [I c.aJ,.h s1 c.cK.length],I w_] [] [] (fun r (y:AC)=>.t [.g [I r.1.aJ,.h y r.1.cK.length],.b r.2]) (fun r y=>[ow y r.1.cK]):=
 dW tok Tryz.call298 Tryz.func298 Tryz.results298 Q Q<|c1 Q (fun h=>rL (h.a h1)) fun x1 s2=>d5 0 3 (zY w_ x1) [1,4,6] 25 [1,2,3] Q (c0 Q (fun h=>wW (h.a h1)) fun x4=>eP [11,12] Q Q (cQ [1,2,3] Q Q)<|c0 Q (fun _=>fQ) fun x5=>eP [15,16,17] Q Q (cQ [1,2,3] Q Q)<|OG aND Q h1 Q fun x6 _ _=>cQ [1,2,3] Q Q) fun x2=>b8 [25] Q Q (nP s2 [1] Q Q)<|nQ LJ 1 Q Q Q fun x3 h2 _ h3=>fun hF=>iS 3 h3 h2 Q Q Q Q Q<|sR Q<|pY LJ 3 [] [28] (⟨false,0,false,0⟩:qA) () Q Q Q Q Q Q Q Q<|vA s2 List.length_set.symm [(32,1)] [(0,1),(2,1)] Q Q Q<|fR Q Q<|tF (hT:=tok) s2 [6] hF Q Tryz.results298 Q Q Q Q
theorem MG{b:aA}{w_:Int}{s1 s2 s3 s4 s5 s6 s7:AC}{b0:Nat×Nat}:VS Tryz.prog κ 216 (tK b w_) [.p 0 0,I w_] [b0] ([.box 0 (gB b s1 s2 s3 s4 s5 s6 s7)]++(oB b s1 s2 s3 s4 s5 s6 s7 [])) (fun(r:Bool×aA) (y:AC)=>.b r.1) (fun(r:Bool×aA) (y:AC)=>([.box 0 (gB r.2 s1 s2 s3 s4 y s6 s7)]++(oB r.2 s1 s2 s3 s4 y s6 s7 []))):=
 dW tok Tryz.call216 Tryz.func216 Tryz.results216 Q Q<|c1 Q (fun h=>aKZ (h.o 5 Q)) fun x1 s8=>nP s8 [0,1,2,3,4,8,6,7] Q Q
theorem ZR{s:aB}{w_:Int}{s1 s2 s3 s4 s5 s6 s7 s8 s9 s10 s11:AC}{b0:Nat×Nat}:VS Tryz.prog κ 121 (DL s w_) [.p 0 0,I w_] [b0] ([.box 0 (gS s s1 s2 s3 s4 s5 s6 s7 s8 s9 s10 s11)]++(oS s s1 s2 s3 s4 s5 s6 s7 s8 s9 s10 s11 [])) (fun(r:aB) (y:A7C)=>.t []) (fun(r:aB) (y:A7C)=>([.box 0 (gS r y.1 y.2.1 y.2.2.1 y.2.2.2.1 y.2.2.2.2.1 y.2.2.2.2.2.1 s7 s8 s9 s10 y.2.2.2.2.2.2)]++(oS r y.1 y.2.1 y.2.2.1 y.2.2.2.1 y.2.2.2.2.1 y.2.2.2.2.2.1 s7 s8 s9 s10 y.2.2.2.2.2.2 []))):=
 dW tok Tryz.call121 Tryz.func121 Tryz.results121 Q Q<|nQ cL 9 Q Q Q fun x1 h1 _ h2=>fun hF=>iS 1 h2 h1 Q Q Q Q Q<|wi hF<|b8 [17,18] Q Q (nZ aO [14] Q<|aAR 13 1 7 10 0 0 0 8 [1,2,3,4,5,6,7] Q Q Q Q Q (fun _=>oR) fun x2 s12=>b8 [31] Q Q (d6 13 1 0 21 [] Q Q Q Q Q (fun _=>fK (j:=({x1 with Sub:=x2.1}:bD))) fun x3 _=>fun hF=>sF Q<|pY cL 12 [] [8] x3 () Q Q Q Q Q Q Q Q<|vA s9 List.length_set.symm [] [(0,9)] Q Q Q<|fR Q Q<|tF (hT:=tok) (s12.1,s12.2.1,s12.2.2.1,s12.2.2.2.1,s12.2.2.2.2.1,s12.2.2.2.2.2,s11) [0,15,16,17,18,19,20,21,8,22,10,11] hF Q Tryz.results121 Q Q Q Q)<|fun hF=>sF Q<|pY cL 12 [] [8] ({x1 with Sub:=x2.1}:bD) () Q Q Q Q Q Q Q Q<|vA s9 List.length_set.symm [] [(0,9)] Q Q Q<|fR Q Q<|tF (hT:=tok) (s12.1,s12.2.1,s12.2.2.1,s12.2.2.2.1,s12.2.2.2.2.1,s12.2.2.2.2.2,s11) [0,15,16,17,18,19,20,21,8,22,10,11] hF Q Tryz.results121 Q Q Q Q)<|b8 [34,35] Q Q (fun hF=>U1 cL 12 [] h1 () Q Q Q Q Q Q Q Q Q<|wi hF<|d6 0 0 0 13 [1,2,3,4,5,6,7,8,15,10,11] Q Q Q Q Q (fun _=>OX) fun x4 s13=>fun hF=>ro cL 24 14 1 Q Q Q Q hF fun x5 h3 hF _=>wi hF<|d6 28 1 0 21 [] Q Q Q Q Q (fun _=>fK) fun x6 _=>b8 [45] Q Q (fun hF=>sF Q<|pY cL 27 [] [] ({x6 with Pc:=4,Code:=8}:bD) () Q Q Q Q Q Q Q Q<|vA s9 List.length_set.symm [] [(0,9)] Q Q Q<|fR Q Q<|tF (hT:=tok) (s1,s2,s3,s4,s5,s6,s13) [0,16,17,18,19,20,21,22,23,30,25,26] hF Q Tryz.results121 Q Q Q Q)<|fun hF=>sF Q<|pY cL 27 [] [] x6 () Q Q Q Q Q Q Q Q<|vA s9 List.length_set.symm [] [(0,9)] Q Q Q<|fR Q Q<|tF (hT:=tok) (s1,s2,s3,s4,s5,s6,s13) [0,16,17,18,19,20,21,22,23,30,25,26] hF Q Tryz.results121 Q Q Q Q)<|b8 [52,53] Q Q (fun hF=>U1 cL 12 [] h1 () Q Q Q Q Q Q Q Q Q<|wi hF<|d6 0 0 0 13 [1,2,3,4,5,6,7,8,15,10,11] Q Q Q Q Q (fun _=>EF) fun x7 _=>fun hF=>ro cL 24 14 1 Q Q Q Q hF fun x8 h5 hF _=>wi hF<|d6 28 1 0 21 [] Q Q Q Q Q (fun _=>fK) fun x9 _=>fun hF=>sF Q<|pY cL 27 [] [] x9 () Q Q Q Q Q Q Q Q<|vA s9 List.length_set.symm [] [(0,9)] Q Q Q<|fR Q Q<|tF (hT:=tok) (s1,s2,s3,s4,s5,s6,s11) [0,16,17,18,19,20,21,22,23,30,25,26] hF Q Tryz.results121 Q Q Q Q)<|b8 [59,60] Q Q (fun hF=>U1 cL 12 [] h1 () Q Q Q Q Q Q Q Q Q<|wi hF<|d6 0 0 0 13 [1,2,3,4,5,6,7,8,15,10,11] Q Q Q Q Q (fun _=>E7) fun x10 _=>N3 (s1,s2,s3,s4,s5,s6,s11) [0,16,17,18,19,20,21,22,23,24,25,26] Q Q)<|b8 [64,65] Q Q (d6 0 0 0 8 [1,2,3,4,5,6,7] Q Q Q Q Q (fun _=>MG) fun x11 s14=>d6 13 1 0 21 [] Q Q Q Q Q (fun _=>cN) fun x12 _=>fun hF=>sF Q<|pY cL 12 [] [8] x12 () Q Q Q Q Q Q Q Q<|vA s9 List.length_set.symm [] [(0,9)] Q Q Q<|fR Q Q<|tF (hT:=tok) (s1,s2,s3,s4,s14,s6,s11) [0,15,16,17,18,19,20,21,8,22,10,11] hF Q Tryz.results121 Q Q Q Q)<|d6 13 1 0 21 [] Q Q Q Q Q (fun _=>cN) fun x13 _=>fun hF=>sF Q<|pY cL 12 [] [8] x13 () Q Q Q Q Q Q Q Q<|vA s9 List.length_set.symm [] [(0,9)] Q Q Q<|fR Q Q<|tF (hT:=tok) (s1,s2,s3,s4,s5,s6,s11) [0,1,2,3,4,5,6,7,8,15,10,11] hF Q Tryz.results121 Q Q Q Q
theorem TC{z:List Int}{w_ h:Int}{s1:AC}(h1:bL κ s1 z):VS Tryz.prog κ 217 (I1 z w_ h) [.h s1 z.length,I w_,I h] [] [] (fun r (y:AC)=>.t [.h y r.1.length,.b r.2]) (fun r y=>[ow y r.1]):=
 dW tok Tryz.call217 Tryz.func217 Tryz.results217 Q Q<|c1 Q (fun h=>fJ (h.a h1)) fun x1 s2=>d5 0 0 (tL w_ h x1) [1,2,8] 23 [0] Q (c0 Q (fun h=>P6 (h.a h1)) fun x4=>eP [13,14] Q Q (cQ [0] Q Q)<|c0 Q (fun _=>fQ) fun x5=>eP [17,18,19] Q Q (cQ [0] Q Q)<|c0 Q (fun _=>oQ) fun x6=>cQ [0] Q Q) fun x2=>b8 [23] Q Q (nP s2 [0] Q Q)<|nQ oI 0 Q Q Q fun x3 h2 _ h3=>fun hF=>iS 0 h3 h2 Q Q Q Q Q<|sR Q<|pY oI 1 [] [6,8,25,29] h () Q Q Q Q Q Q Q Q<|tF (hT:=tok) s2 [4] hF Q Tryz.results217 Q Q Q Q
theorem aK0{z:List Int}{w_:Int}{s1:AC}(h1:bL κ s1 z):VS Tryz.prog κ 218 (PW z w_) [.h s1 z.length,I w_] [] [] (fun r (y:AC)=>.t [.h y r.1.length,.b r.2]) (fun r y=>[ow y r.1]):=
 dW tok Tryz.call218 Tryz.func218 Tryz.results218 Q Q<|c1 Q (fun h=>fJ (h.a h1)) fun x1 s2=>d5 0 0 (zZ w_ x1) [1,6] 23 [0] Q (c0 Q (fun h=>P6 (h.a h1)) fun x4=>eP [11,12] Q Q (cQ [0] Q Q)<|c0 Q (fun _=>fQ) fun x5=>eP [15,16,17] Q Q (cQ [0] Q Q)<|VA Q h1 Q fun x6=>cQ [0] Q Q) fun x2=>b8 [23] Q Q (nP s2 [0] Q Q)<|nQ oI 0 Q Q Q fun x3 h2 _ h3=>fun hF=>iS 0 h3 h2 Q Q Q Q Q<|sR Q<|pY oI 1 [] [4,6,25,28] 0 () Q Q Q Q Q Q Q Q<|tF (hT:=tok) s2 [4] hF Q Tryz.results218 Q Q Q Q
theorem ZS{s:aB}{w_:Int}{s1 s2 s3 s4 s5 s6 s7 s8 s9 s10 s11:AC}{b0:Nat×Nat}:VS Tryz.prog κ 122 (DO s w_) [.p 0 0,I w_] [b0] ([.box 0 (gS s s1 s2 s3 s4 s5 s6 s7 s8 s9 s10 s11)]++(oS s s1 s2 s3 s4 s5 s6 s7 s8 s9 s10 s11 [])) (fun(r:aB) (y:AC×AC)=>.t []) (fun(r:aB) (y:AC×AC)=>([.box 0 (gS r s1 s2 s3 s4 s5 s6 y.1 s8 s9 s10 y.2)]++(oS r s1 s2 s3 s4 s5 s6 y.1 s8 s9 s10 y.2 []))):=
 dW tok Tryz.call122 Tryz.func122 Tryz.results122 Q Q<|nQ cL 9 Q Q Q fun x1 h1 _ h2=>fun hF=>iS 1 h2 h1 Q Q Q Q Q<|wi hF<|b8 [17,18] Q Q (fun hF=>U1 cL 12 [] h1 () Q Q Q Q Q Q Q Q Q<|wi hF<|nZ aO [0,14] Q<|fun hF=>ro cL 15 14 1 Q Q Q Q hF fun x2 h3 hF _=>wi hF<|nQ oI 8 Q Q Q fun x3 h5 _ h6=>fun hF=>iS 2 h6 h5 Q Q Q Q Q<|wi hF<|d6 17 1 0 21 [] Q Q Q Q Q (fun _=>fK (j:=({x2 with H:=x3}:bD))) fun x4 _=>b8 [39] Q Q (fun hF=>U1 oI 19 [] h5 () Q Q Q Q Q Q Q Q Q<|ceS cL 16 [] [8] x4 () Q Q Q Q Q Q Q Q Q Q<|rh s9 List.length_set.symm [] [(0,9)] Q Q Q<|wi hF<|d6 0 0 0 13 [1,2,3,4,5,6,7,22,23,10,11] Q Q Q Q Q (fun _=>jW (s:=({s with aT:=s.aT.set w_.toNat x4}:aB))) fun x5 s12=>fun hF=>ro cL 32 14 1 Q Q Q Q hF fun x6 h7 hF _=>sF Q<|pY cL 35 [] [] ({x6 with Pc:=4,Code:=8}:bD) () Q Q Q Q Q Q Q Q<|vA s9 List.length_set.symm [] [(0,9)] Q Q Q<|fR Q Q<|tF (hT:=tok) (s7,s12) [0,24,25,26,27,28,29,30,31,38,33,34] hF Q Tryz.results122 Q Q Q Q)<|fun hF=>sF Q<|jR oI 19 [] h5 () Q Q Q Q Q Q Q<|pY cL 16 [] [8] x4 () Q Q Q Q Q Q Q Q<|vA s9 List.length_set.symm [] [(0,9)] Q Q Q<|fR Q Q<|tF (hT:=tok) (s7,s11) [0,1,2,3,4,5,6,7,22,23,10,11] hF Q Tryz.results122 Q Q Q Q)<|b8 [49,50] Q Q (iT 0 2 (DM s w_) [0,4] (fun(x7:(List Int)) (s13:AC)=>[]) [1,2,3,4,5,6,8,10,11,14] (fun x7 s13=>[ow s13 (x7:List Int),ow s9 (s.aT:List bD),.box 0 [.h s1 s.aA.Mem.aE.Bytes.length,.h s2 s.aA.Mem.aE.Class.length,.h s3 s.aA.Mem.aD.Global.length,.h s4 s.aA.Mem.aD.cT.length,I s.aA.aC.aJ,.h s5 s.aA.aC.cK.length,.h s6 s.aA.aM.length,.h s13 x7.length,.h s8 s.Cells.length,.h s9 s.aT.length,.h s10 s.aZ.length,.h s11 s.Log.length,I s.aI]]) Q (nZ aO [14] Q<|fun hF=>bd hF fun x10 hA1 hF=>hC Q Q (have hq1:=rb hA1;wi hq1<|c1 Q (fun h=>TC (h.o 7 Q)) fun u1 s15=>fun hq1=>match u1,hq1 with | _,rfl=>sF Q<|jR cL 12 [] h1 () Q Q Q Q Q Q Q<|kK (p:=(x10.1)) s15 [15,16,0,1,2,3,4,5,6,8,10,11,14] hF Q) (have hq2:=rb hA1;wi hq2<|c1 Q (fun h=>TC (h.o 7 Q)) fun u2 s16=>fun hq2=>match u2,hq2 with | _,rfl=>sF Q<|jR cL 12 [] h1 () Q Q Q Q Q Q Q<|kK (p:=(x10.1)) s16 [15,16,0,1,2,3,4,5,6,8,10,11,14] hF Q)) fun x7 s13=>fun hF=>ro cL 1 12 1 Q Q Q Q hF fun x8 h9 hF _=>wi hF<|d6 14 1 0 21 [] Q Q Q Q Q (fun _=>fK) fun x9 _=>fun hF=>sF Q<|pY cL 13 [] [] x9 () Q Q Q Q Q Q Q Q<|vA s9 List.length_set.symm [] [(2,9)] Q Q Q<|fR Q Q<|tF (hT:=tok) (s13,s11) [2,3,4,5,6,7,8,0,9,16,10,11] hF Q Tryz.results122 Q Q Q Q)<|b8 [71,72] Q Q (iT 0 2 (DN s w_) [0,1,4] (fun(x11:Bool) (_:Unit)=>[(88,.b x11)]) [1,2,3,4,5,6,7,8,10,11,0,14] (fun x11 _=>[ow s9 (s.aT:List bD)]) Q (fun hF=>U1 cL 12 [] h1 () Q Q Q Q Q Q Q Q Q<|wi hF<|nZ aO [0,14] Q<|fun hF=>bd hF fun x18 hA2 hF=>bd hF fun x19 hA3 hF=>hC Q Q (have hq3:=rb hA2;ro cL 15 14 1 Q Q Q Q hq3 fun u3 h21 hq3 _=>match u3,hq3 with | _,rfl=>have hq4:=rb hA3;wi hq4<|nQ oI 8 Q Q Q fun u4 h23 _ h24=>fun hq4=>iS 2 h24 h23 Q Q Q Q Q<|match u4,hq4 with | _,rfl=>hC Q Q (sF Q<|jR oI 19 [] h23 () Q Q Q Q Q Q Q<|jR cL 16 [] h21 () Q Q Q Q Q Q Q<|kK (p:=(x19 != x18.H)) () [23,1,2,3,4,5,6,7,22,10,11,0,14] hF Q) (sF Q<|jR oI 19 [] h23 () Q Q Q Q Q Q Q<|jR cL 16 [] h21 () Q Q Q Q Q Q Q<|kK (p:=(x19 != x18.H)) () [23,1,2,3,4,5,6,7,22,10,11,0,14] hF Q)) (have hq5:=rb hA2;ro cL 15 14 1 Q Q Q Q hq5 fun u5 h25 hq5 _=>match u5,hq5 with | _,rfl=>have hq6:=rb hA3;wi hq6<|nQ oI 8 Q Q Q fun u6 h27 _ h28=>fun hq6=>iS 2 h28 h27 Q Q Q Q Q<|match u6,hq6 with | _,rfl=>sF Q<|jR oI 19 [] h27 () Q Q Q Q Q Q Q<|jR cL 16 [] h25 () Q Q Q Q Q Q Q<|kK (p:=(x19 != x18.H)) () [23,1,2,3,4,5,6,7,22,10,11,0,14] hF Q)) fun x11 _=>b8 [88] Q Q (fun hF=>ro cL 0 12 1 Q Q Q Q hF fun x12 h11 hF _=>wi hF<|d6 14 1 0 21 [] Q Q Q Q Q (fun _=>fK) fun x13 _=>fun hF=>sR Q<|pY cL 13 [] [] x13 () Q Q Q Q Q Q Q Q<|vA s9 List.length_set.symm [] [(11,9)] Q Q Q<|fR Q Q<|tF (hT:=tok) (s7,s11) [11,1,2,3,4,5,6,7,8,16,9,10] hF Q Tryz.results122 Q Q Q Q)<|fun hF=>ro cL 0 12 1 Q Q Q Q hF fun x14 h13 hF _=>U1 cL 13 [] h13 () Q Q Q Q Q Q Q Q Q<|wi hF<|d6 11 0 0 13 [1,2,3,4,5,6,7,8,16,9,10] Q Q Q Q Q (fun _=>jW) fun x15 s17=>fun hF=>ro cL 25 12 1 Q Q Q Q hF fun x16 h15 hF _=>wi hF<|d6 29 1 0 21 [] Q Q Q Q Q (fun _=>fK) fun x17 _=>fun hF=>sF Q<|pY cL 28 [] [] x17 () Q Q Q Q Q Q Q Q<|vA s9 List.length_set.symm [] [(11,9)] Q Q Q<|fR Q Q<|tF (hT:=tok) (s7,s17) [11,17,18,19,20,21,22,23,24,31,26,27] hF Q Tryz.results122 Q Q Q Q)<|b8 [100,101] Q Q (fun hF=>U1 cL 12 [] h1 () Q Q Q Q Q Q Q Q Q<|wi hF<|d6 0 0 0 13 [1,2,3,4,5,6,7,8,15,10,11] Q Q Q Q Q (fun _=>EF) fun x20 _=>fun hF=>ro cL 24 14 1 Q Q Q Q hF fun x21 h29 hF _=>wi hF<|d6 28 1 0 21 [] Q Q Q Q Q (fun _=>fK) fun x22 _=>fun hF=>sF Q<|pY cL 27 [] [] x22 () Q Q Q Q Q Q Q Q<|vA s9 List.length_set.symm [] [(0,9)] Q Q Q<|fR Q Q<|tF (hT:=tok) (s7,s11) [0,16,17,18,19,20,21,22,23,30,25,26] hF Q Tryz.results122 Q Q Q Q)<|b8 [107,108] Q Q (c1 Q (fun h=>aK0 (h.o 7 Q)) fun x23 s18=>d6 13 1 0 21 [] Q Q Q Q Q (fun _=>cN) fun x24 _=>fun hF=>sF Q<|pY cL 12 [] [8] x24 () Q Q Q Q Q Q Q Q<|vA s9 List.length_set.symm [] [(0,9)] Q Q Q<|fR Q Q<|tF (hT:=tok) (s18,s11) [0,1,2,3,4,5,6,15,8,16,10,11] hF Q Tryz.results122 Q Q Q Q)<|d6 13 1 0 21 [] Q Q Q Q Q (fun _=>cN) fun x25 _=>fun hF=>sF Q<|pY cL 12 [] [8] x25 () Q Q Q Q Q Q Q Q<|vA s9 List.length_set.symm [] [(0,9)] Q Q Q<|fR Q Q<|tF (hT:=tok) (s7,s11) [0,1,2,3,4,5,6,7,8,15,10,11] hF Q Tryz.results122 Q Q Q Q
theorem X2{s:aB}{w_:Int}{s1 s2 s3 s4 s5 s6 s7 s8 s9 s10 s11:AC}{b0:Nat×Nat}:VS Tryz.prog κ 123 (BE s w_) [.p 0 0,I w_] [b0] ([.box 0 (gS s s1 s2 s3 s4 s5 s6 s7 s8 s9 s10 s11)]++(oS s s1 s2 s3 s4 s5 s6 s7 s8 s9 s10 s11 [])) (fun(r:aB) (y:AC)=>.t []) (fun(r:aB) (y:AC)=>([.box 0 (gS r s1 s2 s3 s4 s5 s6 s7 s8 s9 s10 y)]++(oS r s1 s2 s3 s4 s5 s6 s7 s8 s9 s10 y []))):=
 dW tok Tryz.call123 Tryz.func123 Tryz.results123 Q Q<|iT 0 4 (BY s w_) [0,1] (fun(x1:qA) (_:Unit)=>[(4,.p 1 0),(5,.p 3 0)]) [1,2,3,4,5,6,7,8,9,10,11,0] (fun x1 _=>[wOf bD 1 s9 s.aT.length w_.toNat,.box 3 [.b x1.On,I x1.aJ,.b x1.dJ,I x1.Seen]]) Q (nZ aO [0] Q<|nQ cL 9 Q Q Q fun x20 h15 _ h16=>fun hF=>iS 1 h16 h15 Q Q Q Q Q<|wi hF<|nQ LJ 5 Q Q Q fun x21 h17 _ h18=>fun hF=>iS 2 h18 h17 Q Q Q Q Q<|hC Q Q (sF Q<|jR LJ 15 [] h17 () Q Q Q Q Q Q Q<|jR cL 12 [] h15 () Q Q Q Q Q Q Q<|kK (p:=(x21)) () [14,18,1,2,3,4,19,6,7,8,20,10,11,0] hF Q) (sF Q<|jR LJ 15 [] h17 () Q Q Q Q Q Q Q<|jR cL 12 [] h15 () Q Q Q Q Q Q Q<|kK (p:=(x21)) () [14,18,1,2,3,4,19,6,7,8,20,10,11,0] hF Q)) fun x1 _=>d5 0 4 (sJ s w_ x1) [0,1,4,5] 23 [2,3,4,5,6,7,8,9,10,11,12,13,0,1] Q (fun hF=>ro cL 10 0 1 Q Q Q Q hF fun x19 h13 hF _=>wi hF<|eP [28,29] Q Q (fun hF=>sF Q<|jR cL 14 [] h13 () Q Q Q Q Q Q Q<|kK () [2,3,4,5,6,7,8,9,17,11,12,13,0,1] hF Q)<|fun hF=>sF Q<|jR cL 14 [] h13 () Q Q Q Q Q Q Q<|kK () [2,3,4,5,6,7,8,9,17,11,12,13,0,1] hF Q) fun x2=>b8 [23] Q Q (fun hF=>ro cL 8 12 1 Q Q Q Q hF fun x3 h1 hF _=>wi hF<|d6 15 1 0 21 [] Q Q Q Q Q (fun _=>cN) fun x4 _=>fun hF=>sF Q<|pY cL 14 [] [] x4 () Q Q Q Q Q Q Q Q<|vA s9 List.length_set.symm [] [(11,9)] Q Q Q<|fR Q Q<|tF (hT:=tok) s11 [11,0,1,2,3,4,5,6,7,17,9,10] hF Q Tryz.results123 Q Q Q Q)<|d5 0 4 (sI s w_) [0,1,4] 36 [0,1,2,3,4,5,6,7,8,9,10,11,12] Q (fun hF=>ro cL 8 12 1 Q Q Q Q hF fun x18 h11 hF _=>wi hF<|eP [41,42] Q Q (fun hF=>sF Q<|jR cL 14 [] h11 () Q Q Q Q Q Q Q<|kK () [0,1,2,3,4,5,6,7,17,9,10,11,12] hF Q)<|fun hF=>sF Q<|jR cL 14 [] h11 () Q Q Q Q Q Q Q<|kK () [0,1,2,3,4,5,6,7,17,9,10,11,12] hF Q) fun x5=>b8 [36] Q Q (fun hF=>ro cL 8 12 1 Q Q Q Q hF fun x6 h3 hF _=>wi hF<|d6 14 1 0 21 [] Q Q Q Q Q (fun _=>cN) fun x7 _=>fun hF=>sF Q<|pY cL 13 [] [] x7 () Q Q Q Q Q Q Q Q<|vA s9 List.length_set.symm [] [(11,9)] Q Q Q<|fR Q Q<|tF (hT:=tok) s11 [11,0,1,2,3,4,5,6,7,16,9,10] hF Q Tryz.results123 Q Q Q Q)<|fun hF=>ro cL 8 12 1 Q Q Q Q hF fun x8 h5 hF _=>wi hF<|b8 [48,53] Q Q (fun hF=>U1 cL 13 [] h5 () Q Q Q Q Q Q Q Q Q<|wi hF<|d6 11 0 0 13 [0,1,2,3,4,5,6,7,16,9,10] Q Q Q Q Q (fun _=>OX) fun x9 s12=>fun hF=>ro cL 25 12 1 Q Q Q Q hF fun x10 h7 hF _=>wi hF<|d6 29 1 0 21 [] Q Q Q Q Q (fun _=>fK) fun x11 _=>b8 [63] Q Q (d6 29 1 0 21 [] Q Q Q Q Q (fun _=>cN) fun x12 _=>fun hF=>sF Q<|pY cL 28 [] [] x12 () Q Q Q Q Q Q Q Q<|vA s9 List.length_set.symm [] [(11,9)] Q Q Q<|fR Q Q<|tF (hT:=tok) s12 [11,17,18,19,20,21,22,23,24,31,26,27] hF Q Tryz.results123 Q Q Q Q)<|fun hF=>sF Q<|pY cL 28 [] [] x11 () Q Q Q Q Q Q Q Q<|vA s9 List.length_set.symm [] [(11,9)] Q Q Q<|fR Q Q<|tF (hT:=tok) s12 [11,17,18,19,20,21,22,23,24,31,26,27] hF Q Tryz.results123 Q Q Q Q)<|b8 [66,71] Q Q (fun hF=>U1 cL 13 [] h5 () Q Q Q Q Q Q Q Q Q<|wi hF<|d6 11 0 0 13 [0,1,2,3,4,5,6,7,16,9,10] Q Q Q Q Q (fun _=>EF) fun x13 _=>fun hF=>ro cL 25 12 1 Q Q Q Q hF fun x14 h9 hF _=>wi hF<|d6 29 1 0 21 [] Q Q Q Q Q (fun _=>fK) fun x15 _=>fun hF=>sF Q<|pY cL 28 [] [] x15 () Q Q Q Q Q Q Q Q<|vA s9 List.length_set.symm [] [(11,9)] Q Q Q<|fR Q Q<|tF (hT:=tok) s11 [11,17,18,19,20,21,22,23,24,31,26,27] hF Q Tryz.results123 Q Q Q Q)<|b8 [77,82] Q Q (fun hF=>U1 cL 13 [] h5 () Q Q Q Q Q Q Q Q Q<|wi hF<|d6 11 0 0 13 [0,1,2,3,4,5,6,7,16,9,10] Q Q Q Q Q (fun _=>E7) fun x16 _=>N3 s11 [11,17,18,19,20,21,22,23,24,25,26,27] Q Q)<|d6 14 1 0 21 [] Q Q Q Q Q (fun _=>cN) fun x17 _=>fun hF=>sF Q<|pY cL 13 [] [] x17 () Q Q Q Q Q Q Q Q<|vA s9 List.length_set.symm [] [(11,9)] Q Q Q<|fR Q Q<|tF (hT:=tok) s11 [11,0,1,2,3,4,5,6,7,16,9,10] hF Q Tryz.results123 Q Q Q Q
theorem WU{s:aB}{w_:Int}{s1 s2 s3 s4 s5 s6 s7 s8 s9 s10 s11:AC}{b0:Nat×Nat}:VS Tryz.prog κ 124 (xV s w_) [.p 0 0,I w_] [b0] ([.box 0 (gS s s1 s2 s3 s4 s5 s6 s7 s8 s9 s10 s11)]++(oS s s1 s2 s3 s4 s5 s6 s7 s8 s9 s10 s11 [])) (fun(r:aB) (y:A6C)=>.t []) (fun(r:aB) (y:A6C)=>([.box 0 (gS r y.1 y.2.1 y.2.2.1 y.2.2.2.1 y.2.2.2.2.1 y.2.2.2.2.2 s7 s8 s9 s10 s11)]++(oS r y.1 y.2.1 y.2.2.1 y.2.2.2.1 y.2.2.2.2.1 y.2.2.2.2.2 s7 s8 s9 s10 s11 []))):=
 dW tok Tryz.call124 Tryz.func124 Tryz.results124 Q Q<|nQ cL 9 Q Q Q fun x1 h1 _ h2=>fun hF=>iS 1 h2 h1 Q Q Q Q Q<|wi hF<|iT 0 2 (qM s w_) [0,1,4] (fun(x2:Bool) (_:Unit)=>[(14,.b x2)]) [1,2,3,4,5,6,7,8,10,11,0,14] (fun x2 _=>[ow s9 (s.aT:List bD)]) Q (eP [20,21] Q Q (fun hF=>sF Q<|jR cL 12 [] h1 () Q Q Q Q Q Q Q<|kK () [15,1,2,3,4,5,6,7,8,10,11,0,14] hF Q)<|fun hF=>sF Q<|jR cL 12 [] h1 () Q Q Q Q Q Q Q<|kK () [15,1,2,3,4,5,6,7,8,10,11,0,14] hF Q) fun x2 _=>b8 [14] Q Q (iT 1 2 (fun(p:Int×aB)=>qI w_ p.1 p.2) [0,4] (fun(p:Int×aB) (s12:AC)=>[(5,I p.1)]) [12] (fun p s12=>(oS p.2 s1 s2 s3 s4 s12 s6 s7 s8 s9 s10 s11 [.box 0 (gS p.2 s1 s2 s3 s4 s12 s6 s7 s8 s9 s10 s11)])) Q (d6 11 0 0 8 [1,2,3,4,5,6,7] Q Q Q Q Q (fun _=>MG) fun x7 s13=>b8 [33] Q Q (pR (p:=(5,({s with aA:=x7.2}:aB))) s13 [13,14,15,16,17,18,19,8,0,9,10,11,12] Q Q)<|pR (p:=(0,({s with aA:=x7.2}:aB))) s13 [13,14,15,16,17,18,19,8,0,9,10,11,12] Q Q) fun⟨x3,x4⟩ s12=>fun hF=>ro cL 8 12 1 Q Q Q Q hF fun x5 h3 hF _=>wi hF<|d6 14 1 0 21 [] Q Q Q Q Q (fun _=>cN) fun x6 _=>fun hF=>sF Q<|pY cL 13 [] [] x6 () Q Q Q Q Q Q Q Q<|vA s9 List.length_set.symm [] [(11,9)] Q Q Q<|fR Q Q<|tF (hT:=tok) (s1,s2,s3,s4,s12,s6) [11,0,1,2,3,4,5,6,7,16,9,10] hF Q Tryz.results124 Q Q Q Q)<|d5 0 2 (qL s w_) [0,1,4] 37 [1,2,3,4,5,6,7,8,0,9,10,11,12] Q (fun hF=>ro cL 0 12 1 Q Q Q Q hF fun x25 h17 hF _=>wi hF<|eP [43,44] Q Q (fun hF=>sF Q<|jR cL 13 [] h17 () Q Q Q Q Q Q Q<|kK () [1,2,3,4,5,6,7,8,16,9,10,11,12] hF Q)<|fun hF=>sF Q<|jR cL 13 [] h17 () Q Q Q Q Q Q Q<|kK () [1,2,3,4,5,6,7,8,16,9,10,11,12] hF Q) fun x8=>b8 [37] Q Q (nZ aO [12] Q<|fun hF=>ro cL 8 12 1 Q Q Q Q hF fun x9 h5 hF _=>wi hF<|aAR 14 1 7 10 11 0 0 8 [0,1,2,3,4,5,6] Q Q Q Q Q (fun _=>oR) fun x10 s14=>b8 [63] Q Q (d6 14 1 0 21 [] Q Q Q Q Q (fun _=>cN (j:=({x9 with Sub:=x10.1}:bD))) fun x11 _=>fun hF=>sF Q<|pY cL 13 [] [] x11 () Q Q Q Q Q Q Q Q<|vA s9 List.length_set.symm [] [(11,9)] Q Q Q<|fR Q Q<|tF (hT:=tok) s14 [11,16,17,18,19,20,21,22,7,23,9,10] hF Q Tryz.results124 Q Q Q Q)<|fun hF=>sF Q<|pY cL 13 [] [] ({x9 with Sub:=x10.1}:bD) () Q Q Q Q Q Q Q Q<|vA s9 List.length_set.symm [] [(11,9)] Q Q Q<|fR Q Q<|tF (hT:=tok) s14 [11,16,17,18,19,20,21,22,7,23,9,10] hF Q Tryz.results124 Q Q Q Q)<|d5 0 2 (qK s w_) [0,1,4] 71 [0,1,2,3,4,5,6,7,8,9,10,11,12] Q (fun hF=>ro cL 8 12 1 Q Q Q Q hF fun x24 h15 hF _=>wi hF<|eP [77,78] Q Q (fun hF=>sF Q<|jR cL 13 [] h15 () Q Q Q Q Q Q Q<|kK () [0,1,2,3,4,5,6,7,16,9,10,11,12] hF Q)<|fun hF=>sF Q<|jR cL 13 [] h15 () Q Q Q Q Q Q Q<|kK () [0,1,2,3,4,5,6,7,16,9,10,11,12] hF Q) fun x12=>b8 [71] Q Q (nZ aO [12] Q<|fun hF=>ro cL 8 12 1 Q Q Q Q hF fun x13 h7 hF _=>wi hF<|aAR 14 1 7 10 11 0 0 8 [0,1,2,3,4,5,6] Q Q Q Q Q (fun _=>oR) fun x14 s15=>b8 [97] Q Q (c0 Q (fun _=>AN) fun x15=>d6 14 1 0 21 [] Q Q Q Q Q (fun _=>fK (j:=({x13 with Sub:=x15}:bD))) fun x16 _=>fun hF=>sF Q<|pY cL 13 [] [] x16 () Q Q Q Q Q Q Q Q<|vA s9 List.length_set.symm [] [(11,9)] Q Q Q<|fR Q Q<|tF (hT:=tok) s15 [11,16,17,18,19,20,21,22,7,23,9,10] hF Q Tryz.results124 Q Q Q Q)<|fun hF=>sF Q<|pY cL 13 [] [] ({x13 with Sub:=x14.1}:bD) () Q Q Q Q Q Q Q Q<|vA s9 List.length_set.symm [] [(11,9)] Q Q Q<|fR Q Q<|tF (hT:=tok) s15 [11,16,17,18,19,20,21,22,7,23,9,10] hF Q Tryz.results124 Q Q Q Q)<|d5 0 2 (qJ s w_) [0,1,4] 104 [0,1,2,3,4,5,6,7,8,9,10,11,12] Q (fun hF=>ro cL 8 12 1 Q Q Q Q hF fun x23 h13 hF _=>wi hF<|eP [110,111] Q Q (fun hF=>sF Q<|jR cL 13 [] h13 () Q Q Q Q Q Q Q<|kK () [0,1,2,3,4,5,6,7,16,9,10,11,12] hF Q)<|fun hF=>sF Q<|jR cL 13 [] h13 () Q Q Q Q Q Q Q<|kK () [0,1,2,3,4,5,6,7,16,9,10,11,12] hF Q) fun x17=>b8 [104] Q Q (nZ aO [12] Q<|fun hF=>ro cL 8 12 1 Q Q Q Q hF fun x18 h9 hF _=>wi hF<|aAR 14 1 7 10 11 0 0 8 [0,1,2,3,4,5,6] Q Q Q Q Q (fun _=>oR) fun x19 s16=>b8 [130] Q Q (d6 14 1 0 21 [] Q Q Q Q Q (fun _=>cN (j:=({x18 with Sub:=x19.1,dK:=x19.1.Out}:bD))) fun x20 _=>fun hF=>sF Q<|pY cL 13 [] [] x20 () Q Q Q Q Q Q Q Q<|vA s9 List.length_set.symm [] [(11,9)] Q Q Q<|fR Q Q<|tF (hT:=tok) s16 [11,16,17,18,19,20,21,22,7,23,9,10] hF Q Tryz.results124 Q Q Q Q)<|fun hF=>sF Q<|pY cL 13 [] [] ({x18 with Sub:=x19.1}:bD) () Q Q Q Q Q Q Q Q<|vA s9 List.length_set.symm [] [(11,9)] Q Q Q<|fR Q Q<|tF (hT:=tok) s16 [11,16,17,18,19,20,21,22,7,23,9,10] hF Q Tryz.results124 Q Q Q Q)<|fun hF=>ro cL 8 12 1 Q Q Q Q hF fun x21 h11 hF _=>wi hF<|d6 14 1 0 21 [] Q Q Q Q Q (fun _=>cN) fun x22 _=>fun hF=>sF Q<|pY cL 13 [] [] x22 () Q Q Q Q Q Q Q Q<|vA s9 List.length_set.symm [] [(11,9)] Q Q Q<|fR Q Q<|tF (hT:=tok) (s1,s2,s3,s4,s5,s6) [11,0,1,2,3,4,5,6,7,16,9,10] hF Q Tryz.results124 Q Q Q Q
theorem EG{s:aB}{w_:Int}{s1 s2 s3 s4 s5 s6 s7 s8 s9 s10 s11:AC}{b0:Nat×Nat}:VS Tryz.prog κ 50 (l4 s w_) [.p 0 0,I w_] [b0] ([.box 0 (gS s s1 s2 s3 s4 s5 s6 s7 s8 s9 s10 s11)]++(oS s s1 s2 s3 s4 s5 s6 s7 s8 s9 s10 s11 [])) (fun(r:aB) (y:A8C)=>.t []) (fun(r:aB) (y:A8C)=>([.box 0 (gS r y.1 y.2.1 y.2.2.1 y.2.2.2.1 y.2.2.2.2.1 y.2.2.2.2.2.1 y.2.2.2.2.2.2.1 s8 s9 s10 y.2.2.2.2.2.2.2)]++(oS r y.1 y.2.1 y.2.2.1 y.2.2.2.1 y.2.2.2.2.1 y.2.2.2.2.2.1 y.2.2.2.2.2.2.1 s8 s9 s10 y.2.2.2.2.2.2.2 []))):=
 dW tok Tryz.call50 Tryz.func50 Tryz.results50 Q Q<|nQ cL 9 Q Q Q fun x1 h1 _ h2=>fun hF=>iS 1 h2 h1 Q Q Q Q Q<|wi hF<|b8 [15,18] Q Q (fun hF=>U1 cL 12 [] h1 () Q Q Q Q Q Q Q Q Q<|wi hF<|d6 0 0 0 13 [1,2,3,4,5,6,7,8,16,10,11] Q Q Q Q Q (fun _=>WR) fun x2 s12=>N3 (s1,s2,s3,s4,s5,s6,s7,s12) [0,17,18,19,20,21,22,23,24,25,26,27] Q Q)<|b8 [22,25] Q Q (fun hF=>U1 cL 12 [] h1 () Q Q Q Q Q Q Q Q Q<|wi hF<|d6 0 0 0 13 [1,2,3,4,5,6,7,8,16,10,11] Q Q Q Q Q (fun _=>jW) fun x3 s13=>nQ cL 25 Q Q Q fun x4 h3 _ h4=>fun hF=>iS 3 h4 h3 Q Q Q Q Q<|sF Q<|pY cL 28 [] [38] (⟨false,(⟨0,0,0,0⟩:bK),0,0,(⟨0,0,0,0,0,0,0,0,0,false⟩:Sub),0,0,0,0⟩:bD) () Q Q Q Q Q Q Q Q<|vA s9 List.length_set.symm [] [(0,9)] Q Q Q<|fR Q Q<|tF (hT:=tok) (s1,s2,s3,s4,s5,s6,s7,s13) [0,17,18,19,20,21,22,23,24,31,26,27] hF Q Tryz.results50 Q Q Q Q)<|b8 [42,46] Q Q (fun hF=>U1 cL 12 [] h1 () Q Q Q Q Q Q Q Q Q<|wi hF<|d6 0 0 0 13 [1,2,3,4,5,6,7,8,16,10,11] Q Q Q Q Q (fun _=>ZQ) fun x5 s14=>N3 (s14.1,s14.2.1,s14.2.2.1,s14.2.2.2.1,s14.2.2.2.2.1,s14.2.2.2.2.2.1,s7,s14.2.2.2.2.2.2) [0,17,18,19,20,21,22,23,24,25,26,27] Q Q)<|b8 [50,54] Q Q (fun hF=>U1 cL 12 [] h1 () Q Q Q Q Q Q Q Q Q<|wi hF<|d6 0 0 0 13 [1,2,3,4,5,6,7,8,16,10,11] Q Q Q Q Q (fun _=>ZR) fun x6 s15=>N3 (s15.1,s15.2.1,s15.2.2.1,s15.2.2.2.1,s15.2.2.2.2.1,s15.2.2.2.2.2.1,s7,s15.2.2.2.2.2.2) [0,17,18,19,20,21,22,23,24,25,26,27] Q Q)<|b8 [58,62] Q Q (fun hF=>U1 cL 12 [] h1 () Q Q Q Q Q Q Q Q Q<|wi hF<|d6 0 0 0 13 [1,2,3,4,5,6,7,8,16,10,11] Q Q Q Q Q (fun _=>ZS) fun x7 s16=>N3 (s1,s2,s3,s4,s5,s6,s16.1,s16.2) [0,17,18,19,20,21,22,23,24,25,26,27] Q Q)<|b8 [66,70] Q Q (fun hF=>U1 cL 12 [] h1 () Q Q Q Q Q Q Q Q Q<|wi hF<|d6 0 0 0 13 [1,2,3,4,5,6,7,8,16,10,11] Q Q Q Q Q (fun _=>X2) fun x8 s17=>N3 (s1,s2,s3,s4,s5,s6,s7,s17) [0,17,18,19,20,21,22,23,24,25,26,27] Q Q)<|fun hF=>U1 cL 12 [] h1 () Q Q Q Q Q Q Q Q Q<|wi hF<|d6 0 0 0 13 [1,2,3,4,5,6,7,8,16,10,11] Q Q Q Q Q (fun _=>WU) fun x9 s18=>N3 (s18.1,s18.2.1,s18.2.2.1,s18.2.2.2.1,s18.2.2.2.2.1,s18.2.2.2.2.2,s7,s11) [0,17,18,19,20,21,22,23,24,25,26,27] Q Q
theorem kU{s:aB}{s1 s2 s3 s4 s5 s6 s7 s8 s9 s10 s11:AC}(h1:bL κ s1 s.aA.Mem.aE.Bytes)(h2:bL κ s2 s.aA.Mem.aE.Class)(h3:bL κ s3 s.aA.Mem.aD.Global)(h4:bL κ s4 s.aA.Mem.aD.cT)(h5:bL κ s5 s.aA.aC.cK)(h6:bL κ s6 s.aA.aM)(h7:bL κ s7 s.aA.mP)(h8:bL κ s8 s.Cells)(h9:bL κ s9 s.aT)(h10:bL κ s10 s.aZ)(h11:bL κ s11 s.Log):VS Tryz.prog κ 13 (iP s) [.g (gS s s1 s2 s3 s4 s5 s6 s7 s8 s9 s10 s11)] [] [] (fun r (y:aBK)=>.g (yS r y)) (fun r y=>(zS r y [])):=
 dW tok Tryz.call13 Tryz.func13 Tryz.results13 Q Q<|c1 Q (fun h=>FL (h.a h1) (h.a h2) (h.a h3) (h.a h4) (h.a h5) (h.a h6) (h.a h7) (h.a h8) (h.a h9) (h.a h10) (h.a h11)) fun x1 s12=>c0 Q (fun h=>ED (h.a h1) (h.a h2) (h.a h3) (h.a h4) (h.a h5) (h.a h6) (h.a h7) (h.a h8) (h.a h9) (h.a h10) (h.a h11)) fun x2=>b8 [9] Q Q (nP s12 [2,3,4,5,6,7,8,9,10,11,12] Q Q)<|QX (s12.1,s12.2.1,s12.2.2.1,s12.2.2.2.1,s12.2.2.2.2.1,s12.2.2.2.2.2.1,s12.2.2.2.2.2.2.1,s12.2.2.2.2.2.2.2.2.2.2) [2,3] (fun(p:Int×aB) (u:A8C)=>[(4,I p.1)]) [2,3,4,5,6,7,8,9,10,11,12,13,1] [1] (fun p u=>(oS p.2 u.1 u.2.1 u.2.2.1 u.2.2.2.1 u.2.2.2.2.1 u.2.2.2.2.2.1 u.2.2.2.2.2.2.1 s12.2.2.2.2.2.2.2.1 s12.2.2.2.2.2.2.2.2.1 s12.2.2.2.2.2.2.2.2.2.1 u.2.2.2.2.2.2.2 [.box 2 (gS p.2 u.1 u.2.1 u.2.2.1 u.2.2.2.1 u.2.2.2.2.1 u.2.2.2.2.2.1 u.2.2.2.2.2.2.1 s12.2.2.2.2.2.2.2.1 s12.2.2.2.2.2.2.2.2.1 s12.2.2.2.2.2.2.2.2.2.1 u.2.2.2.2.2.2.2)])) id [2,3] (fun(x7:aB) (u:A8C)=>[]) [1] (fun x7 u=>(oS x7 u.1 u.2.1 u.2.2.1 u.2.2.2.1 u.2.2.2.2.1 u.2.2.2.2.2.1 u.2.2.2.2.2.2.1 s12.2.2.2.2.2.2.2.1 s12.2.2.2.2.2.2.2.2.1 s12.2.2.2.2.2.2.2.2.2.1 u.2.2.2.2.2.2.2 [.box 2 (gS x7 u.1 u.2.1 u.2.2.1 u.2.2.2.1 u.2.2.2.2.1 u.2.2.2.2.2.1 u.2.2.2.2.2.2.1 s12.2.2.2.2.2.2.2.1 s12.2.2.2.2.2.2.2.2.1 s12.2.2.2.2.2.2.2.2.2.1 u.2.2.2.2.2.2.2)])) Q Q (fun hF1 ⟨x5,x6⟩ ⟨s21,s22,s23,s24,s25,s26,s27,s28⟩ hr1=>iT 0 3 (fun(p:Bool×aB)=>rD x5 p.1 p.2) [2,3,4] (fun(p:Bool×aB) (_:Unit)=>[(17,.b p.1)]) [12] (fun p _=>(oS p.2 s21 s22 s23 s24 s25 s26 s27 s12.2.2.2.2.2.2.2.1 s12.2.2.2.2.2.2.2.2.1 s12.2.2.2.2.2.2.2.2.2.1 s28 [.box 2 (gS p.2 s21 s22 s23 s24 s25 s26 s27 s12.2.2.2.2.2.2.2.1 s12.2.2.2.2.2.2.2.2.1 s12.2.2.2.2.2.2.2.2.2.1 s28)])) Q (eP [12,13] Q Q (c0 Q (fun h=>aAI (h.o 0 Q) (h.o 1 Q) (h.o 2 Q) (h.o 3 Q) (h.o 4 Q) (h.o 5 Q) (h.o 6 Q) (h.o 7 Q) (h.o 8 Q) (h.o 9 Q) (h.o 10 Q)) fun x11=>cQ (p:=(!x11,x6)) [0,1,2,3,4,5,6,7,8,9,10,11,12] Q Q)<|cQ (p:=(false,x6)) [0,1,2,3,4,5,6,7,8,9,10,11,12] Q Q) fun⟨x8,x9⟩ _=>b8 [17] Q Q (d6 11 2 0 13 [0,1,2,3,4,5,6,7,8,9,10] Q Q Q Q Q (fun _=>EG) fun x10 s37=>nxW s37 [13,14,15,16,17,18,19,20,21,22,23,11,12] Q)<|bkW (s21,s22,s23,s24,s25,s26,s27,s28) [0,1,2,3,4,5,6,7,8,9,10,11,12] Q) fun x7 ⟨s29,s30,s31,s32,s33,s34,s35,s36⟩=>nP (s29,s30,s31,s32,s33,s34,s35,s12.2.2.2.2.2.2.2.1,s12.2.2.2.2.2.2.2.2.1,s12.2.2.2.2.2.2.2.2.2.1,s36) [0,1,2,3,4,5,6,7,8,9,10] Q Q
theorem X3{x y:Int}:V0 Tryz.prog κ 301 (Q2 x y) [.i .u64 x,.i .u64 y] (fun r=>.t [.i .u64 r.1,.i .u64 r.2]):=
 dW tok Tryz.call301 Tryz.func301 Tryz.results301 Q Q<|dE Q Q
theorem RI{x y:Int}:V0 Tryz.prog κ 222 (uG x y) [.i .u64 x,.i .u64 y] (fun r=>.t [.i .u64 r.1,.i .u64 r.2]):=
 dW tok Tryz.call222 Tryz.func222 Tryz.results222 Q Q<|c0 Q (fun _=>X3) fun x1=>dE Q Q
theorem zG{x:List Int}{count:Int}{s1:AC}(h1:bL κ s1 x):VS Tryz.prog κ 299 (vC x count) [.h s1 x.length,I count] [] [] (fun r (y:AC)=>.h y r.length) (fun r y=>[ow y r]):=
 dW tok Tryz.call299 Tryz.func299 Tryz.results299 Q Q<|b8 [10] Q Q (fun hF=>nomatch hF)<|c0 Q (fun _=>RI) fun x1=>d5 0 0 (pH x x1) [0,6] 26 [] Q (eP [22,23] Q Q (cQ [] Q Q)<|cQ [] Q Q) fun x2=>b8 [26] Q Q (fun hF=>nomatch hF)<|fun hF=>xI (0:Int) aW (fun w=>nE Q w) Q Q Q Q Q Q Q hF fun hF s2=>cp0 (xs:=x) 0 (fun h=>(h.a h1)) Q Q Q Q Q Q Q Q<|rr s2 (e9 (xs:=x) (Nat.zero_le _)).symm [7,30,31] [] [] Q Q Q Q<|wi hF<|QX () [] (fun(p:(List Int)×Int) (_:Unit)=>[(7,.h s2 p.1.length),(8,I p.2)]) [0] [] (fun p _=>[ow s2 (p.1:List Int)]) id [] (fun(x7:(List Int)) (_:Unit)=>[(7,.h s2 x7.length)]) [] (fun x7 _=>[ow s2 (x7:List Int)]) Q Q (fun hF2 ⟨x5,x6⟩ _ hr2=>b8 [37] Q Q (nZ aO [] Q<|fun hG2=>cpc 0 Q Q fun hc1=>aM5 hc1 Q Q Q Q Q Q hG2 fun hG2 h2=>aS2 hc1 Q Q Q Q Q Q hG2 fun hG2 h3=>cpy (xs:=(x5.take x6.toNat).drop 0) 0 x6.toNat h2 (fun h=>((h.o 0 Q).sub (OF h3.1 h3.2) h3)) Q Q Q Q Q Q Q Q<|rr s2 (e9 (xs:=(x5.take x6.toNat).drop 0) h2.1).symm [7,35,39,42] [] [] Q Q Q Q<|wi hG2<|J4 [0] Q)<|FW [0] Q) fun x7 _=>nP s2 [0] Q Q
theorem aFK:VS Tryz.prog κ 220 I2 [] [] [] (fun r (y:AC×AC)=>.g [.h y.1 r.Bytes.length,.h y.2 r.Class.length]) (fun r y=>[ow y.1 r.Bytes,ow y.2 r.Class]):=
 dW tok Tryz.call220 Tryz.func220 Tryz.results220 Q Q<|iT 0 1 Q3 [0] (fun(x1:(List Int)) (u:AC×AC)=>[]) [] (fun x1 u=>[ow u.1 (List.replicate ((384:Int).toNat) 0:List Int),ow u.2 (x1:List Int),.box 0 [.h u.1 (List.replicate ((384:Int).toNat) 0).length,.h u.2 x1.length]]) Q (nZ aO [] Q<|fun hF=>nd hF fun hA1 hF=>bd hF fun x2 hA2 hF=>hC Q Q (have hq1:=rn hA1;xI (0:Int) aW (fun w=>nE Q w) Q Q Q Q Q Q Q hq1 fun hq1 s6=>lt1 Q aW Q Q Q Q fun s7=>have hq2:=rb hA2;wi hq2<|c1 Q (fun h=>zG (h.o 2 Q)) fun u1 s8=>fun hq2=>match u1,hq2 with | _,rfl=>wi hF<|pR (p:=(x2)) (s6,s8) [1,3,0] Q Q) (lt1 Q aW Q Q Q Q fun s9=>hC Q Q (have hq3:=rn hA1;xI (0:Int) aW (fun w=>nE Q w) Q Q Q Q Q Q Q hq3 fun hq3 s10=>have hq4:=rb hA2;wi hq4<|c1 Q (fun h=>zG (h.o 1 Q)) fun u2 s11=>fun hq4=>match u2,hq4 with | _,rfl=>wi hF<|pR (p:=(x2)) (s10,s11) [2,3,0] Q Q) (have hq5:=rb hA2;wi hq5<|c1 Q (fun h=>zG (h.o 1 Q)) fun u3 s12=>fun hq5=>match u3,hq5 with | _,rfl=>have hq6:=rn hA1;xI (0:Int) aW (fun w=>nE Q w) Q Q Q Q Q Q Q hq6 fun hq6 s13=>wi hF<|pR (p:=(x2)) (s13,s12) [3,2,0] Q Q))) fun x1 ⟨s1,s2⟩=>nP (s1,s2) [0,1] Q Q
theorem aBT:VS Tryz.prog κ 221 MZ [] [] [] (fun r (y:AC×AC)=>.g [.h y.1 r.Global.length,.h y.2 r.cT.length]) (fun r y=>[ow y.1 r.Global,ow y.2 r.cT]):=
 dW tok Tryz.call221 Tryz.func221 Tryz.results221 Q Q<|iT 0 1 (fun(_:Unit)=>OK) [0] (fun(_:Unit) (u:AC×AC)=>[]) [] (fun _ u=>[ow u.1 (List.replicate ((3:Int).toNat) (⟨[]⟩:aR):List aR),ow u.2 (List.replicate ((9:Int).toNat) (⟨[]⟩:aR):List aR),.box 0 [.h u.1 (List.replicate ((3:Int).toNat) (⟨[]⟩:aR)).length,.h u.2 (List.replicate ((9:Int).toNat) (⟨[]⟩:aR)).length]]) Q (nZ aO [] Q<|fun hF=>nd hF fun hA1 hF=>nd hF fun hA2 hF=>hC Q Q (have hq1:=rn hA1;xI ((⟨[]⟩:aR):aR) d9 (fun _=>(kE (CT (⟨[]⟩:aR)) (yV LG))) Q Q Q Q Q Q Q hq1 fun hq1 s5=>have hq2:=rn hA2;xI ((⟨[]⟩:aR):aR) d9 (fun _=>(kE (CT (⟨[]⟩:aR)) (yV LG))) Q Q Q Q Q Q Q hq2 fun hq2 s6=>wi hF<|pR (p:=()) (s5,s6) [1,2,0] Q Q) (have hq3:=rn hA2;xI ((⟨[]⟩:aR):aR) d9 (fun _=>(kE (CT (⟨[]⟩:aR)) (yV LG))) Q Q Q Q Q Q Q hq3 fun hq3 s7=>have hq4:=rn hA1;xI ((⟨[]⟩:aR):aR) d9 (fun _=>(kE (CT (⟨[]⟩:aR)) (yV LG))) Q Q Q Q Q Q Q hq4 fun hq4 s8=>wi hF<|pR (p:=()) (s8,s7) [2,1,0] Q Q)) fun _ ⟨s1,s2⟩=>nP (s1,s2) [0,1] Q Q
theorem aID:VS Tryz.prog κ 129 SR [] [] [] (fun r (y:A4C)=>.g (yM r y)) (fun r y=>(zM r y [])):=
 dW tok Tryz.call129 Tryz.func129 Tryz.results129 Q Q<|c1 Q (fun _=>aFK) fun x1 s1=>c1 Q (fun _=>aBT) fun x2 s2=>nP (s1.1,s1.2,s2.1,s2.2) [1,2,3,4] Q Q
theorem aBU:VS Tryz.prog κ 130 M0 [] [] [] (fun r (y:AC)=>.g [I r.aJ,.h y r.cK.length]) (fun r y=>[ow y r.cK]):=
 dW tok Tryz.call130 Tryz.func130 Tryz.results130 Q Q<|fun hF=>xI ((⟨false,0,false,0⟩:qA):qA) P3 (fun w=>nE (aWS (⟨false,0,false,0⟩:qA)) w) Q Q Q Q Q Q Q hF fun hF s1=>wi hF<|nP s1 [1] Q Q
theorem aBV:VS Tryz.prog κ 131 M1 [] [] [] (fun r (y:AC)=>.h y r.length) (fun r y=>[ow y r]):=
 dW tok Tryz.call131 Tryz.func131 Tryz.results131 Q Q<|fun hF=>xI ((⟨[]⟩:bB):bB) HK (fun _=>(kE (aEK (⟨[]⟩:bB)) (yV LG))) Q Q Q Q Q Q Q hF fun hF s1=>wi hF<|nP s1 [0] Q Q
theorem aIE:VS Tryz.prog κ 132 SS [] [] [] (fun r (y:AC)=>.h y r.length) (fun r y=>[ow y r]):=
 dW tok Tryz.call132 Tryz.func132 Tryz.results132 Q Q<|fun hF=>xI (0:Int) aW (fun w=>nE Q w) Q Q Q Q Q Q Q hF fun hF s1=>wi hF<|nP s1 [0] Q Q
theorem wY:VS Tryz.prog κ 52 I3 [] [] [] (fun r (y:A7C)=>.g (yB r y)) (fun r y=>(zB r y [])):=
 dW tok Tryz.call52 Tryz.func52 Tryz.results52 Q Q<|c1 Q (fun _=>aID) fun x1 s1=>c1 Q (fun _=>aBU) fun x2 s2=>c1 Q (fun _=>aBV) fun x3 s3=>c1 Q (fun _=>aIE) fun x4 s4=>nP (s1.1,s1.2.1,s1.2.2.1,s1.2.2.2,s2,s3,s4) [1,2,3,4,5,6,7] Q Q
theorem BO{todo:List Queue}{s1:AC}(h1:bL κ s1 todo):VS Tryz.prog κ 14 (pW todo) [.h s1 todo.length] [] [] (fun r (y:aBK)=>.g (yS r y)) (fun r y=>(zS r y [])):=
 dW tok Tryz.call14 Tryz.func14 Tryz.results14 Q Q<|c0 Q (fun h=>VM (h.a h1)) fun x1=>b8 [5] Q Q (fun hF=>sR Q<|W5 Int<|W5 Int<|W5 aR<|W5 aR<|W5 qA<|W5 bB<|W5 Int<|W5 Int<|W5 bD<|W5 Queue<|W5 Ev<|tF (hT:=tok) (⟨none,0⟩,⟨none,0⟩,⟨none,0⟩,⟨none,0⟩,⟨none,0⟩,⟨none,0⟩,⟨none,0⟩,⟨none,0⟩,⟨none,0⟩,⟨none,0⟩,⟨none,0⟩) [1,2,3,4,5,6,7,8,9,10,11] hF Q Tryz.results14 Q Q Q Q)<|iT 0 1 OL [2] (fun(x2:aB) (u:a6B)=>[]) [] (fun x2 u=>(oB x2.aA u.1 u.2.1 u.2.2.1 u.2.2.2.1 u.2.2.2.2.1 u.2.2.2.2.2.1 u.2.2.2.2.2.2.1 [ow u.2.2.2.2.2.2.2.1 (x2.Cells:List Int),ow u.2.2.2.2.2.2.2.2.1 (x2.aT:List bD),ow u.2.2.2.2.2.2.2.2.2 (x2.aZ:List Queue),.box 0 [.h u.1 x2.aA.Mem.aE.Bytes.length,.h u.2.1 x2.aA.Mem.aE.Class.length,.h u.2.2.1 x2.aA.Mem.aD.Global.length,.h u.2.2.2.1 x2.aA.Mem.aD.cT.length,I x2.aA.aC.aJ,.h u.2.2.2.2.1 x2.aA.aC.cK.length,.h u.2.2.2.2.2.1 x2.aA.aM.length,.h u.2.2.2.2.2.2.1 x2.aA.mP.length,.h u.2.2.2.2.2.2.2.1 x2.Cells.length,.h u.2.2.2.2.2.2.2.2.1 x2.aT.length,.h u.2.2.2.2.2.2.2.2.2 x2.aZ.length,.h ⟨none,0⟩ 0,I x2.aI]])) Q (nZ aO [] Q<|fun hF=>bd hF fun x3 hA1 hF=>nd hF fun hA2 hF=>nd hF fun hA3 hF=>bd hF fun x4 hA4 hF=>aPJ Q Q (have hq1:=rb hA1;wi hq1<|c1 Q (fun _=>wY) fun u1 s16=>fun hq1=>match u1,hq1 with | _,rfl=>aPJ Q Q (have hq2:=rn hA2;xI (0:Int) aW (fun w=>nE Q w) Q Q Q Q Q Q Q hq2 fun hq2 s17=>hC Q Q (have hq3:=rn hA3;xI ((⟨false,(⟨0,0,0,0⟩:bK),0,0,(⟨0,0,0,0,0,0,0,0,0,false⟩:Sub),0,0,0,0⟩:bD):bD) fX (fun w=>nE (uQ (⟨false,(⟨0,0,0,0⟩:bK),0,0,(⟨0,0,0,0,0,0,0,0,0,false⟩:Sub),0,0,0,0⟩:bD)) w) Q Q Q Q Q Q Q hq3 fun hq3 s18=>have hq4:=rb hA4;wi hq4<|c1 Q (fun h=>fP (h.a h1)) fun u2 s19=>fun hq4=>match u2,hq4 with | _,rfl=>wi hF<|pR (p:=((⟨x3,List.replicate ((2:Int).toNat) 0,List.replicate ((3:Int).toNat) (⟨false,(⟨0,0,0,0⟩:bK),0,0,(⟨0,0,0,0,0,0,0,0,0,false⟩:Sub),0,0,0,0⟩:bD),x4,[],0⟩:aB))) (s16.1,s16.2.1,s16.2.2.1,s16.2.2.2.1,s16.2.2.2.2.1,s16.2.2.2.2.2.1,s16.2.2.2.2.2.2,s17,s18,s19) [1,2,3,4,5,6,7,8,9,10,0] Q Q) (have hq5:=rb hA4;wi hq5<|c1 Q (fun h=>fP (h.a h1)) fun u3 s20=>fun hq5=>match u3,hq5 with | _,rfl=>have hq6:=rn hA3;xI ((⟨false,(⟨0,0,0,0⟩:bK),0,0,(⟨0,0,0,0,0,0,0,0,0,false⟩:Sub),0,0,0,0⟩:bD):bD) fX (fun w=>nE (uQ (⟨false,(⟨0,0,0,0⟩:bK),0,0,(⟨0,0,0,0,0,0,0,0,0,false⟩:Sub),0,0,0,0⟩:bD)) w) Q Q Q Q Q Q Q hq6 fun hq6 s21=>wi hF<|pR (p:=((⟨x3,List.replicate ((2:Int).toNat) 0,List.replicate ((3:Int).toNat) (⟨false,(⟨0,0,0,0⟩:bK),0,0,(⟨0,0,0,0,0,0,0,0,0,false⟩:Sub),0,0,0,0⟩:bD),x4,[],0⟩:aB))) (s16.1,s16.2.1,s16.2.2.1,s16.2.2.2.1,s16.2.2.2.2.1,s16.2.2.2.2.2.1,s16.2.2.2.2.2.2,s17,s21,s20) [1,2,3,4,5,6,7,8,10,9,0] Q Q)) (have hq7:=rn hA3;xI ((⟨false,(⟨0,0,0,0⟩:bK),0,0,(⟨0,0,0,0,0,0,0,0,0,false⟩:Sub),0,0,0,0⟩:bD):bD) fX (fun w=>nE (uQ (⟨false,(⟨0,0,0,0⟩:bK),0,0,(⟨0,0,0,0,0,0,0,0,0,false⟩:Sub),0,0,0,0⟩:bD)) w) Q Q Q Q Q Q Q hq7 fun hq7 s22=>hC Q Q (have hq8:=rn hA2;xI (0:Int) aW (fun w=>nE Q w) Q Q Q Q Q Q Q hq8 fun hq8 s23=>have hq9:=rb hA4;wi hq9<|c1 Q (fun h=>fP (h.a h1)) fun u4 s24=>fun hq9=>match u4,hq9 with | _,rfl=>wi hF<|pR (p:=((⟨x3,List.replicate ((2:Int).toNat) 0,List.replicate ((3:Int).toNat) (⟨false,(⟨0,0,0,0⟩:bK),0,0,(⟨0,0,0,0,0,0,0,0,0,false⟩:Sub),0,0,0,0⟩:bD),x4,[],0⟩:aB))) (s16.1,s16.2.1,s16.2.2.1,s16.2.2.2.1,s16.2.2.2.2.1,s16.2.2.2.2.2.1,s16.2.2.2.2.2.2,s23,s22,s24) [1,2,3,4,5,6,7,9,8,10,0] Q Q) (have hq10:=rb hA4;wi hq10<|c1 Q (fun h=>fP (h.a h1)) fun u5 s25=>fun hq10=>match u5,hq10 with | _,rfl=>have hq11:=rn hA2;xI (0:Int) aW (fun w=>nE Q w) Q Q Q Q Q Q Q hq11 fun hq11 s26=>wi hF<|pR (p:=((⟨x3,List.replicate ((2:Int).toNat) 0,List.replicate ((3:Int).toNat) (⟨false,(⟨0,0,0,0⟩:bK),0,0,(⟨0,0,0,0,0,0,0,0,0,false⟩:Sub),0,0,0,0⟩:bD),x4,[],0⟩:aB))) (s16.1,s16.2.1,s16.2.2.1,s16.2.2.2.1,s16.2.2.2.2.1,s16.2.2.2.2.2.1,s16.2.2.2.2.2.2,s26,s22,s25) [1,2,3,4,5,6,7,10,8,9,0] Q Q)) (have hq12:=rb hA4;wi hq12<|c1 Q (fun h=>fP (h.a h1)) fun u6 s27=>fun hq12=>match u6,hq12 with | _,rfl=>hC Q Q (have hq13:=rn hA2;xI (0:Int) aW (fun w=>nE Q w) Q Q Q Q Q Q Q hq13 fun hq13 s28=>have hq14:=rn hA3;xI ((⟨false,(⟨0,0,0,0⟩:bK),0,0,(⟨0,0,0,0,0,0,0,0,0,false⟩:Sub),0,0,0,0⟩:bD):bD) fX (fun w=>nE (uQ (⟨false,(⟨0,0,0,0⟩:bK),0,0,(⟨0,0,0,0,0,0,0,0,0,false⟩:Sub),0,0,0,0⟩:bD)) w) Q Q Q Q Q Q Q hq14 fun hq14 s29=>wi hF<|pR (p:=((⟨x3,List.replicate ((2:Int).toNat) 0,List.replicate ((3:Int).toNat) (⟨false,(⟨0,0,0,0⟩:bK),0,0,(⟨0,0,0,0,0,0,0,0,0,false⟩:Sub),0,0,0,0⟩:bD),x4,[],0⟩:aB))) (s16.1,s16.2.1,s16.2.2.1,s16.2.2.2.1,s16.2.2.2.2.1,s16.2.2.2.2.2.1,s16.2.2.2.2.2.2,s28,s29,s27) [1,2,3,4,5,6,7,9,10,8,0] Q Q) (have hq15:=rn hA3;xI ((⟨false,(⟨0,0,0,0⟩:bK),0,0,(⟨0,0,0,0,0,0,0,0,0,false⟩:Sub),0,0,0,0⟩:bD):bD) fX (fun w=>nE (uQ (⟨false,(⟨0,0,0,0⟩:bK),0,0,(⟨0,0,0,0,0,0,0,0,0,false⟩:Sub),0,0,0,0⟩:bD)) w) Q Q Q Q Q Q Q hq15 fun hq15 s30=>have hq16:=rn hA2;xI (0:Int) aW (fun w=>nE Q w) Q Q Q Q Q Q Q hq16 fun hq16 s31=>wi hF<|pR (p:=((⟨x3,List.replicate ((2:Int).toNat) 0,List.replicate ((3:Int).toNat) (⟨false,(⟨0,0,0,0⟩:bK),0,0,(⟨0,0,0,0,0,0,0,0,0,false⟩:Sub),0,0,0,0⟩:bD),x4,[],0⟩:aB))) (s16.1,s16.2.1,s16.2.2.1,s16.2.2.2.1,s16.2.2.2.2.1,s16.2.2.2.2.2.1,s16.2.2.2.2.2.2,s31,s30,s27) [1,2,3,4,5,6,7,10,9,8,0] Q Q))) (have hq17:=rn hA2;xI (0:Int) aW (fun w=>nE Q w) Q Q Q Q Q Q Q hq17 fun hq17 s32=>hC Q Q (have hq18:=rb hA1;wi hq18<|c1 Q (fun _=>wY) fun u7 s33=>fun hq18=>match u7,hq18 with | _,rfl=>hC Q Q (have hq19:=rn hA3;xI ((⟨false,(⟨0,0,0,0⟩:bK),0,0,(⟨0,0,0,0,0,0,0,0,0,false⟩:Sub),0,0,0,0⟩:bD):bD) fX (fun w=>nE (uQ (⟨false,(⟨0,0,0,0⟩:bK),0,0,(⟨0,0,0,0,0,0,0,0,0,false⟩:Sub),0,0,0,0⟩:bD)) w) Q Q Q Q Q Q Q hq19 fun hq19 s34=>have hq20:=rb hA4;wi hq20<|c1 Q (fun h=>fP (h.a h1)) fun u8 s35=>fun hq20=>match u8,hq20 with | _,rfl=>wi hF<|pR (p:=((⟨x3,List.replicate ((2:Int).toNat) 0,List.replicate ((3:Int).toNat) (⟨false,(⟨0,0,0,0⟩:bK),0,0,(⟨0,0,0,0,0,0,0,0,0,false⟩:Sub),0,0,0,0⟩:bD),x4,[],0⟩:aB))) (s33.1,s33.2.1,s33.2.2.1,s33.2.2.2.1,s33.2.2.2.2.1,s33.2.2.2.2.2.1,s33.2.2.2.2.2.2,s32,s34,s35) [2,3,4,5,6,7,8,1,9,10,0] Q Q) (have hq21:=rb hA4;wi hq21<|c1 Q (fun h=>fP (h.a h1)) fun u9 s36=>fun hq21=>match u9,hq21 with | _,rfl=>have hq22:=rn hA3;xI ((⟨false,(⟨0,0,0,0⟩:bK),0,0,(⟨0,0,0,0,0,0,0,0,0,false⟩:Sub),0,0,0,0⟩:bD):bD) fX (fun w=>nE (uQ (⟨false,(⟨0,0,0,0⟩:bK),0,0,(⟨0,0,0,0,0,0,0,0,0,false⟩:Sub),0,0,0,0⟩:bD)) w) Q Q Q Q Q Q Q hq22 fun hq22 s37=>wi hF<|pR (p:=((⟨x3,List.replicate ((2:Int).toNat) 0,List.replicate ((3:Int).toNat) (⟨false,(⟨0,0,0,0⟩:bK),0,0,(⟨0,0,0,0,0,0,0,0,0,false⟩:Sub),0,0,0,0⟩:bD),x4,[],0⟩:aB))) (s33.1,s33.2.1,s33.2.2.1,s33.2.2.2.1,s33.2.2.2.2.1,s33.2.2.2.2.2.1,s33.2.2.2.2.2.2,s32,s37,s36) [2,3,4,5,6,7,8,1,10,9,0] Q Q)) (have hq23:=rn hA3;xI ((⟨false,(⟨0,0,0,0⟩:bK),0,0,(⟨0,0,0,0,0,0,0,0,0,false⟩:Sub),0,0,0,0⟩:bD):bD) fX (fun w=>nE (uQ (⟨false,(⟨0,0,0,0⟩:bK),0,0,(⟨0,0,0,0,0,0,0,0,0,false⟩:Sub),0,0,0,0⟩:bD)) w) Q Q Q Q Q Q Q hq23 fun hq23 s38=>have hq24:=rb hA1;wi hq24<|c1 Q (fun _=>wY) fun u10 s39=>fun hq24=>match u10,hq24 with | _,rfl=>have hq25:=rb hA4;wi hq25<|c1 Q (fun h=>fP (h.a h1)) fun u11 s40=>fun hq25=>match u11,hq25 with | _,rfl=>wi hF<|pR (p:=((⟨x3,List.replicate ((2:Int).toNat) 0,List.replicate ((3:Int).toNat) (⟨false,(⟨0,0,0,0⟩:bK),0,0,(⟨0,0,0,0,0,0,0,0,0,false⟩:Sub),0,0,0,0⟩:bD),x4,[],0⟩:aB))) (s39.1,s39.2.1,s39.2.2.1,s39.2.2.2.1,s39.2.2.2.2.1,s39.2.2.2.2.2.1,s39.2.2.2.2.2.2,s32,s38,s40) [3,4,5,6,7,8,9,1,2,10,0] Q Q)) (have hq26:=rn hA3;xI ((⟨false,(⟨0,0,0,0⟩:bK),0,0,(⟨0,0,0,0,0,0,0,0,0,false⟩:Sub),0,0,0,0⟩:bD):bD) fX (fun w=>nE (uQ (⟨false,(⟨0,0,0,0⟩:bK),0,0,(⟨0,0,0,0,0,0,0,0,0,false⟩:Sub),0,0,0,0⟩:bD)) w) Q Q Q Q Q Q Q hq26 fun hq26 s41=>hC Q Q (have hq27:=rb hA1;wi hq27<|c1 Q (fun _=>wY) fun u12 s42=>fun hq27=>match u12,hq27 with | _,rfl=>hC Q Q (have hq28:=rn hA2;xI (0:Int) aW (fun w=>nE Q w) Q Q Q Q Q Q Q hq28 fun hq28 s43=>have hq29:=rb hA4;wi hq29<|c1 Q (fun h=>fP (h.a h1)) fun u13 s44=>fun hq29=>match u13,hq29 with | _,rfl=>wi hF<|pR (p:=((⟨x3,List.replicate ((2:Int).toNat) 0,List.replicate ((3:Int).toNat) (⟨false,(⟨0,0,0,0⟩:bK),0,0,(⟨0,0,0,0,0,0,0,0,0,false⟩:Sub),0,0,0,0⟩:bD),x4,[],0⟩:aB))) (s42.1,s42.2.1,s42.2.2.1,s42.2.2.2.1,s42.2.2.2.2.1,s42.2.2.2.2.2.1,s42.2.2.2.2.2.2,s43,s41,s44) [2,3,4,5,6,7,8,9,1,10,0] Q Q) (have hq30:=rb hA4;wi hq30<|c1 Q (fun h=>fP (h.a h1)) fun u14 s45=>fun hq30=>match u14,hq30 with | _,rfl=>have hq31:=rn hA2;xI (0:Int) aW (fun w=>nE Q w) Q Q Q Q Q Q Q hq31 fun hq31 s46=>wi hF<|pR (p:=((⟨x3,List.replicate ((2:Int).toNat) 0,List.replicate ((3:Int).toNat) (⟨false,(⟨0,0,0,0⟩:bK),0,0,(⟨0,0,0,0,0,0,0,0,0,false⟩:Sub),0,0,0,0⟩:bD),x4,[],0⟩:aB))) (s42.1,s42.2.1,s42.2.2.1,s42.2.2.2.1,s42.2.2.2.2.1,s42.2.2.2.2.2.1,s42.2.2.2.2.2.2,s46,s41,s45) [2,3,4,5,6,7,8,10,1,9,0] Q Q)) (have hq32:=rn hA2;xI (0:Int) aW (fun w=>nE Q w) Q Q Q Q Q Q Q hq32 fun hq32 s47=>have hq33:=rb hA1;wi hq33<|c1 Q (fun _=>wY) fun u15 s48=>fun hq33=>match u15,hq33 with | _,rfl=>have hq34:=rb hA4;wi hq34<|c1 Q (fun h=>fP (h.a h1)) fun u16 s49=>fun hq34=>match u16,hq34 with | _,rfl=>wi hF<|pR (p:=((⟨x3,List.replicate ((2:Int).toNat) 0,List.replicate ((3:Int).toNat) (⟨false,(⟨0,0,0,0⟩:bK),0,0,(⟨0,0,0,0,0,0,0,0,0,false⟩:Sub),0,0,0,0⟩:bD),x4,[],0⟩:aB))) (s48.1,s48.2.1,s48.2.2.1,s48.2.2.2.1,s48.2.2.2.2.1,s48.2.2.2.2.2.1,s48.2.2.2.2.2.2,s47,s41,s49) [3,4,5,6,7,8,9,2,1,10,0] Q Q))) fun x2 ⟨s2,s3,s4,s5,s6,s7,s8,s9,s10,s11⟩=>fun hF=>sR Q<|W5 Ev<|tF (hT:=tok) (s2,s3,s4,s5,s6,s7,s8,s9,s10,s11,⟨none,0⟩) [0,1,2,3,4,5,6,7,8,9,11] hF Q Tryz.results14 Q Q Q Q
theorem aFL{l:List Int}{x:Int}{s1:AC}(h1:bL κ s1 l):V0 Tryz.prog κ 15 (J9 l x) [.h s1 l.length,I x] .b:=
 dW tok Tryz.call15 Tryz.func15 Tryz.results15 Q Q<|PG 5 [0,1] [] Out.brk [] [] Q Q (fun hF1 x2 hr1=>b8 [9] Q Q (VA Q h1 Q fun x3=>b8 [17] Q Q (MT hr1 hF1<|dE Q Q)<|J4 [] Q)<|FW [] Q)<|dE Q Q
theorem NI{l:List bB}{s1:AC}(h1:bL κ s1 l):VS Tryz.prog κ 54 (wF l) [.h s1 l.length] [] [] (fun r (y:AC)=>.h y r.length) (fun r y=>[ow y r]):=
 dW tok Tryz.call54 Tryz.func54 Tryz.results54 Q Q<|fun hF=>WJ (α:=dO) wT Q Q Q Q fun s2=>wi hF<|QX s2 [0] (fun(p:(List dO)×Int) (s4:AC)=>[(3,.h s4 p.1.length),(4,I p.2)]) [0] [] (fun p s4=>[ow s4 (p.1:List dO)]) id [] (fun(x5:(List dO)) (s5:AC)=>[(3,.h s5 x5.length)]) [] (fun x5 s5=>[ow s5 (x5:List dO)]) Q Q (fun hF1 ⟨x3,x4⟩ s4 hr1=>b8 [9] Q Q (OG WM Q h1 Q fun x6 s6 h2=>fun hG1=>ap 0 wT Q Q Q Q Q Q Q (fun h=>(h.a h2)) Q Q hG1 fun hG1 s7=>wi hG1<|nxW s7 [0] Q)<|bkW s4 [0] Q) fun x5 s5=>nP s5 [0] Q Q
theorem rO{l:List bB}{s1:AC}(h1:bL κ s1 l):V0 Tryz.prog κ 17 (nF l) [.h s1 l.length] I:=
 dW tok Tryz.call17 Tryz.func17 Tryz.results17 Q Q<|c1 Q (fun h=>NI (h.a h1)) fun x1 s2=>dE Q Q
theorem B6{x:List bK}{count:Int}{s1:AC}(h1:bL κ s1 x):VS Tryz.prog κ 134 (xW x count) [.h s1 x.length,I count] [] [] (fun r (y:AC)=>.h y r.length) (fun r y=>[ow y r]):=
 dW tok Tryz.call134 Tryz.func134 Tryz.results134 Q Q<|b8 [10] Q Q (fun hF=>nomatch hF)<|c0 Q (fun _=>RI) fun x1=>d5 0 0 (qN x x1) [0,6] 26 [] Q (eP [22,23] Q Q (cQ [] Q Q)<|cQ [] Q Q) fun x2=>b8 [26] Q Q (fun hF=>nomatch hF)<|fun hF=>xI ((⟨0,0,0,0⟩:bK):bK) bG (fun w=>nE (aKU (⟨0,0,0,0⟩:bK)) w) Q Q Q Q Q Q Q hF fun hF s2=>cp0 (xs:=x) 0 (fun h=>(h.a h1)) Q Q Q Q Q Q Q Q<|rr s2 (e9 (xs:=x) (Nat.zero_le _)).symm [7,30,31] [] [] Q Q Q Q<|wi hF<|QX () [] (fun(p:(List bK)×Int) (_:Unit)=>[(7,.h s2 p.1.length),(8,I p.2)]) [0] [] (fun p _=>[ow s2 (p.1:List bK)]) id [] (fun(x7:(List bK)) (_:Unit)=>[(7,.h s2 x7.length)]) [] (fun x7 _=>[ow s2 (x7:List bK)]) Q Q (fun hF2 ⟨x5,x6⟩ _ hr2=>b8 [37] Q Q (nZ aO [] Q<|fun hG2=>cpc 0 Q Q fun hc1=>aM5 hc1 Q Q Q Q Q Q hG2 fun hG2 h2=>aS2 hc1 Q Q Q Q Q Q hG2 fun hG2 h3=>cpy (xs:=(x5.take x6.toNat).drop 0) 0 x6.toNat h2 (fun h=>((h.o 0 Q).sub (OF h3.1 h3.2) h3)) Q Q Q Q Q Q Q Q<|rr s2 (e9 (xs:=(x5.take x6.toNat).drop 0) h2.1).symm [7,35,39,42] [] [] Q Q Q Q<|wi hG2<|J4 [0] Q)<|FW [0] Q) fun x7 _=>nP s2 [0] Q Q
theorem X4{s:aB}{n:Int}{s1 s2 s3 s4 s5 s6 s7 s8 s9 s10 s11:AC}(h1:bL κ s1 s.aA.Mem.aE.Bytes)(h2:bL κ s2 s.aA.Mem.aE.Class)(h3:bL κ s3 s.aA.Mem.aD.Global)(h4:bL κ s4 s.aA.Mem.aD.cT)(h5:bL κ s5 s.aA.aC.cK)(h6:bL κ s6 s.aA.aM)(h7:bL κ s7 s.aA.mP)(h8:bL κ s8 s.Cells)(h9:bL κ s9 s.aT)(h10:bL κ s10 s.aZ)(h11:bL κ s11 s.Log):VS Tryz.prog κ 55 (BF s n) [.g (gS s s1 s2 s3 s4 s5 s6 s7 s8 s9 s10 s11),I n] [] [] (fun r (y:aBK)=>.g (yS r y)) (fun r y=>(zS r y [])):=
 dW tok Tryz.call55 Tryz.func55 Tryz.results55 Q Q<|c1 Q (fun h=>FL (h.a h1) (h.a h2) (h.a h3) (h.a h4) (h.a h5) (h.a h6) (h.a h7) (h.a h8) (h.a h9) (h.a h10) (h.a h11)) fun x1 s12=>iT 0 3 (fun(p:Bool×aB)=>nH n p.1 p.2) [1,4,5] (fun(p:Bool×aB) (_:Unit)=>[(21,.b p.1)]) [1] (fun p _=>(zS p.2 s12 [.box 2 (yS p.2 s12)])) Q (c0 Q (fun h=>ED (h.a h1) (h.a h2) (h.a h3) (h.a h4) (h.a h5) (h.a h6) (h.a h7) (h.a h8) (h.a h9) (h.a h10) (h.a h11)) fun x12=>eP [11,12] Q Q (cQ (p:=(true,x1)) [2,3,4,5,6,7,8,9,10,11,12,13,1] Q Q)<|c0 Q (fun h=>aAI (h.a h1) (h.a h2) (h.a h3) (h.a h4) (h.a h5) (h.a h6) (h.a h7) (h.a h8) (h.a h9) (h.a h10) (h.a h11)) fun x13=>eP [15,16,17] Q Q (cQ (p:=(true,x1)) [2,3,4,5,6,7,8,9,10,11,12,13,1] Q Q)<|c0 Q (fun _=>cV) fun x14=>cQ (p:=(!x14,x1)) [2,3,4,5,6,7,8,9,10,11,12,13,1] Q Q) fun⟨x2,x3⟩ _=>b8 [21] Q Q (nP s12 [0,1,2,3,4,5,6,7,8,9,10] Q Q)<|QX () [1,4,5,25] (fun(p:Int×aB) (_:Unit)=>[(26,I p.1)]) [0,1,2,3,4,5,6,7,8,9,10,11,12] [12] (fun p _=>(zS p.2 s12 [.box 2 (yS p.2 s12)])) id [4,5] (fun(x8:aB) (_:Unit)=>[]) [12] (fun x8 _=>(zS x8 s12 [.box 2 (yS x8 s12)])) Q Q (fun hF2 ⟨x6,x7⟩ _ hr2=>b8 [27] Q Q (iT 0 3 (BZ x6) [1,4,5,25,26] (fun(x9:aB) (_:Unit)=>[]) [12] (fun x9 _=>(zS x9 s12 [.box 2 (yS x9 s12)])) Q (nZ aO [11,12] Q<|nQ dS 9 Q Q Q fun x10 h12 s13 h13=>fun hG2=>iS 3 h13 h12 Q Q Q Q Q<|bd hG2 fun x11 hA1 hG2=>nd hG2 fun hA2 hG2=>hC Q Q (RY D8 [] ((⟨4,0,0,0⟩:bK)) () bG Q Q Q Q Q Q Q Q Q Q Q Q Q fun s17=>have hq1:=rb hA1;wi hq1<|c1 Q (fun h=>B6 (h.o 17 Q)) fun u1 s18=>fun hq1=>match u1,hq1 with | _,rfl=>have hq2:=rn hA2;ap 16 bG Q Q Q Q Q Q Q (fun h=>(h.o 18 Q)) Q Q hq2 fun hq2 s19=>iS 3 h13 h12 Q Q Q Q Q<|sF Q<|pY dS 13 [16] [30,33] (⟨x10.fM++x11⟩:Queue) s19 Q Q Q Q Q Q Q Q<|vA s12.2.2.2.2.2.2.2.2.2.1 List.length_set.symm [] [(11,10)] Q Q Q<|fR Q Q<|kK (p:=(({x7 with aZ:=x7.aZ.set x6.toNat (⟨x10.fM++x11⟩:Queue)}:aB))) () [0,1,2,3,4,5,6,7,8,19,10,11,12] hG2 Q) (RY D8 [] ((⟨4,0,0,0⟩:bK)) () bG Q Q Q Q Q Q Q Q Q Q Q Q Q fun s20=>hC Q Q (have hq3:=rb hA1;wi hq3<|c1 Q (fun h=>B6 (h.o 17 Q)) fun u2 s21=>fun hq3=>match u2,hq3 with | _,rfl=>have hq4:=rn hA2;ap 16 bG Q Q Q Q Q Q Q (fun h=>(h.o 18 Q)) Q Q hq4 fun hq4 s22=>iS 3 h13 h12 Q Q Q Q Q<|sF Q<|pY dS 13 [16] [30,33] (⟨x10.fM++x11⟩:Queue) s22 Q Q Q Q Q Q Q Q<|vA s12.2.2.2.2.2.2.2.2.2.1 List.length_set.symm [] [(11,10)] Q Q Q<|fR Q Q<|kK (p:=(({x7 with aZ:=x7.aZ.set x6.toNat (⟨x10.fM++x11⟩:Queue)}:aB))) () [0,1,2,3,4,5,6,7,8,19,10,11,12] hG2 Q) (have hq5:=rb hA1;wi hq5<|c1 Q (fun h=>B6 (h.o 17 Q)) fun u3 s23=>fun hq5=>match u3,hq5 with | _,rfl=>have hq6:=rn hA2;ap 16 bG Q Q Q Q Q Q Q (fun h=>(h.o 18 Q)) Q Q hq6 fun hq6 s24=>iS 3 h13 h12 Q Q Q Q Q<|sF Q<|pY dS 13 [16] [30,33] (⟨x10.fM++x11⟩:Queue) s24 Q Q Q Q Q Q Q Q<|vA s12.2.2.2.2.2.2.2.2.2.1 List.length_set.symm [] [(11,10)] Q Q Q<|fR Q Q<|kK (p:=(({x7 with aZ:=x7.aZ.set x6.toNat (⟨x10.fM++x11⟩:Queue)}:aB))) () [0,1,2,3,4,5,6,7,8,19,10,11,12] hG2 Q))) fun x9 _=>J4 [0,1,2,3,4,5,6,7,8,9,10,11,12] Q)<|FW [0,1,2,3,4,5,6,7,8,9,10,11,12] Q) fun x8 _=>nP s12 [0,1,2,3,4,5,6,7,8,9,10] Q Q
theorem QA{s:aB}{n:Int}{s1 s2 s3 s4 s5 s6 s7 s8 s9 s10 s11:AC}(h1:bL κ s1 s.aA.Mem.aE.Bytes)(h2:bL κ s2 s.aA.Mem.aE.Class)(h3:bL κ s3 s.aA.Mem.aD.Global)(h4:bL κ s4 s.aA.Mem.aD.cT)(h5:bL κ s5 s.aA.aC.cK)(h6:bL κ s6 s.aA.aM)(h7:bL κ s7 s.aA.mP)(h8:bL κ s8 s.Cells)(h9:bL κ s9 s.aT)(h10:bL κ s10 s.aZ)(h11:bL κ s11 s.Log):VS Tryz.prog κ 18 (KC s n) [.g (gS s s1 s2 s3 s4 s5 s6 s7 s8 s9 s10 s11),I n] [] [] (fun r (y:aBK)=>.g (yS r y)) (fun r y=>(zS r y [])):=
 dW tok Tryz.call18 Tryz.func18 Tryz.results18 Q Q<|c1 Q (fun h=>X4 (h.a h1) (h.a h2) (h.a h3) (h.a h4) (h.a h5) (h.a h6) (h.a h7) (h.a h8) (h.a h9) (h.a h10) (h.a h11)) fun x1 s12=>c1 Q (fun h=>kU (h.o 2 Q) (h.o 3 Q) (h.o 4 Q) (h.o 5 Q) (h.o 6 Q) (h.o 7 Q) (h.o 8 Q) (h.o 9 Q) (h.o 10 Q) (h.o 11 Q) (h.o 12 Q)) fun x2 s13=>nP s13 [13,14,15,16,17,18,19,20,21,22,23] Q Q
theorem dL{x low high:Int}:V0 Tryz.prog κ 94 (bX x low high) [I x,I low,I high] .b:=
 dW tok Tryz.call94 Tryz.func94 Tryz.results94 Q Q<|d5 0 0 I4 [] 6 [] Q (eP [9,10] Q Q (cQ [] Q Q)<|cQ [] Q Q) fun x1=>dE Q Q
theorem OY{kind:Int}:V0 Tryz.prog κ 223 (wO kind) [I kind] .b:=
 dW tok Tryz.call223 Tryz.func223 Tryz.results223 Q Q<|d5 0 0 lP [] 2 [] Q (eP [4,5] Q Q (cQ [] Q Q)<|eP [7,8,9] Q Q (cQ [] Q Q)<|eP [11,12,13] Q Q (cQ [] Q Q)<|cQ [] Q Q) fun x1=>dE Q Q
theorem TD{o_:bK}:V0 Tryz.prog κ 137 (JV o_) [.g [I o_.Kind,I o_.Cell,I o_.gP,I o_.dK]] .b:=
 dW tok Tryz.call137 Tryz.func137 Tryz.results137 Q Q<|c0 Q (fun _=>dL) fun x1=>b8 [6] Q Q (dE Q Q)<|d5 0 1 (DR o_) [1] 21 [0] Q (c0 Q (fun _=>OY) fun x7=>eP [10,11] Q Q (eP [14,15,16] Q Q (cQ [0] Q Q)<|c0 Q (fun _=>dL) fun x8=>cQ [0] Q Q)<|c0 Q (fun _=>dL) fun x9=>cQ [0] Q Q) fun x2=>b8 [21] Q Q (dE Q Q)<|b8 [24] Q Q (d5 0 1 JA [] 2 [] Q (eP [27,28] Q Q (cQ [] Q Q)<|cQ [] Q Q) fun x3=>dE Q Q)<|d5 0 1 JB [] 2 [] Q (c0 Q (fun _=>dL) fun x5=>eP [35,36] Q Q (c0 Q (fun _=>dL) fun x6=>cQ [] Q Q)<|cQ [] Q Q) fun x4=>dE Q Q
theorem TE{todo:List Queue}{s1:AC}(h1:bL κ s1 todo):V0 Tryz.prog κ 135 (DS todo) [.h s1 todo.length] .b:=
 dW tok Tryz.call135 Tryz.func135 Tryz.results135 Q Q<|PG 3 [0] [] Out.brk [0] [] Q Q (fun hF1 x2 hr1=>b8 [8] Q Q (OG NA Q h1 Q fun x3 s2 h2=>b8 [17] Q Q (MT hr1 hF1<|dE Q Q)<|PG 4 [0,3] [] Out.brk [0,3] [] Q Q (fun hF2 x5 hr2=>OG NA Q h1 Q fun x6 s3 h3=>b8 [25] Q Q (OG NA Q h1 Q fun x7 s4 h4=>OG aWX Q h4 Q fun x8 _ _=>c0 Q (fun _=>TD) fun x9=>b8 [37] Q Q (MT hr2 hF2<|MT hr1 hF1<|dE Q Q)<|J4 [] Q)<|FW [] Q)<|J4 [] Q)<|FW [] Q)<|dE Q Q
theorem AO{c:eA}{s1:AC}{b0:Nat×Nat}(h1:bL κ s1 c.b):VS Tryz.prog κ 202 (rW c) [.p 0 0] [b0] [.box 0 [.h s1 c.b.length,I c.i,I c.h]] (fun(r:Int×(Int×Int)) (y:Unit)=>I r.1) (fun(r:Int×(Int×Int)) (y:Unit)=>[.box 0 [.h s1 c.b.length,I r.2.1,I r.2.2]]):=
 dW tok Tryz.call202 Tryz.func202 Tryz.results202 Q Q<|nZ aO [0] Q<|iT 1 1 (fun(p:Int×Int)=>DT c p.1 p.2) [0] (fun(p:Int×Int) (_:Unit)=>[(3,I p.1)]) [] (fun p _=>[.box 0 [.h s1 c.b.length,I p.2,I (aY ((aY (c.h * 6364136223846793005))+1442695040888963407))]]) Q (nZ aO [0] Q<|b8 [34] Q Q (nZ aO [0] Q<|OG cU Q h1 Q fun x3 _ _=>cQ (p:=(hJ .and .i64 (aY ((hJ .and .i64 (hJ .xor .i64 (vQ .i64 (aY ((aY (c.h * 6364136223846793005))+1442695040888963407)) 33) (vQ .i64 (aY ((aY (c.h * 6364136223846793005))+1442695040888963407)) 45)) 255)+(x3.toNat:Int))) 255,aY (c.i+1))) [0] Q Q)<|cQ (p:=(hJ .and .i64 (hJ .xor .i64 (vQ .i64 (aY ((aY (c.h * 6364136223846793005))+1442695040888963407)) 33) (vQ .i64 (aY ((aY (c.h * 6364136223846793005))+1442695040888963407)) 45)) 255,c.i)) [0] Q Q) fun⟨x1,x2⟩ _=>nP () [0] Q Q
theorem gI{c:eA}{n:Int}{s1:AC}{b0:Nat×Nat}(h1:bL κ s1 c.b):VS Tryz.prog κ 98 (gH c n) [.p 0 0,I n] [b0] [.box 0 [.h s1 c.b.length,I c.i,I c.h]] (fun(r:Int×(Int×Int)) (y:Unit)=>I r.1) (fun(r:Int×(Int×Int)) (y:Unit)=>[.box 0 [.h s1 c.b.length,I r.2.1,I r.2.2]]):=
 dW tok Tryz.call98 Tryz.func98 Tryz.results98 Q Q<|b8 [10] Q Q (nP () [0] Q Q)<|b8 [12] Q Q (d6 0 0 0 3 [] Q Q Q Q Q (fun h=>AO (h.a h1)) fun x1 _=>fun hF=>a5V Q Q Q Q hF fun hF=>wi hF<|nP () [0] Q Q)<|d6 0 0 0 3 [] Q Q Q Q Q (fun h=>AO (h.a h1)) fun x2 _=>d6 0 0 0 3 [] Q Q Q Q Q (fun h=>AO (c:=(⟨c.b,x2.2.1,x2.2.2⟩:eA)) (h.a h1)) fun x3 _=>d6 0 0 0 3 [] Q Q Q Q Q (fun h=>AO (c:=(⟨c.b,x3.2.1,x3.2.2⟩:eA)) (h.a h1)) fun x4 _=>d6 0 0 0 3 [] Q Q Q Q Q (fun h=>AO (c:=(⟨c.b,x4.2.1,x4.2.2⟩:eA)) (h.a h1)) fun x5 _=>fun hF=>a5V Q Q Q Q hF fun hF=>wi hF<|nP () [0] Q Q
theorem aIF{c:eA}{n:Int}{s1:AC}{b0:Nat×Nat}(h1:bL κ s1 c.b):VS Tryz.prog κ 158 (SX c n) [.p 0 0,I n] [b0] [.box 0 [.h s1 c.b.length,I c.i,I c.h]] (fun(r:Bool×(Int×Int)) (y:Unit)=>.b r.1) (fun(r:Bool×(Int×Int)) (y:Unit)=>[.box 0 [.h s1 c.b.length,I r.2.1,I r.2.2]]):=
 dW tok Tryz.call158 Tryz.func158 Tryz.results158 Q Q<|d6 0 0 0 3 [] Q Q Q Q Q (fun h=>gI (h.a h1)) fun x1 _=>nP () [0] Q Q
theorem m8{c:eA}{list:List Int}{s1:AC}{s2:AC}{b0:Nat×Nat}(h1:bL κ s1 c.b)(h2:bL κ s2 list):VS Tryz.prog κ 203 (rJ c list) [.p 0 0,.h s2 list.length] [b0] [.box 0 [.h s1 c.b.length,I c.i,I c.h]] (fun(r:Int×(Int×Int)) (y:Unit)=>I r.1) (fun(r:Int×(Int×Int)) (y:Unit)=>[.box 0 [.h s1 c.b.length,I r.2.1,I r.2.2]]):=
 dW tok Tryz.call203 Tryz.func203 Tryz.results203 Q Q<|d6 0 0 0 3 [] Q Q Q Q Q (fun h=>gI (h.a h1)) fun x1 _=>VA Q h2 Q fun x2=>nP () [0] Q Q
theorem aK1{code:List UInt8}{s1:AC}(h1:bL κ s1 code):VP Tryz.prog κ 62 (P0 code) [.h s1 code.length] (fun r=>[.h s1 code.length,I r.1,I r.2]):=
 dW tok Tryz.call62 Tryz.func62 Tryz.results62 Q Q<|QX () [0] (fun(p:Int×Int) (_:Unit)=>[(3,I p.1),(4,I p.2)]) [] [] (fun p _=>[]) id [0] (fun(x5:Int) (_:Unit)=>[(3,I x5)]) [] (fun x5 _=>[]) Q Q (fun hF1 ⟨x3,x4⟩ _ hr1=>d5 0 0 (GK code x3 x4) [0,3,4] 15 [] Q (eP [11,12] Q Q (cQ [] Q Q)<|cQ [] Q Q) fun x6=>b8 [15] Q Q (OG cU Q h1 Q fun x7 _ _=>J4 [] Q)<|FW [] Q) fun x5 _=>rtP [0] Q Q Q Q
theorem X5{c:eA}{s1:AC}{b0:Nat×Nat}(h1:bL κ s1 c.b):VS Tryz.prog κ 201 (P1 c) [.p 0 0] [b0] [.box 0 [.h s1 c.b.length,I c.i,I c.h]] (fun(r:bK×(Int×Int)) (y:Unit)=>.g [I r.1.Kind,I r.1.Cell,I r.1.gP,I r.1.dK]) (fun(r:bK×(Int×Int)) (y:Unit)=>[.box 0 [.h s1 c.b.length,I r.2.1,I r.2.2]]):=
 dW tok Tryz.call201 Tryz.func201 Tryz.results201 Q Q<|fun hF=>ltK oI () ([1,1,1,2,2,3,3,4,4,5,6,7,7]:List Int) aW Q Q Q Q Q Q Q Q Q Q (fun _=>Q) fun s2=>wi hF<|d6 0 0 0 3 [] Q Q Q Q Q (fun h=>m8 (h.a h1) (h.o 2 Q Q)) fun x1 _=>iT 1 3 (fun(p:Int×Int×Int)=>AK c x1 p.1 p.2.1 p.2.2) [0,2,3] (fun(p:Int×Int×Int) (_:Unit)=>[]) [1] (fun p _=>[.box 0 [.h s1 c.b.length,I p.1,I p.2.1],.box 2 [I x1.1,I p.2.2,I 0,I 0]]) Q (c0 Q (fun _=>OY) fun x16=>b8 [10] Q Q (fun hF=>ltK oI () ([0,0,0,1]:List Int) aW Q Q Q Q Q Q Q Q Q Q (fun _=>Q) fun s4=>wi hF<|d6 0 0 0 3 [] Q Q Q Q Q (fun h=>m8 (c:=(⟨c.b,x1.2.1,x1.2.2⟩:eA)) (h.a h1) (h.o 4 Q Q)) fun x17 _=>cQ (p:=(x17.2.1,x17.2.2,x17.1)) [0,3,1] Q Q)<|cQ (p:=(x1.2.1,x1.2.2,0)) [0,3,1] Q Q) fun⟨x2,x3,x4⟩ _=>iT 0 3 (fun(p:Int×Int×Int×Int)=>GL x1 x4 p.1 p.2.1 p.2.2.1 p.2.2.2) [0,2,3] (fun(p:Int×Int×Int×Int) (_:Unit)=>[]) [2] (fun p _=>[.box 0 [.h s1 c.b.length,I p.1,I p.2.1],.box 2 [I x1.1,I x4,I p.2.2.1,I p.2.2.2]]) Q (b8 [17] Q Q (d6 0 0 0 3 [] Q Q Q Q Q (fun h=>gI (c:=(⟨c.b,x2,x3⟩:eA)) (h.a h1)) fun x9 _=>iT 1 3 (fun(p:Int×Int×Int)=>GM c x1 x4 p.1 p.2.1 p.2.2) [0,2,3] (fun(p:Int×Int×Int) (_:Unit)=>[]) [2] (fun p _=>[.box 0 [.h s1 c.b.length,I p.1,I p.2.1],.box 2 [I x1.1,I x4,I p.2.2,I 0]]) Q (d6 0 0 0 3 [] Q Q Q Q Q (fun h=>aIF (c:=(⟨c.b,x9.2.1,x9.2.2⟩:eA)) (h.a h1)) fun x14 _=>b8 [23] Q Q (fun hF=>ltK oI () ([0,41,100]:List Int) aW Q Q Q Q Q Q Q Q Q Q (fun _=>Q) fun s3=>wi hF<|d6 0 0 0 3 [] Q Q Q Q Q (fun h=>m8 (c:=(⟨c.b,x14.2.1,x14.2.2⟩:eA)) (h.a h1) (h.o 3 Q Q)) fun x15 _=>cQ (p:=(x15.2.1,x15.2.2,x15.1)) [0,1,2] Q Q)<|cQ (p:=(x14.2.1,x14.2.2,aY (1+x9.1))) [0,1,2] Q Q) fun⟨x10,x11,x12⟩ _=>d6 0 0 0 3 [] Q Q Q Q Q (fun h=>gI (c:=(⟨c.b,x10,x11⟩:eA)) (h.a h1)) fun x13 _=>cQ (p:=(x13.2.1,x13.2.2,x12,x13.1)) [0,1,2] Q Q)<|cQ (p:=(x2,x3,0,0)) [0,1,2] Q Q) fun⟨x5,x6,x7,x8⟩ _=>nP () [0] Q Q
theorem OZ{c:eA}{most:Int}{s1:AC}{b0:Nat×Nat}(h1:bL κ s1 c.b):VS Tryz.prog κ 96 (wS c most) [.p 0 0,I most] [b0] [.box 0 [.h s1 c.b.length,I c.i,I c.h]] (fun(r:(List Queue)×(Int×Int)) (y:AC)=>.h y r.1.length) (fun(r:(List Queue)×(Int×Int)) (y:AC)=>[.box 0 [.h s1 c.b.length,I r.2.1,I r.2.2],ow y r.1]):=
 dW tok Tryz.call96 Tryz.func96 Tryz.results96 Q Q<|fun hF=>WJ (α:=Queue) fI Q Q Q Q fun s2=>wi hF<|QX s2 [0,1] (fun(p:(List Queue)×Int×Int×Int) (s4:AC)=>[(5,.h s4 p.1.length),(6,I p.2.1)]) [1,0] [] (fun p s4=>[ow s4 (p.1:List Queue),.box 0 [.h s1 c.b.length,I p.2.2.1,I p.2.2.2]]) id [0] (fun(p:(List Queue)×Int×Int) (s5:AC)=>[(5,.h s5 p.1.length)]) [] (fun p s5=>[ow s5 (p.1:List Queue),.box 0 [.h s1 c.b.length,I p.2.1,I p.2.2]]) Q Q (fun hF1 ⟨x5,x6,x7,x8⟩ s4 hr1=>b8 [11] Q Q (d6 1 0 0 3 [] Q Q Q Q Q (fun h=>gI (c:=(⟨c.b,x7,x8⟩:eA)) (h.a h1)) fun x12 _=>fun hG1=>nw bK Q<|wi hG1<|QX ⟨none,0⟩ [0,1,5,6,7] (fun(p:Int×Int×Int×(List bK)) (s7:AC)=>[(8,I p.1)]) [1,3,2,0] [0] (fun p s7=>[.box 0 [.h s1 c.b.length,I p.2.1,I p.2.2.1],ow s7 (p.2.2.2:List bK),.box 1 [.h s7 p.2.2.2.length]]) id [0,1,5,6,7] (fun(p:Int×Int×(List bK)) (s8:AC)=>[]) [0] (fun p s8=>[.box 0 [.h s1 c.b.length,I p.1,I p.2.1],ow s8 (p.2.2:List bK),.box 1 [.h s8 p.2.2.length]]) Q Q (fun hF2 ⟨x17,x18,x19,x20⟩ s7 hr2=>b8 [20] Q Q (iT 0 2 (fun(p:Int×Int×(List bK))=>D3 x17 p.1 p.2.1 p.2.2) [0,1,5,6,7,8] (fun(p:Int×Int×(List bK)) (s11:AC)=>[]) [3] (fun p s11=>[.box 0 [.h s1 c.b.length,I p.1,I p.2.1],ow s11 (p.2.2:List bK),.box 1 [.h s11 p.2.2.length]]) Q (nZ aO [] Q<|fun hG2=>bd hG2 fun x27 hA1 hG2=>nd hG2 fun hA2 hG2=>hC Q Q (have hq1:=rb hA1;wi hq1<|d6 0 0 0 3 [] Q Q Q Q Q (fun h=>X5 (c:=(⟨c.b,x18,x19⟩:eA)) (h.a h1)) fun u1 _=>fun hq1=>match u1,hq1 with | _,rfl=>RY D8 [] (x27.1) () bG Q Q Q Q Q Q Q Q Q Q Q Q Q fun s14=>have hq2:=rn hA2;ap 1 bG Q Q Q Q Q Q Q (fun h=>(h.o 4 Q)) Q Q hq2 fun hq2 s15=>wi hG2<|pR (p:=(x27.2.1,x27.2.2,x20++([x27.1]))) s15 [0,1,2,3] Q Q) (have hq3:=rb hA1;wi hq3<|d6 0 0 0 3 [] Q Q Q Q Q (fun h=>X5 (c:=(⟨c.b,x18,x19⟩:eA)) (h.a h1)) fun u2 _=>fun hq3=>match u2,hq3 with | _,rfl=>hC Q Q (RY D8 [] (x27.1) () bG Q Q Q Q Q Q Q Q Q Q Q Q Q fun s16=>have hq4:=rn hA2;ap 1 bG Q Q Q Q Q Q Q (fun h=>(h.o 4 Q)) Q Q hq4 fun hq4 s17=>wi hG2<|pR (p:=(x27.2.1,x27.2.2,x20++([x27.1]))) s17 [0,1,2,3] Q Q) (RY D8 [] (x27.1) () bG Q Q Q Q Q Q Q Q Q Q Q Q Q fun s18=>have hq5:=rn hA2;ap 1 bG Q Q Q Q Q Q Q (fun h=>(h.o 4 Q)) Q Q hq5 fun hq5 s19=>wi hG2<|pR (p:=(x27.2.1,x27.2.2,x20++([x27.1]))) s19 [0,1,2,3] Q Q))) fun⟨x24,x25,x26⟩ s11=>nxW s11 [0,1,2,3] Q)<|bkW s7 [0,1,2,3] Q) fun⟨x21,x22,x23⟩ s8=>fun hG1=>RY dS [1] ((⟨x23⟩:Queue)) s8 fI Q Q Q Q Q Q Q Q Q Q Q Q Q fun s9=>apN 3 4 fI Q Q Q Q Q Q Q Q Q Q Q hG1 fun hG1 s10=>wi hG1<|nxW s10 [5,0] Q)<|bkW s4 [0,1] Q) fun⟨x9,x10,x11⟩ s5=>nP s5 [1,0] Q Q
theorem aBW{c:eA}{most:Int}{s1:AC}{b0:Nat×Nat}(h1:bL κ s1 c.b):VS Tryz.prog κ 97 (GN c most) [.p 0 0,I most] [b0] [.box 0 [.h s1 c.b.length,I c.i,I c.h]] (fun(r:(List Int)×(Int×Int)) (y:AC)=>.h y r.1.length) (fun(r:(List Int)×(Int×Int)) (y:AC)=>[.box 0 [.h s1 c.b.length,I r.2.1,I r.2.2],ow y r.1]):=
 dW tok Tryz.call97 Tryz.func97 Tryz.results97 Q Q<|fun hF=>WJ (α:=Int) aW Q Q Q Q fun s2=>wi hF<|d6 0 0 0 3 [] Q Q Q Q Q (fun h=>gI (h.a h1)) fun x1 _=>QX s2 [0] (fun(p:(List Int)×Int×Int×Int) (s4:AC)=>[(5,.h s4 p.1.length),(6,I p.2.1)]) [1,0] [] (fun p s4=>[ow s4 (p.1:List Int),.box 0 [.h s1 c.b.length,I p.2.2.1,I p.2.2.2]]) id [0] (fun(p:(List Int)×Int×Int) (s5:AC)=>[(5,.h s5 p.1.length)]) [] (fun p s5=>[ow s5 (p.1:List Int),.box 0 [.h s1 c.b.length,I p.2.1,I p.2.2]]) Q Q (fun hF1 ⟨x6,x7,x8,x9⟩ s4 hr1=>b8 [14] Q Q (d6 1 0 0 3 [] Q Q Q Q Q (fun h=>gI (c:=(⟨c.b,x8,x9⟩:eA)) (h.a h1)) fun x13 _=>d6 1 0 0 3 [] Q Q Q Q Q (fun h=>gI (c:=(⟨c.b,x13.2.1,x13.2.2⟩:eA)) (h.a h1)) fun x14 _=>QX s4 [0,6,7] (fun(p:(List Int)×Int) (s7:AC)=>[(5,.h s7 p.1.length),(8,I p.2)]) [0,1] [1] (fun p s7=>[ow s7 (p.1:List Int)]) id [0,6] (fun(x19:(List Int)) (s8:AC)=>[(5,.h s8 x19.length)]) [1] (fun x19 s8=>[ow s8 (x19:List Int)]) Q Q (fun hF2 ⟨x17,x18⟩ s7 hr2=>b8 [23] Q Q (fun hG2=>lt1 Q aW Q Q Q Q fun s9=>ap 0 aW Q Q Q Q Q Q Q (fun h=>(h.o 2 Q)) Q Q hG2 fun hG2 s10=>wi hG2<|nxW s10 [0,1] Q)<|bkW s7 [0,1] Q) fun x19 s8=>nxW s8 [0,1] Q)<|bkW s4 [0,1] Q) fun⟨x10,x11,x12⟩ s5=>nP s5 [1,0] Q Q
theorem X6{c:eA}{s1:AC}{b0:Nat×Nat}(h1:bL κ s1 c.b):VS Tryz.prog κ 99 (oP c) [.p 0 0] [b0] [.box 0 [.h s1 c.b.length,I c.i,I c.h]] (fun(r:(List Queue)×(Int×Int)) (y:AC)=>.h y r.1.length) (fun(r:(List Queue)×(Int×Int)) (y:AC)=>[.box 0 [.h s1 c.b.length,I r.2.1,I r.2.2],ow y r.1]):=
 dW tok Tryz.call99 Tryz.func99 Tryz.results99 Q Q<|d6 0 0 0 3 [] Q Q Q Q Q (fun h=>OZ (h.a h1)) fun x1 s2=>iT 1 1 (fun(p:(List Queue)×Int×Int)=>jD p.1 p.2.1 p.2.2) [0] (fun(p:(List Queue)×Int×Int) (_:Unit)=>[(3,.h s2 p.1.length)]) [] (fun p _=>[ow s2 (p.1:List Queue),.box 0 [.h s1 c.b.length,I p.2.1,I p.2.2]]) Q (d6 0 0 0 3 [] Q Q Q Q Q (fun h=>gI (c:=(⟨c.b,x1.2.1,x1.2.2⟩:eA)) (h.a h1)) fun x5 _=>b8 [8,9] Q Q (fun hF=>cpc 1 Q Q fun hc1=>aS2 hc1 Q Q Q Q Q Q hF fun hF h2=>sR Q<|poR 1 0 ((2:Int).toNat) Q Q h2 Q<|tF (hT:=tok) (AC.sub s2 1 0) [0,1] hF Q Tryz.results99 Q Q Q Q)<|b8 [12,13] Q Q (iT 0 1 (fun(p:(List Queue)×Int×Int)=>sS p.1 p.2.1 p.2.2) [0] (fun(p:(List Queue)×Int×Int) (_:Unit)=>[(3,.h s2 p.1.length)]) [] (fun p _=>[ow s2 (p.1:List Queue),.box 0 [.h s1 c.b.length,I p.2.1,I p.2.2]]) Q (nZ aO [] Q<|nQ dS 1 Q Q Q fun x9 h3 s3 h4=>fun hF=>iS 1 h4 h3 Q Q Q Q Q<|bd hF fun x10 hA1 hF=>nd hF fun hA2 hF=>hC Q Q (ltK oI () ([0,8]:List Int) aW Q Q Q Q Q Q Q Q Q Q (fun _=>Q) fun s7=>have hq1:=rb hA1;wi hq1<|d6 0 0 0 3 [] Q Q Q Q Q (fun h=>m8 (c:=(⟨c.b,x5.2.1,x5.2.2⟩:eA)) (h.a h1) (h.o 6 Q Q)) fun u1 _=>fun hq1=>match u1,hq1 with | _,rfl=>RY D8 [] ((⟨x10.1,0,0,0⟩:bK)) () bG Q Q Q Q Q Q Q Q Q Q Q Q Q fun s8=>have hq2:=rn hA2;ap 5 bG Q Q Q Q Q Q Q (fun h=>(h.o 7 Q)) Q Q hq2 fun hq2 s9=>iS 1 h4 h3 Q Q Q Q Q<|sF Q<|pY dS 2 [5] [3,5,14,15] (⟨x9.fM++([(⟨x10.1,0,0,0⟩:bK)])⟩:Queue) s9 Q Q Q Q Q Q Q Q<|kK (p:=(x1.1.set ((0:Int).toNat) (⟨x9.fM++([(⟨x10.1,0,0,0⟩:bK)])⟩:Queue),x10.2.1,x10.2.2)) () [8,0] hF Q) (ltK oI () ([0,8]:List Int) aW Q Q Q Q Q Q Q Q Q Q (fun _=>Q) fun s10=>hC Q Q (have hq3:=rb hA1;wi hq3<|d6 0 0 0 3 [] Q Q Q Q Q (fun h=>m8 (c:=(⟨c.b,x5.2.1,x5.2.2⟩:eA)) (h.a h1) (h.o 6 Q Q)) fun u2 _=>fun hq3=>match u2,hq3 with | _,rfl=>RY D8 [] ((⟨x10.1,0,0,0⟩:bK)) () bG Q Q Q Q Q Q Q Q Q Q Q Q Q fun s11=>have hq4:=rn hA2;ap 5 bG Q Q Q Q Q Q Q (fun h=>(h.o 7 Q)) Q Q hq4 fun hq4 s12=>iS 1 h4 h3 Q Q Q Q Q<|sF Q<|pY dS 2 [5] [3,5,14,15] (⟨x9.fM++([(⟨x10.1,0,0,0⟩:bK)])⟩:Queue) s12 Q Q Q Q Q Q Q Q<|kK (p:=(x1.1.set ((0:Int).toNat) (⟨x9.fM++([(⟨x10.1,0,0,0⟩:bK)])⟩:Queue),x10.2.1,x10.2.2)) () [8,0] hF Q) (have hq5:=rb hA1;wi hq5<|d6 0 0 0 3 [] Q Q Q Q Q (fun h=>m8 (c:=(⟨c.b,x5.2.1,x5.2.2⟩:eA)) (h.a h1) (h.o 6 Q Q)) fun u3 _=>fun hq5=>match u3,hq5 with | _,rfl=>hC Q Q (RY D8 [] ((⟨x10.1,0,0,0⟩:bK)) () bG Q Q Q Q Q Q Q Q Q Q Q Q Q fun s13=>have hq6:=rn hA2;ap 5 bG Q Q Q Q Q Q Q (fun h=>(h.o 7 Q)) Q Q hq6 fun hq6 s14=>iS 1 h4 h3 Q Q Q Q Q<|sF Q<|pY dS 2 [5] [3,5,14,15] (⟨x9.fM++([(⟨x10.1,0,0,0⟩:bK)])⟩:Queue) s14 Q Q Q Q Q Q Q Q<|kK (p:=(x1.1.set ((0:Int).toNat) (⟨x9.fM++([(⟨x10.1,0,0,0⟩:bK)])⟩:Queue),x10.2.1,x10.2.2)) () [8,0] hF Q) (RY D8 [] ((⟨x10.1,0,0,0⟩:bK)) () bG Q Q Q Q Q Q Q Q Q Q Q Q Q fun s15=>have hq7:=rn hA2;ap 5 bG Q Q Q Q Q Q Q (fun h=>(h.o 7 Q)) Q Q hq7 fun hq7 s16=>iS 1 h4 h3 Q Q Q Q Q<|sF Q<|pY dS 2 [5] [3,5,14,15] (⟨x9.fM++([(⟨x10.1,0,0,0⟩:bK)])⟩:Queue) s16 Q Q Q Q Q Q Q Q<|kK (p:=(x1.1.set ((0:Int).toNat) (⟨x9.fM++([(⟨x10.1,0,0,0⟩:bK)])⟩:Queue),x10.2.1,x10.2.2)) () [8,0] hF Q)))) fun⟨x6,x7,x8⟩ _=>cQ (p:=(x6,x7,x8)) [0,1] Q Q)<|b8 [27,28] Q Q (QX () [0] (fun(p:(List Queue)×Int×Int) (_:Unit)=>[(3,.h s2 p.1.length)]) [1,0] [] (fun p _=>[ow s2 (p.1:List Queue),.box 0 [.h s1 c.b.length,I p.2.1,I p.2.2]]) id [0] (fun(p:(List Queue)×Int×Int) (_:Unit)=>[(3,.h s2 p.1.length)]) [] (fun p _=>[ow s2 (p.1:List Queue),.box 0 [.h s1 c.b.length,I p.2.1,I p.2.2]]) Q Q (fun hF3 ⟨x14,x15,x16⟩ _ hr3=>iT 0 1 (fun(p:Bool×Int×Int)=>sT x14 p.1 p.2.1 p.2.2) [0,3] (fun(p:Bool×Int×Int) (_:Unit)=>[(37,.b p.1)]) [0] (fun p _=>[.box 0 [.h s1 c.b.length,I p.2.1,I p.2.2]]) Q (nZ aO [] Q<|nQ dS 0 Q Q Q fun x24 h7 s20 h8=>fun hG3=>iS 1 h8 h7 Q Q Q Q Q<|bd hG3 fun x25 hA3 hG3=>hC Q Q (have hq8:=rb hA3;wi hq8<|d6 1 0 0 3 [] Q Q Q Q Q (fun h=>gI (c:=(⟨c.b,x15,x16⟩:eA)) (h.a h1)) fun u4 _=>fun hq8=>match u4,hq8 with | _,rfl=>sF Q<|jR dS 2 [5] h7 s20 Q Q Q Q Q Q Q<|kK (p:=(decide ((x24.fM.length:Int) < (aY (12+x25.1))),x25.2.1,x25.2.2)) () [1,6] hG3 Q) (have hq9:=rb hA3;wi hq9<|d6 1 0 0 3 [] Q Q Q Q Q (fun h=>gI (c:=(⟨c.b,x15,x16⟩:eA)) (h.a h1)) fun u5 _=>fun hq9=>match u5,hq9 with | _,rfl=>sF Q<|jR dS 2 [5] h7 s20 Q Q Q Q Q Q Q<|kK (p:=(decide ((x24.fM.length:Int) < (aY (12+x25.1))),x25.2.1,x25.2.2)) () [1,6] hG3 Q)) fun⟨x20,x21,x22⟩ _=>b8 [37] Q Q (nQ dS 1 Q Q Q fun x23 h5 s17 h6=>fun hG3=>iS 1 h6 h5 Q Q Q Q Q<|RY D8 [] ((⟨4,0,0,0⟩:bK)) () bG Q Q Q Q Q Q Q Q Q Q Q Q Q fun s18=>ap 5 bG Q Q Q Q Q Q Q (fun h=>(h.o 6 Q)) Q Q hG3 fun hG3 s19=>iS 1 h6 h5 Q Q Q Q Q<|sF Q<|pY dS 2 [5] [3,38,39] (⟨x23.fM++([(⟨4,0,0,0⟩:bK)])⟩:Queue) s19 Q Q Q Q Q Q Q Q<|nxR () [7,0] hG3 Q)<|FW [1,0] Q) fun⟨x17,x18,x19⟩ _=>cQ (p:=(x17,x18,x19)) [0,1] Q Q)<|b8 [48,49] Q Q (nQ dS 1 Q Q Q fun x26 h9 s21 h10=>fun hF=>iS 1 h10 h9 Q Q Q Q Q<|RY D8 [] ((⟨2,2,0,0⟩:bK)) () bG Q Q Q Q Q Q Q Q Q Q Q Q Q fun s22=>ap 5 bG Q Q Q Q Q Q Q (fun h=>(h.o 6 Q)) Q Q hF fun hF s23=>iS 1 h10 h9 Q Q Q Q Q<|sF Q<|pY dS 2 [5] [3,5,50,51] (⟨x26.fM++([(⟨2,2,0,0⟩:bK)])⟩:Queue) s23 Q Q Q Q Q Q Q Q<|kK (p:=(x1.1.set ((2:Int).toNat) (⟨x26.fM++([(⟨2,2,0,0⟩:bK)])⟩:Queue),x5.2.1,x5.2.2)) () [7,0] hF Q)<|cQ (p:=(x1.1,x5.2.1,x5.2.2)) [1,0] Q Q) fun⟨x2,x3,x4⟩ _=>nP s2 [1,0] Q Q
theorem jN{code:List UInt8}{s1:AC}(h1:bL κ s1 code):VS Tryz.prog κ 37 (jE code) [.h s1 code.length] [] [] (fun r (y:AC×AC)=>.g [.h y.1 r.aZ.length,.h y.2 r.jL.length]) (fun r y=>[ow y.1 r.aZ,ow y.2 r.jL]):=
 dW tok Tryz.call37 Tryz.func37 Tryz.results37 Q Q<|cP Q (fun h=>aK1 (h.a h1)) fun x1=>d6 1 1 0 3 [] Q Q Q Q Q (fun h=>OZ (c:=(⟨code,x1.1,x1.2⟩:eA)) (h.a h1)) fun x2 s2=>d6 1 1 0 3 [] Q Q Q Q Q (fun h=>aBW (c:=(⟨code,x2.2.1,x2.2.2⟩:eA)) (h.a h1)) fun x3 s3=>iT 1 3 (fun(p:(List Queue)×(List Int))=>iV p.1 p.2) [2,4] (fun(p:(List Queue)×(List Int)) (u:AC×AC)=>[]) [0] (fun p u=>[ow u.1 (p.1:List Queue),ow u.2 (p.2:List Int),.box 2 [.h u.1 p.1.length,.h u.2 p.2.length]]) Q (d6 1 1 0 3 [] Q Q Q Q Q (fun h=>gI (c:=(⟨code,x3.2.1,x3.2.2⟩:eA)) (h.a h1)) fun x6 _=>b8 [14,15] Q Q (d6 1 1 0 3 [] Q Q Q Q Q (fun h=>X6 (c:=(⟨code,x6.2.1,x6.2.2⟩:eA)) (h.a h1)) fun x7 s6=>pR (p:=(x7.1,x3.1)) (s6,s3) [5,3,4,0] Q Q)<|b8 [19,20] Q Q (fun hF=>ltK oI () ([(-1),3,1]:List Int) aW Q Q Q Q Q Q Q Q Q Q (fun _=>Q) fun s7=>ap 3 aW Q Q Q Q Q Q Q (fun h=>(h.o 5 Q)) Q Q hF fun hF s8=>wi hF<|pR (p:=(x2.1,x3.1++([(-1),3,1]:List Int))) (s2,s8) [2,3,4,0] Q Q)<|pR (p:=(x2.1,x3.1)) (s2,s3) [2,3,4,0] Q Q) fun⟨x4,x5⟩ ⟨s4,s5⟩=>nP (s4,s5) [0,1] Q Q
theorem FM{x:zD}{s1 s2:AC}(h1:bL κ s1 x.aZ)(h2:bL κ s2 x.jL):VS Tryz.prog κ 39 (lD x) [.g [.h s1 x.aZ.length,.h s2 x.jL.length]] [] [] (fun r (y:aBK)=>.g (yS r y)) (fun r y=>(zS r y [])):=
 dW tok Tryz.call39 Tryz.func39 Tryz.results39 Q Q<|c1 Q (fun h=>BO (h.a h1)) fun x1 s3=>b8 [12] Q Q (nP s3 [2,3,4,5,6,7,8,9,10,11,12] Q Q)<|fun hF=>a7M Q Q Q Q<|a5Y Q Q Q Q Q h2 Q Q hF fun hF s4 h3=>wi hF<|QX (s3.1,s3.2.1,s3.2.2.1,s3.2.2.2.1,s3.2.2.2.2.1,s3.2.2.2.2.2.1,s3.2.2.2.2.2.2.1,s3.2.2.2.2.2.2.2.2.2.2) [2,3,20,21] (fun(p:Int×aB) (u:A8C)=>[(22,I p.1)]) [2,3,4,5,6,7,8,9,10,11,12,13,1] [1] (fun p u=>(oS p.2 u.1 u.2.1 u.2.2.1 u.2.2.2.1 u.2.2.2.2.1 u.2.2.2.2.2.1 u.2.2.2.2.2.2.1 s3.2.2.2.2.2.2.2.1 s3.2.2.2.2.2.2.2.2.1 s3.2.2.2.2.2.2.2.2.2.1 u.2.2.2.2.2.2.2 [.box 2 (gS p.2 u.1 u.2.1 u.2.2.1 u.2.2.2.1 u.2.2.2.2.1 u.2.2.2.2.2.1 u.2.2.2.2.2.2.1 s3.2.2.2.2.2.2.2.1 s3.2.2.2.2.2.2.2.2.1 s3.2.2.2.2.2.2.2.2.2.1 u.2.2.2.2.2.2.2)])) id [2,3] (fun(x6:aB) (u:A8C)=>[]) [1] (fun x6 u=>(oS x6 u.1 u.2.1 u.2.2.1 u.2.2.2.1 u.2.2.2.2.1 u.2.2.2.2.2.1 u.2.2.2.2.2.2.1 s3.2.2.2.2.2.2.2.1 s3.2.2.2.2.2.2.2.2.1 s3.2.2.2.2.2.2.2.2.2.1 u.2.2.2.2.2.2.2 [.box 2 (gS x6 u.1 u.2.1 u.2.2.1 u.2.2.2.1 u.2.2.2.2.1 u.2.2.2.2.2.1 u.2.2.2.2.2.2.1 s3.2.2.2.2.2.2.2.1 s3.2.2.2.2.2.2.2.2.1 s3.2.2.2.2.2.2.2.2.2.1 u.2.2.2.2.2.2.2)])) Q Q (fun hF1 ⟨x4,x5⟩ ⟨s13,s14,s15,s16,s17,s18,s19,s20⟩ hr1=>b8 [23] Q Q (iT 2 3 (vF x4) [2,3,20,21,22] (fun(x7:aB) (u:A8C)=>[]) [12] (fun x7 u=>(oS x7 u.1 u.2.1 u.2.2.1 u.2.2.2.1 u.2.2.2.2.1 u.2.2.2.2.2.1 u.2.2.2.2.2.2.1 s3.2.2.2.2.2.2.2.1 s3.2.2.2.2.2.2.2.2.1 s3.2.2.2.2.2.2.2.2.2.1 u.2.2.2.2.2.2.2 [.box 2 (gS x7 u.1 u.2.1 u.2.2.1 u.2.2.2.1 u.2.2.2.2.1 u.2.2.2.2.2.1 u.2.2.2.2.2.2.1 s3.2.2.2.2.2.2.2.1 s3.2.2.2.2.2.2.2.2.1 s3.2.2.2.2.2.2.2.2.2.1 u.2.2.2.2.2.2.2)])) Q (VA Q h3 Q fun x8=>c0 Q (fun _=>fQ) fun x9=>b8 [27] Q Q (d6 11 2 0 13 [0,1,2,3,4,5,6,7,8,9,10] Q Q Q Q Q (fun _=>EG) fun x10 s37=>pR s37 [14,15,16,17,18,19,20,21,22,23,24,11,12] Q Q)<|pR (s13,s14,s15,s16,s17,s18,s19,s20) [0,1,2,3,4,5,6,7,8,9,10,11,12] Q Q) fun x7 ⟨s29,s30,s31,s32,s33,s34,s35,s36⟩=>nxW (s29,s30,s31,s32,s33,s34,s35,s36) [0,1,2,3,4,5,6,7,8,9,10,11,12] Q)<|bkW (s13,s14,s15,s16,s17,s18,s19,s20) [0,1,2,3,4,5,6,7,8,9,10,11,12] Q) fun x6 ⟨s21,s22,s23,s24,s25,s26,s27,s28⟩=>nP (s21,s22,s23,s24,s25,s26,s27,s3.2.2.2.2.2.2.2.1,s3.2.2.2.2.2.2.2.2.1,s3.2.2.2.2.2.2.2.2.2.1,s28) [0,1,2,3,4,5,6,7,8,9,10] Q Q
end
end Go.Proofs.YtmaknhppafajdaaGreat
end
noncomputable section
namespace Go.Gv
theorem iQ{σ ρ:Type}{f:σ→Option (Step σ ρ)}(n:Nat)(S:Nat→σ)(r:ρ)(hs:∀k,k < n→f (S k)=some (.next (S (k+1))))(he:f (S n)=some (.stop r)):loop f (S 0)=some r:=by
  have key:∀d k,k+d=n→loop f (S k)=some r:=by
    intro d
    induction d with
    | zero => intro k hk; obtain rfl : k = n := by omega
              exact bU he
    | succ d ih=>intro k hk;rw [bV (hs k (by omega))];exact ih (k+1) (by omega)
  exact key n 0 (by omega)
theorem aS5{σ ρ:Type}{f:σ→Option (Step σ ρ)}(n:Nat)(S:Nat→σ)(g:Nat→ρ)
    (h:∀k,k≤n→f (S k)=some (.stop (g k))∨(k < n∧f (S k)=some (.next (S (k+1)))∧g k=g (k+1))):∀k,k≤n→loop f (S k)=some (g k):=by
  have key:∀d k,k+d=n→loop f (S k)=some (g k):=by
    intro d
    induction d with
    | zero =>
      intro k hk
      rcases h k (by omega) with h1 | ⟨h1,_⟩
      · exact bU h1
      · omega
    | succ d ih =>
      intro k hk
      rcases h k (by omega) with h1 | ⟨_,h2,h3⟩
      · exact bU h1
      · rw [bV h2,h3];exact ih (k+1) (by omega)
  intro k hk
  exact key (n - k) k (by omega)
theorem wZ{σ ρ:Type}{f:σ→Option (Step σ ρ)}(n:Nat)(S:Nat→σ)(p:Nat→Prop)[DecidablePred p](yes no:ρ)
    (h1:∀k,k < n→p k→f (S k)=some (.next (S (k+1)))) (h2:∀k,k < n→¬p k→f (S k)=some (.stop no)) (h3:f (S n)=some (.stop yes)) :
    loop f (S 0)=some (if ∀k,k < n→p k then yes else no):=by
  classical
  have key:∀d k,k+d=n→loop f (S k)=some (if ∀j,k≤j→j < n→p j then yes else no):=by
    intro d
    induction d with
    | zero =>
      intro k hk;obtain rfl:k=n:=by omega
      rw [bU h3,if_pos (fun j a b=>by omega)]
    | succ d ih =>
      intro k hk
      by_cases hp:p k
      · rw [bV (h1 k (by omega) hp),ih (k+1) (by omega)]
        by_cases h:∀j,k+1≤j→j < n→p j
        · rw [if_pos h,if_pos]
          intro j a b
          by_cases e:j=k
          · subst e;exact hp
          · exact h j (by omega) b
        · rw [if_neg h,if_neg]
          exact fun q=>h fun j a b=>q j (by omega) b
      · rw [bU (h2 k (by omega) hp),if_neg]
        exact fun q=>hp (q k (Nat.le_refl _) (by omega))
  have:=key n 0 (by omega)
  rw [this]
  by_cases h:∀k,k < n→p k
  · rw [if_pos h,if_pos (fun j _ b=>h j b)]
  · rw [if_neg h,if_neg (fun q=>h fun k a=>q k (Nat.zero_le _) a)]
theorem jO{α σ ρ:Type}{f:σ→Option (Step σ ρ)}(l:List α)(S:Nat→σ)(p:α→Prop)[DecidablePred p](yes no:ρ)
    (h1:∀k (h:k < l.length),p l[k]→f (S k)=some (.next (S (k+1)))) (h2:∀k (h:k < l.length),¬p l[k]→f (S k)=some (.stop no)) (h3:f (S l.length)=some (.stop yes)) :
    loop f (S 0)=some (if ∀x∈l,p x then yes else no):=by
  classical
  have:=wZ (f:=f) l.length S (fun k=>∀h:k < l.length,p l[k]) yes no (fun k h hp=>h1 k h (hp h)) (fun k h hp=>h2 k h (fun q=>hp fun _=>q)) h3
  rw [this]
  by_cases h:∀x∈l,p x
  · rw [if_pos h,if_pos (fun k hk _=>h _ (List.getElem_mem hk))]
  · rw [if_neg h,if_neg]
    intro q
    refine h fun x hx=>?_
    obtain⟨k,hk,rfl⟩:=List.mem_iff_getElem.1 hx
    exact q k hk hk
theorem aN{x:Int}(h1:-9223372036854775808≤x)(h2:x≤9223372036854775807):aY x=x:=J2 ⟨h1,h2⟩
theorem fL{α:Type}{l:List α}{i:Int}(h0:0≤i)(h1:i < l.length):idx l i=some (l[i.toNat]'(by omega)):=idx_eq h0 h1
theorem wrap_i64{x:Int}(h1:-9223372036854775808≤x)(h2:x≤9223372036854775807):IntKind.i64.wrap x=x:=J2 ⟨h1,h2⟩
theorem HL{x y:Int}(h1:0≤x):x.tdiv y=x / y:=Int.tdiv_eq_ediv_of_nonneg h1
theorem jX{x y:Int}(h1:0≤x):x.tmod y=x % y:=Int.tmod_eq_emod_of_nonneg h1
theorem a0K{x:Int}{k:Nat}(h1:0≤x)(hk:k≤63):vQ .i64 x k=x / 2 ^ k:=by
  unfold vQ
  have:min ((k:Int).toNat) IntKind.i64.bits=k:=by simp [IntKind.bits];omega
  rw [this,Int.fdiv_eq_ediv_of_nonneg _ (by exact Int.le_of_lt (Int.pow_pos (by omega)))]
end Go.Gv
end
noncomputable section
namespace Go.Gv
theorem eG(n a b:Int):cS n a b=some (decide (a≤n∧n≤b)):=by
  unfold cS qU
  by_cases h:a≤n <;> simp [h]
theorem cE(n a b:Int):bX n a b=some (decide (a≤n∧n≤b)):=by
  unfold bX I4
  by_cases h:a≤n <;> simp [h]
theorem map_take{α β:Type}(f:α→β){l:List α}{k:Nat}(h:k < l.length):(l.take (k+1)).map f=(l.take k).map f ++ [f l[k]]:=by
  rw [List.take_succ_eq_append_getElem h,List.map_append];rfl
end Go.Gv
end
noncomputable section
namespace Go.Gv
def gW(c:Int):Int:=if c=0 then 8 else if c=1 then 16 else if c=2 then 40 else 0
def aU(c:Int):Int:=if c=0 then 12 else if c=1 then 20 else if c=2 then 44 else 0
def b9(c:Int):Int:=if c=0 then 4 else if c=1 then 2 else if c=2 then 1 else 0
theorem fY{c:Int}(h:0≤c∧c≤2):c=0∨c=1∨c=2:=by omega
theorem aWY{c:Int}(h:¬(0≤c∧c≤2)):gW c=0:=by unfold gW;rw [if_neg (by omega),if_neg (by omega),if_neg (by omega)]
theorem aFM{c:Int}(h:¬(0≤c∧c≤2)):aU c=0:=by unfold aU;rw [if_neg (by omega),if_neg (by omega),if_neg (by omega)]
theorem aK2{c:Int}(h:¬(0≤c∧c≤2)):b9 c=0:=by unfold b9;rw [if_neg (by omega),if_neg (by omega),if_neg (by omega)]
theorem mQ(c:Int):0≤b9 c∧b9 c≤4:=by unfold b9;split <;> (try split) <;> (try split) <;> omega
theorem WV(c:Int):0≤aU c∧aU c≤44:=by unfold aU;split <;> (try split) <;> (try split) <;> omega
theorem hY{c:Int}:0 < b9 c↔0≤c∧c≤2:=by
  unfold b9;constructor
  · intro h;split at h <;> (try split at h) <;> (try split at h) <;> omega
  · intro h;rcases fY h with rfl | rfl | rfl <;> decide
theorem rP(c:Int):pI c=some (gW c):=by
  unfold pI gW
  by_cases h0:c=0 <;> by_cases h1:c=1 <;> by_cases h2:c=2 <;> simp [h0,h1,h2]
theorem kB(c:Int):kP c=some (decide (0≤c∧c≤2)):=by simp [kP,eG]
theorem TF(c:Int):CE c=some (gW c):=by
  unfold CE
  rw [kB]
  by_cases h:0≤c∧c≤2
  · rcases fY h with rfl | rfl | rfl <;> rfl
  · simp [h,aWY h]
theorem ZT(c:Int):z6 c=some (aU c):=by
  unfold z6
  rw [cE]
  by_cases h:0≤c∧c≤2
  · rcases fY h with rfl | rfl | rfl <;> rfl
  · simp [h,aFM h]
theorem O0(c:Int):uD c=some (aU c):=by
  unfold uD
  rw [kB]
  by_cases h:0≤c∧c≤2
  · rcases fY h with rfl | rfl | rfl <;> rfl
  · simp [h,aFM h]
theorem iD(c:Int):mN c=some (b9 c):=by
  unfold mN
  rw [cE]
  by_cases h:0≤c∧c≤2
  · rcases fY h with rfl | rfl | rfl <;> rfl
  · simp [h,aK2 h]
theorem BP(c:Int):o9 c=some (b9 c):=by
  unfold o9
  rw [kB]
  by_cases h:0≤c∧c≤2
  · rcases fY h with rfl | rfl | rfl <;> rfl
  · simp [h,aK2 h]
theorem TG(s:Int):CJ s=some (if 0≤s∧s≤23 then s / 4 else -1):=by
  unfold CJ
  rw [cE]
  by_cases h:0≤s∧s≤23
  · simp [h,HL h.1];rw [aN (by omega) (by omega)]
  · simp [h]
theorem RJ(s:Int):xX s=some (if 0≤s∧s≤23 then s % 4 else -1):=by
  unfold xX
  rw [cE]
  by_cases h:0≤s∧s≤23
  · simp [h,jX h.1]
  · simp [h]
def eJ(s c:Int):Int:=if (0≤s∧s≤23)∧s % 4 < b9 c then s / 4 * 64+8+s % 4 * aU c else -1
theorem KP{i c:Int}(h0:0≤i)(h1:i < b9 c):0≤i * aU c∧i * aU c+aU c≤56:=by
  unfold b9 at h1;unfold aU
  split at h1
  · rw [if_pos ‹_›];omega
  · split at h1
    · rw [if_neg ‹_›,if_pos ‹_›];omega
    · split at h1
      · rw [if_neg ‹_›,if_neg ‹_›,if_pos ‹_›];omega
      · omega
theorem uJ(s c:Int):wI s c=some (eJ s c):=by
  unfold wI GG eJ
  rw [TG,RJ,iD,ZT]
  by_cases h:0≤s∧s≤23
  · have hp:=mQ c
    have h1:¬s / 4 < 0:=by omega
    have h2:aY (b9 c - 1)=b9 c - 1:=aN (by omega) (by omega)
    by_cases h3:s % 4 < b9 c
    · have hm:=KP (by omega) h3
      have hs:=WV c
      have h4:0≤s % 4∧s % 4≤b9 c - 1:=by omega
      have h5:¬b9 c - 1 < s % 4:=by omega
      have e1:aY (s / 4 * 64)=s / 4 * 64:=aN (by omega) (by omega)
      have e2:aY (s / 4 * 64+8)=s / 4 * 64+8:=aN (by omega) (by omega)
      have e3:aY (s % 4 * aU c)=s % 4 * aU c:=aN (by omega) (by omega)
      have e4:aY (s / 4 * 64+8+s % 4 * aU c)=s / 4 * 64+8+s % 4 * aU c:=aN (by omega) (by omega)
      simp [h,h1,h2,h3,h4,h5,cE,e1,e2,e3,e4]
    · have h4:¬s % 4≤b9 c - 1:=by omega
      simp [h,h1,h2,h3,h4,cE]
  · simp [h]
theorem xA(s:Int):mU s=some (decide (0≤s∧s≤23)):=by simp [mU,eG]
theorem AP(s c:Int):vW s c=some (eJ s c):=by
  unfold vW zQ eJ
  rw [xA,kB,BP,O0]
  by_cases h:0≤s∧s≤23
  · have hp:=mQ c
    rw [jX h.1,HL h.1]
    by_cases h3:s % 4 < b9 c
    · have hm:=KP (by omega) h3
      have hs:=WV c
      have hc:0≤c∧c≤2:=hY.1 (by omega)
      have e0:aY (s / 4)=s / 4:=aN (by omega) (by omega)
      have e1:aY (s / 4 * 64)=s / 4 * 64:=aN (by omega) (by omega)
      have e2:aY (s / 4 * 64+8)=s / 4 * 64+8:=aN (by omega) (by omega)
      have e3:aY (s % 4 * aU c)=s % 4 * aU c:=aN (by omega) (by omega)
      have e4:aY (s / 4 * 64+8+s % 4 * aU c)=s / 4 * 64+8+s % 4 * aU c:=aN (by omega) (by omega)
      have h5:¬b9 c≤s % 4:=by omega
      simp [h,hc,h3,h5,e0,e1,e2,e3,e4]
    · have h5:b9 c≤s % 4:=by omega
      by_cases hc:0≤c∧c≤2 <;> simp [h,hc,h3,h5]
  · simp [h]
end Go.Gv
end
noncomputable section
namespace Go.Gv
def ldF(l:List Int):Int:=l.foldl (fun n x=>n * 256+x) 0
def vJ(l:List Int):Prop:=∀x∈l,0≤x∧x≤255
instance (l:List Int):Decidable (vJ l):=by unfold vJ;infer_instance
theorem aFN{l:List Int}{k:Nat}(h:k < l.length):ldF (l.take (k+1))=ldF (l.take k) * 256+l[k]:=by
  unfold ldF
  rw [List.take_succ_eq_append_getElem h,List.foldl_append];rfl
theorem aJK{l:List Int}(h:vJ l):∀k,k≤l.length→0≤ldF (l.take k)∧ldF (l.take k) < 256 ^ k:=by
  intro k
  induction k with
  | zero=>intro _;simp [ldF]
  | succ k ih =>
    intro hk
    have h1:=ih (by omega)
    have h2:=h _ (List.getElem_mem (show k < l.length by omega))
    rw [aFN (by omega),Int.pow_succ]
    omega
theorem a34{k:Nat}(h:k≤6):(256:Int) ^ k≤281474976710656:=by
  have h1:(256:Nat) ^ k≤256 ^ 6:=Nat.pow_le_pow_right (by omega) h
  have h2:(256:Nat) ^ 6=281474976710656:=by decide
  rw [h2] at h1
  have h3:((256 ^ k:Nat):Int)≤281474976710656:=by omega
  rw [Int.natCast_pow] at h3
  exact h3
def ld(b:List Int)(at_ w:Nat):Int:=ldF ((b.drop at_).take w)
theorem aR7{n x:Int}{k:Nat}(hk:k≤6)(h:0≤n∧n < 256 ^ k)(hx:0≤x∧x≤255):aY (aY (n * 256)+x)=n * 256+x∧aY (aY (256 * n)+x)=n * 256+x:=by
  have:=a34 hk
  rw [Int.mul_comm 256 n,aN (x:=n * 256) (by omega) (by omega),aN (by omega) (by omega)]
  exact⟨rfl,rfl⟩
theorem aPU{b:List Int}{a w:Nat}(h:a+w≤b.length):((b.drop a).take w).length=w:=by simp;omega
theorem aFO{b:List Int}{a w k:Nat}(h:k < ((b.drop a).take w).length)(h':a+k < b.length):((b.drop a).take w)[k]=b[a+k]:=by simp
theorem aK3{b:List Int}(hb:vJ b)(a w:Nat):vJ ((b.drop a).take w):=fun x hx=>hb x (List.mem_of_mem_drop (List.mem_of_mem_take hx))
theorem EH{b:List Int}(hb:vJ b){a w:Nat}(hw:w≤7)(h:a+w≤b.length)(hl:b.length≤100000):wH b (a:Int) (w:Int)=some (ld b a w):=by
  unfold wH
  have hlen:=aPU h
  have hbb:=aK3 hb a w
  have key:loop (wG b (a:Int) (w:Int)) (0,0)=some (ld b a w):=by
    refine iQ (f:=wG b (a:Int) (w:Int)) w (fun k=>(ldF (((b.drop a).take w).take k),(k:Int))) _ (fun k hk=>?_) ?_
    · have hb1:=aJK hbb k (by omega)
      have hk':k < ((b.drop a).take w).length:=by omega
      have hx:=hbb _ (List.getElem_mem hk')
      have hs:=aR7 (by omega) hb1 hx
      rw [aFO hk' (by omega)] at hs
      have e1:aY ((a:Int)+k)=((a+k:Nat):Int):=by rw [aN (by omega) (by omega)];omega
      simp only [wG]
      rw [if_pos (by simp;omega),e1,aV (by omega)]
      simp only [aG,hs.1,aFN hk',aFO hk' (show a+k < b.length by omega)]
      rw [aN (x:=(k:Int)+1) (by omega) (by omega)];rfl
    · have:((b.drop a).take w).take w=(b.drop a).take w:=by rw [List.take_take];simp
      simp [wG,this,ld]
  rw [key];rfl
theorem BQ{b:List Int}(hb:vJ b){a w:Nat}(hw:w≤7)(h:a+w≤b.length)(hl:b.length≤100000):mI b (a:Int) (w:Int)=some (ld b a w):=by
  unfold mI
  have hlen:=aPU h
  have hbb:=aK3 hb a w
  have e0:aY ((a:Int)+w)=((a+w:Nat):Int):=by rw [aN (by omega) (by omega)];omega
  have e2:(b.take (a+w)).drop a=(b.drop a).take w:=by rw [List.drop_take];congr 1;omega
  rw [aQ (by rw [e0];omega)]
  have key:loop (tG b (a:Int) (w:Int)) (0,0)=some (ld b a w):=by
    refine iQ (f:=tG b (a:Int) (w:Int)) w (fun k=>(ldF (((b.drop a).take w).take k),(k:Int))) _ (fun k hk=>?_) ?_
    · have hb1:=aJK hbb k (by omega)
      have hk':k < ((b.drop a).take w).length:=by omega
      have hx:=hbb _ (List.getElem_mem hk')
      have hs:=aR7 (by omega) hb1 hx
      simp only [tG,e0,Int.toNat_natCast,e2]
      rw [if_pos (by simp;omega),aV hk']
      simp only [aG,hs.2,aFN hk']
      rw [aN (x:=(k:Int)+1) (by omega) (by omega)];rfl
    · have:((b.drop a).take w).take w=(b.drop a).take w:=by rw [List.take_take];simp
      simp only [tG,e0,Int.toNat_natCast,e2,this,ld]
      rw [if_neg (by rw [hlen];simp)]
  rw [key];rfl
theorem EI{l:List Int}(hl:l.length≤maxLen)(f:Int→Bool):eR l (fun x=>some (f x))=some (l.any f):=by
  unfold eR vU
  have key:∀k:Nat,k≤l.length→loop (jF l (fun x=>some (f x))) (k:Int)=some (if (l.drop k).any f then Out.ret ((k+(l.drop k).findIdx f:Nat):Int) else Out.brk ()):=by
    refine aJ8 l.length _ fun k hk=>?_
    by_cases h3:k < l.length
    · have hd:l.drop k=l[k] :: l.drop (k+1):=List.drop_eq_getElem_cons h3
      simp only [jF]
      rw [if_pos (by simp;omega),aV h3,i5 (nU h3 hl),hd]
      simp only [aG,List.any_cons,List.findIdx_cons]
      by_cases h4:f l[k]=true
      · left;simp [h4]
      · right
        have h4:f l[k]=false:=by simpa using h4
        refine⟨h3,by simp [h4],?_⟩
        simp only [h4,Bool.false_or,cond_false]
        congr 2;omega
    · left
      obtain rfl:k=l.length:=by omega
      simp [jF]
  have t0:loop (jF l (fun x=>some (f x))) 0=_:=key 0 (by omega)
  rw [t0]
  simp only [List.drop_zero]
  by_cases h:l.any f=true
  · simp [h,qV]
  · have h:l.any f=false:=by simpa using h
    simp [h,qV,CD]
def BOk(b:List Int):Prop:=b.length≤1000∧vJ b
instance (b:List Int):Decidable (BOk b):=by unfold BOk;infer_instance
theorem aBX{b:List Int}(hl:b.length≤maxLen):I5 b=some (decide (BOk b)):=by
  unfold I5
  have key:loop (oC b) 0=some (if ∀x∈b,0≤x∧x≤255 then Out.brk () else Out.ret false):=by
    refine jO (f:=oC b) b (fun k=>(k:Int)) (fun x=>0≤x∧x≤255) _ _ (fun k h hp=>?_) (fun k h hp=>?_) ?_
    · simp only [oC]
      rw [if_pos (by simp;omega),aV h,i5 (nU h hl)]
      simp [cE,hp]
    · simp only [oC]
      rw [if_pos (by simp;omega),aV h]
      simp only [aG,cE,hp,decide_false,iF,if_true]
    · simp [oC]
  rw [key]
  by_cases h:∀x∈b,0≤x∧x≤255
  · rw [if_pos h]
    have:BOk b↔b.length≤1000:=⟨fun q=>q.1,fun q=>⟨q,h⟩⟩
    simp only [aG,HX,Q4,this]
    congr 1;rw [Bool.eq_iff_iff];simp;omega
  · rw [if_neg h]
    have:¬BOk b:=fun q=>h q.2
    simp [HX,this]
theorem GS{α:Type}{p:α→Prop}[DecidablePred p](l:List α):(l.any fun x=>!decide (p x))=!decide (∀x∈l,p x):=by
  rw [Bool.eq_iff_iff];simp
theorem aBY{b:List Int}(hl:b.length≤maxLen):IM b=some (decide (BOk b)):=by
  unfold IM A3
  have e:(fun y0=>C4 y0)=fun y:Int=>some (!decide (0≤y∧y≤255)):=by
    funext y;simp [C4,SH,eG]
  rw [e,EI hl,GS]
  by_cases h:b.length≤1000
  · have:BOk b↔∀x∈b,0≤x∧x≤255:=⟨fun q=>q.2,fun q=>⟨h,q⟩⟩
    have h':(b.length:Int)≤1000:=by omega
    simp [h',this]
  · have:¬BOk b:=fun q=>h q.1
    have h':¬(b.length:Int)≤1000:=by omega
    simp [h',this]
def fZ(h:aE):Prop:=h.Bytes.length=384∧h.Class.length=6∧vJ h.Bytes∧∀c∈h.Class,-1≤c∧c≤2
instance (h:aE):Decidable (fZ h):=by unfold fZ;infer_instance
theorem aBZ{h:aE}(hl:h.Bytes.length≤maxLen):I6 h=some (decide (fZ h)):=by
  unfold I6 tM
  by_cases h1:h.Bytes.length=384
  · by_cases h2:h.Class.length=6
    · rw [aBX hl]
      have n1:((h.Bytes.length:Int) != 384)=false:=by simp;omega
      have n2:((h.Class.length:Int) != 6)=false:=by simp;omega
      simp only [n1,n2,aP,if_false,aG]
      by_cases h3:vJ h.Bytes
      · have b1:BOk h.Bytes:=⟨by omega,h3⟩
        have key:loop (oD h) 0=some (if ∀x∈h.Class,-1≤x∧x≤2 then Out.brk () else Out.ret false):=by
          refine jO (f:=oD h) h.Class (fun k=>(k:Int)) (fun x=>-1≤x∧x≤2) _ _ (fun k h hp=>?_) (fun k h hp=>?_) ?_
          · simp only [oD]
            rw [if_pos (by simp;omega),aV h,aN (by omega) (by omega)]
            simp [cE,hp]
          · simp only [oD]
            rw [if_pos (by simp;omega),aV h]
            simp only [aG,cE]
            rw [bP hp];rfl
          · simp [oD,h2]
        rw [key]
        have:fZ h↔∀x∈h.Class,-1≤x∧x≤2:=⟨fun q=>q.2.2.2,fun q=>⟨h1,h2,h3,q⟩⟩
        simp only [b1,decide_true,dT,aP,if_false,this]
        by_cases h4:∀x∈h.Class,-1≤x∧x≤2
        · rw [if_pos h4,bA h4];rfl
        · rw [if_neg h4,bP h4];rfl
      · have b1:¬BOk h.Bytes:=fun q=>h3 q.2
        have:¬fZ h:=fun q=>h3 q.2.2.1
        simp [b1,this]
    · have n1:((h.Bytes.length:Int) != 384)=false:=by simp;omega
      have n2:((h.Class.length:Int) != 6)=true:=by simp;omega
      have:¬fZ h:=fun q=>h2 q.2.1
      simp [n1,n2,this]
  · have n1:((h.Bytes.length:Int) != 384)=true:=by simp;omega
    have:¬fZ h:=fun q=>h1 q.1
    simp [n1,this]
theorem EJ{h:aE}(hl:h.Bytes.length≤maxLen):G7 h=some (decide (fZ h)):=by
  unfold G7 qW
  by_cases h1:h.Bytes.length=384
  · have n1:((h.Bytes.length:Int) == 384)=true:=by simp;omega
    rw [aBY hl]
    by_cases h3:vJ h.Bytes
    · have b1:BOk h.Bytes:=⟨by omega,h3⟩
      by_cases h2:h.Class.length=6
      · have n2:((h.Class.length:Int) == 6)=true:=by simp;omega
        have e:(fun y0=>F5 y0)=fun y:Int=>some (!decide (-1≤y∧y≤2)):=by
          funext y;simp [F5,eG]
        rw [e,EI (by rw [h2];simp [maxLen]),GS]
        have:fZ h↔∀x∈h.Class,-1≤x∧x≤2:=⟨fun q=>q.2.2.2,fun q=>⟨h1,h2,h3,q⟩⟩
        simp [n1,n2,b1,this]
      · have n2:((h.Class.length:Int) == 6)=false:=by simp;omega
        have:¬fZ h:=fun q=>h2 q.2.1
        simp [n1,n2,b1,this]
    · have b1:¬BOk h.Bytes:=fun q=>h3 q.2
      have:¬fZ h:=fun q=>h3 q.2.2.1
      simp [n1,b1,this]
  · have n1:((h.Bytes.length:Int) == 384)=false:=by simp;omega
    have:¬fZ h:=fun q=>h1 q.1
    simp [n1,this]
end Go.Gv
end
noncomputable section
namespace Go.Gv
def eD(h:aE)(p:Nat):List Int:=(h.Bytes.drop (p * 64)).take 64
def bZ(h:aE)(p:Nat):Int:=h.Class.getD p 0
def nK(h:aE)(p:Nat):Prop:=
  if bZ h p < 0 then ∀x∈eD h p,x=0
  else ((eD h p).getD 0 0=171∧(eD h p).getD 1 0=bZ h p∧(eD h p).getD 2 0=b9 (bZ h p))∧(∀x∈((eD h p).drop 3).take 5,x=0)∧∀i,i < (b9 (bZ h p)).toNat→1≤ld h.Bytes (p * 64+8+i * (aU (bZ h p)).toNat) 4∧ld h.Bytes (p * 64+8+i * (aU (bZ h p)).toNat) 4≤7
instance (h:aE) (p:Nat):Decidable (nK h p):=by unfold nK;infer_instance
noncomputable section
variable {h:aE} (hs:fZ h) {p:Nat} (hp:p < 6)
include hs hp
theorem KQ:(eD h p).length=64:=aPU (by have:=hs.1;omega)
theorem TH{k:Nat}(hk:k < 64):h.Bytes[p * 64+k]'(by have:=hs.1;omega)=(eD h p)[k]'(by rw [KQ hs hp];exact hk):=(aFO (show k < ((h.Bytes.drop (p * 64)).take 64).length by have:=KQ hs hp;unfold eD at this;omega) _).symm
theorem aJL{k:Nat}(hk:k < 64):h.Bytes[p * 64+k]'(by have:=hs.1;omega)=(eD h p).getD k 0:=by
  rw [TH hs hp hk,List.getD_eq_getElem?_getD,List.getElem?_eq_getElem (by rw [KQ hs hp];exact hk)];rfl
theorem US:h.Class[p]'(by have:=hs.2.1;omega)=bZ h p:=by
  unfold bZ
  rw [List.getD_eq_getElem?_getD,List.getElem?_eq_getElem (by have:=hs.2.1;omega)];rfl
theorem aDE:idx h.Class (p:Int)=some (bZ h p):=by rw [aV (by have:=hs.2.1;omega),US hs hp]
theorem aFP{k:Nat}(hk:k < 64):idx h.Bytes (((p * 64+k:Nat)):Int)=some ((eD h p).getD k 0):=by
  rw [aV (by have:=hs.1;omega),aJL hs hp hk]
theorem aS6:vJ (eD h p):=aK3 hs.2.2.1 _ _
theorem uK{c:Int}(hc:bZ h p=c){i:Nat}(hi:i < (b9 c).toNat):(8+i * (aU c).toNat)+4≤64∧0≤(i:Int) * aU c∧((8+i * (aU c).toNat:Nat):Int)=8+(i:Int) * aU c:=by
  have h1:(i:Int) < b9 c:=by omega
  have hc2:0≤c∧c≤2:=hY.1 (by omega)
  rcases fY hc2 with rfl | rfl | rfl
  · have e:aU 0=12:=rfl
    have g:(12:Int).toNat=12:=rfl
    have f:(b9 0).toNat=4:=rfl
    rw [e,g];rw [f] at hi;omega
  · have e:aU 1=20:=rfl
    have g:(20:Int).toNat=20:=rfl
    have f:(b9 1).toNat=2:=rfl
    rw [e,g];rw [f] at hi;omega
  · have e:aU 2=44:=rfl
    have g:(44:Int).toNat=44:=rfl
    have f:(b9 2).toNat=1:=rfl
    rw [e,g];rw [f] at hi;omega
theorem aW0{i:Nat}(hi:i < (b9 (bZ h p)).toNat):eJ ((p:Int) * 4+i) (bZ h p)=((p * 64+(8+i * (aU (bZ h p)).toNat):Nat):Int):=by
  have hz:=uK hs hp rfl hi
  have hle:=mQ (bZ h p)
  unfold eJ
  rw [if_pos (by omega)]
  have e1:((p:Int) * 4+i) / 4=p:=by omega
  have e2:((p:Int) * 4+i) % 4=i:=by omega
  rw [e1,e2]
  omega
theorem TJ:L5 h (p:Int)=some (decide (nK h p)):=by
  have hb:=hs.1
  have hl:=KQ hs hp
  have e0:aY ((p:Int) * 64)=((p * 64+0:Nat):Int):=by rw [aN (by omega) (by omega)];omega
  have e1:aY (((p * 64+0:Nat):Int)+1)=((p * 64+1:Nat):Int):=by rw [aN (by omega) (by omega)];omega
  have e2:aY (((p * 64+0:Nat):Int)+2)=((p * 64+2:Nat):Int):=by rw [aN (by omega) (by omega)];omega
  have e3:aY (((p * 64+0:Nat):Int)+3)=((p * 64+3:Nat):Int):=by rw [aN (by omega) (by omega)];omega
  have e8:aY (((p * 64+0:Nat):Int)+8)=((p * 64+8:Nat):Int):=by rw [aN (by omega) (by omega)];omega
  have e64:aY (((p * 64+0:Nat):Int)+64)=((p * 64+64:Nat):Int):=by rw [aN (by omega) (by omega)];omega
  unfold L5
  rw [aDE hs hp]
  simp only [aG]
  by_cases hc:bZ h p < 0
  · simp only [hc,decide_true,if_true,e0]
    have key:loop (rF h (p:Int)) (((p * 64+0:Nat)):Int)=some (if ∀x∈eD h p,x=0 then Out.brk () else Out.ret false):=by
      refine jO (f:=rF h (p:Int)) (eD h p) (fun k=>((p * 64+k:Nat):Int)) (fun x=>x=0) _ _ (fun k hk hx=>?_) (fun k hk hx=>?_) ?_
      · simp only [rF,e0,e64]
        rw [if_pos (by simp;omega),aV (by omega),TH hs hp (by omega),aN (by omega) (by omega)]
        simp only [aG,hx];simp;omega
      · simp only [rF,e0,e64]
        rw [if_pos (by simp;omega),aV (by omega),TH hs hp (by omega)]
        have hx':((eD h p)[k] != 0)=true:=by simpa using hx
        simp only [aG,hx',if_true]
      · simp only [rF,e0,e64,hl]
        rw [if_neg (by simp)]
    rw [key]
    have hP:nK h p↔∀x∈eD h p,x=0:=by unfold nK;rw [if_pos hc]
    by_cases h4:∀x∈eD h p,x=0
    · rw [if_pos h4,bA (hP.2 h4)];rfl
    · rw [if_neg h4,bP (fun q=>h4 (hP.1 q))];rfl
  · have hP:nK h p↔((eD h p).getD 0 0=171∧(eD h p).getD 1 0=bZ h p∧(eD h p).getD 2 0=b9 (bZ h p))∧(∀x∈((eD h p).drop 3).take 5,x=0)∧∀i,i < (b9 (bZ h p)).toNat→1≤ld h.Bytes (p * 64+8+i * (aU (bZ h p)).toNat) 4∧ld h.Bytes (p * 64+8+i * (aU (bZ h p)).toNat) 4≤7:=by unfold nK;rw [if_neg hc]
    simp only [hc,decide_false,aP,if_false,e0,e1,e2,aFP hs hp (show 0 < 64 by omega),aFP hs hp (show 1 < 64 by omega),aFP hs hp (show 2 < 64 by omega),aG,iD]
    by_cases a0:(eD h p).getD 0 0=171
    · by_cases a1:(eD h p).getD 1 0=bZ h p
      · by_cases a2:(eD h p).getD 2 0=b9 (bZ h p)
        · have n0:((eD h p).getD 0 0 != 171)=false:=by simp only [bne_eq_false_iff_eq];exact a0
          have n1:((eD h p).getD 1 0 != bZ h p)=false:=by simp only [bne_eq_false_iff_eq];exact a1
          have n2:((eD h p).getD 2 0 != b9 (bZ h p))=false:=by simp only [bne_eq_false_iff_eq];exact a2
          simp only [n0,n1,n2,aP,if_false,lC,e0,e3]
          have hl5:(((eD h p).drop 3).take 5).length=5:=by simp [hl]
          have key:loop (rH h (p:Int)) (((p * 64+3:Nat)):Int)=some (if ∀x∈((eD h p).drop 3).take 5,x=0 then Out.brk () else Out.ret false):=by
            refine jO (f:=rH h (p:Int)) (((eD h p).drop 3).take 5) (fun k=>((p * 64+(3+k):Nat):Int)) (fun x=>x=0) _ _ (fun k hk hx=>?_) (fun k hk hx=>?_) ?_
            · simp only [rH,e0,e8]
              rw [if_pos (by simp;omega),aV (by omega),TH hs hp (by omega),aN (by omega) (by omega),←aFO hk (by omega),hx]
              simp;omega
            · simp only [rH,e0,e8]
              rw [if_pos (by simp;omega),aV (by omega),TH hs hp (by omega),←aFO hk (by omega)]
              have hx':((((eD h p).drop 3).take 5)[k] != 0)=true:=by simp only [bne_iff_ne];exact hx
              simp only [aG,hx',if_true]
            · simp only [rH,e0,e8,hl5]
              rw [if_neg (by simp)]
          rw [key]
          by_cases h4:∀x∈((eD h p).drop 3).take 5,x=0
          · rw [if_pos h4]
            simp only [aG,SW,SU]
            have key2:loop (rG h (p:Int) (bZ h p)) 0=some (if ∀i,i < (b9 (bZ h p)).toNat→1≤ld h.Bytes (p * 64+8+i * (aU (bZ h p)).toNat) 4∧ld h.Bytes (p * 64+8+i * (aU (bZ h p)).toNat) 4≤7 then Out.brk () else Out.ret false):=by
              have hle:=mQ (bZ h p)
              have hst:∀k:Nat,k < (b9 (bZ h p)).toNat→rG h (p:Int) (bZ h p) (k:Int)=if 1≤ld h.Bytes (p * 64+8+k * (aU (bZ h p)).toNat) 4∧ld h.Bytes (p * 64+8+k * (aU (bZ h p)).toNat) 4≤7 then some (.next ((k+1:Nat):Int)) else some (.stop (Out.ret false)):=by
                intro k hk
                have hz:=uK hs hp rfl hk
                have s1:rV (p:Int) (k:Int)=some ((p:Int) * 4+k):=by
                  unfold rV wJ
                  rw [cE,cE]
                  have g1:(0:Int)≤p∧(p:Int)≤5:=by omega
                  have g2:(0:Int)≤k∧(k:Int)≤3:=by omega
                  simp only [aG,g1,g2,and_self,decide_true,dT,aP,if_false]
                  rw [aN (x:=(p:Int) * 4) (by omega) (by omega),aN (by omega) (by omega)]
                have l1:=EH hs.2.2.1 (a:=p * 64+(8+k * (aU (bZ h p)).toNat)) (w:=4) (by omega) (by omega) (by omega)
                simp only [rG,iD,aG]
                rw [if_pos (by simp;omega),s1]
                simp only [aG,uJ,aW0 hs hp hk]
                rw [show((4:Nat):Int)=4 from rfl] at l1
                rw [l1,Nat.add_assoc,aN (x:=(k:Int)+1) (by omega) (by omega)]
                simp only [aG,cE]
                by_cases q:1≤ld h.Bytes (p * 64+(8+k * (aU (bZ h p)).toNat)) 4∧ld h.Bytes (p * 64+(8+k * (aU (bZ h p)).toNat)) 4≤7
                · rw [if_pos q,bA q];rfl
                · rw [if_neg q,bP q];rfl
              refine wZ (f:=rG h (p:Int) (bZ h p)) (b9 (bZ h p)).toNat (fun k=>(k:Int)) (fun i=>1≤ld h.Bytes (p * 64+8+i * (aU (bZ h p)).toNat) 4∧ld h.Bytes (p * 64+8+i * (aU (bZ h p)).toNat) 4≤7) _ _ (fun k hk hx=>?_) (fun k hk hx=>?_) ?_
              · rw [hst k hk,if_pos hx]
              · rw [hst k hk,if_neg hx]
              · simp only [rG,iD,aG]
                rw [if_neg (by simp;omega)]
            rw [key2]
            by_cases h5:∀i,i < (b9 (bZ h p)).toNat→1≤ld h.Bytes (p * 64+8+i * (aU (bZ h p)).toNat) 4∧ld h.Bytes (p * 64+8+i * (aU (bZ h p)).toNat) 4≤7
            · rw [if_pos h5,bA (hP.2 ⟨⟨a0,a1,a2⟩,h4,h5⟩)];rfl
            · rw [if_neg h5,bP (fun q=>h5 (hP.1 q).2.2)];rfl
          · rw [if_neg h4,bP (fun q=>h4 (hP.1 q).2.1)];rfl
        · have n0:((eD h p).getD 0 0 != 171)=false:=by simp only [bne_eq_false_iff_eq];exact a0
          have n1:((eD h p).getD 1 0 != bZ h p)=false:=by simp only [bne_eq_false_iff_eq];exact a1
          have n2:((eD h p).getD 2 0 != b9 (bZ h p))=true:=by simp only [bne_iff_ne];exact a2
          simp only [n0,n1,n2,aP,if_false,lC,if_true]
          rw [bP (fun q=>a2 (hP.1 q).1.2.2)]
      · have n0:((eD h p).getD 0 0 != 171)=false:=by simp only [bne_eq_false_iff_eq];exact a0
        have n1:((eD h p).getD 1 0 != bZ h p)=true:=by simp only [bne_iff_ne];exact a1
        simp only [n0,n1,aP,if_false,lC,if_true]
        rw [bP (fun q=>a1 (hP.1 q).1.2.1)]
    · have n0:((eD h p).getD 0 0 != 171)=true:=by simp only [bne_iff_ne];exact a0
      simp only [n0,aP,if_false,lC,if_true]
      rw [bP (fun q=>a0 (hP.1 q).1.1)]
end
end Go.Gv
end
noncomputable section
namespace Go.Gv
theorem TL{l:List Int}(hl:l.length≤maxLen):G8 l=some (decide (∀x∈l,x=0)):=by
  unfold G8
  have e:(fun y0=>F6 y0)=fun y:Int=>some (!decide (y=0)):=by
    funext y;simp [F6,bne];rfl
  rw [e,EI hl,GS]
  simp
noncomputable section
variable {h:aE} (hs:fZ h) {p:Nat} (hp:p < 6)
include hs hp
theorem a2L:(h.Bytes.take ((p+1) * 64)).drop (p * 64)=eD h p:=by
  unfold eD
  rw [List.drop_take];congr 1;omega
theorem a0L{a:Nat}(ha:a+4≤64):ld (eD h p) a 4=ld h.Bytes (p * 64+a) 4:=by
  unfold ld eD
  rw [List.drop_take,List.take_take,List.drop_drop]
  congr 2;omega
theorem aPV{k:Nat}(hk:k < 64):idx (eD h p) (k:Int)=some ((eD h p).getD k 0):=by
  have:=KQ hs hp
  rw [aV (by omega),List.getD_eq_getElem?_getD,List.getElem?_eq_getElem (by omega)];rfl
theorem TM:LX h (p:Int)=some (decide (nK h p)):=by
  have hb:=hs.1
  have hl:=KQ hs hp
  have hm:(eD h p).length≤maxLen:=by rw [hl];simp [maxLen]
  have e0:aY ((p:Int) * 64)=((p * 64:Nat):Int):=by rw [aN (by omega) (by omega)];omega
  have e1:aY (aY ((p:Int)+1) * 64)=(((p+1) * 64:Nat):Int):=by rw [aN (x:=(p:Int)+1) (by omega) (by omega),aN (by omega) (by omega)];omega
  have i0:=aPV hs hp (show 0 < 64 by omega)
  have i1:=aPV hs hp (show 1 < 64 by omega)
  have i2:=aPV hs hp (show 2 < 64 by omega)
  rw [show((0:Nat):Int)=0 from rfl] at i0
  rw [show((1:Nat):Int)=1 from rfl] at i1
  rw [show((2:Nat):Int)=2 from rfl] at i2
  unfold LX
  rw [aDE hs hp]
  simp only [aG,e0,e1,Int.toNat_natCast,a2L hs hp]
  rw [aQ (by omega)]
  by_cases hc:bZ h p < 0
  · have hP:nK h p↔∀x∈eD h p,x=0:=by unfold nK;rw [if_pos hc]
    simp only [hc,decide_true,if_true,TL hm,aG,hP]
  · have hP:nK h p↔((eD h p).getD 0 0=171∧(eD h p).getD 1 0=bZ h p∧(eD h p).getD 2 0=b9 (bZ h p))∧(∀x∈((eD h p).drop 3).take 5,x=0)∧∀i,i < (b9 (bZ h p)).toNat→1≤ld h.Bytes (p * 64+8+i * (aU (bZ h p)).toNat) 4∧ld h.Bytes (p * 64+8+i * (aU (bZ h p)).toNat) 4≤7:=by unfold nK;rw [if_neg hc]
    simp only [hc,decide_false,aP,if_false,i0,i1,i2,aG,BP]
    by_cases a0:(eD h p).getD 0 0=171
    · by_cases a1:(eD h p).getD 1 0=bZ h p
      · by_cases a2:(eD h p).getD 2 0=b9 (bZ h p)
        · have n0:((eD h p).getD 0 0 != 171)=false:=by simp only [bne_eq_false_iff_eq];exact a0
          have n1:((eD h p).getD 1 0 != bZ h p)=false:=by simp only [bne_eq_false_iff_eq];exact a1
          have n2:((eD h p).getD 2 0 != b9 (bZ h p))=false:=by simp only [bne_eq_false_iff_eq];exact a2
          have t8:((eD h p).take (8:Int).toNat).drop (3:Int).toNat=((eD h p).drop 3).take 5:=by
            rw [show(8:Int).toNat=8 from rfl,show(3:Int).toNat=3 from rfl,List.drop_take]
          simp only [n0,n1,n2,aP,if_false,jT,t8]
          rw [aQ (by omega),TL (by simp [maxLen];omega)]
          by_cases h4:∀x∈((eD h p).drop 3).take 5,x=0
          · simp only [bA h4,aG,dT,aP,if_false,BP]
            have key2:loop (qX h (p:Int) (bZ h p) (b9 (bZ h p))) 0=some (if ∀i,i < (b9 (bZ h p)).toNat→1≤ld h.Bytes (p * 64+8+i * (aU (bZ h p)).toNat) 4∧ld h.Bytes (p * 64+8+i * (aU (bZ h p)).toNat) 4≤7 then Out.brk () else Out.ret false):=by
              have hle:=mQ (bZ h p)
              have hst:∀k:Nat,k < (b9 (bZ h p)).toNat→qX h (p:Int) (bZ h p) (b9 (bZ h p)) (k:Int)=if 1≤ld h.Bytes (p * 64+8+k * (aU (bZ h p)).toNat) 4∧ld h.Bytes (p * 64+8+k * (aU (bZ h p)).toNat) 4≤7 then some (.next ((k+1:Nat):Int)) else some (.stop (Out.ret false)):=by
                intro k hk
                have hz:=uK hs hp rfl hk
                have e5:aY (8+aY ((k:Int) * aU (bZ h p)))=((8+k * (aU (bZ h p)).toNat:Nat):Int):=by
                  rw [aN (x:=(k:Int) * aU (bZ h p)) (by omega) (by omega),aN (by omega) (by omega)];omega
                have l1:=BQ (aS6 hs hp) (a:=8+k * (aU (bZ h p)).toNat) (w:=4) (by omega) (by omega) (by omega)
                rw [show((4:Nat):Int)=4 from rfl,a0L hs hp (by omega)] at l1
                simp only [qX,O0,aG,e0,e1,Int.toNat_natCast,a2L hs hp,e5]
                rw [if_pos (by simp;omega),l1,Nat.add_assoc,aN (x:=(k:Int)+1) (by omega) (by omega)]
                simp only [aG,eG]
                by_cases q:1≤ld h.Bytes (p * 64+(8+k * (aU (bZ h p)).toNat)) 4∧ld h.Bytes (p * 64+(8+k * (aU (bZ h p)).toNat)) 4≤7
                · rw [if_pos q,bA q];rfl
                · rw [if_neg q,bP q];rfl
              refine wZ (f:=qX h (p:Int) (bZ h p) (b9 (bZ h p))) (b9 (bZ h p)).toNat (fun k=>(k:Int)) (fun i=>1≤ld h.Bytes (p * 64+8+i * (aU (bZ h p)).toNat) 4∧ld h.Bytes (p * 64+8+i * (aU (bZ h p)).toNat) 4≤7) _ _ (fun k hk hx=>?_) (fun k hk hx=>?_) ?_
              · rw [hst k hk,if_pos hx]
              · rw [hst k hk,if_neg hx]
              · simp only [qX]
                rw [if_neg (by simp;omega)]
            rw [key2]
            by_cases h5:∀i,i < (b9 (bZ h p)).toNat→1≤ld h.Bytes (p * 64+8+i * (aU (bZ h p)).toNat) 4∧ld h.Bytes (p * 64+8+i * (aU (bZ h p)).toNat) 4≤7
            · rw [if_pos h5,bA (hP.2 ⟨⟨a0,a1,a2⟩,h4,h5⟩)];rfl
            · rw [if_neg h5,bP (fun q=>h5 (hP.1 q).2.2)];rfl
          · simp only [bP h4,aG,iF,if_true]
            rw [bP (fun q=>h4 (hP.1 q).2.1)]
        · have n0:((eD h p).getD 0 0 != 171)=false:=by simp only [bne_eq_false_iff_eq];exact a0
          have n1:((eD h p).getD 1 0 != bZ h p)=false:=by simp only [bne_eq_false_iff_eq];exact a1
          have n2:((eD h p).getD 2 0 != b9 (bZ h p))=true:=by simp only [bne_iff_ne];exact a2
          simp only [n0,n1,n2,aP,if_false,jT,if_true]
          rw [bP (fun q=>a2 (hP.1 q).1.2.2)]
      · have n0:((eD h p).getD 0 0 != 171)=false:=by simp only [bne_eq_false_iff_eq];exact a0
        have n1:((eD h p).getD 1 0 != bZ h p)=true:=by simp only [bne_iff_ne];exact a1
        simp only [n0,n1,aP,if_false,jT,if_true]
        rw [bP (fun q=>a1 (hP.1 q).1.2.1)]
    · have n0:((eD h p).getD 0 0 != 171)=true:=by simp only [bne_iff_ne];exact a0
      simp only [n0,aP,if_false,jT,if_true]
      rw [bP (fun q=>a0 (hP.1 q).1.1)]
end
instance (h:aE):Decidable (∀p,p < 6→nK h p):=Nat.decidableBallLT 6 fun p _=>nK h p
def VU(h:aE):Prop:=fZ h∧∀p,p < 6→nK h p
instance (h:aE):Decidable (VU h):=by unfold VU;infer_instance
theorem aFQ{h:aE}(hl:h.Bytes.length≤maxLen):L6 h=some (decide (VU h)):=by
  unfold L6
  rw [aBZ hl]
  by_cases hs:fZ h
  · have key:loop (wK h) 0=some (if ∀p,p < 6→nK h p then Out.brk () else Out.ret false):=by
      refine wZ (f:=wK h) 6 (fun k=>(k:Int)) (fun p=>nK h p) _ _ (fun k hk hx=>?_) (fun k hk hx=>?_) ?_
      · simp only [wK]
        rw [if_pos (by simp;omega),TJ hs hk,aN (by omega) (by omega),bA hx];rfl
      · simp only [wK]
        rw [if_pos (by simp;omega),TJ hs hk,bP hx];rfl
      · rfl
    simp only [aG,bA hs,dT,aP,if_false]
    rw [key]
    by_cases h4:∀p,p < 6→nK h p
    · rw [if_pos h4,bA (show VU h from ⟨hs,h4⟩)];rfl
    · rw [if_neg h4,bP (fun q:VU h=>h4 q.2)];rfl
  · rw [bP (fun q:VU h=>hs q.1),bP hs];rfl
theorem KR{h:aE}(hl:h.Bytes.length≤maxLen):G9 h=some (decide (VU h)):=by
  unfold G9
  rw [EJ hl]
  by_cases hs:fZ h
  · have key:loop (vV h) 0=some (if ∀p,p < 6→nK h p then Out.brk () else Out.ret false):=by
      refine wZ (f:=vV h) 6 (fun k=>(k:Int)) (fun p=>nK h p) _ _ (fun k hk hx=>?_) (fun k hk hx=>?_) ?_
      · simp only [vV]
        rw [if_pos (by simp;omega),TM hs hk,aN (by omega) (by omega),bA hx];rfl
      · simp only [vV]
        rw [if_pos (by simp;omega),TM hs hk,bP hx];rfl
      · rfl
    simp only [aG,bA hs,dT,aP,if_false]
    rw [key]
    by_cases h4:∀p,p < 6→nK h p
    · rw [if_pos h4,bA (show VU h from ⟨hs,h4⟩)];rfl
    · rw [if_neg h4,bP (fun q:VU h=>h4 q.2)];rfl
  · rw [bP (fun q:VU h=>hs q.1),bP hs];rfl
def aX(h:aE)(s:Int):Int:=if (0≤s∧s≤23)∧s % 4 < b9 (bZ h (s / 4).toNat) then bZ h (s / 4).toNat else -1
theorem qO{h:aE}{s:Int}(hc:0≤aX h s):(0≤s∧s≤23)∧s % 4 < b9 (bZ h (s / 4).toNat)∧aX h s=bZ h (s / 4).toNat:=by
  unfold aX at hc ⊢
  split at hc
  · rename_i h1;exact⟨h1.1,h1.2,by rw [if_pos h1]⟩
  · omega
theorem i9{h:aE}(hs:fZ h)(s:Int):mO h s=some (aX h s):=by
  unfold mO tO aX
  rw [TG,RJ]
  by_cases h1:0≤s∧s≤23
  · obtain⟨k,rfl⟩:=Int.eq_ofNat_of_zero_le h1.1
    have hk:k / 4 < 6:=by omega
    have e1:((k:Int) / 4)=((k / 4:Nat):Int):=by omega
    have hi:=aDE hs hk
    have n1:¬((k / 4:Nat):Int) < 0:=by omega
    simp only [h1,and_self,if_true,aG,e1,n1,decide_false,aP,if_false,hi,Int.toNat_natCast,true_and]
    by_cases h2:bZ h (k / 4) < 0
    · have h3:b9 (bZ h (k / 4))=0:=aK2 (by omega)
      have h4:¬(k:Int) % 4 < 0:=by omega
      simp [h2,h3,h4]
    · by_cases h3:(k:Int) % 4 < b9 (bZ h (k / 4))
      · have h4:¬b9 (bZ h (k / 4))≤(k:Int) % 4:=by omega
        simp [h2,h3,h4,iD]
      · have h4:b9 (bZ h (k / 4))≤(k:Int) % 4:=by omega
        simp [h2,h3,h4,iD]
  · simp [h1]
theorem l8{h:aE}(hs:fZ h)(s:Int):pA h s=some (aX h s):=by
  unfold pA A5 aX
  rw [xA]
  by_cases h1:0≤s∧s≤23
  · obtain⟨k,rfl⟩:=Int.eq_ofNat_of_zero_le h1.1
    have hk:k / 4 < 6:=by omega
    have e1:((k:Int) / 4)=((k / 4:Nat):Int):=by omega
    have hi:=aDE hs hk
    have e2:aY (Int.tdiv (k:Int) 4)=((k / 4:Nat):Int):=by rw [HL (by omega),aN (by omega) (by omega)];omega
    simp only [h1,and_self,decide_true,dT,aP,if_true,aG,e1,e2,if_false,hi,Int.toNat_natCast,true_and,AP]
    by_cases h3:(k:Int) % 4 < b9 (bZ h (k / 4))
    · have hm:=KP (c:=bZ h (k / 4)) (by omega) h3
      have hg:¬eJ (k:Int) (bZ h (k / 4)) < 0:=by
        unfold eJ;rw [if_pos ⟨h1,h3⟩];omega
      simp [h3,hg]
    · have hg:eJ (k:Int) (bZ h (k / 4)) < 0:=by
        unfold eJ;rw [if_neg (fun q=>h3 q.2)];omega
      simp [h3,hg]
  · simp [h1]
def iI(h:aE)(s:Int):Int:=ld h.Bytes (eJ s (aX h s)).toNat 4
theorem GU{h:aE}{s:Int}(hc:0≤aX h s):0≤eJ s (aX h s)∧eJ s (aX h s)+4≤384:=by
  obtain⟨h1,h2,h3⟩:=qO hc
  rw [h3]
  have hm:=KP (c:=bZ h (s / 4).toNat) (by omega) h2
  have hst:0 < aU (bZ h (s / 4).toNat):=by
    have:0≤bZ h (s / 4).toNat∧bZ h (s / 4).toNat≤2:=hY.1 (by omega)
    rcases fY this with e | e | e <;> rw [e] <;> decide
  have:4≤aU (bZ h (s / 4).toNat):=by
    have:0≤bZ h (s / 4).toNat∧bZ h (s / 4).toNat≤2:=hY.1 (by omega)
    rcases fY this with e | e | e <;> rw [e] <;> decide
  unfold eJ;rw [if_pos ⟨h1,h2⟩];omega
theorem pX{h:aE}(hs:fZ h){s:Int}(hc:0≤aX h s):wL h s=some (iI h s):=by
  have hg:=GU hc
  unfold wL
  rw [i9 hs]
  simp only [aG,uJ]
  have l1:=EH hs.2.2.1 (a:=(eJ s (aX h s)).toNat) (w:=4) (by omega) (by have:=hs.1;omega) (by have:=hs.1;omega)
  rw [show((4:Nat):Int)=4 from rfl,Int.toNat_of_nonneg hg.1] at l1
  rw [l1];rfl
theorem GV{h:aE}(hs:fZ h){s:Int}(hc:0≤aX h s):BV h s=some (iI h s):=by
  have hg:=GU hc
  have hm:h.Bytes.length≤maxLen:=by rw [hs.1];simp [maxLen]
  unfold BV r9
  rw [EJ hm,l8 hs]
  have l1:=BQ hs.2.2.1 (a:=(eJ s (aX h s)).toNat) (w:=4) (by omega) (by have:=hs.1;omega) (by have:=hs.1;omega)
  rw [show((4:Nat):Int)=4 from rfl,Int.toNat_of_nonneg hg.1] at l1
  have n1:¬aX h s < 0:=by omega
  simp [hs,n1,AP,l1,iI]
end Go.Gv
end
