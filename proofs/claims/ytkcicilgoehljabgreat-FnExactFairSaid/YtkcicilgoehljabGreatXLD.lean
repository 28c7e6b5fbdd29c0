import Derived.Test.YtkcicilgoehljabGreatXLC
set_option linter.unusedVariables false
set_option linter.unusedSimpArgs false
set_option linter.unusedSectionVars false
set_option linter.constructorNameAsVariable false
set_option linter.unnecessarySimpa false
section
set_option linter.unusedVariables false
set_option maxHeartbeats 4000000
set_option maxRecDepth 100000
namespace Go.Proofs.YtkcicilgoehljabGreat
open Go.Gv
def tt : TT := [(30, ⟨.sl 3, false, 1, [.h ⟨none, 0⟩ 0]⟩),
 (3, ⟨.i .i64, false, 1, [I 0]⟩),
 (32, ⟨.st [(0, 1), (1, 1)], true, 2, [.h ⟨none, 0⟩ 0, .h ⟨none, 0⟩ 0]⟩),
 (212, ⟨.st [(0, 1)], true, 1, [.h ⟨none, 0⟩ 0]⟩),
 (33, ⟨.sl 212, false, 1, [.h ⟨none, 0⟩ 0]⟩),
 (35, ⟨.st [(0, 1), (1, 1)], true, 2, [.h ⟨none, 0⟩ 0, .h ⟨none, 0⟩ 0]⟩),
 (37, ⟨.st [(0, 2), (2, 2)], true, 4, [.h ⟨none, 0⟩ 0, .h ⟨none, 0⟩ 0, .h ⟨none, 0⟩ 0, .h ⟨none, 0⟩ 0]⟩),
 (38, ⟨.sl 204, false, 1, [.h ⟨none, 0⟩ 0]⟩),
 (204, ⟨.st [(0, 1), (1, 1), (2, 1), (3, 1)], true, 4, [.l false, I 0, .l false, I 0]⟩),
 (4, ⟨.b, false, 1, [.l false]⟩),
 (40, ⟨.st [(0, 1), (1, 1)], true, 2, [I 0, .h ⟨none, 0⟩ 0]⟩),
 (160, ⟨.sl 215, false, 1, [.h ⟨none, 0⟩ 0]⟩),
 (215, ⟨.st [(0, 1), (1, 1)], true, 2, [I 0, I 0]⟩),
 (162, ⟨.st [(0, 1)], true, 1, [.h ⟨none, 0⟩ 0]⟩),
 (41, ⟨.sl 162, false, 1, [.h ⟨none, 0⟩ 0]⟩),
 (43, ⟨.st [(0, 4), (4, 2), (6, 1), (7, 1)], true, 8, [.h ⟨none, 0⟩ 0, .h ⟨none, 0⟩ 0, .h ⟨none, 0⟩ 0, .h ⟨none, 0⟩ 0, I 0, .h ⟨none, 0⟩ 0, .h ⟨none, 0⟩ 0, .h ⟨none, 0⟩ 0]⟩),
 (44, ⟨.sl 133, false, 1, [.h ⟨none, 0⟩ 0]⟩),
 (133, ⟨.st [(0, 1), (1, 4), (5, 1), (6, 1), (7, 10), (17, 1), (18, 1), (19, 1), (20, 1)], true, 21, [.l false, I 0, I 0, I 0, I 0, I 0, I 0, I 0, I 0, I 0, I 0, I 0, I 0, I 0, I 0, I 0, .l false, I 0, I 0, I 0, I 0]⟩),
 (130, ⟨.st [(0, 1), (1, 1), (2, 1), (3, 1)], true, 4, [I 0, I 0, I 0, I 0]⟩),
 (131, ⟨.st [(0, 1), (1, 1), (2, 1), (3, 1), (4, 1), (5, 1), (6, 1), (7, 1), (8, 1), (9, 1)], true, 10, [I 0, I 0, I 0, I 0, I 0, I 0, I 0, I 0, I 0, .l false]⟩),
 (111, ⟨.sl 130, false, 1, [.h ⟨none, 0⟩ 0]⟩),
 (113, ⟨.st [(0, 1)], true, 1, [.h ⟨none, 0⟩ 0]⟩),
 (45, ⟨.sl 113, false, 1, [.h ⟨none, 0⟩ 0]⟩),
 (46, ⟨.sl 138, false, 1, [.h ⟨none, 0⟩ 0]⟩),
 (138, ⟨.st [(0, 1), (1, 1), (2, 1), (3, 1), (4, 1), (5, 1), (6, 1)], true, 7, [I 0, I 0, I 0, I 0, I 0, I 0, I 0]⟩),
 (48, ⟨.st [(0, 8), (8, 1), (9, 1), (10, 1), (11, 1), (12, 1)], true, 13, [.h ⟨none, 0⟩ 0, .h ⟨none, 0⟩ 0, .h ⟨none, 0⟩ 0, .h ⟨none, 0⟩ 0, I 0, .h ⟨none, 0⟩ 0, .h ⟨none, 0⟩ 0, .h ⟨none, 0⟩ 0, .h ⟨none, 0⟩ 0, .h ⟨none, 0⟩ 0, .h ⟨none, 0⟩ 0, .h ⟨none, 0⟩ 0, I 0]⟩),
 (22, ⟨.sl 48, false, 1, [.h ⟨none, 0⟩ 0]⟩),
 (51, ⟨.st [(0, 1), (1, 1)], true, 2, [.h ⟨none, 0⟩ 0, .h ⟨none, 0⟩ 0]⟩),
 (54, ⟨.st [(0, 1), (1, 1)], true, 2, [.h ⟨none, 0⟩ 0, .h ⟨none, 0⟩ 0]⟩),
 (52, ⟨.sl 91, false, 1, [.h ⟨none, 0⟩ 0]⟩),
 (91, ⟨.st [(0, 1)], true, 1, [.h ⟨none, 0⟩ 0]⟩),
 (56, ⟨.st [(0, 2), (2, 2)], true, 4, [.h ⟨none, 0⟩ 0, .h ⟨none, 0⟩ 0, .h ⟨none, 0⟩ 0, .h ⟨none, 0⟩ 0]⟩),
 (59, ⟨.st [(0, 1), (1, 1)], true, 2, [I 0, .h ⟨none, 0⟩ 0]⟩),
 (57, ⟨.sl 168, false, 1, [.h ⟨none, 0⟩ 0]⟩),
 (168, ⟨.st [(0, 1), (1, 1), (2, 1), (3, 1)], true, 4, [.l false, I 0, .l false, I 0]⟩),
 (118, ⟨.sl 122, false, 1, [.h ⟨none, 0⟩ 0]⟩),
 (122, ⟨.st [(0, 1), (1, 1)], true, 2, [I 0, I 0]⟩),
 (60, ⟨.sl 141, false, 1, [.h ⟨none, 0⟩ 0]⟩),
 (141, ⟨.st [(0, 1)], true, 1, [.h ⟨none, 0⟩ 0]⟩),
 (62, ⟨.st [(0, 4), (4, 2), (6, 1), (7, 1)], true, 8, [.h ⟨none, 0⟩ 0, .h ⟨none, 0⟩ 0, .h ⟨none, 0⟩ 0, .h ⟨none, 0⟩ 0, I 0, .h ⟨none, 0⟩ 0, .h ⟨none, 0⟩ 0, .h ⟨none, 0⟩ 0]⟩),
 (69, ⟨.st [(0, 1), (1, 1), (2, 1), (3, 1)], true, 4, [I 0, I 0, I 0, I 0]⟩),
 (64, ⟨.sl 125, false, 1, [.h ⟨none, 0⟩ 0]⟩),
 (125, ⟨.st [(0, 1)], true, 1, [.h ⟨none, 0⟩ 0]⟩),
 (123, ⟨.sl 69, false, 1, [.h ⟨none, 0⟩ 0]⟩),
 (67, ⟨.st [(0, 8), (8, 1), (9, 1), (10, 1), (11, 1), (12, 1)], true, 13, [.h ⟨none, 0⟩ 0, .h ⟨none, 0⟩ 0, .h ⟨none, 0⟩ 0, .h ⟨none, 0⟩ 0, I 0, .h ⟨none, 0⟩ 0, .h ⟨none, 0⟩ 0, .h ⟨none, 0⟩ 0, .h ⟨none, 0⟩ 0, .h ⟨none, 0⟩ 0, .h ⟨none, 0⟩ 0, .h ⟨none, 0⟩ 0, I 0]⟩),
 (63, ⟨.sl 73, false, 1, [.h ⟨none, 0⟩ 0]⟩),
 (73, ⟨.st [(0, 1), (1, 4), (5, 1), (6, 1), (7, 10), (17, 1), (18, 1), (19, 1), (20, 1)], true, 21, [.l false, I 0, I 0, I 0, I 0, I 0, I 0, I 0, I 0, I 0, I 0, I 0, I 0, I 0, I 0, I 0, .l false, I 0, I 0, I 0, I 0]⟩),
 (71, ⟨.st [(0, 1), (1, 1), (2, 1), (3, 1), (4, 1), (5, 1), (6, 1), (7, 1), (8, 1), (9, 1)], true, 10, [I 0, I 0, I 0, I 0, I 0, I 0, I 0, I 0, I 0, .l false]⟩),
 (65, ⟨.sl 136, false, 1, [.h ⟨none, 0⟩ 0]⟩),
 (136, ⟨.st [(0, 1), (1, 1), (2, 1), (3, 1), (4, 1), (5, 1), (6, 1)], true, 7, [I 0, I 0, I 0, I 0, I 0, I 0, I 0]⟩),
 (49, ⟨.sl 4, false, 1, [.h ⟨none, 0⟩ 0]⟩),
 (25, ⟨.sl 67, false, 1, [.h ⟨none, 0⟩ 0]⟩),
 (216, ⟨.sl 52, false, 1, [.h ⟨none, 0⟩ 0]⟩)]
theorem tok : TOk Tryz.prog tt := .add (k := .sl 3) Tryz.underlying30 rfl Tryz.isAgg30 Tryz.sizeOf30 Tryz.zeroValue30 rfl <|
 .add (k := .i .i64) Tryz.underlying3 rfl Tryz.isAgg3 Tryz.sizeOf3 Tryz.zeroValue3 rfl <|
 .st Tryz.underlying32 (.c Tryz.sizeOf30 (.c Tryz.sizeOf30 .n)) Tryz.isAgg32 Tryz.sizeOf32 Tryz.zeroValue32 rfl <|
 .st Tryz.underlying212 (.c Tryz.sizeOf30 .n) Tryz.isAgg212 Tryz.sizeOf212 Tryz.zeroValue212 rfl <|
 .add (k := .sl 212) Tryz.underlying33 rfl Tryz.isAgg33 Tryz.sizeOf33 Tryz.zeroValue33 rfl <|
 .st Tryz.underlying35 (.c Tryz.sizeOf33 (.c Tryz.sizeOf33 .n)) Tryz.isAgg35 Tryz.sizeOf35 Tryz.zeroValue35 rfl <|
 .st Tryz.underlying37 (.c Tryz.sizeOf32 (.c Tryz.sizeOf35 .n)) Tryz.isAgg37 Tryz.sizeOf37 Tryz.zeroValue37 rfl <|
 .add (k := .sl 204) Tryz.underlying38 rfl Tryz.isAgg38 Tryz.sizeOf38 Tryz.zeroValue38 rfl <|
 .st Tryz.underlying204 (.c Tryz.sizeOf4 (.c Tryz.sizeOf3 (.c Tryz.sizeOf4 (.c Tryz.sizeOf3 .n)))) Tryz.isAgg204 Tryz.sizeOf204 Tryz.zeroValue204 rfl <|
 .add (k := .b) Tryz.underlying4 rfl Tryz.isAgg4 Tryz.sizeOf4 Tryz.zeroValue4 rfl <|
 .st Tryz.underlying40 (.c Tryz.sizeOf3 (.c Tryz.sizeOf38 .n)) Tryz.isAgg40 Tryz.sizeOf40 Tryz.zeroValue40 rfl <|
 .add (k := .sl 215) Tryz.underlying160 rfl Tryz.isAgg160 Tryz.sizeOf160 Tryz.zeroValue160 rfl <|
 .st Tryz.underlying215 (.c Tryz.sizeOf3 (.c Tryz.sizeOf3 .n)) Tryz.isAgg215 Tryz.sizeOf215 Tryz.zeroValue215 rfl <|
 .st Tryz.underlying162 (.c Tryz.sizeOf160 .n) Tryz.isAgg162 Tryz.sizeOf162 Tryz.zeroValue162 rfl <|
 .add (k := .sl 162) Tryz.underlying41 rfl Tryz.isAgg41 Tryz.sizeOf41 Tryz.zeroValue41 rfl <|
 .st Tryz.underlying43 (.c Tryz.sizeOf37 (.c Tryz.sizeOf40 (.c Tryz.sizeOf41 (.c Tryz.sizeOf30 .n)))) Tryz.isAgg43 Tryz.sizeOf43 Tryz.zeroValue43 rfl <|
 .add (k := .sl 133) Tryz.underlying44 rfl Tryz.isAgg44 Tryz.sizeOf44 Tryz.zeroValue44 rfl <|
 .st Tryz.underlying133 (.c Tryz.sizeOf4 (.c Tryz.sizeOf130 (.c Tryz.sizeOf3 (.c Tryz.sizeOf3 (.c Tryz.sizeOf131 (.c Tryz.sizeOf3 (.c Tryz.sizeOf3 (.c Tryz.sizeOf3 (.c Tryz.sizeOf3 .n))))))))) Tryz.isAgg133 Tryz.sizeOf133 Tryz.zeroValue133 rfl <|
 .st Tryz.underlying130 (.c Tryz.sizeOf3 (.c Tryz.sizeOf3 (.c Tryz.sizeOf3 (.c Tryz.sizeOf3 .n)))) Tryz.isAgg130 Tryz.sizeOf130 Tryz.zeroValue130 rfl <|
 .st Tryz.underlying131 (.c Tryz.sizeOf3 (.c Tryz.sizeOf3 (.c Tryz.sizeOf3 (.c Tryz.sizeOf3 (.c Tryz.sizeOf3 (.c Tryz.sizeOf3 (.c Tryz.sizeOf3 (.c Tryz.sizeOf3 (.c Tryz.sizeOf3 (.c Tryz.sizeOf4 .n)))))))))) Tryz.isAgg131 Tryz.sizeOf131 Tryz.zeroValue131 rfl <|
 .add (k := .sl 130) Tryz.underlying111 rfl Tryz.isAgg111 Tryz.sizeOf111 Tryz.zeroValue111 rfl <|
 .st Tryz.underlying113 (.c Tryz.sizeOf111 .n) Tryz.isAgg113 Tryz.sizeOf113 Tryz.zeroValue113 rfl <|
 .add (k := .sl 113) Tryz.underlying45 rfl Tryz.isAgg45 Tryz.sizeOf45 Tryz.zeroValue45 rfl <|
 .add (k := .sl 138) Tryz.underlying46 rfl Tryz.isAgg46 Tryz.sizeOf46 Tryz.zeroValue46 rfl <|
 .st Tryz.underlying138 (.c Tryz.sizeOf3 (.c Tryz.sizeOf3 (.c Tryz.sizeOf3 (.c Tryz.sizeOf3 (.c Tryz.sizeOf3 (.c Tryz.sizeOf3 (.c Tryz.sizeOf3 .n))))))) Tryz.isAgg138 Tryz.sizeOf138 Tryz.zeroValue138 rfl <|
 .st Tryz.underlying48 (.c Tryz.sizeOf43 (.c Tryz.sizeOf30 (.c Tryz.sizeOf44 (.c Tryz.sizeOf45 (.c Tryz.sizeOf46 (.c Tryz.sizeOf3 .n)))))) Tryz.isAgg48 Tryz.sizeOf48 Tryz.zeroValue48 rfl <|
 .add (k := .sl 48) Tryz.underlying22 rfl Tryz.isAgg22 Tryz.sizeOf22 Tryz.zeroValue22 rfl <|
 .st Tryz.underlying51 (.c Tryz.sizeOf30 (.c Tryz.sizeOf30 .n)) Tryz.isAgg51 Tryz.sizeOf51 Tryz.zeroValue51 rfl <|
 .st Tryz.underlying54 (.c Tryz.sizeOf52 (.c Tryz.sizeOf52 .n)) Tryz.isAgg54 Tryz.sizeOf54 Tryz.zeroValue54 rfl <|
 .add (k := .sl 91) Tryz.underlying52 rfl Tryz.isAgg52 Tryz.sizeOf52 Tryz.zeroValue52 rfl <|
 .st Tryz.underlying91 (.c Tryz.sizeOf30 .n) Tryz.isAgg91 Tryz.sizeOf91 Tryz.zeroValue91 rfl <|
 .st Tryz.underlying56 (.c Tryz.sizeOf51 (.c Tryz.sizeOf54 .n)) Tryz.isAgg56 Tryz.sizeOf56 Tryz.zeroValue56 rfl <|
 .st Tryz.underlying59 (.c Tryz.sizeOf3 (.c Tryz.sizeOf57 .n)) Tryz.isAgg59 Tryz.sizeOf59 Tryz.zeroValue59 rfl <|
 .add (k := .sl 168) Tryz.underlying57 rfl Tryz.isAgg57 Tryz.sizeOf57 Tryz.zeroValue57 rfl <|
 .st Tryz.underlying168 (.c Tryz.sizeOf4 (.c Tryz.sizeOf3 (.c Tryz.sizeOf4 (.c Tryz.sizeOf3 .n)))) Tryz.isAgg168 Tryz.sizeOf168 Tryz.zeroValue168 rfl <|
 .add (k := .sl 122) Tryz.underlying118 rfl Tryz.isAgg118 Tryz.sizeOf118 Tryz.zeroValue118 rfl <|
 .st Tryz.underlying122 (.c Tryz.sizeOf3 (.c Tryz.sizeOf3 .n)) Tryz.isAgg122 Tryz.sizeOf122 Tryz.zeroValue122 rfl <|
 .add (k := .sl 141) Tryz.underlying60 rfl Tryz.isAgg60 Tryz.sizeOf60 Tryz.zeroValue60 rfl <|
 .st Tryz.underlying141 (.c Tryz.sizeOf118 .n) Tryz.isAgg141 Tryz.sizeOf141 Tryz.zeroValue141 rfl <|
 .st Tryz.underlying62 (.c Tryz.sizeOf56 (.c Tryz.sizeOf59 (.c Tryz.sizeOf60 (.c Tryz.sizeOf30 .n)))) Tryz.isAgg62 Tryz.sizeOf62 Tryz.zeroValue62 rfl <|
 .st Tryz.underlying69 (.c Tryz.sizeOf3 (.c Tryz.sizeOf3 (.c Tryz.sizeOf3 (.c Tryz.sizeOf3 .n)))) Tryz.isAgg69 Tryz.sizeOf69 Tryz.zeroValue69 rfl <|
 .add (k := .sl 125) Tryz.underlying64 rfl Tryz.isAgg64 Tryz.sizeOf64 Tryz.zeroValue64 rfl <|
 .st Tryz.underlying125 (.c Tryz.sizeOf123 .n) Tryz.isAgg125 Tryz.sizeOf125 Tryz.zeroValue125 rfl <|
 .add (k := .sl 69) Tryz.underlying123 rfl Tryz.isAgg123 Tryz.sizeOf123 Tryz.zeroValue123 rfl <|
 .st Tryz.underlying67 (.c Tryz.sizeOf62 (.c Tryz.sizeOf30 (.c Tryz.sizeOf63 (.c Tryz.sizeOf64 (.c Tryz.sizeOf65 (.c Tryz.sizeOf3 .n)))))) Tryz.isAgg67 Tryz.sizeOf67 Tryz.zeroValue67 rfl <|
 .add (k := .sl 73) Tryz.underlying63 rfl Tryz.isAgg63 Tryz.sizeOf63 Tryz.zeroValue63 rfl <|
 .st Tryz.underlying73 (.c Tryz.sizeOf4 (.c Tryz.sizeOf69 (.c Tryz.sizeOf3 (.c Tryz.sizeOf3 (.c Tryz.sizeOf71 (.c Tryz.sizeOf3 (.c Tryz.sizeOf3 (.c Tryz.sizeOf3 (.c Tryz.sizeOf3 .n))))))))) Tryz.isAgg73 Tryz.sizeOf73 Tryz.zeroValue73 rfl <|
 .st Tryz.underlying71 (.c Tryz.sizeOf3 (.c Tryz.sizeOf3 (.c Tryz.sizeOf3 (.c Tryz.sizeOf3 (.c Tryz.sizeOf3 (.c Tryz.sizeOf3 (.c Tryz.sizeOf3 (.c Tryz.sizeOf3 (.c Tryz.sizeOf3 (.c Tryz.sizeOf4 .n)))))))))) Tryz.isAgg71 Tryz.sizeOf71 Tryz.zeroValue71 rfl <|
 .add (k := .sl 136) Tryz.underlying65 rfl Tryz.isAgg65 Tryz.sizeOf65 Tryz.zeroValue65 rfl <|
 .st Tryz.underlying136 (.c Tryz.sizeOf3 (.c Tryz.sizeOf3 (.c Tryz.sizeOf3 (.c Tryz.sizeOf3 (.c Tryz.sizeOf3 (.c Tryz.sizeOf3 (.c Tryz.sizeOf3 .n))))))) Tryz.isAgg136 Tryz.sizeOf136 Tryz.zeroValue136 rfl <|
 .add (k := .sl 4) Tryz.underlying49 rfl Tryz.isAgg49 Tryz.sizeOf49 Tryz.zeroValue49 rfl <|
 .add (k := .sl 67) Tryz.underlying25 rfl Tryz.isAgg25 Tryz.sizeOf25 Tryz.zeroValue25 rfl <|
 .add (k := .sl 52) Tryz.underlying216 rfl Tryz.isAgg216 Tryz.sizeOf216 Tryz.zeroValue216 rfl <| .nil
def cSList : Cel SList := ⟨AC, fun x y => [.h y x.Slots.length], fun S w x y => Rep.rd S w [y.v x.Slots.length] x.Slots, (fun h => by
  obtain ⟨v0, rfl, h0⟩ := rd_SList h
  obtain ⟨a0, e0⟩ := rd_AC h0
  cases e0
  exact ⟨a0, rfl, h0⟩), fun x y => .g [.h y x.Slots.length], fun h h1 h2 => Rep.rd_mono (Rep.rd_agree h h1) h2⟩
def cPin : Cel Pin := ⟨Unit, fun x _ => [.b x.On, I x.Epoch, .b x.Marked, I x.Seen], fun _ _ _ _ => True, (fun h => ⟨(), by rw [rd_Pin h]; rfl, trivial⟩), fun x _ => .g [.b x.On, I x.Epoch, .b x.Marked, I x.Seen], fun _ _ _ => trivial⟩
def cLRow : Cel LRow := ⟨Unit, fun x _ => [I x.Handle, I x.Epoch], fun _ _ _ _ => True, (fun h => ⟨(), by rw [rd_LRow h]; rfl, trivial⟩), fun x _ => .g [I x.Handle, I x.Epoch], fun _ _ _ => trivial⟩
def cLList : Cel LList := ⟨AC, fun x y => [.h y x.Rows.length], fun S w x y => Rep.rd S w [y.v x.Rows.length] x.Rows, (fun h => by
  obtain ⟨v0, rfl, h0⟩ := rd_LList h
  obtain ⟨a0, e0⟩ := rd_AC h0
  cases e0
  exact ⟨a0, rfl, h0⟩), fun x y => .g [.h y x.Rows.length], fun h h1 h2 => Rep.rd_mono (Rep.rd_agree h h1) h2⟩
def cGOp : Cel GOp := ⟨Unit, fun x _ => [I x.Kind, I x.Cell, I x.Size, I x.Val], fun _ _ _ _ => True, (fun h => ⟨(), by rw [rd_GOp h]; rfl, trivial⟩), fun x _ => .g [I x.Kind, I x.Cell, I x.Size, I x.Val], fun _ _ _ => trivial⟩
def cJob : Cel Job := ⟨Unit, fun x _ => [.b x.Busy, I x.Op.Kind, I x.Op.Cell, I x.Op.Size, I x.Op.Val, I x.Serial, I x.Pc, I x.Sub.Kind, I x.Sub.A, I x.Sub.Pc, I x.Sub.E, I x.Sub.Row, I x.Sub.B, I x.Sub.H, I x.Sub.Out, I x.Sub.Code, .b x.Sub.Done, I x.H, I x.Old, I x.Val, I x.Code], fun _ _ _ _ => True, (fun h => ⟨(), by rw [rd_Job h]; rfl, trivial⟩), fun x _ => .g [.b x.Busy, I x.Op.Kind, I x.Op.Cell, I x.Op.Size, I x.Op.Val, I x.Serial, I x.Pc, I x.Sub.Kind, I x.Sub.A, I x.Sub.Pc, I x.Sub.E, I x.Sub.Row, I x.Sub.B, I x.Sub.H, I x.Sub.Out, I x.Sub.Code, .b x.Sub.Done, I x.H, I x.Old, I x.Val, I x.Code], fun _ _ _ => trivial⟩
def cQueue : Cel Queue := ⟨AC, fun x y => [.h y x.Ops.length], fun S w x y => Rep.rd S w [y.v x.Ops.length] x.Ops, (fun h => by
  obtain ⟨v0, rfl, h0⟩ := rd_Queue h
  obtain ⟨a0, e0⟩ := rd_AC h0
  cases e0
  exact ⟨a0, rfl, h0⟩), fun x y => .g [.h y x.Ops.length], fun h h1 h2 => Rep.rd_mono (Rep.rd_agree h h1) h2⟩
def cEv : Cel Ev := ⟨Unit, fun x _ => [I x.Kind, I x.Who, I x.Serial, I x.Cell, I x.Handle, I x.Val, I x.Code], fun _ _ _ _ => True, (fun h => ⟨(), by rw [rd_Ev h]; rfl, trivial⟩), fun x _ => .g [I x.Kind, I x.Who, I x.Serial, I x.Cell, I x.Handle, I x.Val, I x.Code], fun _ _ _ => trivial⟩
def cShelf : Cel Shelf := ⟨AC × AC × AC × AC × AC × AC × AC × AC × AC × AC × AC, fun x y => [.h y.1 x.Base.Mem.Heap.Bytes.length, .h y.2.1 x.Base.Mem.Heap.Class.length, .h y.2.2.1 x.Base.Mem.Lists.Global.length, .h y.2.2.2.1 x.Base.Mem.Lists.Own.length, I x.Base.Clock.Epoch, .h y.2.2.2.2.1 x.Base.Clock.Pins.length, .h y.2.2.2.2.2.1 x.Base.Limbo.length, .h y.2.2.2.2.2.2.1 x.Base.Haz.length, .h y.2.2.2.2.2.2.2.1 x.Cells.length, .h y.2.2.2.2.2.2.2.2.1 x.Jobs.length, .h y.2.2.2.2.2.2.2.2.2.1 x.Todo.length, .h y.2.2.2.2.2.2.2.2.2.2 x.Log.length, I x.Serial], fun S w x y => Rep.rd S w [y.1.v x.Base.Mem.Heap.Bytes.length] x.Base.Mem.Heap.Bytes ∧ Rep.rd S w [y.2.1.v x.Base.Mem.Heap.Class.length] x.Base.Mem.Heap.Class ∧ Rep.rd S w [y.2.2.1.v x.Base.Mem.Lists.Global.length] x.Base.Mem.Lists.Global ∧ Rep.rd S w [y.2.2.2.1.v x.Base.Mem.Lists.Own.length] x.Base.Mem.Lists.Own ∧ Rep.rd S w [y.2.2.2.2.1.v x.Base.Clock.Pins.length] x.Base.Clock.Pins ∧ Rep.rd S w [y.2.2.2.2.2.1.v x.Base.Limbo.length] x.Base.Limbo ∧ Rep.rd S w [y.2.2.2.2.2.2.1.v x.Base.Haz.length] x.Base.Haz ∧ Rep.rd S w [y.2.2.2.2.2.2.2.1.v x.Cells.length] x.Cells ∧ Rep.rd S w [y.2.2.2.2.2.2.2.2.1.v x.Jobs.length] x.Jobs ∧ Rep.rd S w [y.2.2.2.2.2.2.2.2.2.1.v x.Todo.length] x.Todo ∧ Rep.rd S w [y.2.2.2.2.2.2.2.2.2.2.v x.Log.length] x.Log, (fun h => by
  obtain ⟨v0, v1, v2, v3, v4, v5, v6, v7, v8, v9, v10, rfl, h0, h1, h2, h3, h4, h5, h6, h7, h8, h9, h10⟩ := rd_Shelf h
  obtain ⟨a0, e0⟩ := rd_AC h0
  cases e0
  obtain ⟨a1, e1⟩ := rd_AC h1
  cases e1
  obtain ⟨a2, e2⟩ := rd_AC h2
  cases e2
  obtain ⟨a3, e3⟩ := rd_AC h3
  cases e3
  obtain ⟨a4, e4⟩ := rd_AC h4
  cases e4
  obtain ⟨a5, e5⟩ := rd_AC h5
  cases e5
  obtain ⟨a6, e6⟩ := rd_AC h6
  cases e6
  obtain ⟨a7, e7⟩ := rd_AC h7
  cases e7
  obtain ⟨a8, e8⟩ := rd_AC h8
  cases e8
  obtain ⟨a9, e9⟩ := rd_AC h9
  cases e9
  obtain ⟨a10, e10⟩ := rd_AC h10
  cases e10
  exact ⟨(a0, a1, a2, a3, a4, a5, a6, a7, a8, a9, a10), rfl, ⟨h0, h1, h2, h3, h4, h5, h6, h7, h8, h9, h10⟩⟩), fun x y => .g [.h y.1 x.Base.Mem.Heap.Bytes.length, .h y.2.1 x.Base.Mem.Heap.Class.length, .h y.2.2.1 x.Base.Mem.Lists.Global.length, .h y.2.2.2.1 x.Base.Mem.Lists.Own.length, I x.Base.Clock.Epoch, .h y.2.2.2.2.1 x.Base.Clock.Pins.length, .h y.2.2.2.2.2.1 x.Base.Limbo.length, .h y.2.2.2.2.2.2.1 x.Base.Haz.length, .h y.2.2.2.2.2.2.2.1 x.Cells.length, .h y.2.2.2.2.2.2.2.2.1 x.Jobs.length, .h y.2.2.2.2.2.2.2.2.2.1 x.Todo.length, .h y.2.2.2.2.2.2.2.2.2.2 x.Log.length, I x.Serial], fun h h1 h2 => ⟨Rep.rd_mono (Rep.rd_agree h.1 h1) h2, Rep.rd_mono (Rep.rd_agree h.2.1 h1) h2, Rep.rd_mono (Rep.rd_agree h.2.2.1 h1) h2, Rep.rd_mono (Rep.rd_agree h.2.2.2.1 h1) h2, Rep.rd_mono (Rep.rd_agree h.2.2.2.2.1 h1) h2, Rep.rd_mono (Rep.rd_agree h.2.2.2.2.2.1 h1) h2, Rep.rd_mono (Rep.rd_agree h.2.2.2.2.2.2.1 h1) h2, Rep.rd_mono (Rep.rd_agree h.2.2.2.2.2.2.2.1 h1) h2, Rep.rd_mono (Rep.rd_agree h.2.2.2.2.2.2.2.2.1 h1) h2, Rep.rd_mono (Rep.rd_agree h.2.2.2.2.2.2.2.2.2.1 h1) h2, Rep.rd_mono (Rep.rd_agree h.2.2.2.2.2.2.2.2.2.2 h1) h2⟩⟩
def oSList : CO SList := cSList.o (fun x y => [ow y x.Slots]) (fun h => by cases h; exact op_SList _) (fun _ _ => rfl) (fun _ _ _ => rfl)
def oPin : CO Pin := cPin.o (fun x _ => []) (fun h => by cases h; exact op_Pin _) (fun _ _ => rfl) (fun _ _ _ => rfl)
def oLRow : CO LRow := cLRow.o (fun x _ => []) (fun h => by cases h; exact op_LRow _) (fun _ _ => rfl) (fun _ _ _ => rfl)
def oLList : CO LList := cLList.o (fun x y => [ow y x.Rows]) (fun h => by cases h; exact op_LList _) (fun _ _ => rfl) (fun _ _ _ => rfl)
def oGOp : CO GOp := cGOp.o (fun x _ => []) (fun h => by cases h; exact op_GOp _) (fun _ _ => rfl) (fun _ _ _ => rfl)
def oJob : CO Job := cJob.o (fun x _ => []) (fun h => by cases h; exact op_Job _) (fun _ _ => rfl) (fun _ _ _ => rfl)
def oQueue : CO Queue := cQueue.o (fun x y => [ow y x.Ops]) (fun h => by cases h; exact op_Queue _) (fun _ _ => rfl) (fun _ _ _ => rfl)
def oEv : CO Ev := cEv.o (fun x _ => []) (fun h => by cases h; exact op_Ev _) (fun _ _ => rfl) (fun _ _ _ => rfl)
def oShelf : CO Shelf := cShelf.o (fun x y => [ow y.1 x.Base.Mem.Heap.Bytes, ow y.2.1 x.Base.Mem.Heap.Class, ow y.2.2.1 x.Base.Mem.Lists.Global, ow y.2.2.2.1 x.Base.Mem.Lists.Own, ow y.2.2.2.2.1 x.Base.Clock.Pins, ow y.2.2.2.2.2.1 x.Base.Limbo, ow y.2.2.2.2.2.2.1 x.Base.Haz, ow y.2.2.2.2.2.2.2.1 x.Cells, ow y.2.2.2.2.2.2.2.2.1 x.Jobs, ow y.2.2.2.2.2.2.2.2.2.1 x.Todo, ow y.2.2.2.2.2.2.2.2.2.2 x.Log]) (fun h => by cases h; exact op_Shelf _) (fun _ _ => rfl) (fun _ _ _ => rfl)
theorem n_laws_szIntS {κ : Ctx} {a_ : List Int} {left : Int} {s1 : AC} {r : Int} (h1 : RdA κ s1 a_) (hF : laws_szIntS a_ left = some r) : Fn0 Tryz.prog 19 κ [.h s1 a_.length, I left] I r :=
 en 12 Tryz.call19 Tryz.func19 tok rfl rfl rfl <| cs [10] rfl rfl hF (fun hF => rt () [] hF rfl rfl Tryz.results19 rfl rfl rfl rfl) fun hF => rt () [] hF rfl rfl Tryz.results19 rfl rfl rfl rfl
theorem n_laws_szHeap {κ : Ctx} {a_ : Heap} {left : Int} {s1 s2 : AC} {r : Int} (h1 : RdA κ s1 a_.Bytes) (h2 : RdA κ s2 a_.Class) (hF : laws_szHeap a_ left = some r) : Fn0 Tryz.prog 96 κ [.g [.h s1 a_.Bytes.length, .h s2 a_.Class.length], I left] I r :=
 en 18 Tryz.call96 Tryz.func96 tok rfl rfl rfl <| cl0 rfl (fun h => n_laws_szIntS (h.a h1)) hF fun x1 _ hF => cs [10] rfl rfl hF (fun hF => rt () [] hF rfl rfl Tryz.results96 rfl rfl rfl rfl) fun hF => cl0 rfl (fun h => n_laws_szIntS (h.a h2)) hF fun x2 _ hF => cs [16] rfl rfl hF (fun hF => rt () [] hF rfl rfl Tryz.results96 rfl rfl rfl rfl) fun hF => rt () [] hF rfl rfl Tryz.results96 rfl rfl rfl rfl
theorem n_laws_szSList {κ : Ctx} {a_ : SList} {left : Int} {s1 : AC} {r : Int} (h1 : RdA κ s1 a_.Slots) (hF : laws_szSList a_ left = some r) : Fn0 Tryz.prog 163 κ [.g [.h s1 a_.Slots.length], I left] I r :=
 en 12 Tryz.call163 Tryz.func163 tok rfl rfl rfl <| cl0 rfl (fun h => n_laws_szIntS (h.a h1)) hF fun x1 _ hF => cs [10] rfl rfl hF (fun hF => rt () [] hF rfl rfl Tryz.results163 rfl rfl rfl rfl) fun hF => rt () [] hF rfl rfl Tryz.results163 rfl rfl rfl rfl
theorem n_laws_szSListS {κ : Ctx} {a_ : List SList} {left : Int} {s1 : AC} {r : Int} (h1 : RdA κ s1 a_) (hF : laws_szSListS a_ left = some r) : Fn0 Tryz.prog 138 κ [.h s1 a_.length, I left] I r :=
 en 27 Tryz.call138 Tryz.func138 tok rfl rfl rfl <| cs [11] rfl rfl hF (fun hF => rt () [] hF rfl rfl Tryz.results138 rfl rfl rfl rfl) fun hF => lp () [0] (fun (p : Int × Int) (_ : Unit) => [(1, I p.1), (5, I p.2)]) [] [] (fun p _ => []) Out.brk [] (fun (x5 : Int) (_ : Unit) => [(1, I x5)]) [] (fun x5 _ => []) rfl hF rfl (fun o_ hF1 ⟨x3, x4⟩ _ o1 hG1 hr1 => cs [15] rfl rfl hG1 (fun hG1 => ix cSList rfl h1 hG1 rfl rfl rfl fun x6 _ hG1 s2 h2 => cl0 rfl (fun h => n_laws_szSList (h.a h2)) hG1 fun x7 _ hG1 => cs [25] rfl rfl hG1 (fun hG1 => rt () [] (re hG1 rfl hr1 hF1) rfl rfl Tryz.results138 rfl rfl rfl rfl) fun hG1 => nx () [] hG1 rfl rfl) fun hG1 => bk () [] hG1 hr1 rfl rfl) fun x5 _ hF => rt () [] hF rfl rfl Tryz.results138 rfl rfl rfl rfl
theorem n_laws_szLists {κ : Ctx} {a_ : Lists} {left : Int} {s1 s2 : AC} {r : Int} (h1 : RdA κ s1 a_.Global) (h2 : RdA κ s2 a_.Own) (hF : laws_szLists a_ left = some r) : Fn0 Tryz.prog 97 κ [.g [.h s1 a_.Global.length, .h s2 a_.Own.length], I left] I r :=
 en 18 Tryz.call97 Tryz.func97 tok rfl rfl rfl <| cl0 rfl (fun h => n_laws_szSListS (h.a h1)) hF fun x1 _ hF => cs [10] rfl rfl hF (fun hF => rt () [] hF rfl rfl Tryz.results97 rfl rfl rfl rfl) fun hF => cl0 rfl (fun h => n_laws_szSListS (h.a h2)) hF fun x2 _ hF => cs [16] rfl rfl hF (fun hF => rt () [] hF rfl rfl Tryz.results97 rfl rfl rfl rfl) fun hF => rt () [] hF rfl rfl Tryz.results97 rfl rfl rfl rfl
theorem n_laws_szMem {κ : Ctx} {a_ : Mem} {left : Int} {s1 s2 s3 s4 : AC} {r : Int} (h1 : RdA κ s1 a_.Heap.Bytes) (h2 : RdA κ s2 a_.Heap.Class) (h3 : RdA κ s3 a_.Lists.Global) (h4 : RdA κ s4 a_.Lists.Own) (hF : laws_szMem a_ left = some r) : Fn0 Tryz.prog 52 κ [.g [.h s1 a_.Heap.Bytes.length, .h s2 a_.Heap.Class.length, .h s3 a_.Lists.Global.length, .h s4 a_.Lists.Own.length], I left] I r :=
 en 18 Tryz.call52 Tryz.func52 tok rfl rfl rfl <| cl0 rfl (fun h => n_laws_szHeap (h.a h1) (h.a h2)) hF fun x1 _ hF => cs [10] rfl rfl hF (fun hF => rt () [] hF rfl rfl Tryz.results52 rfl rfl rfl rfl) fun hF => cl0 rfl (fun h => n_laws_szLists (h.a h3) (h.a h4)) hF fun x2 _ hF => cs [16] rfl rfl hF (fun hF => rt () [] hF rfl rfl Tryz.results52 rfl rfl rfl rfl) fun hF => rt () [] hF rfl rfl Tryz.results52 rfl rfl rfl rfl
theorem n_laws_szPinS {κ : Ctx} {a_ : List Pin} {left : Int} {s1 : AC} {r : Int} (h1 : RdA κ s1 a_) (hF : laws_szPinS a_ left = some r) : Fn0 Tryz.prog 98 κ [.h s1 a_.length, I left] I r :=
 en 12 Tryz.call98 Tryz.func98 tok rfl rfl rfl <| cs [10] rfl rfl hF (fun hF => rt () [] hF rfl rfl Tryz.results98 rfl rfl rfl rfl) fun hF => rt () [] hF rfl rfl Tryz.results98 rfl rfl rfl rfl
theorem n_laws_szClock {κ : Ctx} {a_ : Clock} {left : Int} {s1 : AC} {r : Int} (h1 : RdA κ s1 a_.Pins) (hF : laws_szClock a_ left = some r) : Fn0 Tryz.prog 53 κ [.g [I a_.Epoch, .h s1 a_.Pins.length], I left] I r :=
 en 12 Tryz.call53 Tryz.func53 tok rfl rfl rfl <| cl0 rfl (fun h => n_laws_szPinS (h.a h1)) hF fun x1 _ hF => cs [10] rfl rfl hF (fun hF => rt () [] hF rfl rfl Tryz.results53 rfl rfl rfl rfl) fun hF => rt () [] hF rfl rfl Tryz.results53 rfl rfl rfl rfl
theorem n_laws_szLRowS {κ : Ctx} {a_ : List LRow} {left : Int} {s1 : AC} {r : Int} (h1 : RdA κ s1 a_) (hF : laws_szLRowS a_ left = some r) : Fn0 Tryz.prog 139 κ [.h s1 a_.length, I left] I r :=
 en 12 Tryz.call139 Tryz.func139 tok rfl rfl rfl <| cs [10] rfl rfl hF (fun hF => rt () [] hF rfl rfl Tryz.results139 rfl rfl rfl rfl) fun hF => rt () [] hF rfl rfl Tryz.results139 rfl rfl rfl rfl
theorem n_laws_szLList {κ : Ctx} {a_ : LList} {left : Int} {s1 : AC} {r : Int} (h1 : RdA κ s1 a_.Rows) (hF : laws_szLList a_ left = some r) : Fn0 Tryz.prog 99 κ [.g [.h s1 a_.Rows.length], I left] I r :=
 en 12 Tryz.call99 Tryz.func99 tok rfl rfl rfl <| cl0 rfl (fun h => n_laws_szLRowS (h.a h1)) hF fun x1 _ hF => cs [10] rfl rfl hF (fun hF => rt () [] hF rfl rfl Tryz.results99 rfl rfl rfl rfl) fun hF => rt () [] hF rfl rfl Tryz.results99 rfl rfl rfl rfl
theorem n_laws_szLListS {κ : Ctx} {a_ : List LList} {left : Int} {s1 : AC} {r : Int} (h1 : RdA κ s1 a_) (hF : laws_szLListS a_ left = some r) : Fn0 Tryz.prog 54 κ [.h s1 a_.length, I left] I r :=
 en 27 Tryz.call54 Tryz.func54 tok rfl rfl rfl <| cs [11] rfl rfl hF (fun hF => rt () [] hF rfl rfl Tryz.results54 rfl rfl rfl rfl) fun hF => lp () [0] (fun (p : Int × Int) (_ : Unit) => [(1, I p.1), (5, I p.2)]) [] [] (fun p _ => []) Out.brk [] (fun (x5 : Int) (_ : Unit) => [(1, I x5)]) [] (fun x5 _ => []) rfl hF rfl (fun o_ hF1 ⟨x3, x4⟩ _ o1 hG1 hr1 => cs [15] rfl rfl hG1 (fun hG1 => ix cLList rfl h1 hG1 rfl rfl rfl fun x6 _ hG1 s2 h2 => cl0 rfl (fun h => n_laws_szLList (h.a h2)) hG1 fun x7 _ hG1 => cs [25] rfl rfl hG1 (fun hG1 => rt () [] (re hG1 rfl hr1 hF1) rfl rfl Tryz.results54 rfl rfl rfl rfl) fun hG1 => nx () [] hG1 rfl rfl) fun hG1 => bk () [] hG1 hr1 rfl rfl) fun x5 _ hF => rt () [] hF rfl rfl Tryz.results54 rfl rfl rfl rfl
theorem n_laws_szBase {κ : Ctx} {a_ : Base} {left : Int} {s1 s2 s3 s4 s5 s6 s7 : AC} {r : Int} (h1 : RdA κ s1 a_.Mem.Heap.Bytes) (h2 : RdA κ s2 a_.Mem.Heap.Class) (h3 : RdA κ s3 a_.Mem.Lists.Global) (h4 : RdA κ s4 a_.Mem.Lists.Own) (h5 : RdA κ s5 a_.Clock.Pins) (h6 : RdA κ s6 a_.Limbo) (h7 : RdA κ s7 a_.Haz) (hF : laws_szBase a_ left = some r) : Fn0 Tryz.prog 18 κ [.g [.h s1 a_.Mem.Heap.Bytes.length, .h s2 a_.Mem.Heap.Class.length, .h s3 a_.Mem.Lists.Global.length, .h s4 a_.Mem.Lists.Own.length, I a_.Clock.Epoch, .h s5 a_.Clock.Pins.length, .h s6 a_.Limbo.length, .h s7 a_.Haz.length], I left] I r :=
 en 30 Tryz.call18 Tryz.func18 tok rfl rfl rfl <| cl0 rfl (fun h => n_laws_szMem (h.a h1) (h.a h2) (h.a h3) (h.a h4)) hF fun x1 _ hF => cs [10] rfl rfl hF (fun hF => rt () [] hF rfl rfl Tryz.results18 rfl rfl rfl rfl) fun hF => cl0 rfl (fun h => n_laws_szClock (h.a h5)) hF fun x2 _ hF => cs [16] rfl rfl hF (fun hF => rt () [] hF rfl rfl Tryz.results18 rfl rfl rfl rfl) fun hF => cl0 rfl (fun h => n_laws_szLListS (h.a h6)) hF fun x3 _ hF => cs [22] rfl rfl hF (fun hF => rt () [] hF rfl rfl Tryz.results18 rfl rfl rfl rfl) fun hF => cl0 rfl (fun h => n_laws_szIntS (h.a h7)) hF fun x4 _ hF => cs [28] rfl rfl hF (fun hF => rt () [] hF rfl rfl Tryz.results18 rfl rfl rfl rfl) fun hF => rt () [] hF rfl rfl Tryz.results18 rfl rfl rfl rfl
theorem n_laws_szJobS {κ : Ctx} {a_ : List Job} {left : Int} {s1 : AC} {r : Int} (h1 : RdA κ s1 a_) (hF : laws_szJobS a_ left = some r) : Fn0 Tryz.prog 20 κ [.h s1 a_.length, I left] I r :=
 en 12 Tryz.call20 Tryz.func20 tok rfl rfl rfl <| cs [10] rfl rfl hF (fun hF => rt () [] hF rfl rfl Tryz.results20 rfl rfl rfl rfl) fun hF => rt () [] hF rfl rfl Tryz.results20 rfl rfl rfl rfl
theorem n_laws_szOpS {κ : Ctx} {a_ : List GOp} {left : Int} {s1 : AC} {r : Int} (h1 : RdA κ s1 a_) (hF : laws_szOpS a_ left = some r) : Fn0 Tryz.prog 100 κ [.h s1 a_.length, I left] I r :=
 en 12 Tryz.call100 Tryz.func100 tok rfl rfl rfl <| cs [10] rfl rfl hF (fun hF => rt () [] hF rfl rfl Tryz.results100 rfl rfl rfl rfl) fun hF => rt () [] hF rfl rfl Tryz.results100 rfl rfl rfl rfl
theorem n_laws_szQueue {κ : Ctx} {a_ : Queue} {left : Int} {s1 : AC} {r : Int} (h1 : RdA κ s1 a_.Ops) (hF : laws_szQueue a_ left = some r) : Fn0 Tryz.prog 55 κ [.g [.h s1 a_.Ops.length], I left] I r :=
 en 12 Tryz.call55 Tryz.func55 tok rfl rfl rfl <| cl0 rfl (fun h => n_laws_szOpS (h.a h1)) hF fun x1 _ hF => cs [10] rfl rfl hF (fun hF => rt () [] hF rfl rfl Tryz.results55 rfl rfl rfl rfl) fun hF => rt () [] hF rfl rfl Tryz.results55 rfl rfl rfl rfl
theorem n_laws_szQueueS {κ : Ctx} {a_ : List Queue} {left : Int} {s1 : AC} {r : Int} (h1 : RdA κ s1 a_) (hF : laws_szQueueS a_ left = some r) : Fn0 Tryz.prog 21 κ [.h s1 a_.length, I left] I r :=
 en 27 Tryz.call21 Tryz.func21 tok rfl rfl rfl <| cs [11] rfl rfl hF (fun hF => rt () [] hF rfl rfl Tryz.results21 rfl rfl rfl rfl) fun hF => lp () [0] (fun (p : Int × Int) (_ : Unit) => [(1, I p.1), (5, I p.2)]) [] [] (fun p _ => []) Out.brk [] (fun (x5 : Int) (_ : Unit) => [(1, I x5)]) [] (fun x5 _ => []) rfl hF rfl (fun o_ hF1 ⟨x3, x4⟩ _ o1 hG1 hr1 => cs [15] rfl rfl hG1 (fun hG1 => ix cQueue rfl h1 hG1 rfl rfl rfl fun x6 _ hG1 s2 h2 => cl0 rfl (fun h => n_laws_szQueue (h.a h2)) hG1 fun x7 _ hG1 => cs [25] rfl rfl hG1 (fun hG1 => rt () [] (re hG1 rfl hr1 hF1) rfl rfl Tryz.results21 rfl rfl rfl rfl) fun hG1 => nx () [] hG1 rfl rfl) fun hG1 => bk () [] hG1 hr1 rfl rfl) fun x5 _ hF => rt () [] hF rfl rfl Tryz.results21 rfl rfl rfl rfl
theorem n_laws_szEvS {κ : Ctx} {a_ : List Ev} {left : Int} {s1 : AC} {r : Int} (h1 : RdA κ s1 a_) (hF : laws_szEvS a_ left = some r) : Fn0 Tryz.prog 22 κ [.h s1 a_.length, I left] I r :=
 en 12 Tryz.call22 Tryz.func22 tok rfl rfl rfl <| cs [10] rfl rfl hF (fun hF => rt () [] hF rfl rfl Tryz.results22 rfl rfl rfl rfl) fun hF => rt () [] hF rfl rfl Tryz.results22 rfl rfl rfl rfl
theorem n_laws_szShelf {κ : Ctx} {a_ : Shelf} {left : Int} {s1 s2 s3 s4 s5 s6 s7 s8 s9 s10 s11 : AC} {r : Int} (h1 : RdA κ s1 a_.Base.Mem.Heap.Bytes) (h2 : RdA κ s2 a_.Base.Mem.Heap.Class) (h3 : RdA κ s3 a_.Base.Mem.Lists.Global) (h4 : RdA κ s4 a_.Base.Mem.Lists.Own) (h5 : RdA κ s5 a_.Base.Clock.Pins) (h6 : RdA κ s6 a_.Base.Limbo) (h7 : RdA κ s7 a_.Base.Haz) (h8 : RdA κ s8 a_.Cells) (h9 : RdA κ s9 a_.Jobs) (h10 : RdA κ s10 a_.Todo) (h11 : RdA κ s11 a_.Log) (hF : laws_szShelf a_ left = some r) : Fn0 Tryz.prog 9 κ [.g [.h s1 a_.Base.Mem.Heap.Bytes.length, .h s2 a_.Base.Mem.Heap.Class.length, .h s3 a_.Base.Mem.Lists.Global.length, .h s4 a_.Base.Mem.Lists.Own.length, I a_.Base.Clock.Epoch, .h s5 a_.Base.Clock.Pins.length, .h s6 a_.Base.Limbo.length, .h s7 a_.Base.Haz.length, .h s8 a_.Cells.length, .h s9 a_.Jobs.length, .h s10 a_.Todo.length, .h s11 a_.Log.length, I a_.Serial], I left] I r :=
 en 36 Tryz.call9 Tryz.func9 tok rfl rfl rfl <| cl0 rfl (fun h => n_laws_szBase (h.a h1) (h.a h2) (h.a h3) (h.a h4) (h.a h5) (h.a h6) (h.a h7)) hF fun x1 _ hF => cs [10] rfl rfl hF (fun hF => rt () [] hF rfl rfl Tryz.results9 rfl rfl rfl rfl) fun hF => cl0 rfl (fun h => n_laws_szIntS (h.a h8)) hF fun x2 _ hF => cs [16] rfl rfl hF (fun hF => rt () [] hF rfl rfl Tryz.results9 rfl rfl rfl rfl) fun hF => cl0 rfl (fun h => n_laws_szJobS (h.a h9)) hF fun x3 _ hF => cs [22] rfl rfl hF (fun hF => rt () [] hF rfl rfl Tryz.results9 rfl rfl rfl rfl) fun hF => cl0 rfl (fun h => n_laws_szQueueS (h.a h10)) hF fun x4 _ hF => cs [28] rfl rfl hF (fun hF => rt () [] hF rfl rfl Tryz.results9 rfl rfl rfl rfl) fun hF => cl0 rfl (fun h => n_laws_szEvS (h.a h11)) hF fun x5 _ hF => cs [34] rfl rfl hF (fun hF => rt () [] hF rfl rfl Tryz.results9 rfl rfl rfl rfl) fun hF => rt () [] hF rfl rfl Tryz.results9 rfl rfl rfl rfl
theorem n_laws_szShelfS {κ : Ctx} {a_ : List Shelf} {left : Int} {s1 : AC} {r : Int} (h1 : RdA κ s1 a_) (hF : laws_szShelfS a_ left = some r) : Fn0 Tryz.prog 4 κ [.h s1 a_.length, I left] I r :=
 en 27 Tryz.call4 Tryz.func4 tok rfl rfl rfl <| cs [11] rfl rfl hF (fun hF => rt () [] hF rfl rfl Tryz.results4 rfl rfl rfl rfl) fun hF => lp () [0] (fun (p : Int × Int) (_ : Unit) => [(1, I p.1), (5, I p.2)]) [] [] (fun p _ => []) Out.brk [] (fun (x5 : Int) (_ : Unit) => [(1, I x5)]) [] (fun x5 _ => []) rfl hF rfl (fun o_ hF1 ⟨x3, x4⟩ _ o1 hG1 hr1 => cs [15] rfl rfl hG1 (fun hG1 => ix cShelf rfl h1 hG1 rfl rfl rfl fun x6 _ hG1 s2 h2 => cl0 rfl (fun h => n_laws_szShelf (h.a h2.1) (h.a h2.2.1) (h.a h2.2.2.1) (h.a h2.2.2.2.1) (h.a h2.2.2.2.2.1) (h.a h2.2.2.2.2.2.1) (h.a h2.2.2.2.2.2.2.1) (h.a h2.2.2.2.2.2.2.2.1) (h.a h2.2.2.2.2.2.2.2.2.1) (h.a h2.2.2.2.2.2.2.2.2.2.1) (h.a h2.2.2.2.2.2.2.2.2.2.2)) hG1 fun x7 _ hG1 => cs [25] rfl rfl hG1 (fun hG1 => rt () [] (re hG1 rfl hr1 hF1) rfl rfl Tryz.results4 rfl rfl rfl rfl) fun hG1 => nx () [] hG1 rfl rfl) fun hG1 => bk () [] hG1 hr1 rfl rfl) fun x5 _ hF => rt () [] hF rfl rfl Tryz.results4 rfl rfl rfl rfl
theorem n_spec_l1In {κ : Ctx} {x : Int} {low : Int} {high : Int}  {r : Bool}  (hF : spec_l1In x low high = some r) : Fn0 Tryz.prog 25 κ [I x, I low, I high] .b r :=
 en 15 Tryz.call25 Tryz.func25 tok rfl rfl rfl <| cut 0 0 (fun (x1 : Bool) => spec_l1In_j1 x1 = some r) [] (fun (x1 : Bool) (_ : Unit) => [(6, .b x1)]) [] (fun x1 _ => []) rfl (ca [9, 10] rfl rfl hF (fun hF => jn () [] hF rfl rfl) fun hF => jn () [] hF rfl rfl) fun x1 _ hF => rt () [] hF rfl rfl Tryz.results25 rfl rfl rfl rfl
theorem n_spec_OwnAt {κ : Ctx} {w_ : Int} {c : Int}  {r : Int}  (hF : spec_OwnAt w_ c = some r) : Fn0 Tryz.prog 29 κ [I w_, I c] I r :=
 en 17 Tryz.call29 Tryz.func29 tok rfl rfl rfl <| cut 0 0 (fun (x1 : Bool) => spec_OwnAt_j1 w_ c x1 = some r) [0, 1] (fun (x1 : Bool) (_ : Unit) => [(12, .b x1)]) [] (fun x1 _ => []) rfl (cl0 rfl (fun _ => n_spec_l1In) hF fun x2 _ hF => ca [7, 8] rfl rfl hF (fun hF => jn () [] hF rfl rfl) fun hF => cl0 rfl (fun _ => n_spec_l1In) hF fun x3 _ hF => jn () [] hF rfl rfl) fun x1 _ hF => cs [12] rfl rfl hF (fun hF => rt () [] hF rfl rfl Tryz.results29 rfl rfl rfl rfl) fun hF => rt () [] hF rfl rfl Tryz.results29 rfl rfl rfl rfl
theorem n_spec_BytesOk {κ : Ctx} {b : List Int} {s1 : AC} {r : Bool} (h1 : RdA κ s1 b) (hF : spec_BytesOk b = some r) : Fn0 Tryz.prog 164 κ [.h s1 b.length] .b r :=
 en 19 Tryz.call164 Tryz.func164 tok rfl rfl rfl <| lp () [0] (fun (x2 : Int) (_ : Unit) => [(3, I x2)]) [] [] (fun x2 _ => []) Out.brk [0] (fun (_ : Unit) (_ : Unit) => []) [] (fun _ _ => []) rfl hF rfl (fun o_ hF1 x2 _ o1 hG1 hr1 => cs [7] rfl rfl hG1 (fun hG1 => ix cI rfl h1 hG1 rfl rfl rfl fun x3 _ hG1 _ _ => cl0 rfl (fun _ => n_spec_l1In) hG1 fun x4 _ hG1 => cs [15] rfl rfl hG1 (fun hG1 => rt () [] (re hG1 rfl hr1 hF1) rfl rfl Tryz.results164 rfl rfl rfl rfl) fun hG1 => nx () [] hG1 rfl rfl) fun hG1 => bk () [] hG1 hr1 rfl rfl) fun () _ hF => rt () [] hF rfl rfl Tryz.results164 rfl rfl rfl rfl
theorem n_spec_l7Shape {κ : Ctx} {h : Heap} {s1 s2 : AC} {r : Bool} (h1 : RdA κ s1 h.Bytes) (h2 : RdA κ s2 h.Class) (hF : spec_l7Shape h = some r) : Fn0 Tryz.prog 140 κ [.g [.h s1 h.Bytes.length, .h s2 h.Class.length]] .b r :=
 en 31 Tryz.call140 Tryz.func140 tok rfl rfl rfl <| cut 0 1 (fun (x1 : Bool) => spec_l7Shape_j1 h x1 = some r) [1] (fun (x1 : Bool) (_ : Unit) => [(19, .b x1)]) [0] (fun x1 _ => []) rfl (ca [7, 8] rfl rfl hF (fun hF => jn () [0] hF rfl rfl) fun hF => ca [12, 13, 14] rfl rfl hF (fun hF => jn () [0] hF rfl rfl) fun hF => cl0 rfl (fun h => n_spec_BytesOk (h.a h1)) hF fun x6 _ hF => jn () [0] hF rfl rfl) fun x1 _ hF => cs [19] rfl rfl hF (fun hF => rt () [] hF rfl rfl Tryz.results140 rfl rfl rfl rfl) fun hF => lp () [1] (fun (x3 : Int) (_ : Unit) => [(3, I x3)]) [0] [0] (fun x3 _ => []) Out.brk [] (fun (_ : Unit) (_ : Unit) => []) [] (fun _ _ => []) rfl hF rfl (fun o_ hF2 x3 _ o2 hG2 hr2 => cs [21] rfl rfl hG2 (fun hG2 => ix cI rfl h2 hG2 rfl rfl rfl fun x4 _ hG2 _ _ => cl0 rfl (fun _ => n_spec_l1In) hG2 fun x5 _ hG2 => cs [30] rfl rfl hG2 (fun hG2 => rt () [] (re hG2 rfl hr2 hF2) rfl rfl Tryz.results140 rfl rfl rfl rfl) fun hG2 => nx () [0] hG2 rfl rfl) fun hG2 => bk () [] hG2 hr2 rfl rfl) fun () _ hF => rt () [] hF rfl rfl Tryz.results140 rfl rfl rfl rfl
theorem n_spec_l3Load {κ : Ctx} {b : List Int} {at_ : Int} {width : Int} {s1 : AC} {r : Int} (h1 : RdA κ s1 b) (hF : spec_l3Load b at_ width = some r) : Fn0 Tryz.prog 145 κ [.h s1 b.length, I at_, I width] I r :=
 en 24 Tryz.call145 Tryz.func145 tok rfl rfl rfl <| lp () [0, 1, 2] (fun (p : Int × Int) (_ : Unit) => [(7, I p.1), (8, I p.2)]) [] [] (fun p _ => []) id [] (fun (x5 : Int) (_ : Unit) => [(7, I x5)]) [] (fun x5 _ => []) rfl hF rfl (fun o_ hF1 ⟨x3, x4⟩ _ o1 hG1 hr1 => cs [11] rfl rfl hG1 (fun hG1 => ix cI rfl h1 hG1 rfl rfl rfl fun x6 _ hG1 _ _ => nx () [] hG1 rfl rfl) fun hG1 => bk () [] hG1 hr1 rfl rfl) fun x5 _ hF => rt () [] hF rfl rfl Tryz.results145 rfl rfl rfl rfl
theorem n_spec_SizeOf {κ : Ctx} {c : Int}  {r : Int}  (hF : spec_SizeOf c = some r) : Fn0 Tryz.prog 28 κ [I c] I r :=
 en 10 Tryz.call28 Tryz.func28 tok rfl rfl rfl <| cs [4, 5] rfl rfl hF (fun hF => rt () [] hF rfl rfl Tryz.results28 rfl rfl rfl rfl) fun hF => cs [6, 7] rfl rfl hF (fun hF => rt () [] hF rfl rfl Tryz.results28 rfl rfl rfl rfl) fun hF => cs [8, 9] rfl rfl hF (fun hF => rt () [] hF rfl rfl Tryz.results28 rfl rfl rfl rfl) fun hF => rt () [] hF rfl rfl Tryz.results28 rfl rfl rfl rfl
theorem n_spec_StrideOf {κ : Ctx} {c : Int}  {r : Int}  (hF : spec_StrideOf c = some r) : Fn0 Tryz.prog 169 κ [I c] I r :=
 en 9 Tryz.call169 Tryz.func169 tok rfl rfl rfl <| cl0 rfl (fun _ => n_spec_l1In) hF fun x1 _ hF => cs [5] rfl rfl hF (fun hF => rt () [] hF rfl rfl Tryz.results169 rfl rfl rfl rfl) fun hF => cl0 rfl (fun _ => n_spec_SizeOf) hF fun x2 _ hF => rt () [] hF rfl rfl Tryz.results169 rfl rfl rfl rfl
theorem n_spec_PerPage {κ : Ctx} {c : Int}  {r : Int}  (hF : spec_PerPage c = some r) : Fn0 Tryz.prog 165 κ [I c] I r :=
 en 9 Tryz.call165 Tryz.func165 tok rfl rfl rfl <| cl0 rfl (fun _ => n_spec_l1In) hF fun x1 _ hF => cs [5] rfl rfl hF (fun hF => rt () [] hF rfl rfl Tryz.results165 rfl rfl rfl rfl) fun hF => cl0 rfl (fun _ => n_spec_StrideOf) hF fun x2 _ hF => qquo rfl rfl rfl rfl hF fun hF => rt () [] hF rfl rfl Tryz.results165 rfl rfl rfl rfl
theorem n_spec_PageOf {κ : Ctx} {slot : Int}  {r : Int}  (hF : spec_PageOf slot = some r) : Fn0 Tryz.prog 167 κ [I slot] I r :=
 en 8 Tryz.call167 Tryz.func167 tok rfl rfl rfl <| cl0 rfl (fun _ => n_spec_l1In) hF fun x1 _ hF => cs [5] rfl rfl hF (fun hF => rt () [] hF rfl rfl Tryz.results167 rfl rfl rfl rfl) fun hF => rt () [] hF rfl rfl Tryz.results167 rfl rfl rfl rfl
theorem n_spec_IndexOf {κ : Ctx} {slot : Int}  {r : Int}  (hF : spec_IndexOf slot = some r) : Fn0 Tryz.prog 168 κ [I slot] I r :=
 en 8 Tryz.call168 Tryz.func168 tok rfl rfl rfl <| cl0 rfl (fun _ => n_spec_l1In) hF fun x1 _ hF => cs [5] rfl rfl hF (fun hF => rt () [] hF rfl rfl Tryz.results168 rfl rfl rfl rfl) fun hF => rt () [] hF rfl rfl Tryz.results168 rfl rfl rfl rfl
theorem n_spec_GenAt {κ : Ctx} {slot : Int} {c : Int}  {r : Int}  (hF : spec_GenAt slot c = some r) : Fn0 Tryz.prog 146 κ [I slot, I c] I r :=
 en 27 Tryz.call146 Tryz.func146 tok rfl rfl rfl <| cut 0 0 (fun (x1 : Bool) => spec_GenAt_j1 slot c x1 = some r) [0, 1] (fun (x1 : Bool) (_ : Unit) => [(16, .b x1)]) [] (fun x1 _ => []) rfl (cl0 rfl (fun _ => n_spec_PageOf) hF fun x5 _ hF => ca [7, 8] rfl rfl hF (fun hF => jn () [] hF rfl rfl) fun hF => cl0 rfl (fun _ => n_spec_IndexOf) hF fun x6 _ hF => cl0 rfl (fun _ => n_spec_PerPage) hF fun x7 _ hF => cl0 rfl (fun _ => n_spec_l1In) hF fun x8 _ hF => jn () [] hF rfl rfl) fun x1 _ hF => cs [16] rfl rfl hF (fun hF => rt () [] hF rfl rfl Tryz.results146 rfl rfl rfl rfl) fun hF => cl0 rfl (fun _ => n_spec_PageOf) hF fun x2 _ hF => cl0 rfl (fun _ => n_spec_IndexOf) hF fun x3 _ hF => cl0 rfl (fun _ => n_spec_StrideOf) hF fun x4 _ hF => rt () [] hF rfl rfl Tryz.results146 rfl rfl rfl rfl
theorem n_spec_SlotAt {κ : Ctx} {page : Int} {index : Int}  {r : Int}  (hF : spec_SlotAt page index = some r) : Fn0 Tryz.prog 166 κ [I page, I index] I r :=
 en 17 Tryz.call166 Tryz.func166 tok rfl rfl rfl <| cut 0 0 (fun (x1 : Bool) => spec_SlotAt_j1 page index x1 = some r) [0, 1] (fun (x1 : Bool) (_ : Unit) => [(12, .b x1)]) [] (fun x1 _ => []) rfl (cl0 rfl (fun _ => n_spec_l1In) hF fun x2 _ hF => ca [7, 8] rfl rfl hF (fun hF => jn () [] hF rfl rfl) fun hF => cl0 rfl (fun _ => n_spec_l1In) hF fun x3 _ hF => jn () [] hF rfl rfl) fun x1 _ hF => cs [12] rfl rfl hF (fun hF => rt () [] hF rfl rfl Tryz.results166 rfl rfl rfl rfl) fun hF => rt () [] hF rfl rfl Tryz.results166 rfl rfl rfl rfl
theorem n_spec_l7Page {κ : Ctx} {h : Heap} {p : Int} {s1 s2 : AC} {r : Bool} (h1 : RdA κ s1 h.Bytes) (h2 : RdA κ s2 h.Class) (hF : spec_l7Page h p = some r) : Fn0 Tryz.prog 141 κ [.g [.h s1 h.Bytes.length, .h s2 h.Class.length], I p] .b r :=
 en 89 Tryz.call141 Tryz.func141 tok rfl rfl rfl <| ix cI rfl h2 hF rfl rfl rfl fun x1 _ hF _ _ => cs [18] rfl rfl hF (fun hF => lp () [2, 5] (fun (x3 : Int) (_ : Unit) => [(7, I x3)]) [0] [0] (fun x3 _ => []) Out.brk [] (fun (_ : Unit) (_ : Unit) => []) [] (fun _ _ => []) rfl hF rfl (fun o_ hF1 x3 _ o1 hG1 hr1 => cs [23] rfl rfl hG1 (fun hG1 => ix cI rfl h1 hG1 rfl rfl rfl fun x4 _ hG1 _ _ => cs [31] rfl rfl hG1 (fun hG1 => rt () [] (re hG1 rfl hr1 hF1) rfl rfl Tryz.results141 rfl rfl rfl rfl) fun hG1 => nx () [0] hG1 rfl rfl) fun hG1 => bk () [] hG1 hr1 rfl rfl) fun () _ hF => rt () [] hF rfl rfl Tryz.results141 rfl rfl rfl rfl) fun hF => cut 0 2 (fun (x5 : Bool) => spec_l7Page_j2 h p x1 x5 = some r) [1, 2, 5, 6] (fun (x5 : Bool) (_ : Unit) => [(58, .b x5)]) [0] (fun x5 _ => []) rfl (dr [0, 1] rfl mixed_Tryz (by kernel_rfl) fun _ => ix cI rfl h1 hF rfl rfl rfl fun x16 _ hF _ _ => ca [37, 38] rfl rfl hF (fun hF => jn () [0] hF rfl rfl) fun hF => ix cI rfl h1 hF rfl rfl rfl fun x17 _ hF _ _ => ca [46, 47, 48] rfl rfl hF (fun hF => jn () [0] hF rfl rfl) fun hF => ix cI rfl h1 hF rfl rfl rfl fun x18 _ hF _ _ => cl0 rfl (fun _ => n_spec_PerPage) hF fun x19 _ hF => jn () [0] hF rfl rfl) fun x5 _ hF => cs [58] rfl rfl hF (fun hF => rt () [] hF rfl rfl Tryz.results141 rfl rfl rfl rfl) fun hF => lp () [1, 2, 5, 6] (fun (x7 : Int) (_ : Unit) => [(8, I x7)]) [0] [0] (fun x7 _ => []) Out.brk [1, 2, 6] (fun (_ : Unit) (_ : Unit) => []) [0] (fun _ _ => []) rfl hF rfl (fun o_ hF3 x7 _ o3 hG3 hr3 => cs [64] rfl rfl hG3 (fun hG3 => ix cI rfl h1 hG3 rfl rfl rfl fun x15 _ hG3 _ _ => cs [72] rfl rfl hG3 (fun hG3 => rt () [] (re hG3 rfl hr3 hF3) rfl rfl Tryz.results141 rfl rfl rfl rfl) fun hG3 => nx () [0] hG3 rfl rfl) fun hG3 => bk () [0] hG3 hr3 rfl rfl) fun () _ hF => lp () [1, 2, 6] (fun (x9 : Int) (_ : Unit) => [(9, I x9)]) [0] [0] (fun x9 _ => []) Out.brk [] (fun (_ : Unit) (_ : Unit) => []) [] (fun _ _ => []) rfl hF rfl (fun o_ hF4 x9 _ o4 hG4 hr4 => cl0 rfl (fun _ => n_spec_PerPage) hG4 fun x10 _ hG4 => cs [76] rfl rfl hG4 (fun hG4 => dr [0] rfl mixed_Tryz (by kernel_rfl) fun _ => cl0 rfl (fun _ => n_spec_SlotAt) hG4 fun x11 _ hG4 => cl0 rfl (fun _ => n_spec_GenAt) hG4 fun x12 _ hG4 => cl0 rfl (fun h => n_spec_l3Load (h.a h1)) hG4 fun x13 _ hG4 => cl0 rfl (fun _ => n_spec_l1In) hG4 fun x14 _ hG4 => cs [88] rfl rfl hG4 (fun hG4 => rt () [] (re hG4 rfl hr4 hF4) rfl rfl Tryz.results141 rfl rfl rfl rfl) fun hG4 => nx () [0] hG4 rfl rfl) fun hG4 => bk () [] hG4 hr4 rfl rfl) fun () _ hF => rt () [] hF rfl rfl Tryz.results141 rfl rfl rfl rfl
theorem n_spec_HeapOk {κ : Ctx} {h : Heap} {s1 s2 : AC} {r : Bool} (h1 : RdA κ s1 h.Bytes) (h2 : RdA κ s2 h.Class) (hF : spec_HeapOk h = some r) : Fn0 Tryz.prog 101 κ [.g [.h s1 h.Bytes.length, .h s2 h.Class.length]] .b r :=
 en 15 Tryz.call101 Tryz.func101 tok rfl rfl rfl <| cl0 rfl (fun h => n_spec_l7Shape (h.a h1) (h.a h2)) hF fun x1 _ hF => cs [6] rfl rfl hF (fun hF => rt () [] hF rfl rfl Tryz.results101 rfl rfl rfl rfl) fun hF => lp () [1] (fun (x3 : Int) (_ : Unit) => [(3, I x3)]) [0] [0] (fun x3 _ => []) Out.brk [] (fun (_ : Unit) (_ : Unit) => []) [] (fun _ _ => []) rfl hF rfl (fun o_ hF1 x3 _ o1 hG1 hr1 => cs [8] rfl rfl hG1 (fun hG1 => cl0 rfl (fun h => n_spec_l7Page (h.a h1) (h.a h2)) hG1 fun x4 _ hG1 => cs [14] rfl rfl hG1 (fun hG1 => rt () [] (re hG1 rfl hr1 hF1) rfl rfl Tryz.results101 rfl rfl rfl rfl) fun hG1 => nx () [0] hG1 rfl rfl) fun hG1 => bk () [] hG1 hr1 rfl rfl) fun () _ hF => rt () [] hF rfl rfl Tryz.results101 rfl rfl rfl rfl
theorem n_spec_l8Has {κ : Ctx} {l : List Int} {x : Int} {s1 : AC} {r : Bool} (h1 : RdA κ s1 l) (hF : spec_l8Has l x = some r) : Fn0 Tryz.prog 105 κ [.h s1 l.length, I x] .b r :=
 en 18 Tryz.call105 Tryz.func105 tok rfl rfl rfl <| lp () [0, 1] (fun (x2 : Int) (_ : Unit) => [(5, I x2)]) [] [] (fun x2 _ => []) Out.brk [] (fun (_ : Unit) (_ : Unit) => []) [] (fun _ _ => []) rfl hF rfl (fun o_ hF1 x2 _ o1 hG1 hr1 => cs [9] rfl rfl hG1 (fun hG1 => ix cI rfl h1 hG1 rfl rfl rfl fun x3 _ hG1 _ _ => cs [17] rfl rfl hG1 (fun hG1 => rt () [] (re hG1 rfl hr1 hF1) rfl rfl Tryz.results105 rfl rfl rfl rfl) fun hG1 => nx () [] hG1 rfl rfl) fun hG1 => bk () [] hG1 hr1 rfl rfl) fun () _ hF => rt () [] hF rfl rfl Tryz.results105 rfl rfl rfl rfl
theorem n_spec_l8All {κ : Ctx} {l : Lists} {s1 s2 : AC} {r : (List Int)} (h1 : RdA κ s1 l.Global) (h2 : RdA κ s2 l.Own) (hF : spec_l8All l = some r) : FnS Tryz.prog 142 κ [.g [.h s1 l.Global.length, .h s2 l.Own.length]] [] [] (fun r (y : AC) => .h y r.length) (fun r y => [ow y r]) r :=
 en 38 Tryz.call142 Tryz.func142 tok rfl rfl rfl <| lt0 (α := Int) inf_Tryz3 rfl rfl rfl rfl fun s3 => lp s3 [1] (fun (p : (List Int) × Int) (s5 : AC) => [(3, .h s5 p.1.length), (4, I p.2)]) [1, 0] [0] (fun p s5 => [ow s5 (p.1 : List Int)]) id [1] (fun (x5 : (List Int)) (s6 : AC) => [(3, .h s6 x5.length)]) [0] (fun x5 s6 => [ow s6 (x5 : List Int)]) rfl hF rfl (fun o_ hF1 ⟨x3, x4⟩ s5 o1 hG1 hr1 => cs [11] rfl rfl hG1 (fun hG1 => ix cSList rfl h1 hG1 rfl rfl rfl fun x12 _ hG1 s12 h4 => ap 0 inf_Tryz3 rfl rfl rfl rfl rfl rfl rfl (fun h => (h.a h4)) rfl rfl hG1 fun hG1 s13 => nx s13 [0, 1] hG1 rfl rfl) fun hG1 => bk s5 [0, 1] hG1 hr1 rfl rfl) fun x5 s6 hF => lp s6 [1] (fun (p : (List Int) × Int) (s8 : AC) => [(3, .h s8 p.1.length), (5, I p.2)]) [0, 1] [1] (fun p s8 => [ow s8 (p.1 : List Int)]) id [] (fun (x10 : (List Int)) (s9 : AC) => [(3, .h s9 x10.length)]) [] (fun x10 s9 => [ow s9 (x10 : List Int)]) rfl hF rfl (fun o_ hF2 ⟨x8, x9⟩ s8 o2 hG2 hr2 => cs [26] rfl rfl hG2 (fun hG2 => ix cSList rfl h2 hG2 rfl rfl rfl fun x11 _ hG2 s10 h3 => ap 0 inf_Tryz3 rfl rfl rfl rfl rfl rfl rfl (fun h => (h.a h3)) rfl rfl hG2 fun hG2 s11 => nx s11 [0, 1] hG2 rfl rfl) fun hG2 => bk s8 [0] hG2 hr2 rfl rfl) fun x10 s9 hF => rt s9 [0] hF rfl rfl Tryz.results142 rfl rfl rfl rfl
theorem n_spec_ListsOk {κ : Ctx} {l : Lists} {s1 s2 : AC} {r : Bool} (h1 : RdA κ s1 l.Global) (h2 : RdA κ s2 l.Own) (hF : spec_ListsOk l = some r) : Fn0 Tryz.prog 102 κ [.g [.h s1 l.Global.length, .h s2 l.Own.length]] .b r :=
 en 55 Tryz.call102 Tryz.func102 tok rfl rfl rfl <| cut 0 1 (fun (x1 : Bool) => spec_ListsOk_j1 l x1 = some r) [1] (fun (x1 : Bool) (_ : Unit) => [(15, .b x1)]) [0] (fun x1 _ => []) rfl (ca [9, 10] rfl rfl hF (fun hF => jn () [0] hF rfl rfl) fun hF => jn () [0] hF rfl rfl) fun x1 _ hF => cs [15] rfl rfl hF (fun hF => rt () [] hF rfl rfl Tryz.results102 rfl rfl rfl rfl) fun hF => lp () [1] (fun (x3 : Int) (_ : Unit) => [(3, I x3)]) [0] [0] (fun x3 _ => []) Out.brk [1] (fun (_ : Unit) (_ : Unit) => []) [0] (fun _ _ => []) rfl hF rfl (fun o_ hF2 x3 _ o2 hG2 hr2 => cs [20] rfl rfl hG2 (fun hG2 => ix cSList rfl h2 hG2 rfl rfl rfl fun x12 _ hG2 s4 h8 => cs [30] rfl rfl hG2 (fun hG2 => rt () [] (re hG2 rfl hr2 hF2) rfl rfl Tryz.results102 rfl rfl rfl rfl) fun hG2 => nx () [0] hG2 rfl rfl) fun hG2 => bk () [0] hG2 hr2 rfl rfl) fun () _ hF => cl rfl (fun _ _ => rfl) (fun h => n_spec_l8All (h.a h1) (h.a h2)) hF fun x4 _ hF s3 => lp () [4] (fun (x6 : Int) (_ : Unit) => [(5, I x6)]) [1] [1] (fun x6 _ => []) Out.brk [] (fun (_ : Unit) (_ : Unit) => []) [] (fun _ _ => []) rfl hF rfl (fun o_ hF3 x6 _ o3 hG3 hr3 => cs [36] rfl rfl hG3 (fun hG3 => cut 0 1 (fun (x7 : Bool) => spec_ListsOk_j4 x6 x7 = some o3) [4, 5] (fun (x7 : Bool) (_ : Unit) => [(54, .b x7)]) [0] (fun x7 _ => []) rfl (dr [] rfl mixed_Tryz (by kernel_rfl) fun _ => oe oI 0 rfl rfl rfl hG3 fun x8 h3 hG3 _ h4 => ieW 1 h4 h3 rfl rfl rfl rfl rfl <| cl0 rfl (fun _ => n_spec_l1In) hG3 fun x9 _ hG3 => ca [44, 45] rfl rfl hG3 (fun hG3 => sF rfl <| cqR oI 1 [] h3 () rfl rfl rfl rfl rfl rfl rfl <| jnR () [4] hG3 rfl) fun hG3 => cqS oI 1 [] h3 () rfl rfl rfl rfl rfl rfl rfl rfl rfl <| cpc 4 rfl rfl fun hc1 => qp_h hc1 rfl rfl rfl rfl rfl rfl hG3 fun hG3 h5 => oe oI 4 rfl rfl rfl hG3 fun x10 h6 hG3 _ h7 => ieW 2 h7 h6 rfl rfl rfl rfl rfl <| cqS oI 5 [] h6 () rfl rfl rfl rfl rfl rfl rfl rfl rfl <| cl0 rfl (fun h => n_spec_l8Has ((h.o 8 rfl).sub (sub_v h5.1 h5.2) h5)) hG3 fun x11 _ hG3 => jn () [8] hG3 rfl rfl) fun x7 _ hG3 => cs [54] rfl rfl hG3 (fun hG3 => rt () [] (re hG3 rfl hr3 hF3) rfl rfl Tryz.results102 rfl rfl rfl rfl) fun hG3 => nx () [0] hG3 rfl rfl) fun hG3 => bk () [] hG3 hr3 rfl rfl) fun () _ hF => rt () [] hF rfl rfl Tryz.results102 rfl rfl rfl rfl
theorem n_spec_l7Class {κ : Ctx} {h : Heap} {slot : Int} {s1 s2 : AC} {r : Int} (h1 : RdA κ s1 h.Bytes) (h2 : RdA κ s2 h.Class) (hF : spec_l7Class h slot = some r) : Fn0 Tryz.prog 143 κ [.g [.h s1 h.Bytes.length, .h s2 h.Class.length], I slot] I r :=
 en 34 Tryz.call143 Tryz.func143 tok rfl rfl rfl <| cl0 rfl (fun _ => n_spec_PageOf) hF fun x1 _ hF => cut 0 1 (fun (x2 : Bool) => spec_l7Class_j1 h x1 x2 = some r) [2, 5] (fun (x2 : Bool) (_ : Unit) => [(28, .b x2)]) [0] (fun x2 _ => []) rfl (dr [0] rfl mixed_Tryz (by kernel_rfl) fun _ => ca [9, 10] rfl rfl hF (fun hF => jn () [0] hF rfl rfl) fun hF => ix cI rfl h2 hF rfl rfl rfl fun x4 _ hF _ _ => ca [16, 17, 18] rfl rfl hF (fun hF => jn () [0] hF rfl rfl) fun hF => ix cI rfl h2 hF rfl rfl rfl fun x5 _ hF _ _ => cl0 rfl (fun _ => n_spec_IndexOf) hF fun x6 _ hF => cl0 rfl (fun _ => n_spec_PerPage) hF fun x7 _ hF => jn () [0] hF rfl rfl) fun x2 _ hF => cs [28] rfl rfl hF (fun hF => rt () [] hF rfl rfl Tryz.results143 rfl rfl rfl rfl) fun hF => ix cI rfl h2 hF rfl rfl rfl fun x3 _ hF _ _ => rt () [] hF rfl rfl Tryz.results143 rfl rfl rfl rfl
theorem n_spec_l7Gen {κ : Ctx} {h : Heap} {slot : Int} {s1 s2 : AC} {r : Int} (h1 : RdA κ s1 h.Bytes) (h2 : RdA κ s2 h.Class) (hF : spec_l7Gen h slot = some r) : Fn0 Tryz.prog 107 κ [.g [.h s1 h.Bytes.length, .h s2 h.Class.length], I slot] I r :=
 en 13 Tryz.call107 Tryz.func107 tok rfl rfl rfl <| dr [0] rfl mixed_Tryz (by kernel_rfl) fun _ => cl0 rfl (fun h => n_spec_l7Class (h.a h1) (h.a h2)) hF fun x1 _ hF => cl0 rfl (fun _ => n_spec_GenAt) hF fun x2 _ hF => cl0 rfl (fun h => n_spec_l3Load (h.a h1)) hF fun x3 _ hF => rt () [] hF rfl rfl Tryz.results107 rfl rfl rfl rfl
theorem n_spec_l9Listed {κ : Ctx} {h : Heap} {l : List Int} {c : Int} {s1 s2 : AC} {s3 : AC} {r : Bool} (h1 : RdA κ s1 h.Bytes) (h2 : RdA κ s2 h.Class) (h3 : RdA κ s3 l) (hF : spec_l9Listed h l c = some r) : Fn0 Tryz.prog 103 κ [.g [.h s1 h.Bytes.length, .h s2 h.Class.length], .h s3 l.length, I c] .b r :=
 en 31 Tryz.call103 Tryz.func103 tok rfl rfl rfl <| lp () [1, 2, 3] (fun (x2 : Int) (_ : Unit) => [(7, I x2)]) [0] [0] (fun x2 _ => []) Out.brk [] (fun (_ : Unit) (_ : Unit) => []) [] (fun _ _ => []) rfl hF rfl (fun o_ hF1 x2 _ o1 hG1 hr1 => cs [11] rfl rfl hG1 (fun hG1 => cut 0 1 (fun (x3 : Bool) => spec_l9Listed_j2 x2 x3 = some o1) [1, 2, 3, 7] (fun (x3 : Bool) (_ : Unit) => [(30, .b x3)]) [0] (fun x3 _ => []) rfl (dr [0] rfl mixed_Tryz (by kernel_rfl) fun _ => ix cI rfl h3 hG1 rfl rfl rfl fun x4 _ hG1 _ _ => cl0 rfl (fun h => n_spec_l7Class (h.a h1) (h.a h2)) hG1 fun x5 _ hG1 => ca [21, 22] rfl rfl hG1 (fun hG1 => jn () [0] hG1 rfl rfl) fun hG1 => ix cI rfl h3 hG1 rfl rfl rfl fun x6 _ hG1 _ _ => cl0 rfl (fun h => n_spec_l7Gen (h.a h1) (h.a h2)) hG1 fun x7 _ hG1 => jn () [0] hG1 rfl rfl) fun x3 _ hG1 => cs [30] rfl rfl hG1 (fun hG1 => rt () [] (re hG1 rfl hr1 hF1) rfl rfl Tryz.results103 rfl rfl rfl rfl) fun hG1 => nx () [0] hG1 rfl rfl) fun hG1 => bk () [] hG1 hr1 rfl rfl) fun () _ hF => rt () [] hF rfl rfl Tryz.results103 rfl rfl rfl rfl
theorem n_spec_MemOk {κ : Ctx} {m : Mem} {s1 s2 s3 s4 : AC} {r : Bool} (h1 : RdA κ s1 m.Heap.Bytes) (h2 : RdA κ s2 m.Heap.Class) (h3 : RdA κ s3 m.Lists.Global) (h4 : RdA κ s4 m.Lists.Own) (hF : spec_MemOk m = some r) : Fn0 Tryz.prog 56 κ [.g [.h s1 m.Heap.Bytes.length, .h s2 m.Heap.Class.length, .h s3 m.Lists.Global.length, .h s4 m.Lists.Own.length]] .b r :=
 en 49 Tryz.call56 Tryz.func56 tok rfl rfl rfl <| cut 0 1 (fun (x1 : Bool) => spec_MemOk_j1 m x1 = some r) [1] (fun (x1 : Bool) (_ : Unit) => [(14, .b x1)]) [0] (fun x1 _ => []) rfl (cl0 rfl (fun h => n_spec_HeapOk (h.a h1) (h.a h2)) hF fun x11 _ hF => caK [8, 9] rfl rfl hF (fun hb6 hF => jn () [0] hF rfl rfl) fun hb6 hF => cl0 rfl (fun h => n_spec_ListsOk (h.a h3) (h.a h4)) hF fun x12 _ hF => jn () [0] hF rfl rfl) fun x1 _ hF => csK [14] rfl rfl hF (fun hb1 hF => rt () [] hF rfl rfl Tryz.results56 rfl rfl rfl rfl) fun hb1 hF => lp () [1] (fun (x3 : Int) (_ : Unit) => [(3, I x3)]) [0] [0] (fun x3 _ => []) Out.brk [] (fun (_ : Unit) (_ : Unit) => []) [] (fun _ _ => []) rfl hF rfl (fun o_ hF2 x3 _ o2 hG2 hr2 => csK [16] rfl rfl hG2 (fun hb2 hG2 => dr [0] rfl mixed_Tryz (by kernel_rfl) fun _ => ix cSList rfl h3 hG2 rfl rfl rfl fun x4 _ hG2 s5 h5 => cl0 rfl (fun h => n_spec_l9Listed (h.a h1) (h.a h2) (h.a h5)) hG2 fun x5 _ hG2 => csK [30] rfl rfl hG2 (fun hb3 hG2 => rt () [] (re hG2 rfl hr2 hF2) rfl rfl Tryz.results56 rfl rfl rfl rfl) fun hb3 hG2 => lp () [1, 3] (fun (x7 : Int) (_ : Unit) => [(4, I x7)]) [0] [0] (fun x7 _ => []) Out.brk [1, 3] (fun (_ : Unit) (_ : Unit) => []) [0] (fun _ _ => []) rfl hG2 rfl (fun o_ hF3 x7 _ o3 hG3 hr3 => csK [32] rfl rfl hG3 (fun hb4 hG3 => dr [0] rfl mixed_Tryz (by kernel_rfl) fun _ => cl0 rfl (fun _ => n_spec_OwnAt) hG3 fun x8 _ hG3 => ix cSList rfl h4 hG3 rfl rfl rfl fun x9 _ hG3 s6 h6 => cl0 rfl (fun h => n_spec_l9Listed (h.a h1) (h.a h2) (h.a h6)) hG3 fun x10 _ hG3 => csK [48] rfl rfl hG3 (fun hb5 hG3 => rt () [] (re (re hG3 rfl hr3 hF3) rfl hr2 hF2) rfl rfl Tryz.results56 rfl rfl rfl rfl) fun hb5 hG3 => nx () [0] hG3 rfl rfl) fun hb4 hG3 => bk () [0] hG3 hr3 rfl rfl) fun () _ hG2 => nx () [0] hG2 rfl rfl) fun hb2 hG2 => bk () [] hG2 hr2 rfl rfl) fun () _ hF => rt () [] hF rfl rfl Tryz.results56 rfl rfl rfl rfl
theorem n_spec_ClockOk {κ : Ctx} {c : Clock} {s1 : AC} {r : Bool} (h1 : RdA κ s1 c.Pins) (hF : spec_ClockOk c = some r) : Fn0 Tryz.prog 57 κ [.g [I c.Epoch, .h s1 c.Pins.length]] .b r :=
 en 46 Tryz.call57 Tryz.func57 tok rfl rfl rfl <| cut 0 1 (fun (x1 : Bool) => spec_ClockOk_j1 c x1 = some r) [1] (fun (x1 : Bool) (_ : Unit) => [(14, .b x1)]) [0] (fun x1 _ => []) rfl (cl0 rfl (fun _ => n_spec_l1In) hF fun x10 _ hF => ca [8, 9] rfl rfl hF (fun hF => jn () [0] hF rfl rfl) fun hF => jn () [0] hF rfl rfl) fun x1 _ hF => cs [14] rfl rfl hF (fun hF => rt () [] hF rfl rfl Tryz.results57 rfl rfl rfl rfl) fun hF => lp () [1] (fun (x3 : Int) (_ : Unit) => [(3, I x3)]) [0] [0] (fun x3 _ => []) Out.brk [] (fun (_ : Unit) (_ : Unit) => []) [] (fun _ _ => []) rfl hF rfl (fun o_ hF2 x3 _ o2 hG2 hr2 => cs [16] rfl rfl hG2 (fun hG2 => ix cPin rfl h1 hG2 rfl rfl rfl fun x4 _ hG2 _ _ => cut 0 3 (fun (x5 : Bool) => spec_ClockOk_j3 x3 x5 = some o2) [1, 3] (fun (x5 : Bool) (_ : Unit) => [(45, .b x5)]) [0] (fun x5 _ => []) rfl (ca [26, 27] rfl rfl hG2 (fun hG2 => neS Tryz.eqGuardType168 Tryz.stoodInHeld168 Tryz.underlying168 (eqf_Tryz168 9997 x4 ((⟨false, 0, false, 0⟩ : Pin))) rfl rfl rfl rfl rfl rfl <| ca [30, 31, 32] rfl rfl hG2 (fun hG2 => jn () [0] hG2 rfl rfl) fun hG2 => cl0 rfl (fun _ => n_spec_l1In) hG2 fun x6 _ hG2 => ca [38, 39, 40] rfl rfl hG2 (fun hG2 => jn () [0] hG2 rfl rfl) fun hG2 => cl0 rfl (fun _ => n_spec_l1In) hG2 fun x7 _ hG2 => jn () [0] hG2 rfl rfl) fun hG2 => cl0 rfl (fun _ => n_spec_l1In) hG2 fun x8 _ hG2 => ca [38, 39, 40] rfl rfl hG2 (fun hG2 => jn () [0] hG2 rfl rfl) fun hG2 => cl0 rfl (fun _ => n_spec_l1In) hG2 fun x9 _ hG2 => jn () [0] hG2 rfl rfl) fun x5 _ hG2 => cs [45] rfl rfl hG2 (fun hG2 => rt () [] (re hG2 rfl hr2 hF2) rfl rfl Tryz.results57 rfl rfl rfl rfl) fun hG2 => nx () [0] hG2 rfl rfl) fun hG2 => bk () [] hG2 hr2 rfl rfl) fun () _ hF => rt () [] hF rfl rfl Tryz.results57 rfl rfl rfl rfl
theorem n_spec_l11All {κ : Ctx} {l : List LList} {s1 : AC} {r : (List LRow)} (h1 : RdA κ s1 l) (hF : spec_l11All l = some r) : FnS Tryz.prog 60 κ [.h s1 l.length] [] [] (fun r (y : AC) => .h y r.length) (fun r y => [ow y r]) r :=
 en 20 Tryz.call60 Tryz.func60 tok rfl rfl rfl <| lt0 (α := LRow) inf_Tryz122 rfl rfl rfl rfl fun s2 => lp s2 [0] (fun (p : (List LRow) × Int) (s4 : AC) => [(3, .h s4 p.1.length), (4, I p.2)]) [0] [] (fun p s4 => [ow s4 (p.1 : List LRow)]) id [] (fun (x5 : (List LRow)) (s5 : AC) => [(3, .h s5 x5.length)]) [] (fun x5 s5 => [ow s5 (x5 : List LRow)]) rfl hF rfl (fun o_ hF1 ⟨x3, x4⟩ s4 o1 hG1 hr1 => cs [9] rfl rfl hG1 (fun hG1 => ix cLList rfl h1 hG1 rfl rfl rfl fun x6 _ hG1 s6 h2 => ap 0 inf_Tryz122 rfl rfl rfl rfl rfl rfl rfl (fun h => (h.a h2)) rfl rfl hG1 fun hG1 s7 => nx s7 [0] hG1 rfl rfl) fun hG1 => bk s4 [0] hG1 hr1 rfl rfl) fun x5 s5 hF => rt s5 [0] hF rfl rfl Tryz.results60 rfl rfl rfl rfl
theorem n_spec_HandleOk {κ : Ctx} {h : Int}  {r : Bool}  (hF : spec_HandleOk h = some r) : Fn0 Tryz.prog 62 κ [I h] .b r :=
 en 10 Tryz.call62 Tryz.func62 tok rfl rfl rfl <| cut 0 0 (fun (x1 : Bool) => spec_HandleOk_j1 x1 = some r) [] (fun (x1 : Bool) (_ : Unit) => [(2, .b x1)]) [] (fun x1 _ => []) rfl (cl0 rfl (fun _ => n_spec_l1In) hF fun x2 _ hF => ca [4, 5] rfl rfl hF (fun hF => jn () [] hF rfl rfl) fun hF => jn () [] hF rfl rfl) fun x1 _ hF => rt () [] hF rfl rfl Tryz.results62 rfl rfl rfl rfl
theorem n_spec_HandleSlot {κ : Ctx} {h : Int}  {r : Int}  (hF : spec_HandleSlot h = some r) : Fn0 Tryz.prog 104 κ [I h] I r :=
 en 8 Tryz.call104 Tryz.func104 tok rfl rfl rfl <| cl0 rfl (fun _ => n_spec_HandleOk) hF fun x1 _ hF => cs [5] rfl rfl hF (fun hF => rt () [] hF rfl rfl Tryz.results104 rfl rfl rfl rfl) fun hF => rt () [] hF rfl rfl Tryz.results104 rfl rfl rfl rfl
theorem n_spec_LimboOk {κ : Ctx} {l : List LList} {s1 : AC} {r : Bool} (h1 : RdA κ s1 l) (hF : spec_LimboOk l = some r) : Fn0 Tryz.prog 58 κ [.h s1 l.length] .b r :=
 en 50 Tryz.call58 Tryz.func58 tok rfl rfl rfl <| cl rfl (fun _ _ => rfl) (fun h => n_spec_l11All (h.a h1)) hF fun x1 _ hF s2 => cut 0 0 (fun (x2 : Bool) => spec_LimboOk_j1 x1 x2 = some r) [3] (fun (x2 : Bool) (_ : Unit) => [(16, .b x2)]) [0] (fun x2 _ => []) rfl (ca [11, 12] rfl rfl hF (fun hF => jn () [0] hF rfl rfl) fun hF => jn () [0] hF rfl rfl) fun x2 _ hF => cs [16] rfl rfl hF (fun hF => rt () [] hF rfl rfl Tryz.results58 rfl rfl rfl rfl) fun hF => lt0 (α := Int) inf_Tryz3 rfl rfl rfl rfl fun s3 => lp s3 [3] (fun (p : (List Int) × Int) (s5 : AC) => [(4, .h s5 p.1.length), (5, I p.2)]) [1, 0] [0] (fun p s5 => [ow s5 (p.1 : List Int)]) Out.brk [] (fun (_ : Unit) (_ : Unit) => []) [] (fun _ _ => []) rfl hF rfl (fun o_ hF2 ⟨x5, x6⟩ s5 o2 hG2 hr2 => cs [21] rfl rfl hG2 (fun hG2 => oe oLRow 1 rfl rfl rfl hG2 fun x7 h2 hG2 _ h3 => ieW 0 h3 h2 rfl rfl rfl rfl rfl <| cl0 rfl (fun _ => n_spec_HandleSlot) hG2 fun x8 _ hG2 => cut 0 1 (fun (x9 : Bool) => spec_LimboOk_j3 x5 x6 x8 x9 = some o2) [3, 4, 5, 6] (fun (x9 : Bool) (_ : Unit) => [(45, .b x9)]) [0] (fun x9 _ => [ow s2 (x1 : List LRow)]) rfl (ca [31, 32] rfl rfl hG2 (fun hG2 => sF rfl <| cqR oLRow 2 [] h2 () rfl rfl rfl rfl rfl rfl rfl <| jnR () [5, 0] hG2 rfl) fun hG2 => ieW 0 h3 h2 rfl rfl rfl rfl rfl <| cl0 rfl (fun _ => n_spec_l1In) hG2 fun x10 _ hG2 => ca [39, 40, 41] rfl rfl hG2 (fun hG2 => sF rfl <| cqR oLRow 2 [] h2 () rfl rfl rfl rfl rfl rfl rfl <| jnR () [5, 0] hG2 rfl) fun hG2 => cl0 rfl (fun h => n_spec_l8Has (h.o 0 rfl)) hG2 fun x11 _ hG2 => sF rfl <| cqR oLRow 2 [] h2 () rfl rfl rfl rfl rfl rfl rfl <| jnR () [5, 0] hG2 rfl) fun x9 _ hG2 => cs [45] rfl rfl hG2 (fun hG2 => rt () [] (re hG2 rfl hr2 hF2) rfl rfl Tryz.results58 rfl rfl rfl rfl) fun hG2 => lt1 rfl inf_Tryz3 rfl rfl rfl rfl fun s6 => ap 1 inf_Tryz3 rfl rfl rfl rfl rfl rfl rfl (fun h => (h.o 2 rfl)) rfl rfl hG2 fun hG2 s7 => nx s7 [1, 0] hG2 rfl rfl) fun hG2 => bk () [] hG2 hr2 rfl rfl) fun () _ hF => rt () [] hF rfl rfl Tryz.results58 rfl rfl rfl rfl
theorem n_spec_HazOk {κ : Ctx} {z : List Int} {s1 : AC} {r : Bool} (h1 : RdA κ s1 z) (hF : spec_HazOk z = some r) : Fn0 Tryz.prog 59 κ [.h s1 z.length] .b r :=
 en 26 Tryz.call59 Tryz.func59 tok rfl rfl rfl <| lp () [0] (fun (x2 : Int) (_ : Unit) => [(3, I x2)]) [] [] (fun x2 _ => []) Out.brk [0] (fun (_ : Unit) (_ : Unit) => []) [] (fun _ _ => []) rfl hF rfl (fun o_ hF1 x2 _ o1 hG1 hr1 => cs [7] rfl rfl hG1 (fun hG1 => cut 0 0 (fun (x3 : Bool) => spec_HazOk_j2 x2 x3 = some o1) [0, 3] (fun (x3 : Bool) (_ : Unit) => [(22, .b x3)]) [] (fun x3 _ => []) rfl (ix cI rfl h1 hG1 rfl rfl rfl fun x4 _ hG1 _ _ => ca [14, 15] rfl rfl hG1 (fun hG1 => ix cI rfl h1 hG1 rfl rfl rfl fun x5 _ hG1 _ _ => cl0 rfl (fun _ => n_spec_HandleOk) hG1 fun x6 _ hG1 => jn () [] hG1 rfl rfl) fun hG1 => jn () [] hG1 rfl rfl) fun x3 _ hG1 => cs [22] rfl rfl hG1 (fun hG1 => rt () [] (re hG1 rfl hr1 hF1) rfl rfl Tryz.results59 rfl rfl rfl rfl) fun hG1 => nx () [] hG1 rfl rfl) fun hG1 => bk () [] hG1 hr1 rfl rfl) fun () _ hF => rt () [] hF rfl rfl Tryz.results59 rfl rfl rfl rfl
theorem n_spec_OnList {κ : Ctx} {l : Lists} {slot : Int} {s1 s2 : AC} {r : Bool} (h1 : RdA κ s1 l.Global) (h2 : RdA κ s2 l.Own) (hF : spec_OnList l slot = some r) : Fn0 Tryz.prog 144 κ [.g [.h s1 l.Global.length, .h s2 l.Own.length], I slot] .b r :=
 en 9 Tryz.call144 Tryz.func144 tok rfl rfl rfl <| cl rfl (fun _ _ => rfl) (fun h => n_spec_l8All (h.a h1) (h.a h2)) hF fun x1 _ hF s3 => cl0 rfl (fun h => n_spec_l8Has (h.o 1 rfl)) hF fun x2 _ hF => rt () [] hF rfl rfl Tryz.results144 rfl rfl rfl rfl
theorem n_spec_l9State {κ : Ctx} {m : Mem} {slot : Int} {s1 s2 s3 s4 : AC} {r : Int} (h1 : RdA κ s1 m.Heap.Bytes) (h2 : RdA κ s2 m.Heap.Class) (h3 : RdA κ s3 m.Lists.Global) (h4 : RdA κ s4 m.Lists.Own) (hF : spec_l9State m slot = some r) : Fn0 Tryz.prog 106 κ [.g [.h s1 m.Heap.Bytes.length, .h s2 m.Heap.Class.length, .h s3 m.Lists.Global.length, .h s4 m.Lists.Own.length], I slot] I r :=
 en 22 Tryz.call106 Tryz.func106 tok rfl rfl rfl <| cl0 rfl (fun h => n_spec_l7Class (h.a h1) (h.a h2)) hF fun x1 _ hF => cs [5, 10] rfl rfl hF (fun hF => rt () [] hF rfl rfl Tryz.results106 rfl rfl rfl rfl) fun hF => cl0 rfl (fun h => n_spec_OnList (h.a h3) (h.a h4)) hF fun x2 _ hF => cs [11, 15] rfl rfl hF (fun hF => rt () [] hF rfl rfl Tryz.results106 rfl rfl rfl rfl) fun hF => cl0 rfl (fun h => n_spec_l7Gen (h.a h1) (h.a h2)) hF fun x3 _ hF => cs [16, 21] rfl rfl hF (fun hF => rt () [] hF rfl rfl Tryz.results106 rfl rfl rfl rfl) fun hF => rt () [] hF rfl rfl Tryz.results106 rfl rfl rfl rfl
theorem n_spec_HandleGen {κ : Ctx} {h : Int}  {r : Int}  (hF : spec_HandleGen h = some r) : Fn0 Tryz.prog 108 κ [I h] I r :=
 en 8 Tryz.call108 Tryz.func108 tok rfl rfl rfl <| cl0 rfl (fun _ => n_spec_HandleOk) hF fun x1 _ hF => cs [5] rfl rfl hF (fun hF => rt () [] hF rfl rfl Tryz.results108 rfl rfl rfl rfl) fun hF => rt () [] hF rfl rfl Tryz.results108 rfl rfl rfl rfl
theorem n_spec_l9Valid {κ : Ctx} {m : Mem} {h : Int} {s1 s2 s3 s4 : AC} {r : Bool} (h1 : RdA κ s1 m.Heap.Bytes) (h2 : RdA κ s2 m.Heap.Class) (h3 : RdA κ s3 m.Lists.Global) (h4 : RdA κ s4 m.Lists.Own) (hF : spec_l9Valid m h = some r) : Fn0 Tryz.prog 61 κ [.g [.h s1 m.Heap.Bytes.length, .h s2 m.Heap.Class.length, .h s3 m.Lists.Global.length, .h s4 m.Lists.Own.length], I h] .b r :=
 en 24 Tryz.call61 Tryz.func61 tok rfl rfl rfl <| cut 0 1 (fun (x1 : Bool) => spec_l9Valid_j1 x1 = some r) [] (fun (x1 : Bool) (_ : Unit) => [(4, .b x1)]) [] (fun x1 _ => []) rfl (dr [0] rfl mixed_Tryz (by kernel_rfl) fun _ => cl0 rfl (fun _ => n_spec_HandleOk) hF fun x2 _ hF => ca [6, 7] rfl rfl hF (fun hF => cl0 rfl (fun _ => n_spec_HandleSlot) hF fun x3 _ hF => cl0 rfl (fun h => n_spec_l9State (h.a h1) (h.a h2) (h.a h3) (h.a h4)) hF fun x4 _ hF => ca [12, 13, 14] rfl rfl hF (fun hF => cl0 rfl (fun _ => n_spec_HandleSlot) hF fun x5 _ hF => cl0 rfl (fun h => n_spec_l7Gen (h.a h1) (h.a h2)) hF fun x6 _ hF => cl0 rfl (fun _ => n_spec_HandleGen) hF fun x7 _ hF => jn () [] hF rfl rfl) fun hF => jn () [] hF rfl rfl) fun hF => jn () [] hF rfl rfl) fun x1 _ hF => rt () [] hF rfl rfl Tryz.results61 rfl rfl rfl rfl
theorem n_spec_BaseOk {κ : Ctx} {b : Base} {s1 s2 s3 s4 s5 s6 s7 : AC} {r : Bool} (h1 : RdA κ s1 b.Mem.Heap.Bytes) (h2 : RdA κ s2 b.Mem.Heap.Class) (h3 : RdA κ s3 b.Mem.Lists.Global) (h4 : RdA κ s4 b.Mem.Lists.Own) (h5 : RdA κ s5 b.Clock.Pins) (h6 : RdA κ s6 b.Limbo) (h7 : RdA κ s7 b.Haz) (hF : spec_BaseOk b = some r) : Fn0 Tryz.prog 23 κ [.g [.h s1 b.Mem.Heap.Bytes.length, .h s2 b.Mem.Heap.Class.length, .h s3 b.Mem.Lists.Global.length, .h s4 b.Mem.Lists.Own.length, I b.Clock.Epoch, .h s5 b.Clock.Pins.length, .h s6 b.Limbo.length, .h s7 b.Haz.length]] .b r :=
 en 56 Tryz.call23 Tryz.func23 tok rfl rfl rfl <| cut 0 1 (fun (x1 : Bool) => spec_BaseOk_j1 b x1 = some r) [1] (fun (x1 : Bool) (_ : Unit) => [(26, .b x1)]) [0] (fun x1 _ => []) rfl (cl0 rfl (fun h => n_spec_MemOk (h.a h1) (h.a h2) (h.a h3) (h.a h4)) hF fun x8 _ hF => ca [8, 9] rfl rfl hF (fun hF => jn () [0] hF rfl rfl) fun hF => cl0 rfl (fun h => n_spec_ClockOk (h.a h5)) hF fun x9 _ hF => ca [13, 14, 15] rfl rfl hF (fun hF => jn () [0] hF rfl rfl) fun hF => cl0 rfl (fun h => n_spec_LimboOk (h.a h6)) hF fun x10 _ hF => ca [19, 20, 21] rfl rfl hF (fun hF => jn () [0] hF rfl rfl) fun hF => cl0 rfl (fun h => n_spec_HazOk (h.a h7)) hF fun x11 _ hF => jn () [0] hF rfl rfl) fun x1 _ hF => cs [26] rfl rfl hF (fun hF => rt () [] hF rfl rfl Tryz.results23 rfl rfl rfl rfl) fun hF => cl rfl (fun _ _ => rfl) (fun h => n_spec_l11All (h.a h6)) hF fun x2 _ hF s8 => lp () [1, 3] (fun (x4 : Int) (_ : Unit) => [(4, I x4)]) [1, 0] [1, 0] (fun x4 _ => []) Out.brk [] (fun (_ : Unit) (_ : Unit) => []) [] (fun _ _ => []) rfl hF rfl (fun o_ hF2 x4 _ o2 hG2 hr2 => cs [33] rfl rfl hG2 (fun hG2 => cut 0 1 (fun (x5 : Bool) => spec_BaseOk_j3 x4 x5 = some o2) [1, 3, 4] (fun (x5 : Bool) (_ : Unit) => [(55, .b x5)]) [0, 1] (fun x5 _ => []) rfl (dr [1] rfl mixed_Tryz (by kernel_rfl) fun _ => oe oLRow 0 rfl rfl rfl hG2 fun x6 h8 hG2 _ h9 => ieW 1 h9 h8 rfl rfl rfl rfl rfl <| cl0 rfl (fun h => n_spec_l9Valid (h.a h1) (h.a h2) (h.a h3) (h.a h4)) hG2 fun x7 _ hG2 => ca [44, 45] rfl rfl hG2 (fun hG2 => sF rfl <| cqR oLRow 2 [] h8 () rfl rfl rfl rfl rfl rfl rfl <| jnR () [5, 1] hG2 rfl) fun hG2 => ieW 1 h9 h8 rfl rfl rfl rfl rfl <| sF rfl <| cqR oLRow 2 [] h8 () rfl rfl rfl rfl rfl rfl rfl <| jnR () [5, 1] hG2 rfl) fun x5 _ hG2 => cs [55] rfl rfl hG2 (fun hG2 => rt () [] (re hG2 rfl hr2 hF2) rfl rfl Tryz.results23 rfl rfl rfl rfl) fun hG2 => nx () [0, 1] hG2 rfl rfl) fun hG2 => bk () [] hG2 hr2 rfl rfl) fun () _ hF => rt () [] hF rfl rfl Tryz.results23 rfl rfl rfl rfl
theorem n_spec_l15Celled {κ : Ctx} {kind : Int}  {r : Bool}  (hF : spec_l15Celled kind = some r) : Fn0 Tryz.prog 63 κ [I kind] .b r :=
 en 17 Tryz.call63 Tryz.func63 tok rfl rfl rfl <| cut 0 0 (fun (x1 : Bool) => spec_l15Celled_j1 x1 = some r) [] (fun (x1 : Bool) (_ : Unit) => [(2, .b x1)]) [] (fun x1 _ => []) rfl (ca [4, 5] rfl rfl hF (fun hF => jn () [] hF rfl rfl) fun hF => ca [7, 8, 9] rfl rfl hF (fun hF => jn () [] hF rfl rfl) fun hF => ca [11, 12, 13] rfl rfl hF (fun hF => jn () [] hF rfl rfl) fun hF => jn () [] hF rfl rfl) fun x1 _ hF => rt () [] hF rfl rfl Tryz.results63 rfl rfl rfl rfl
theorem n_spec_OpOk {κ : Ctx} {o_ : GOp}  {r : Bool}  (hF : spec_OpOk o_ = some r) : Fn0 Tryz.prog 27 κ [.g [I o_.Kind, I o_.Cell, I o_.Size, I o_.Val]] .b r :=
 en 41 Tryz.call27 Tryz.func27 tok rfl rfl rfl <| cl0 rfl (fun _ => n_spec_l1In) hF fun x1 _ hF => cs [6] rfl rfl hF (fun hF => rt () [] hF rfl rfl Tryz.results27 rfl rfl rfl rfl) fun hF => cut 0 1 (fun (x2 : Bool) => spec_OpOk_j1 o_ x2 = some r) [1] (fun (x2 : Bool) (_ : Unit) => [(21, .b x2)]) [0] (fun x2 _ => []) rfl (cl0 rfl (fun _ => n_spec_l15Celled) hF fun x7 _ hF => ca [10, 11] rfl rfl hF (fun hF => ca [14, 15, 16] rfl rfl hF (fun hF => jn () [0] hF rfl rfl) fun hF => cl0 rfl (fun _ => n_spec_l1In) hF fun x8 _ hF => jn () [0] hF rfl rfl) fun hF => cl0 rfl (fun _ => n_spec_l1In) hF fun x9 _ hF => jn () [0] hF rfl rfl) fun x2 _ hF => cs [21] rfl rfl hF (fun hF => rt () [] hF rfl rfl Tryz.results27 rfl rfl rfl rfl) fun hF => cs [24] rfl rfl hF (fun hF => cut 0 1 (fun (x3 : Bool) => spec_OpOk_j2 x3 = some r) [] (fun (x3 : Bool) (_ : Unit) => [(2, .b x3)]) [] (fun x3 _ => []) rfl (ca [27, 28] rfl rfl hF (fun hF => jn () [] hF rfl rfl) fun hF => jn () [] hF rfl rfl) fun x3 _ hF => rt () [] hF rfl rfl Tryz.results27 rfl rfl rfl rfl) fun hF => cut 0 1 (fun (x4 : Bool) => spec_OpOk_j3 x4 = some r) [] (fun (x4 : Bool) (_ : Unit) => [(2, .b x4)]) [] (fun x4 _ => []) rfl (cl0 rfl (fun _ => n_spec_l1In) hF fun x5 _ hF => ca [35, 36] rfl rfl hF (fun hF => cl0 rfl (fun _ => n_spec_l1In) hF fun x6 _ hF => jn () [] hF rfl rfl) fun hF => jn () [] hF rfl rfl) fun x4 _ hF => rt () [] hF rfl rfl Tryz.results27 rfl rfl rfl rfl
theorem n_spec_l15Todo {κ : Ctx} {todo : List Queue} {s1 : AC} {r : Bool} (h1 : RdA κ s1 todo) (hF : spec_l15Todo todo = some r) : Fn0 Tryz.prog 24 κ [.h s1 todo.length] .b r :=
 en 41 Tryz.call24 Tryz.func24 tok rfl rfl rfl <| lp () [0] (fun (x2 : Int) (_ : Unit) => [(3, I x2)]) [] [] (fun x2 _ => []) Out.brk [0] (fun (_ : Unit) (_ : Unit) => []) [] (fun _ _ => []) rfl hF rfl (fun o_ hF1 x2 _ o1 hG1 hr1 => cs [8] rfl rfl hG1 (fun hG1 => ix cQueue rfl h1 hG1 rfl rfl rfl fun x3 _ hG1 s2 h2 => cs [17] rfl rfl hG1 (fun hG1 => rt () [] (re hG1 rfl hr1 hF1) rfl rfl Tryz.results24 rfl rfl rfl rfl) fun hG1 => lp () [0, 3] (fun (x5 : Int) (_ : Unit) => [(4, I x5)]) [] [] (fun x5 _ => []) Out.brk [0, 3] (fun (_ : Unit) (_ : Unit) => []) [] (fun _ _ => []) rfl hG1 rfl (fun o_ hF2 x5 _ o2 hG2 hr2 => ix cQueue rfl h1 hG2 rfl rfl rfl fun x6 _ hG2 s3 h3 => cs [25] rfl rfl hG2 (fun hG2 => ix cQueue rfl h1 hG2 rfl rfl rfl fun x7 _ hG2 s4 h4 => ix cGOp rfl h4 hG2 rfl rfl rfl fun x8 _ hG2 _ _ => cl0 rfl (fun _ => n_spec_OpOk) hG2 fun x9 _ hG2 => cs [37] rfl rfl hG2 (fun hG2 => rt () [] (re (re hG2 rfl hr2 hF2) rfl hr1 hF1) rfl rfl Tryz.results24 rfl rfl rfl rfl) fun hG2 => nx () [] hG2 rfl rfl) fun hG2 => bk () [] hG2 hr2 rfl rfl) fun () _ hG1 => nx () [] hG1 rfl rfl) fun hG1 => bk () [] hG1 hr1 rfl rfl) fun () _ hF => rt () [] hF rfl rfl Tryz.results24 rfl rfl rfl rfl
theorem n_spec_l15Some {κ : Ctx} {h : Int}  {r : Bool}  (hF : spec_l15Some h = some r) : Fn0 Tryz.prog 26 κ [I h] .b r :=
 en 9 Tryz.call26 Tryz.func26 tok rfl rfl rfl <| cut 0 0 (fun (x1 : Bool) => spec_l15Some_j1 x1 = some r) [] (fun (x1 : Bool) (_ : Unit) => [(2, .b x1)]) [] (fun x1 _ => []) rfl (ca [4, 5] rfl rfl hF (fun hF => jn () [] hF rfl rfl) fun hF => cl0 rfl (fun _ => n_spec_HandleOk) hF fun x2 _ hF => jn () [] hF rfl rfl) fun x1 _ hF => rt () [] hF rfl rfl Tryz.results26 rfl rfl rfl rfl
theorem n_spec_ShelfOk {κ : Ctx} {s : Shelf} {s1 s2 s3 s4 s5 s6 s7 s8 s9 s10 s11 : AC} {r : Bool} (h1 : RdA κ s1 s.Base.Mem.Heap.Bytes) (h2 : RdA κ s2 s.Base.Mem.Heap.Class) (h3 : RdA κ s3 s.Base.Mem.Lists.Global) (h4 : RdA κ s4 s.Base.Mem.Lists.Own) (h5 : RdA κ s5 s.Base.Clock.Pins) (h6 : RdA κ s6 s.Base.Limbo) (h7 : RdA κ s7 s.Base.Haz) (h8 : RdA κ s8 s.Cells) (h9 : RdA κ s9 s.Jobs) (h10 : RdA κ s10 s.Todo) (h11 : RdA κ s11 s.Log) (hF : spec_ShelfOk s = some r) : Fn0 Tryz.prog 10 κ [.g [.h s1 s.Base.Mem.Heap.Bytes.length, .h s2 s.Base.Mem.Heap.Class.length, .h s3 s.Base.Mem.Lists.Global.length, .h s4 s.Base.Mem.Lists.Own.length, I s.Base.Clock.Epoch, .h s5 s.Base.Clock.Pins.length, .h s6 s.Base.Limbo.length, .h s7 s.Base.Haz.length, .h s8 s.Cells.length, .h s9 s.Jobs.length, .h s10 s.Todo.length, .h s11 s.Log.length, I s.Serial]] .b r :=
 en 84 Tryz.call10 Tryz.func10 tok rfl rfl rfl <| cut 0 1 (fun (x1 : Bool) => spec_ShelfOk_j1 s x1 = some r) [1] (fun (x1 : Bool) (_ : Unit) => [(33, .b x1)]) [0] (fun x1 _ => []) rfl (cl0 rfl (fun h => n_spec_BaseOk (h.a h1) (h.a h2) (h.a h3) (h.a h4) (h.a h5) (h.a h6) (h.a h7)) hF fun x20 _ hF => ca [9, 10] rfl rfl hF (fun hF => jn () [0] hF rfl rfl) fun hF => ca [14, 15, 16] rfl rfl hF (fun hF => jn () [0] hF rfl rfl) fun hF => ca [20, 21, 22] rfl rfl hF (fun hF => jn () [0] hF rfl rfl) fun hF => cl0 rfl (fun h => n_spec_l15Todo (h.a h10)) hF fun x21 _ hF => ca [26, 27, 28] rfl rfl hF (fun hF => jn () [0] hF rfl rfl) fun hF => cl0 rfl (fun _ => n_spec_l1In) hF fun x22 _ hF => jn () [0] hF rfl rfl) fun x1 _ hF => cs [33] rfl rfl hF (fun hF => rt () [] hF rfl rfl Tryz.results10 rfl rfl rfl rfl) fun hF => lp () [1] (fun (x3 : Int) (_ : Unit) => [(3, I x3)]) [0] [0] (fun x3 _ => []) Out.brk [1] (fun (_ : Unit) (_ : Unit) => []) [0] (fun _ _ => []) rfl hF rfl (fun o_ hF2 x3 _ o2 hG2 hr2 => cs [35] rfl rfl hG2 (fun hG2 => ix cI rfl h8 hG2 rfl rfl rfl fun x18 _ hG2 _ _ => cl0 rfl (fun _ => n_spec_l15Some) hG2 fun x19 _ hG2 => cs [44] rfl rfl hG2 (fun hG2 => rt () [] (re hG2 rfl hr2 hF2) rfl rfl Tryz.results10 rfl rfl rfl rfl) fun hG2 => nx () [0] hG2 rfl rfl) fun hG2 => bk () [0] hG2 hr2 rfl rfl) fun () _ hF => lp () [1] (fun (x5 : Int) (_ : Unit) => [(4, I x5)]) [0] [0] (fun x5 _ => []) Out.brk [] (fun (_ : Unit) (_ : Unit) => []) [] (fun _ _ => []) rfl hF rfl (fun o_ hF3 x5 _ o3 hG3 hr3 => cs [46] rfl rfl hG3 (fun hG3 => ix cJob rfl h9 hG3 rfl rfl rfl fun x6 _ hG3 _ _ => cut 0 3 (fun (x7 : Bool) => spec_ShelfOk_j4 x5 x7 = some o3) [1, 4] (fun (x7 : Bool) (_ : Unit) => [(83, .b x7)]) [0] (fun x7 _ => []) rfl (ca [56, 57] rfl rfl hG3 (fun hG3 => neS Tryz.eqGuardType73 Tryz.stoodInHeld73 Tryz.underlying73 (eqf_Tryz73 9996 x6 ((⟨false, (⟨0, 0, 0, 0⟩ : GOp), 0, 0, (⟨0, 0, 0, 0, 0, 0, 0, 0, 0, false⟩ : Sub), 0, 0, 0, 0⟩ : Job))) rfl rfl rfl rfl rfl rfl <| ca [60, 61, 62] rfl rfl hG3 (fun hG3 => jn () [0] hG3 rfl rfl) fun hG3 => ca [55, 64, 65] rfl rfl hG3 (fun hG3 => cl0 rfl (fun _ => n_spec_OpOk) hG3 fun x8 _ hG3 => ca [69, 70, 71, 72] rfl rfl hG3 (fun hG3 => jn () [0] hG3 rfl rfl) fun hG3 => cl0 rfl (fun _ => n_spec_l15Some) hG3 fun x9 _ hG3 => ca [76, 77, 78] rfl rfl hG3 (fun hG3 => jn () [0] hG3 rfl rfl) fun hG3 => cl0 rfl (fun _ => n_spec_l15Some) hG3 fun x10 _ hG3 => jn () [0] hG3 rfl rfl) fun hG3 => cl0 rfl (fun _ => n_spec_l15Some) hG3 fun x11 _ hG3 => ca [76, 77, 78] rfl rfl hG3 (fun hG3 => jn () [0] hG3 rfl rfl) fun hG3 => cl0 rfl (fun _ => n_spec_l15Some) hG3 fun x12 _ hG3 => jn () [0] hG3 rfl rfl) fun hG3 => ca [55, 64, 65] rfl rfl hG3 (fun hG3 => cl0 rfl (fun _ => n_spec_OpOk) hG3 fun x13 _ hG3 => ca [69, 70, 71, 72] rfl rfl hG3 (fun hG3 => jn () [0] hG3 rfl rfl) fun hG3 => cl0 rfl (fun _ => n_spec_l15Some) hG3 fun x14 _ hG3 => ca [76, 77, 78] rfl rfl hG3 (fun hG3 => jn () [0] hG3 rfl rfl) fun hG3 => cl0 rfl (fun _ => n_spec_l15Some) hG3 fun x15 _ hG3 => jn () [0] hG3 rfl rfl) fun hG3 => cl0 rfl (fun _ => n_spec_l15Some) hG3 fun x16 _ hG3 => ca [76, 77, 78] rfl rfl hG3 (fun hG3 => jn () [0] hG3 rfl rfl) fun hG3 => cl0 rfl (fun _ => n_spec_l15Some) hG3 fun x17 _ hG3 => jn () [0] hG3 rfl rfl) fun x7 _ hG3 => cs [83] rfl rfl hG3 (fun hG3 => rt () [] (re hG3 rfl hr3 hF3) rfl rfl Tryz.results10 rfl rfl rfl rfl) fun hG3 => nx () [0] hG3 rfl rfl) fun hG3 => bk () [] hG3 hr3 rfl rfl) fun () _ hF => rt () [] hF rfl rfl Tryz.results10 rfl rfl rfl rfl
theorem n_spec_ClassOf {κ : Ctx} {size : Int}  {r : Int}  (hF : spec_ClassOf size = some r) : Fn0 Tryz.prog 11 κ [I size] I r :=
 en 13 Tryz.call11 Tryz.func11 tok rfl rfl rfl <| lp () [0] (fun (x2 : Int) (_ : Unit) => [(3, I x2)]) [] [] (fun x2 _ => []) Out.brk [] (fun (_ : Unit) (_ : Unit) => []) [] (fun _ _ => []) rfl hF rfl (fun o_ hF1 x2 _ o1 hG1 hr1 => cs [5] rfl rfl hG1 (fun hG1 => cl0 rfl (fun _ => n_spec_SizeOf) hG1 fun x3 _ hG1 => cl0 rfl (fun _ => n_spec_l1In) hG1 fun x4 _ hG1 => cs [11] rfl rfl hG1 (fun hG1 => rt () [] (re hG1 rfl hr1 hF1) rfl rfl Tryz.results11 rfl rfl rfl rfl) fun hG1 => nx () [] hG1 rfl rfl) fun hG1 => bk () [] hG1 hr1 rfl rfl) fun () _ hF => rt () [] hF rfl rfl Tryz.results11 rfl rfl rfl rfl
theorem n_spec_Ungranted {κ : Ctx} {h : Heap} {s1 s2 : AC} {r : Int} (h1 : RdA κ s1 h.Bytes) (h2 : RdA κ s2 h.Class) (hF : spec_Ungranted h = some r) : Fn0 Tryz.prog 30 κ [.g [.h s1 h.Bytes.length, .h s2 h.Class.length]] I r :=
 en 21 Tryz.call30 Tryz.func30 tok rfl rfl rfl <| lp () [1] (fun (p : Int × Int) (_ : Unit) => [(3, I p.1), (4, I p.2)]) [0] [0] (fun p _ => []) id [] (fun (x5 : Int) (_ : Unit) => [(3, I x5)]) [] (fun x5 _ => []) rfl hF rfl (fun o_ hF1 ⟨x3, x4⟩ _ o1 hG1 hr1 => cs [9] rfl rfl hG1 (fun hG1 => cut 2 1 (fun (x6 : Int) => spec_Ungranted_j2 x4 x6 = some o1) [1, 4] (fun (x6 : Int) (_ : Unit) => [(3, I x6)]) [0] (fun x6 _ => []) rfl (ix cI rfl h2 hG1 rfl rfl rfl fun x7 _ hG1 _ _ => cs [17] rfl rfl hG1 (fun hG1 => jn () [0] hG1 rfl rfl) fun hG1 => jn () [0] hG1 rfl rfl) fun x6 _ hG1 => nx () [0] hG1 rfl rfl) fun hG1 => bk () [] hG1 hr1 rfl rfl) fun x5 _ hF => rt () [] hF rfl rfl Tryz.results30 rfl rfl rfl rfl
theorem n_spec_l31Bare {κ : Ctx} {s : Shelf} {w_ : Int} {c : Int} {s1 s2 s3 s4 s5 s6 s7 s8 s9 s10 s11 : AC} {r : Bool} (h1 : RdA κ s1 s.Base.Mem.Heap.Bytes) (h2 : RdA κ s2 s.Base.Mem.Heap.Class) (h3 : RdA κ s3 s.Base.Mem.Lists.Global) (h4 : RdA κ s4 s.Base.Mem.Lists.Own) (h5 : RdA κ s5 s.Base.Clock.Pins) (h6 : RdA κ s6 s.Base.Limbo) (h7 : RdA κ s7 s.Base.Haz) (h8 : RdA κ s8 s.Cells) (h9 : RdA κ s9 s.Jobs) (h10 : RdA κ s10 s.Todo) (h11 : RdA κ s11 s.Log) (hF : spec_l31Bare s w_ c = some r) : Fn0 Tryz.prog 12 κ [.g [.h s1 s.Base.Mem.Heap.Bytes.length, .h s2 s.Base.Mem.Heap.Class.length, .h s3 s.Base.Mem.Lists.Global.length, .h s4 s.Base.Mem.Lists.Own.length, I s.Base.Clock.Epoch, .h s5 s.Base.Clock.Pins.length, .h s6 s.Base.Limbo.length, .h s7 s.Base.Haz.length, .h s8 s.Cells.length, .h s9 s.Jobs.length, .h s10 s.Todo.length, .h s11 s.Log.length, I s.Serial], I w_, I c] .b r :=
 en 41 Tryz.call12 Tryz.func12 tok rfl rfl rfl <| cut 0 1 (fun (x1 : Bool) => spec_l31Bare_j1 x1 = some r) [] (fun (x1 : Bool) (_ : Unit) => [(6, .b x1)]) [] (fun x1 _ => []) rfl (dr [0] rfl mixed_Tryz (by kernel_rfl) fun _ => ix cSList rfl h3 hF rfl rfl rfl fun x2 _ hF s12 h12 => ca [17, 18] rfl rfl hF (fun hF => cl0 rfl (fun _ => n_spec_OwnAt) hF fun x3 _ hF => ix cSList rfl h4 hF rfl rfl rfl fun x4 _ hF s13 h13 => ca [31, 32, 33] rfl rfl hF (fun hF => cl0 rfl (fun h => n_spec_Ungranted (h.a h1) (h.a h2)) hF fun x5 _ hF => jn () [] hF rfl rfl) fun hF => jn () [] hF rfl rfl) fun hF => jn () [] hF rfl rfl) fun x1 _ hF => rt () [] hF rfl rfl Tryz.results12 rfl rfl rfl rfl
theorem n_spec_Fair {κ : Ctx} {l : List Shelf} {s1 : AC} {r : Bool} (h1 : RdA κ s1 l) (hF : spec_Fair l = some r) : Fn0 Tryz.prog 5 κ [.h s1 l.length] .b r :=
 en 101 Tryz.call5 Tryz.func5 tok rfl rfl rfl <| mks (false : Bool) inf_Tryz4 (fun w => own0 rfl w) rfl rfl rfl rfl rfl rfl rfl hF fun hF s2 => lp s2 [0] (fun (p : (List Bool) × Int) (s4 : AC) => [(3, .h s4 p.1.length), (4, I p.2)]) [0] [] (fun p s4 => [ow s4 (p.1 : List Bool)]) Out.brk [] (fun (_ : Unit) (_ : Unit) => []) [] (fun _ _ => []) rfl hF rfl (fun o_ hF1 ⟨x3, x4⟩ s4 o1 hG1 hr1 => cs [12] rfl rfl hG1 (fun hG1 => ix cShelf rfl h1 hG1 rfl rfl rfl fun x5 _ hG1 s5 h2 => cl0 rfl (fun h => n_spec_ShelfOk (h.a h2.1) (h.a h2.2.1) (h.a h2.2.2.1) (h.a h2.2.2.2.1) (h.a h2.2.2.2.2.1) (h.a h2.2.2.2.2.2.1) (h.a h2.2.2.2.2.2.2.1) (h.a h2.2.2.2.2.2.2.2.1) (h.a h2.2.2.2.2.2.2.2.2.1) (h.a h2.2.2.2.2.2.2.2.2.2.1) (h.a h2.2.2.2.2.2.2.2.2.2.2)) hG1 fun x6 _ hG1 => cs [20] rfl rfl hG1 (fun hG1 => rt () [] (re hG1 rfl hr1 hF1) rfl rfl Tryz.results5 rfl rfl rfl rfl) fun hG1 => lp s4 [0, 4] (fun (p : (List Bool) × Int) (s7 : AC) => [(3, .h s7 p.1.length), (5, I p.2)]) [0] [] (fun p s7 => [ow s7 (p.1 : List Bool)]) Out.brk [0, 4] (fun (x11 : (List Bool)) (s8 : AC) => [(3, .h s8 x11.length)]) [] (fun x11 s8 => [ow s8 (x11 : List Bool)]) rfl hG1 rfl (fun o_ hF2 ⟨x9, x10⟩ s7 o2 hG2 hr2 => cs [22] rfl rfl hG2 (fun hG2 => cut 2 1 (fun (x12 : (List Bool)) => spec_Fair_j3 x10 x12 = some o2) [0, 4, 5] (fun (x12 : (List Bool)) (_ : Unit) => [(3, .h s7 x12.length)]) [] (fun x12 _ => [ow s7 (x12 : List Bool)]) rfl (ix cShelf rfl h1 hG2 rfl rfl rfl fun x13 _ hG2 s9 h3 => ix cJob rfl h3.2.2.2.2.2.2.2.2.1 hG2 rfl rfl rfl fun x14 _ hG2 _ _ => cl0 rfl (fun _ => n_spec_ClassOf) hG2 fun x15 _ hG2 => cut 1 4 (fun (x16 : (List Bool)) => spec_Fair_j4 l x4 x10 x14 x15 x16 = some o2) [0, 4, 5, 6, 7] (fun (x16 : (List Bool)) (_ : Unit) => [(3, .h s7 x16.length)]) [3] (fun x16 _ => [ow s7 (x16 : List Bool)]) rfl (cut 0 4 (fun (x24 : Bool) => spec_Fair_j8 l x4 x9 x10 x14 x15 x24 = some o2) [0, 3, 4, 5, 6, 7] (fun (x24 : Bool) (_ : Unit) => [(58, .b x24)]) [0, 3] (fun x24 _ => []) rfl (dr [1, 2, 3] rfl mixed_Tryz (by kernel_rfl) fun _ => ca [38, 39] rfl rfl hG2 (fun hG2 => jn () [0, 3] hG2 rfl rfl) fun hG2 => ca [42, 43, 44] rfl rfl hG2 (fun hG2 => jn () [0, 3] hG2 rfl rfl) fun hG2 => ix cShelf rfl h1 hG2 rfl rfl rfl fun x26 _ hG2 s11 h11 => ix cJob rfl h11.2.2.2.2.2.2.2.2.1 hG2 rfl rfl rfl fun x27 _ hG2 _ _ => jn () [0, 3] hG2 rfl rfl) fun x24 _ hG2 => cs [58] rfl rfl hG2 (fun hG2 => oe oB 0 rfl rfl rfl hG2 fun x25 h9 hG2 _ h10 => ieW 4 h10 h9 rfl rfl rfl rfl rfl <| sF rfl <| ceR oB 2 [] [3, 59] false () rfl rfl rfl rfl rfl rfl rfl rfl <| jnR () [5, 1] hG2 rfl) fun hG2 => jn () [0, 1] hG2 rfl rfl) fun x16 _ hG2 => cut 0 4 (fun (x17 : Bool) => spec_Fair_j5 l x4 x10 x14 x15 x16 x17 = some o2) [0, 3, 4, 5, 6, 7] (fun (x17 : Bool) (_ : Unit) => [(74, .b x17)]) [0, 1] (fun x17 _ => []) rfl (ca [64, 65] rfl rfl hG2 (fun hG2 => jn () [0, 1] hG2 rfl rfl) fun hG2 => ca [69, 70, 71] rfl rfl hG2 (fun hG2 => jn () [0, 1] hG2 rfl rfl) fun hG2 => jn () [0, 1] hG2 rfl rfl) fun x17 _ hG2 => cs [74] rfl rfl hG2 (fun hG2 => jn () [0] hG2 rfl rfl) fun hG2 => cut 0 4 (fun (x18 : (List Bool)) => spec_Fair_j6 x10 x14 x18 = some o2) [0, 4, 5, 6] (fun (x18 : (List Bool)) (_ : Unit) => [(3, .h s7 x18.length)]) [1] (fun x18 _ => [ow s7 (x18 : List Bool)]) rfl (oe oB 0 rfl rfl rfl hG2 fun x21 h6 hG2 _ h7 => ieW 4 h7 h6 rfl rfl rfl rfl rfl <| ca [80, 81] rfl rfl hG2 (fun hG2 => ieW 4 h7 h6 rfl rfl rfl rfl rfl <| sF rfl <| ceR oB 2 [] [3, 75, 77] true () rfl rfl rfl rfl rfl rfl rfl rfl <| jnR () [5, 1] hG2 rfl) fun hG2 => ix cShelf rfl h1 hG2 rfl rfl rfl fun x22 _ hG2 s10 h8 => cl0 rfl (fun h => n_spec_l31Bare (h.a h8.1) (h.a h8.2.1) (h.a h8.2.2.1) (h.a h8.2.2.2.1) (h.a h8.2.2.2.2.1) (h.a h8.2.2.2.2.2.1) (h.a h8.2.2.2.2.2.2.1) (h.a h8.2.2.2.2.2.2.2.1) (h.a h8.2.2.2.2.2.2.2.2.1) (h.a h8.2.2.2.2.2.2.2.2.2.1) (h.a h8.2.2.2.2.2.2.2.2.2.2)) hG2 fun x23 _ hG2 => ieW 4 h7 h6 rfl rfl rfl rfl rfl <| sF rfl <| ceR oB 2 [] [3, 75, 77] x23 () rfl rfl rfl rfl rfl rfl rfl rfl <| jnR () [6, 1] hG2 rfl) fun x18 _ hG2 => cut 0 4 (fun (x19 : Bool) => spec_Fair_j7 x10 x18 x19 = some o2) [0, 3, 4, 5] (fun (x19 : Bool) (_ : Unit) => [(100, .b x19)]) [0] (fun x19 _ => []) rfl (ca [93, 94] rfl rfl hG2 (fun hG2 => oe oB 0 rfl rfl rfl hG2 fun x20 h4 hG2 _ h5 => ieW 4 h5 h4 rfl rfl rfl rfl rfl <| sF rfl <| cqR oB 2 [] h4 () rfl rfl rfl rfl rfl rfl rfl <| jnR () [5] hG2 rfl) fun hG2 => jn () [0] hG2 rfl rfl) fun x19 _ hG2 => cs [100] rfl rfl hG2 (fun hG2 => rt () [] (re (re hG2 rfl hr2 hF2) rfl hr1 hF1) rfl rfl Tryz.results5 rfl rfl rfl rfl) fun hG2 => jn () [0] hG2 rfl rfl) fun x12 _ hG2 => nx s7 [0] hG2 rfl rfl) fun hG2 => bk s7 [0] hG2 hr2 rfl rfl) fun x11 s8 hG1 => nx s8 [0] hG1 rfl rfl) fun hG1 => bk () [] hG1 hr1 rfl rfl) fun () _ hF => rt () [] hF rfl rfl Tryz.results5 rfl rfl rfl rfl
theorem n_laws_toIntS {κ : Ctx} {a_ : List Int} {s1 : AC} {r : (List Int)} (h1 : RdA κ s1 a_) (hF : laws_toIntS a_ = some r) : FnS Tryz.prog 32 κ [.h s1 a_.length] [] [] (fun r (y : AC) => .h y r.length) (fun r y => [ow y r]) r :=
 en 22 Tryz.call32 Tryz.func32 tok rfl rfl rfl <| mks (0 : Int) inf_Tryz3 (fun w => own0 rfl w) rfl rfl rfl rfl rfl rfl rfl hF fun hF s2 => lp s2 [0] (fun (p : (List Int) × Int) (s4 : AC) => [(3, .h s4 p.1.length), (4, I p.2)]) [0] [] (fun p s4 => [ow s4 (p.1 : List Int)]) id [] (fun (x5 : (List Int)) (s5 : AC) => [(3, .h s5 x5.length)]) [] (fun x5 s5 => [ow s5 (x5 : List Int)]) rfl hF rfl (fun o_ hF1 ⟨x3, x4⟩ s4 o1 hG1 hr1 => cs [11] rfl rfl hG1 (fun hG1 => ix cI rfl h1 hG1 rfl rfl rfl fun x6 _ hG1 _ _ => oe oI 0 rfl rfl rfl hG1 fun x7 h2 hG1 _ h3 => ieW 1 h3 h2 rfl rfl rfl rfl rfl <| sF rfl <| ceR oI 2 [] [3, 14] x6 () rfl rfl rfl rfl rfl rfl rfl rfl <| nxR s4 [5] hG1 rfl) fun hG1 => bk s4 [0] hG1 hr1 rfl rfl) fun x5 s5 hF => rt s5 [0] hF rfl rfl Tryz.results32 rfl rfl rfl rfl
theorem n_laws_toHeap {κ : Ctx} {a_ : Heap} {s1 s2 : AC} {r : Heap} (h1 : RdA κ s1 a_.Bytes) (h2 : RdA κ s2 a_.Class) (hF : laws_toHeap a_ = some r) : FnS Tryz.prog 109 κ [.g [.h s1 a_.Bytes.length, .h s2 a_.Class.length]] [] [] (fun r (y : AC × AC) => .g [.h y.1 r.Bytes.length, .h y.2 r.Class.length]) (fun r y => [ow y.1 r.Bytes, ow y.2 r.Class]) r :=
 en 13 Tryz.call109 Tryz.func109 tok rfl rfl rfl <| cl rfl (fun _ _ => rfl) (fun h => n_laws_toIntS (h.a h1)) hF fun x1 _ hF s3 => cl rfl (fun _ _ => rfl) (fun h => n_laws_toIntS (h.a h2)) hF fun x2 _ hF s4 => rt (s3, s4) [3, 4] hF rfl rfl Tryz.results109 rfl rfl rfl rfl
theorem n_laws_toSList {κ : Ctx} {a_ : SList} {s1 : AC} {r : SList} (h1 : RdA κ s1 a_.Slots) (hF : laws_toSList a_ = some r) : FnS Tryz.prog 170 κ [.g [.h s1 a_.Slots.length]] [] [] (fun r (y : AC) => .g [.h y r.Slots.length]) (fun r y => [ow y r.Slots]) r :=
 en 9 Tryz.call170 Tryz.func170 tok rfl rfl rfl <| cl rfl (fun _ _ => rfl) (fun h => n_laws_toIntS (h.a h1)) hF fun x1 _ hF s2 => rt s2 [3] hF rfl rfl Tryz.results170 rfl rfl rfl rfl
theorem n_laws_toSListS {κ : Ctx} {a_ : List SList} {s1 : AC} {r : (List SList)} (h1 : RdA κ s1 a_) (hF : laws_toSListS a_ = some r) : FnS Tryz.prog 147 κ [.h s1 a_.length] [] [] (fun r (y : AC) => .h y r.length) (fun r y => [ow y r]) r :=
 en 23 Tryz.call147 Tryz.func147 tok rfl rfl rfl <| mks ((⟨[]⟩ : SList) : SList) inf_Tryz91 (fun _ => (op_zero (op_SList ((⟨[]⟩ : SList))) (zcons znil))) rfl rfl rfl rfl rfl rfl rfl hF fun hF s2 => lp s2 [0] (fun (p : (List SList) × Int) (s4 : AC) => [(3, .h s4 p.1.length), (4, I p.2)]) [0] [] (fun p s4 => [ow s4 (p.1 : List SList)]) id [] (fun (x5 : (List SList)) (s5 : AC) => [(3, .h s5 x5.length)]) [] (fun x5 s5 => [ow s5 (x5 : List SList)]) rfl hF rfl (fun o_ hF1 ⟨x3, x4⟩ s4 o1 hG1 hr1 => cs [11] rfl rfl hG1 (fun hG1 => ix cSList rfl h1 hG1 rfl rfl rfl fun x6 _ hG1 s6 h2 => cl rfl (fun _ _ => rfl) (fun h => n_laws_toSList (h.a h2)) hG1 fun x7 _ hG1 s7 => oe oSList 0 rfl rfl rfl hG1 fun x8 h3 hG1 s8 h4 => ieW 1 h4 h3 rfl rfl rfl rfl rfl <| sF rfl <| ceR oSList 3 [2] [3, 14] x7 s7 rfl rfl rfl rfl rfl rfl rfl rfl <| nxR s4 [7] hG1 rfl) fun hG1 => bk s4 [0] hG1 hr1 rfl rfl) fun x5 s5 hF => rt s5 [0] hF rfl rfl Tryz.results147 rfl rfl rfl rfl
theorem n_laws_toLists {κ : Ctx} {a_ : Lists} {s1 s2 : AC} {r : Lists} (h1 : RdA κ s1 a_.Global) (h2 : RdA κ s2 a_.Own) (hF : laws_toLists a_ = some r) : FnS Tryz.prog 110 κ [.g [.h s1 a_.Global.length, .h s2 a_.Own.length]] [] [] (fun r (y : AC × AC) => .g [.h y.1 r.Global.length, .h y.2 r.Own.length]) (fun r y => [ow y.1 r.Global, ow y.2 r.Own]) r :=
 en 13 Tryz.call110 Tryz.func110 tok rfl rfl rfl <| cl rfl (fun _ _ => rfl) (fun h => n_laws_toSListS (h.a h1)) hF fun x1 _ hF s3 => cl rfl (fun _ _ => rfl) (fun h => n_laws_toSListS (h.a h2)) hF fun x2 _ hF s4 => rt (s3, s4) [3, 4] hF rfl rfl Tryz.results110 rfl rfl rfl rfl
theorem n_laws_toMem {κ : Ctx} {a_ : Mem} {s1 s2 s3 s4 : AC} {r : Mem} (h1 : RdA κ s1 a_.Heap.Bytes) (h2 : RdA κ s2 a_.Heap.Class) (h3 : RdA κ s3 a_.Lists.Global) (h4 : RdA κ s4 a_.Lists.Own) (hF : laws_toMem a_ = some r) : FnS Tryz.prog 64 κ [.g [.h s1 a_.Heap.Bytes.length, .h s2 a_.Heap.Class.length, .h s3 a_.Lists.Global.length, .h s4 a_.Lists.Own.length]] [] [] (fun r (y : AC × AC × AC × AC) => .g [.h y.1 r.Heap.Bytes.length, .h y.2.1 r.Heap.Class.length, .h y.2.2.1 r.Lists.Global.length, .h y.2.2.2 r.Lists.Own.length]) (fun r y => [ow y.1 r.Heap.Bytes, ow y.2.1 r.Heap.Class, ow y.2.2.1 r.Lists.Global, ow y.2.2.2 r.Lists.Own]) r :=
 en 13 Tryz.call64 Tryz.func64 tok rfl rfl rfl <| cl rfl (fun _ _ => rfl) (fun h => n_laws_toHeap (h.a h1) (h.a h2)) hF fun x1 _ hF s5 => cl rfl (fun _ _ => rfl) (fun h => n_laws_toLists (h.a h3) (h.a h4)) hF fun x2 _ hF s6 => rt (s5.1, s5.2, s6.1, s6.2) [3, 4, 5, 6] hF rfl rfl Tryz.results64 rfl rfl rfl rfl
theorem n_laws_toPin {κ : Ctx} {a_ : Pin}  {r : Pin}  (hF : laws_toPin a_ = some r) : Fn0 Tryz.prog 148 κ [.g [.b a_.On, I a_.Epoch, .b a_.Marked, I a_.Seen]] (fun r => .g [.b r.On, I r.Epoch, .b r.Marked, I r.Seen]) r :=
 en 17 Tryz.call148 Tryz.func148 tok rfl rfl rfl <| rt () [] hF rfl rfl Tryz.results148 rfl rfl rfl rfl
theorem n_laws_toPinS {κ : Ctx} {a_ : List Pin} {s1 : AC} {r : (List Pin)} (h1 : RdA κ s1 a_) (hF : laws_toPinS a_ = some r) : FnS Tryz.prog 111 κ [.h s1 a_.length] [] [] (fun r (y : AC) => .h y r.length) (fun r y => [ow y r]) r :=
 en 23 Tryz.call111 Tryz.func111 tok rfl rfl rfl <| mks ((⟨false, 0, false, 0⟩ : Pin) : Pin) inf_Tryz168 (fun w => own0 (mk_Pin ((⟨false, 0, false, 0⟩ : Pin))) w) rfl rfl rfl rfl rfl rfl rfl hF fun hF s2 => lp s2 [0] (fun (p : (List Pin) × Int) (s4 : AC) => [(3, .h s4 p.1.length), (4, I p.2)]) [0] [] (fun p s4 => [ow s4 (p.1 : List Pin)]) id [] (fun (x5 : (List Pin)) (s5 : AC) => [(3, .h s5 x5.length)]) [] (fun x5 s5 => [ow s5 (x5 : List Pin)]) rfl hF rfl (fun o_ hF1 ⟨x3, x4⟩ s4 o1 hG1 hr1 => cs [11] rfl rfl hG1 (fun hG1 => ix cPin rfl h1 hG1 rfl rfl rfl fun x6 _ hG1 _ _ => cl0 rfl (fun _ => n_laws_toPin) hG1 fun x7 _ hG1 => oe oPin 0 rfl rfl rfl hG1 fun x8 h2 hG1 _ h3 => ieW 1 h3 h2 rfl rfl rfl rfl rfl <| sF rfl <| ceR oPin 2 [] [3, 14] x7 () rfl rfl rfl rfl rfl rfl rfl rfl <| nxR s4 [5] hG1 rfl) fun hG1 => bk s4 [0] hG1 hr1 rfl rfl) fun x5 s5 hF => rt s5 [0] hF rfl rfl Tryz.results111 rfl rfl rfl rfl
theorem n_laws_toClock {κ : Ctx} {a_ : Clock} {s1 : AC} {r : Clock} (h1 : RdA κ s1 a_.Pins) (hF : laws_toClock a_ = some r) : FnS Tryz.prog 65 κ [.g [I a_.Epoch, .h s1 a_.Pins.length]] [] [] (fun r (y : AC) => .g [I r.Epoch, .h y r.Pins.length]) (fun r y => [ow y r.Pins]) r :=
 en 12 Tryz.call65 Tryz.func65 tok rfl rfl rfl <| cl rfl (fun _ _ => rfl) (fun h => n_laws_toPinS (h.a h1)) hF fun x1 _ hF s2 => rt s2 [3] hF rfl rfl Tryz.results65 rfl rfl rfl rfl
theorem n_laws_toLRow {κ : Ctx} {a_ : LRow}  {r : LRow}  (hF : laws_toLRow a_ = some r) : Fn0 Tryz.prog 171 κ [.g [I a_.Handle, I a_.Epoch]] (fun r => .g [I r.Handle, I r.Epoch]) r :=
 en 11 Tryz.call171 Tryz.func171 tok rfl rfl rfl <| rt () [] hF rfl rfl Tryz.results171 rfl rfl rfl rfl
theorem n_laws_toLRowS {κ : Ctx} {a_ : List LRow} {s1 : AC} {r : (List LRow)} (h1 : RdA κ s1 a_) (hF : laws_toLRowS a_ = some r) : FnS Tryz.prog 149 κ [.h s1 a_.length] [] [] (fun r (y : AC) => .h y r.length) (fun r y => [ow y r]) r :=
 en 23 Tryz.call149 Tryz.func149 tok rfl rfl rfl <| mks ((⟨0, 0⟩ : LRow) : LRow) inf_Tryz122 (fun w => own0 (mk_LRow ((⟨0, 0⟩ : LRow))) w) rfl rfl rfl rfl rfl rfl rfl hF fun hF s2 => lp s2 [0] (fun (p : (List LRow) × Int) (s4 : AC) => [(3, .h s4 p.1.length), (4, I p.2)]) [0] [] (fun p s4 => [ow s4 (p.1 : List LRow)]) id [] (fun (x5 : (List LRow)) (s5 : AC) => [(3, .h s5 x5.length)]) [] (fun x5 s5 => [ow s5 (x5 : List LRow)]) rfl hF rfl (fun o_ hF1 ⟨x3, x4⟩ s4 o1 hG1 hr1 => cs [11] rfl rfl hG1 (fun hG1 => ix cLRow rfl h1 hG1 rfl rfl rfl fun x6 _ hG1 _ _ => cl0 rfl (fun _ => n_laws_toLRow) hG1 fun x7 _ hG1 => oe oLRow 0 rfl rfl rfl hG1 fun x8 h2 hG1 _ h3 => ieW 1 h3 h2 rfl rfl rfl rfl rfl <| sF rfl <| ceR oLRow 2 [] [3, 14] x7 () rfl rfl rfl rfl rfl rfl rfl rfl <| nxR s4 [5] hG1 rfl) fun hG1 => bk s4 [0] hG1 hr1 rfl rfl) fun x5 s5 hF => rt s5 [0] hF rfl rfl Tryz.results149 rfl rfl rfl rfl
theorem n_laws_toLList {κ : Ctx} {a_ : LList} {s1 : AC} {r : LList} (h1 : RdA κ s1 a_.Rows) (hF : laws_toLList a_ = some r) : FnS Tryz.prog 112 κ [.g [.h s1 a_.Rows.length]] [] [] (fun r (y : AC) => .g [.h y r.Rows.length]) (fun r y => [ow y r.Rows]) r :=
 en 9 Tryz.call112 Tryz.func112 tok rfl rfl rfl <| cl rfl (fun _ _ => rfl) (fun h => n_laws_toLRowS (h.a h1)) hF fun x1 _ hF s2 => rt s2 [3] hF rfl rfl Tryz.results112 rfl rfl rfl rfl
theorem n_laws_toLListS {κ : Ctx} {a_ : List LList} {s1 : AC} {r : (List LList)} (h1 : RdA κ s1 a_) (hF : laws_toLListS a_ = some r) : FnS Tryz.prog 66 κ [.h s1 a_.length] [] [] (fun r (y : AC) => .h y r.length) (fun r y => [ow y r]) r :=
 en 23 Tryz.call66 Tryz.func66 tok rfl rfl rfl <| mks ((⟨[]⟩ : LList) : LList) inf_Tryz141 (fun _ => (op_zero (op_LList ((⟨[]⟩ : LList))) (zcons znil))) rfl rfl rfl rfl rfl rfl rfl hF fun hF s2 => lp s2 [0] (fun (p : (List LList) × Int) (s4 : AC) => [(3, .h s4 p.1.length), (4, I p.2)]) [0] [] (fun p s4 => [ow s4 (p.1 : List LList)]) id [] (fun (x5 : (List LList)) (s5 : AC) => [(3, .h s5 x5.length)]) [] (fun x5 s5 => [ow s5 (x5 : List LList)]) rfl hF rfl (fun o_ hF1 ⟨x3, x4⟩ s4 o1 hG1 hr1 => cs [11] rfl rfl hG1 (fun hG1 => ix cLList rfl h1 hG1 rfl rfl rfl fun x6 _ hG1 s6 h2 => cl rfl (fun _ _ => rfl) (fun h => n_laws_toLList (h.a h2)) hG1 fun x7 _ hG1 s7 => oe oLList 0 rfl rfl rfl hG1 fun x8 h3 hG1 s8 h4 => ieW 1 h4 h3 rfl rfl rfl rfl rfl <| sF rfl <| ceR oLList 3 [2] [3, 14] x7 s7 rfl rfl rfl rfl rfl rfl rfl rfl <| nxR s4 [7] hG1 rfl) fun hG1 => bk s4 [0] hG1 hr1 rfl rfl) fun x5 s5 hF => rt s5 [0] hF rfl rfl Tryz.results66 rfl rfl rfl rfl
theorem n_laws_toBase {κ : Ctx} {a_ : Base} {s1 s2 s3 s4 s5 s6 s7 : AC} {r : Base} (h1 : RdA κ s1 a_.Mem.Heap.Bytes) (h2 : RdA κ s2 a_.Mem.Heap.Class) (h3 : RdA κ s3 a_.Mem.Lists.Global) (h4 : RdA κ s4 a_.Mem.Lists.Own) (h5 : RdA κ s5 a_.Clock.Pins) (h6 : RdA κ s6 a_.Limbo) (h7 : RdA κ s7 a_.Haz) (hF : laws_toBase a_ = some r) : FnS Tryz.prog 31 κ [.g [.h s1 a_.Mem.Heap.Bytes.length, .h s2 a_.Mem.Heap.Class.length, .h s3 a_.Mem.Lists.Global.length, .h s4 a_.Mem.Lists.Own.length, I a_.Clock.Epoch, .h s5 a_.Clock.Pins.length, .h s6 a_.Limbo.length, .h s7 a_.Haz.length]] [] [] (fun r (y : AC × AC × AC × AC × AC × AC × AC) => .g [.h y.1 r.Mem.Heap.Bytes.length, .h y.2.1 r.Mem.Heap.Class.length, .h y.2.2.1 r.Mem.Lists.Global.length, .h y.2.2.2.1 r.Mem.Lists.Own.length, I r.Clock.Epoch, .h y.2.2.2.2.1 r.Clock.Pins.length, .h y.2.2.2.2.2.1 r.Limbo.length, .h y.2.2.2.2.2.2 r.Haz.length]) (fun r y => [ow y.1 r.Mem.Heap.Bytes, ow y.2.1 r.Mem.Heap.Class, ow y.2.2.1 r.Mem.Lists.Global, ow y.2.2.2.1 r.Mem.Lists.Own, ow y.2.2.2.2.1 r.Clock.Pins, ow y.2.2.2.2.2.1 r.Limbo, ow y.2.2.2.2.2.2 r.Haz]) r :=
 en 21 Tryz.call31 Tryz.func31 tok rfl rfl rfl <| cl rfl (fun _ _ => rfl) (fun h => n_laws_toMem (h.a h1) (h.a h2) (h.a h3) (h.a h4)) hF fun x1 _ hF s8 => cl rfl (fun _ _ => rfl) (fun h => n_laws_toClock (h.a h5)) hF fun x2 _ hF s9 => cl rfl (fun _ _ => rfl) (fun h => n_laws_toLListS (h.a h6)) hF fun x3 _ hF s10 => cl rfl (fun _ _ => rfl) (fun h => n_laws_toIntS (h.a h7)) hF fun x4 _ hF s11 => rt (s8.1, s8.2.1, s8.2.2.1, s8.2.2.2, s9, s10, s11) [3, 4, 5, 6, 7, 8, 9] hF rfl rfl Tryz.results31 rfl rfl rfl rfl
theorem n_laws_toOp {κ : Ctx} {a_ : GOp}  {r : GOp}  (hF : laws_toOp a_ = some r) : Fn0 Tryz.prog 113 κ [.g [I a_.Kind, I a_.Cell, I a_.Size, I a_.Val]] (fun r => .g [I r.Kind, I r.Cell, I r.Size, I r.Val]) r :=
 en 17 Tryz.call113 Tryz.func113 tok rfl rfl rfl <| rt () [] hF rfl rfl Tryz.results113 rfl rfl rfl rfl
theorem n_laws_toSub {κ : Ctx} {a_ : Sub}  {r : Sub}  (hF : laws_toSub a_ = some r) : Fn0 Tryz.prog 114 κ [.g [I a_.Kind, I a_.A, I a_.Pc, I a_.E, I a_.Row, I a_.B, I a_.H, I a_.Out, I a_.Code, .b a_.Done]] (fun r => .g [I r.Kind, I r.A, I r.Pc, I r.E, I r.Row, I r.B, I r.H, I r.Out, I r.Code, .b r.Done]) r :=
 en 35 Tryz.call114 Tryz.func114 tok rfl rfl rfl <| rt () [] hF rfl rfl Tryz.results114 rfl rfl rfl rfl
theorem n_laws_toJob {κ : Ctx} {a_ : Job}  {r : Job}  (hF : laws_toJob a_ = some r) : Fn0 Tryz.prog 67 κ [.g [.b a_.Busy, I a_.Op.Kind, I a_.Op.Cell, I a_.Op.Size, I a_.Op.Val, I a_.Serial, I a_.Pc, I a_.Sub.Kind, I a_.Sub.A, I a_.Sub.Pc, I a_.Sub.E, I a_.Sub.Row, I a_.Sub.B, I a_.Sub.H, I a_.Sub.Out, I a_.Sub.Code, .b a_.Sub.Done, I a_.H, I a_.Old, I a_.Val, I a_.Code]] (fun r => .g [.b r.Busy, I r.Op.Kind, I r.Op.Cell, I r.Op.Size, I r.Op.Val, I r.Serial, I r.Pc, I r.Sub.Kind, I r.Sub.A, I r.Sub.Pc, I r.Sub.E, I r.Sub.Row, I r.Sub.B, I r.Sub.H, I r.Sub.Out, I r.Sub.Code, .b r.Sub.Done, I r.H, I r.Old, I r.Val, I r.Code]) r :=
 en 34 Tryz.call67 Tryz.func67 tok rfl rfl rfl <| cl0 rfl (fun _ => n_laws_toOp) hF fun x1 _ hF => cl0 rfl (fun _ => n_laws_toSub) hF fun x2 _ hF => rt () [] hF rfl rfl Tryz.results67 rfl rfl rfl rfl
theorem n_laws_toJobS {κ : Ctx} {a_ : List Job} {s1 : AC} {r : (List Job)} (h1 : RdA κ s1 a_) (hF : laws_toJobS a_ = some r) : FnS Tryz.prog 33 κ [.h s1 a_.length] [] [] (fun r (y : AC) => .h y r.length) (fun r y => [ow y r]) r :=
 en 23 Tryz.call33 Tryz.func33 tok rfl rfl rfl <| mks ((⟨false, (⟨0, 0, 0, 0⟩ : GOp), 0, 0, (⟨0, 0, 0, 0, 0, 0, 0, 0, 0, false⟩ : Sub), 0, 0, 0, 0⟩ : Job) : Job) inf_Tryz73 (fun w => own0 (mk_Job ((⟨false, (⟨0, 0, 0, 0⟩ : GOp), 0, 0, (⟨0, 0, 0, 0, 0, 0, 0, 0, 0, false⟩ : Sub), 0, 0, 0, 0⟩ : Job))) w) rfl rfl rfl rfl rfl rfl rfl hF fun hF s2 => lp s2 [0] (fun (p : (List Job) × Int) (s4 : AC) => [(3, .h s4 p.1.length), (4, I p.2)]) [0] [] (fun p s4 => [ow s4 (p.1 : List Job)]) id [] (fun (x5 : (List Job)) (s5 : AC) => [(3, .h s5 x5.length)]) [] (fun x5 s5 => [ow s5 (x5 : List Job)]) rfl hF rfl (fun o_ hF1 ⟨x3, x4⟩ s4 o1 hG1 hr1 => cs [11] rfl rfl hG1 (fun hG1 => ix cJob rfl h1 hG1 rfl rfl rfl fun x6 _ hG1 _ _ => cl0 rfl (fun _ => n_laws_toJob) hG1 fun x7 _ hG1 => oe oJob 0 rfl rfl rfl hG1 fun x8 h2 hG1 _ h3 => ieW 1 h3 h2 rfl rfl rfl rfl rfl <| sF rfl <| ceR oJob 2 [] [3, 14] x7 () rfl rfl rfl rfl rfl rfl rfl rfl <| nxR s4 [5] hG1 rfl) fun hG1 => bk s4 [0] hG1 hr1 rfl rfl) fun x5 s5 hF => rt s5 [0] hF rfl rfl Tryz.results33 rfl rfl rfl rfl
theorem n_laws_toOpS {κ : Ctx} {a_ : List GOp} {s1 : AC} {r : (List GOp)} (h1 : RdA κ s1 a_) (hF : laws_toOpS a_ = some r) : FnS Tryz.prog 115 κ [.h s1 a_.length] [] [] (fun r (y : AC) => .h y r.length) (fun r y => [ow y r]) r :=
 en 23 Tryz.call115 Tryz.func115 tok rfl rfl rfl <| mks ((⟨0, 0, 0, 0⟩ : GOp) : GOp) inf_Tryz69 (fun w => own0 (mk_GOp ((⟨0, 0, 0, 0⟩ : GOp))) w) rfl rfl rfl rfl rfl rfl rfl hF fun hF s2 => lp s2 [0] (fun (p : (List GOp) × Int) (s4 : AC) => [(3, .h s4 p.1.length), (4, I p.2)]) [0] [] (fun p s4 => [ow s4 (p.1 : List GOp)]) id [] (fun (x5 : (List GOp)) (s5 : AC) => [(3, .h s5 x5.length)]) [] (fun x5 s5 => [ow s5 (x5 : List GOp)]) rfl hF rfl (fun o_ hF1 ⟨x3, x4⟩ s4 o1 hG1 hr1 => cs [11] rfl rfl hG1 (fun hG1 => ix cGOp rfl h1 hG1 rfl rfl rfl fun x6 _ hG1 _ _ => cl0 rfl (fun _ => n_laws_toOp) hG1 fun x7 _ hG1 => oe oGOp 0 rfl rfl rfl hG1 fun x8 h2 hG1 _ h3 => ieW 1 h3 h2 rfl rfl rfl rfl rfl <| sF rfl <| ceR oGOp 2 [] [3, 14] x7 () rfl rfl rfl rfl rfl rfl rfl rfl <| nxR s4 [5] hG1 rfl) fun hG1 => bk s4 [0] hG1 hr1 rfl rfl) fun x5 s5 hF => rt s5 [0] hF rfl rfl Tryz.results115 rfl rfl rfl rfl
theorem n_laws_toQueue {κ : Ctx} {a_ : Queue} {s1 : AC} {r : Queue} (h1 : RdA κ s1 a_.Ops) (hF : laws_toQueue a_ = some r) : FnS Tryz.prog 68 κ [.g [.h s1 a_.Ops.length]] [] [] (fun r (y : AC) => .g [.h y r.Ops.length]) (fun r y => [ow y r.Ops]) r :=
 en 9 Tryz.call68 Tryz.func68 tok rfl rfl rfl <| cl rfl (fun _ _ => rfl) (fun h => n_laws_toOpS (h.a h1)) hF fun x1 _ hF s2 => rt s2 [3] hF rfl rfl Tryz.results68 rfl rfl rfl rfl
theorem n_laws_toQueueS {κ : Ctx} {a_ : List Queue} {s1 : AC} {r : (List Queue)} (h1 : RdA κ s1 a_) (hF : laws_toQueueS a_ = some r) : FnS Tryz.prog 34 κ [.h s1 a_.length] [] [] (fun r (y : AC) => .h y r.length) (fun r y => [ow y r]) r :=
 en 23 Tryz.call34 Tryz.func34 tok rfl rfl rfl <| mks ((⟨[]⟩ : Queue) : Queue) inf_Tryz125 (fun _ => (op_zero (op_Queue ((⟨[]⟩ : Queue))) (zcons znil))) rfl rfl rfl rfl rfl rfl rfl hF fun hF s2 => lp s2 [0] (fun (p : (List Queue) × Int) (s4 : AC) => [(3, .h s4 p.1.length), (4, I p.2)]) [0] [] (fun p s4 => [ow s4 (p.1 : List Queue)]) id [] (fun (x5 : (List Queue)) (s5 : AC) => [(3, .h s5 x5.length)]) [] (fun x5 s5 => [ow s5 (x5 : List Queue)]) rfl hF rfl (fun o_ hF1 ⟨x3, x4⟩ s4 o1 hG1 hr1 => cs [11] rfl rfl hG1 (fun hG1 => ix cQueue rfl h1 hG1 rfl rfl rfl fun x6 _ hG1 s6 h2 => cl rfl (fun _ _ => rfl) (fun h => n_laws_toQueue (h.a h2)) hG1 fun x7 _ hG1 s7 => oe oQueue 0 rfl rfl rfl hG1 fun x8 h3 hG1 s8 h4 => ieW 1 h4 h3 rfl rfl rfl rfl rfl <| sF rfl <| ceR oQueue 3 [2] [3, 14] x7 s7 rfl rfl rfl rfl rfl rfl rfl rfl <| nxR s4 [7] hG1 rfl) fun hG1 => bk s4 [0] hG1 hr1 rfl rfl) fun x5 s5 hF => rt s5 [0] hF rfl rfl Tryz.results34 rfl rfl rfl rfl
theorem n_laws_toEv {κ : Ctx} {a_ : Ev}  {r : Ev}  (hF : laws_toEv a_ = some r) : Fn0 Tryz.prog 69 κ [.g [I a_.Kind, I a_.Who, I a_.Serial, I a_.Cell, I a_.Handle, I a_.Val, I a_.Code]] (fun r => .g [I r.Kind, I r.Who, I r.Serial, I r.Cell, I r.Handle, I r.Val, I r.Code]) r :=
 en 26 Tryz.call69 Tryz.func69 tok rfl rfl rfl <| rt () [] hF rfl rfl Tryz.results69 rfl rfl rfl rfl
theorem n_laws_toEvS {κ : Ctx} {a_ : List Ev} {s1 : AC} {r : (List Ev)} (h1 : RdA κ s1 a_) (hF : laws_toEvS a_ = some r) : FnS Tryz.prog 35 κ [.h s1 a_.length] [] [] (fun r (y : AC) => .h y r.length) (fun r y => [ow y r]) r :=
 en 23 Tryz.call35 Tryz.func35 tok rfl rfl rfl <| mks ((⟨0, 0, 0, 0, 0, 0, 0⟩ : Ev) : Ev) inf_Tryz136 (fun w => own0 (mk_Ev ((⟨0, 0, 0, 0, 0, 0, 0⟩ : Ev))) w) rfl rfl rfl rfl rfl rfl rfl hF fun hF s2 => lp s2 [0] (fun (p : (List Ev) × Int) (s4 : AC) => [(3, .h s4 p.1.length), (4, I p.2)]) [0] [] (fun p s4 => [ow s4 (p.1 : List Ev)]) id [] (fun (x5 : (List Ev)) (s5 : AC) => [(3, .h s5 x5.length)]) [] (fun x5 s5 => [ow s5 (x5 : List Ev)]) rfl hF rfl (fun o_ hF1 ⟨x3, x4⟩ s4 o1 hG1 hr1 => cs [11] rfl rfl hG1 (fun hG1 => ix cEv rfl h1 hG1 rfl rfl rfl fun x6 _ hG1 _ _ => cl0 rfl (fun _ => n_laws_toEv) hG1 fun x7 _ hG1 => oe oEv 0 rfl rfl rfl hG1 fun x8 h2 hG1 _ h3 => ieW 1 h3 h2 rfl rfl rfl rfl rfl <| sF rfl <| ceR oEv 2 [] [3, 14] x7 () rfl rfl rfl rfl rfl rfl rfl rfl <| nxR s4 [5] hG1 rfl) fun hG1 => bk s4 [0] hG1 hr1 rfl rfl) fun x5 s5 hF => rt s5 [0] hF rfl rfl Tryz.results35 rfl rfl rfl rfl
theorem n_laws_toShelf {κ : Ctx} {a_ : Shelf} {s1 s2 s3 s4 s5 s6 s7 s8 s9 s10 s11 : AC} {r : Shelf} (h1 : RdA κ s1 a_.Base.Mem.Heap.Bytes) (h2 : RdA κ s2 a_.Base.Mem.Heap.Class) (h3 : RdA κ s3 a_.Base.Mem.Lists.Global) (h4 : RdA κ s4 a_.Base.Mem.Lists.Own) (h5 : RdA κ s5 a_.Base.Clock.Pins) (h6 : RdA κ s6 a_.Base.Limbo) (h7 : RdA κ s7 a_.Base.Haz) (h8 : RdA κ s8 a_.Cells) (h9 : RdA κ s9 a_.Jobs) (h10 : RdA κ s10 a_.Todo) (h11 : RdA κ s11 a_.Log) (hF : laws_toShelf a_ = some r) : FnS Tryz.prog 13 κ [.g [.h s1 a_.Base.Mem.Heap.Bytes.length, .h s2 a_.Base.Mem.Heap.Class.length, .h s3 a_.Base.Mem.Lists.Global.length, .h s4 a_.Base.Mem.Lists.Own.length, I a_.Base.Clock.Epoch, .h s5 a_.Base.Clock.Pins.length, .h s6 a_.Base.Limbo.length, .h s7 a_.Base.Haz.length, .h s8 a_.Cells.length, .h s9 a_.Jobs.length, .h s10 a_.Todo.length, .h s11 a_.Log.length, I a_.Serial]] [] [] (fun r (y : AC × AC × AC × AC × AC × AC × AC × AC × AC × AC × AC) => .g [.h y.1 r.Base.Mem.Heap.Bytes.length, .h y.2.1 r.Base.Mem.Heap.Class.length, .h y.2.2.1 r.Base.Mem.Lists.Global.length, .h y.2.2.2.1 r.Base.Mem.Lists.Own.length, I r.Base.Clock.Epoch, .h y.2.2.2.2.1 r.Base.Clock.Pins.length, .h y.2.2.2.2.2.1 r.Base.Limbo.length, .h y.2.2.2.2.2.2.1 r.Base.Haz.length, .h y.2.2.2.2.2.2.2.1 r.Cells.length, .h y.2.2.2.2.2.2.2.2.1 r.Jobs.length, .h y.2.2.2.2.2.2.2.2.2.1 r.Todo.length, .h y.2.2.2.2.2.2.2.2.2.2 r.Log.length, I r.Serial]) (fun r y => [ow y.1 r.Base.Mem.Heap.Bytes, ow y.2.1 r.Base.Mem.Heap.Class, ow y.2.2.1 r.Base.Mem.Lists.Global, ow y.2.2.2.1 r.Base.Mem.Lists.Own, ow y.2.2.2.2.1 r.Base.Clock.Pins, ow y.2.2.2.2.2.1 r.Base.Limbo, ow y.2.2.2.2.2.2.1 r.Base.Haz, ow y.2.2.2.2.2.2.2.1 r.Cells, ow y.2.2.2.2.2.2.2.2.1 r.Jobs, ow y.2.2.2.2.2.2.2.2.2.1 r.Todo, ow y.2.2.2.2.2.2.2.2.2.2 r.Log]) r :=
 en 28 Tryz.call13 Tryz.func13 tok rfl rfl rfl <| cl rfl (fun _ _ => rfl) (fun h => n_laws_toBase (h.a h1) (h.a h2) (h.a h3) (h.a h4) (h.a h5) (h.a h6) (h.a h7)) hF fun x1 _ hF s12 => cl rfl (fun _ _ => rfl) (fun h => n_laws_toIntS (h.a h8)) hF fun x2 _ hF s13 => cl rfl (fun _ _ => rfl) (fun h => n_laws_toJobS (h.a h9)) hF fun x3 _ hF s14 => cl rfl (fun _ _ => rfl) (fun h => n_laws_toQueueS (h.a h10)) hF fun x4 _ hF s15 => cl rfl (fun _ _ => rfl) (fun h => n_laws_toEvS (h.a h11)) hF fun x5 _ hF s16 => rt (s12.1, s12.2.1, s12.2.2.1, s12.2.2.2.1, s12.2.2.2.2.1, s12.2.2.2.2.2.1, s12.2.2.2.2.2.2, s13, s14, s15, s16) [3, 4, 5, 6, 7, 8, 9, 10, 11, 12, 13] hF rfl rfl Tryz.results13 rfl rfl rfl rfl
theorem n_laws_toShelfS {κ : Ctx} {a_ : List Shelf} {s1 : AC} {r : (List Shelf)} (h1 : RdA κ s1 a_) (hF : laws_toShelfS a_ = some r) : FnS Tryz.prog 6 κ [.h s1 a_.length] [] [] (fun r (y : AC) => .h y r.length) (fun r y => [ow y r]) r :=
 en 23 Tryz.call6 Tryz.func6 tok rfl rfl rfl <| mks ((⟨(⟨(⟨(⟨[], []⟩ : Heap), (⟨[], []⟩ : Lists)⟩ : Mem), (⟨0, []⟩ : Clock), [], []⟩ : Base), [], [], [], [], 0⟩ : Shelf) : Shelf) inf_Tryz67 (fun _ => (op_zero (op_Shelf ((⟨(⟨(⟨(⟨[], []⟩ : Heap), (⟨[], []⟩ : Lists)⟩ : Mem), (⟨0, []⟩ : Clock), [], []⟩ : Base), [], [], [], [], 0⟩ : Shelf))) (zcons (zcons (zcons (zcons (zcons (zcons (zcons (zcons (zcons (zcons (zcons znil))))))))))))) rfl rfl rfl rfl rfl rfl rfl hF fun hF s2 => lp s2 [0] (fun (p : (List Shelf) × Int) (s4 : AC) => [(3, .h s4 p.1.length), (4, I p.2)]) [0] [] (fun p s4 => [ow s4 (p.1 : List Shelf)]) id [] (fun (x5 : (List Shelf)) (s5 : AC) => [(3, .h s5 x5.length)]) [] (fun x5 s5 => [ow s5 (x5 : List Shelf)]) rfl hF rfl (fun o_ hF1 ⟨x3, x4⟩ s4 o1 hG1 hr1 => cs [11] rfl rfl hG1 (fun hG1 => ix cShelf rfl h1 hG1 rfl rfl rfl fun x6 _ hG1 s6 h2 => cl rfl (fun _ _ => rfl) (fun h => n_laws_toShelf (h.a h2.1) (h.a h2.2.1) (h.a h2.2.2.1) (h.a h2.2.2.2.1) (h.a h2.2.2.2.2.1) (h.a h2.2.2.2.2.2.1) (h.a h2.2.2.2.2.2.2.1) (h.a h2.2.2.2.2.2.2.2.1) (h.a h2.2.2.2.2.2.2.2.2.1) (h.a h2.2.2.2.2.2.2.2.2.2.1) (h.a h2.2.2.2.2.2.2.2.2.2.2)) hG1 fun x7 _ hG1 s7 => oe oShelf 0 rfl rfl rfl hG1 fun x8 h3 hG1 s8 h4 => ieW 1 h4 h3 rfl rfl rfl rfl rfl <| sF rfl <| ceR oShelf 13 [2, 3, 4, 5, 6, 7, 8, 9, 10, 11, 12] [3, 14] x7 (s7.1, s7.2.1, s7.2.2.1, s7.2.2.2.1, s7.2.2.2.2.1, s7.2.2.2.2.2.1, s7.2.2.2.2.2.2.1, s7.2.2.2.2.2.2.2.1, s7.2.2.2.2.2.2.2.2.1, s7.2.2.2.2.2.2.2.2.2.1, s7.2.2.2.2.2.2.2.2.2.2) rfl rfl rfl rfl rfl rfl rfl rfl <| nxR s4 [27] hG1 rfl) fun hG1 => bk s4 [0] hG1 hr1 rfl rfl) fun x5 s5 hF => rt s5 [0] hF rfl rfl Tryz.results6 rfl rfl rfl rfl
theorem n_slices_IndexFunc_int {κ : Ctx} {s : List Int} {f : (Int → Option Bool)} {s1 : AC} {g_f : FuncId} {cap_f : List Value} {r : Int} (h1 : RdA κ s1 s) (h_f : Fu1 Tryz.prog κ (cI : Cel Int) .b g_f cap_f f) (hF : slices_IndexFunc_int s f = some r) : Fn0 Tryz.prog 84 κ [.h s1 s.length, .k (.func (.func g_f) #[] cap_f.toArray)] I r :=
 en 19 Tryz.call84 Tryz.func84 tok rfl rfl rfl <| lp () [0, 1, 7] (fun (x2 : Int) (_ : Unit) => [(8, I x2)]) [] [] (fun x2 _ => []) Out.brk [] (fun (_ : Unit) (_ : Unit) => []) [] (fun _ _ => []) rfl hF rfl (fun o_ hF1 x2 _ o1 hG1 hr1 => cs [9] rfl rfl hG1 (fun hG1 => ix cI rfl h1 hG1 rfl rfl rfl fun x3 _ hG1 _ _ => fa1 h_f x3 () rfl rfl rfl rfl rfl trivial hG1 fun x4 _ hG1 => cs [16] rfl rfl hG1 (fun hG1 => rt () [] (re hG1 rfl hr1 hF1) rfl rfl Tryz.results84 rfl rfl rfl rfl) fun hG1 => nx () [] hG1 rfl rfl) fun hG1 => bk () [] hG1 hr1 rfl rfl) fun () _ hF => rt () [] hF rfl rfl Tryz.results84 rfl rfl rfl rfl
theorem n_slices_ContainsFunc_int {κ : Ctx} {s : List Int} {f : (Int → Option Bool)} {s1 : AC} {g_f : FuncId} {cap_f : List Value} {r : Bool} (h1 : RdA κ s1 s) (h_f : Fu1 Tryz.prog κ (cI : Cel Int) .b g_f cap_f f) (hF : slices_ContainsFunc_int s f = some r) : Fn0 Tryz.prog 39 κ [.h s1 s.length, .k (.func (.func g_f) #[] cap_f.toArray)] .b r :=
 en 9 Tryz.call39 Tryz.func39 tok rfl rfl rfl <| cl0 rfl (fun h => n_slices_IndexFunc_int (h.a h1) (h.u1 h_f)) hF fun x1 _ hF => rt () [] hF rfl rfl Tryz.results39 rfl rfl rfl rfl
theorem n_impl_within {κ : Ctx} {n : Int} {low : Int} {high : Int}  {r : Bool}  (hF : impl_within n low high = some r) : Fn0 Tryz.prog 38 κ [I n, I low, I high] .b r :=
 en 15 Tryz.call38 Tryz.func38 tok rfl rfl rfl <| cut 0 0 (fun (x1 : Bool) => impl_within_j1 x1 = some r) [] (fun (x1 : Bool) (_ : Unit) => [(6, .b x1)]) [] (fun x1 _ => []) rfl (ca [9, 10] rfl rfl hF (fun hF => jn () [] hF rfl rfl) fun hF => jn () [] hF rfl rfl) fun x1 _ hF => rt () [] hF rfl rfl Tryz.results38 rfl rfl rfl rfl
theorem n_impl_isByte {κ : Ctx} {x : Int}  {r : Bool}  (hF : impl_isByte x = some r) : Fn0 Tryz.prog 184 κ [I x] .b r :=
 en 5 Tryz.call184 Tryz.func184 tok rfl rfl rfl <| cl0 rfl (fun _ => n_impl_within) hF fun x1 _ hF => rt () [] hF rfl rfl Tryz.results184 rfl rfl rfl rfl
theorem n_impl_BytesOk_1 {κ : Ctx} {x : Int}  {r : Bool}  (hF : impl_BytesOk_1 x = some r) : Fn0 Tryz.prog 183 κ [I x] .b r :=
 en 6 Tryz.call183 Tryz.func183 tok rfl rfl rfl <| cl0 rfl (fun _ => n_impl_isByte) hF fun x1 _ hF => rt () [] hF rfl rfl Tryz.results183 rfl rfl rfl rfl
theorem n_impl_BytesOk {κ : Ctx} {b : List Int} {s1 : AC} {r : Bool} (h1 : RdA κ s1 b) (hF : impl_BytesOk b = some r) : Fn0 Tryz.prog 172 κ [.h s1 b.length] .b r :=
 en 11 Tryz.call172 Tryz.func172 tok rfl rfl rfl <| cut 0 0 (fun (x1 : Bool) => impl_BytesOk_j1 x1 = some r) [] (fun (x1 : Bool) (_ : Unit) => [(2, .b x1)]) [] (fun x1 _ => []) rfl (ca [5, 6] rfl rfl hF (fun hF => cl0 rfl (fun h => n_slices_ContainsFunc_int (h.a h1) (fu1 Tryz.call183 fun _ => n_impl_BytesOk_1)) hF fun x2 _ hF => jn () [] hF rfl rfl) fun hF => jn () [] hF rfl rfl) fun x1 _ hF => rt () [] hF rfl rfl Tryz.results172 rfl rfl rfl rfl
theorem n_impl_shaped_1 {κ : Ctx} {c : Int}  {r : Bool}  (hF : impl_shaped_1 c = some r) : Fn0 Tryz.prog 173 κ [I c] .b r :=
 en 6 Tryz.call173 Tryz.func173 tok rfl rfl rfl <| cl0 rfl (fun _ => n_impl_within) hF fun x1 _ hF => rt () [] hF rfl rfl Tryz.results173 rfl rfl rfl rfl
theorem n_impl_shaped {κ : Ctx} {h : Heap} {s1 s2 : AC} {r : Bool} (h1 : RdA κ s1 h.Bytes) (h2 : RdA κ s2 h.Class) (hF : impl_shaped h = some r) : Fn0 Tryz.prog 150 κ [.g [.h s1 h.Bytes.length, .h s2 h.Class.length]] .b r :=
 en 24 Tryz.call150 Tryz.func150 tok rfl rfl rfl <| cut 0 1 (fun (x1 : Bool) => impl_shaped_j1 x1 = some r) [] (fun (x1 : Bool) (_ : Unit) => [(2, .b x1)]) [] (fun x1 _ => []) rfl (ca [6, 7] rfl rfl hF (fun hF => cl0 rfl (fun h => n_impl_BytesOk (h.a h1)) hF fun x2 _ hF => ca [10, 11, 12] rfl rfl hF (fun hF => ca [16, 17, 18] rfl rfl hF (fun hF => cl0 rfl (fun h => n_slices_ContainsFunc_int (h.a h2) (fu1 Tryz.call173 fun _ => n_impl_shaped_1)) hF fun x3 _ hF => jn () [] hF rfl rfl) fun hF => jn () [] hF rfl rfl) fun hF => jn () [] hF rfl rfl) fun hF => jn () [] hF rfl rfl) fun x1 _ hF => rt () [] hF rfl rfl Tryz.results150 rfl rfl rfl rfl
theorem n_impl_loadNum {κ : Ctx} {b : List Int} {at_ : Int} {width : Int} {s1 : AC} {r : Int} (h1 : RdA κ s1 b) (hF : impl_loadNum b at_ width = some r) : Fn0 Tryz.prog 158 κ [.h s1 b.length, I at_, I width] I r :=
 en 27 Tryz.call158 Tryz.func158 tok rfl rfl rfl <| qsb_lh rfl rfl rfl rfl rfl h1 rfl rfl rfl hF fun hF s2 h2 => lp () [15, 16] (fun (p : Int × Int) (_ : Unit) => [(7, I p.1), (17, I p.2)]) [] [] (fun p _ => []) id [] (fun (x5 : Int) (_ : Unit) => [(7, I x5)]) [] (fun x5 _ => []) rfl hF rfl (fun o_ hF1 ⟨x3, x4⟩ _ o1 hG1 hr1 => cs [18] rfl rfl hG1 (fun hG1 => ix cI rfl h2 hG1 rfl rfl rfl fun x6 _ hG1 _ _ => nx () [] hG1 rfl rfl) fun hG1 => bk () [] hG1 hr1 rfl rfl) fun x5 _ hF => rt () [] hF rfl rfl Tryz.results158 rfl rfl rfl rfl
theorem n_impl_isZero_1 {κ : Ctx} {x : Int}  {r : Bool}  (hF : impl_isZero_1 x = some r) : Fn0 Tryz.prog 185 κ [I x] .b r :=
 en 5 Tryz.call185 Tryz.func185 tok rfl rfl rfl <| rt () [] hF rfl rfl Tryz.results185 rfl rfl rfl rfl
theorem n_impl_isZero {κ : Ctx} {b : List Int} {s1 : AC} {r : Bool} (h1 : RdA κ s1 b) (hF : impl_isZero b = some r) : Fn0 Tryz.prog 174 κ [.h s1 b.length] .b r :=
 en 6 Tryz.call174 Tryz.func174 tok rfl rfl rfl <| cl0 rfl (fun h => n_slices_ContainsFunc_int (h.a h1) (fu1 Tryz.call185 fun _ => n_impl_isZero_1)) hF fun x1 _ hF => rt () [] hF rfl rfl Tryz.results174 rfl rfl rfl rfl
theorem n_impl_isClass {κ : Ctx} {c : Int}  {r : Bool}  (hF : impl_isClass c = some r) : Fn0 Tryz.prog 129 κ [I c] .b r :=
 en 5 Tryz.call129 Tryz.func129 tok rfl rfl rfl <| cl0 rfl (fun _ => n_impl_within) hF fun x1 _ hF => rt () [] hF rfl rfl Tryz.results129 rfl rfl rfl rfl
theorem n_impl_SizeOf {κ : Ctx} {c : Int}  {r : Int}  (hF : impl_SizeOf c = some r) : Fn0 Tryz.prog 87 κ [I c] I r :=
 en 9 Tryz.call87 Tryz.func87 tok rfl rfl rfl <| cl0 rfl (fun _ => n_impl_isClass) hF fun x1 _ hF => cs [5] rfl rfl hF (fun hF => rt () [] hF rfl rfl Tryz.results87 rfl rfl rfl rfl) fun hF => qba [I 8, I 16, I 40] Tryz.zeroValue188 Tryz.underlying188 Tryz.sizeOf3 rfl rfl rfl rfl rfl rfl <| qai (fun q : Int => .int .i64 q) (fun q => .i .i64 q) (l := ([8, 16, 40] : List Int)) Tryz.underlying188 Tryz.sizeOf3 Tryz.isAgg3 (fun _ => rfl) rfl rfl rfl rfl rfl rfl hF fun x2 _ hF => rt () [] hF rfl rfl Tryz.results87 rfl rfl rfl rfl
theorem n_impl_StrideOf {κ : Ctx} {c : Int}  {r : Int}  (hF : impl_StrideOf c = some r) : Fn0 Tryz.prog 176 κ [I c] I r :=
 en 9 Tryz.call176 Tryz.func176 tok rfl rfl rfl <| cl0 rfl (fun _ => n_impl_isClass) hF fun x1 _ hF => cs [5] rfl rfl hF (fun hF => rt () [] hF rfl rfl Tryz.results176 rfl rfl rfl rfl) fun hF => cl0 rfl (fun _ => n_impl_SizeOf) hF fun x2 _ hF => rt () [] hF rfl rfl Tryz.results176 rfl rfl rfl rfl
theorem n_impl_PerPage {κ : Ctx} {c : Int}  {r : Int}  (hF : impl_PerPage c = some r) : Fn0 Tryz.prog 175 κ [I c] I r :=
 en 9 Tryz.call175 Tryz.func175 tok rfl rfl rfl <| cl0 rfl (fun _ => n_impl_isClass) hF fun x1 _ hF => cs [5] rfl rfl hF (fun hF => rt () [] hF rfl rfl Tryz.results175 rfl rfl rfl rfl) fun hF => cl0 rfl (fun _ => n_impl_StrideOf) hF fun x2 _ hF => qquo rfl rfl rfl rfl hF fun hF => rt () [] hF rfl rfl Tryz.results175 rfl rfl rfl rfl
theorem n_impl_pageOk {κ : Ctx} {h : Heap} {page : Int} {s1 s2 : AC} {r : Bool} (h1 : RdA κ s1 h.Bytes) (h2 : RdA κ s2 h.Class) (hF : impl_pageOk h page = some r) : Fn0 Tryz.prog 151 κ [.g [.h s1 h.Bytes.length, .h s2 h.Class.length], I page] .b r :=
 en 65 Tryz.call151 Tryz.func151 tok rfl rfl rfl <| dr [0] rfl mixed_Tryz (by kernel_rfl) fun _ => ix cI rfl h2 hF rfl rfl rfl fun x1 _ hF _ _ => qsb_lh rfl rfl rfl rfl rfl h1 rfl rfl rfl hF fun hF s3 h3 => cs [22] rfl rfl hF (fun hF => cl0 rfl (fun h => n_impl_isZero (h.a h3)) hF fun x2 _ hF => rt () [] hF rfl rfl Tryz.results151 rfl rfl rfl rfl) fun hF => cut 0 2 (fun (x3 : Bool) => impl_pageOk_j1 h page x1 x3 = some r) [5, 6] (fun (x3 : Bool) (_ : Unit) => [(49, .b x3)]) [] (fun x3 _ => []) rfl (dr [0, 1] rfl mixed_Tryz (by kernel_rfl) fun _ => ix cI rfl h3 hF rfl rfl rfl fun x10 _ hF _ _ => ca [28, 29] rfl rfl hF (fun hF => jn () [] hF rfl rfl) fun hF => ix cI rfl h3 hF rfl rfl rfl fun x11 _ hF _ _ => ca [34, 35, 36] rfl rfl hF (fun hF => jn () [] hF rfl rfl) fun hF => ix cI rfl h3 hF rfl rfl rfl fun x12 _ hF _ _ => cl0 rfl (fun _ => n_impl_PerPage) hF fun x13 _ hF => ca [42, 43, 44] rfl rfl hF (fun hF => jn () [] hF rfl rfl) fun hF => qsb_lh rfl rfl rfl rfl rfl h3 rfl rfl rfl hF fun hF s4 h4 => cl0 rfl (fun h => n_impl_isZero (h.a h4)) hF fun x14 _ hF => jn () [] hF rfl rfl) fun x3 _ hF => cs [49] rfl rfl hF (fun hF => rt () [] hF rfl rfl Tryz.results151 rfl rfl rfl rfl) fun hF => cl0 rfl (fun _ => n_impl_PerPage) hF fun x4 _ hF => lp () [5, 6, 51] (fun (x6 : Int) (_ : Unit) => [(52, I x6)]) [] [] (fun x6 _ => []) Out.brk [] (fun (_ : Unit) (_ : Unit) => []) [] (fun _ _ => []) rfl hF rfl (fun o_ hF2 x6 _ o2 hG2 hr2 => cs [53] rfl rfl hG2 (fun hG2 => cl0 rfl (fun _ => n_impl_StrideOf) hG2 fun x7 _ hG2 => cl0 rfl (fun h => n_impl_loadNum (h.a h3)) hG2 fun x8 _ hG2 => cl0 rfl (fun _ => n_impl_within) hG2 fun x9 _ hG2 => cs [63] rfl rfl hG2 (fun hG2 => rt () [] (re hG2 rfl hr2 hF2) rfl rfl Tryz.results151 rfl rfl rfl rfl) fun hG2 => nx () [] hG2 rfl rfl) fun hG2 => bk () [] hG2 hr2 rfl rfl) fun () _ hF => rt () [] hF rfl rfl Tryz.results151 rfl rfl rfl rfl
theorem n_impl_HeapOk {κ : Ctx} {h : Heap} {s1 s2 : AC} {r : Bool} (h1 : RdA κ s1 h.Bytes) (h2 : RdA κ s2 h.Class) (hF : impl_HeapOk h = some r) : Fn0 Tryz.prog 116 κ [.g [.h s1 h.Bytes.length, .h s2 h.Class.length]] .b r :=
 en 15 Tryz.call116 Tryz.func116 tok rfl rfl rfl <| cl0 rfl (fun h => n_impl_shaped (h.a h1) (h.a h2)) hF fun x1 _ hF => cs [6] rfl rfl hF (fun hF => rt () [] hF rfl rfl Tryz.results116 rfl rfl rfl rfl) fun hF => lp () [1] (fun (x3 : Int) (_ : Unit) => [(7, I x3)]) [0] [0] (fun x3 _ => []) Out.brk [] (fun (_ : Unit) (_ : Unit) => []) [] (fun _ _ => []) rfl hF rfl (fun o_ hF1 x3 _ o1 hG1 hr1 => cs [8] rfl rfl hG1 (fun hG1 => cl0 rfl (fun h => n_impl_pageOk (h.a h1) (h.a h2)) hG1 fun x4 _ hG1 => cs [13] rfl rfl hG1 (fun hG1 => rt () [] (re hG1 rfl hr1 hF1) rfl rfl Tryz.results116 rfl rfl rfl rfl) fun hG1 => nx () [0] hG1 rfl rfl) fun hG1 => bk () [] hG1 hr1 rfl rfl) fun () _ hF => rt () [] hF rfl rfl Tryz.results116 rfl rfl rfl rfl
theorem n_impl_isSlot {κ : Ctx} {slot : Int}  {r : Bool}  (hF : impl_isSlot slot = some r) : Fn0 Tryz.prog 153 κ [I slot] .b r :=
 en 5 Tryz.call153 Tryz.func153 tok rfl rfl rfl <| cl0 rfl (fun _ => n_impl_within) hF fun x1 _ hF => rt () [] hF rfl rfl Tryz.results153 rfl rfl rfl rfl
theorem n_impl_ListsOk {κ : Ctx} {l : Lists} {s1 : AC} {s2 : AC} {r : Bool} (h_s1 : RdA κ s1 l.Global) (h_s2 : RdA κ s2 l.Own) (hF : impl_ListsOk l = some r) : Fn0 Tryz.prog 117 κ [.g [.h s1 l.Global.length, .h s2 l.Own.length]] .b r :=
 oldF Tryz.call117 fun hm vs hv => by cases hv; exact Calls.mono (c_impl_ListsOk (hm (fRd [AC.v s1 l.Global.length] l.Global) h_s1) (hm (fRd [AC.v s2 l.Own.length] l.Own) h_s2) hF) fun _ _ ⟨v, h1, h2, h3⟩ => ⟨v, h1, by rw [h2]; rfl, h3⟩
theorem n_impl_GenAt {κ : Ctx} {slot : Int} {c : Int}  {r : Int}  (hF : impl_GenAt slot c = some r) : Fn0 Tryz.prog 159 κ [I slot, I c] I r :=
 en 30 Tryz.call159 Tryz.func159 tok rfl rfl rfl <| cut 0 0 (fun (x1 : Bool) => impl_GenAt_j1 slot c x1 = some r) [0, 1] (fun (x1 : Bool) (_ : Unit) => [(19, .b x1)]) [] (fun x1 _ => []) rfl (cl0 rfl (fun _ => n_impl_isSlot) hF fun x3 _ hF => ca [7, 8] rfl rfl hF (fun hF => jn () [] hF rfl rfl) fun hF => cl0 rfl (fun _ => n_impl_isClass) hF fun x4 _ hF => ca [11, 12, 13] rfl rfl hF (fun hF => jn () [] hF rfl rfl) fun hF => cl0 rfl (fun _ => n_impl_PerPage) hF fun x5 _ hF => jn () [] hF rfl rfl) fun x1 _ hF => cs [19] rfl rfl hF (fun hF => rt () [] hF rfl rfl Tryz.results159 rfl rfl rfl rfl) fun hF => cl0 rfl (fun _ => n_impl_StrideOf) hF fun x2 _ hF => rt () [] hF rfl rfl Tryz.results159 rfl rfl rfl rfl
theorem n_impl_classIn {κ : Ctx} {h : Heap} {slot : Int} {s1 s2 : AC} {r : Int} (h1 : RdA κ s1 h.Bytes) (h2 : RdA κ s2 h.Class) (hF : impl_classIn h slot = some r) : Fn0 Tryz.prog 154 κ [.g [.h s1 h.Bytes.length, .h s2 h.Class.length], I slot] I r :=
 en 25 Tryz.call154 Tryz.func154 tok rfl rfl rfl <| cut 0 1 (fun (x1 : Bool) => impl_classIn_j1 h slot x1 = some r) [1, 2] (fun (x1 : Bool) (_ : Unit) => [(18, .b x1)]) [0] (fun x1 _ => []) rfl (cl0 rfl (fun _ => n_impl_isSlot) hF fun x3 _ hF => ca [7, 8] rfl rfl hF (fun hF => jn () [0] hF rfl rfl) fun hF => ix cI rfl h2 hF rfl rfl rfl fun x4 _ hF _ _ => cl0 rfl (fun _ => n_impl_GenAt) hF fun x5 _ hF => jn () [0] hF rfl rfl) fun x1 _ hF => cs [18] rfl rfl hF (fun hF => rt () [] hF rfl rfl Tryz.results154 rfl rfl rfl rfl) fun hF => ix cI rfl h2 hF rfl rfl rfl fun x2 _ hF _ _ => rt () [] hF rfl rfl Tryz.results154 rfl rfl rfl rfl
theorem n_impl_ClassAt {κ : Ctx} {h : Heap} {slot : Int} {s1 s2 : AC} {r : Int} (h1 : RdA κ s1 h.Bytes) (h2 : RdA κ s2 h.Class) (hF : impl_ClassAt h slot = some r) : Fn0 Tryz.prog 157 κ [.g [.h s1 h.Bytes.length, .h s2 h.Class.length], I slot] I r :=
 en 11 Tryz.call157 Tryz.func157 tok rfl rfl rfl <| cl0 rfl (fun h => n_impl_shaped (h.a h1) (h.a h2)) hF fun x1 _ hF => cs [7] rfl rfl hF (fun hF => rt () [] hF rfl rfl Tryz.results157 rfl rfl rfl rfl) fun hF => cl0 rfl (fun h => n_impl_classIn (h.a h1) (h.a h2)) hF fun x2 _ hF => rt () [] hF rfl rfl Tryz.results157 rfl rfl rfl rfl
theorem n_impl_GenIn {κ : Ctx} {h : Heap} {slot : Int} {s1 s2 : AC} {r : Int} (h1 : RdA κ s1 h.Bytes) (h2 : RdA κ s2 h.Class) (hF : impl_GenIn h slot = some r) : Fn0 Tryz.prog 126 κ [.g [.h s1 h.Bytes.length, .h s2 h.Class.length], I slot] I r :=
 en 17 Tryz.call126 Tryz.func126 tok rfl rfl rfl <| cl0 rfl (fun h => n_impl_ClassAt (h.a h1) (h.a h2)) hF fun x1 _ hF => cs [10] rfl rfl hF (fun hF => rt () [] hF rfl rfl Tryz.results126 rfl rfl rfl rfl) fun hF => dr [0] rfl mixed_Tryz (by kernel_rfl) fun _ => cl0 rfl (fun _ => n_impl_GenAt) hF fun x2 _ hF => cl0 rfl (fun h => n_impl_loadNum (h.a h1)) hF fun x3 _ hF => rt () [] hF rfl rfl Tryz.results126 rfl rfl rfl rfl
theorem n_impl_listFits {κ : Ctx} {h : Heap} {s : SList} {c : Int} {s1 s2 : AC} {s3 : AC} {r : Bool} (h1 : RdA κ s1 h.Bytes) (h2 : RdA κ s2 h.Class) (h3 : RdA κ s3 s.Slots) (hF : impl_listFits h s c = some r) : Fn0 Tryz.prog 118 κ [.g [.h s1 h.Bytes.length, .h s2 h.Class.length], .g [.h s3 s.Slots.length], I c] .b r :=
 en 28 Tryz.call118 Tryz.func118 tok rfl rfl rfl <| lp () [2, 3, 10, 11] (fun (x2 : Int) (_ : Unit) => [(12, I x2)]) [0] [0] (fun x2 _ => []) Out.brk [] (fun (_ : Unit) (_ : Unit) => []) [] (fun _ _ => []) rfl hF rfl (fun o_ hF1 x2 _ o1 hG1 hr1 => cs [13] rfl rfl hG1 (fun hG1 => ix cI rfl h3 hG1 rfl rfl rfl fun x3 _ hG1 _ _ => cut 0 3 (fun (x4 : Bool) => impl_listFits_j2 x2 x4 = some o1) [2, 3, 10, 11, 12] (fun (x4 : Bool) (_ : Unit) => [(26, .b x4)]) [0] (fun x4 _ => []) rfl (cl0 rfl (fun h => n_impl_classIn (h.a h1) (h.a h2)) hG1 fun x5 _ hG1 => ca [20, 21] rfl rfl hG1 (fun hG1 => jn () [0] hG1 rfl rfl) fun hG1 => cl0 rfl (fun h => n_impl_GenIn (h.a h1) (h.a h2)) hG1 fun x6 _ hG1 => jn () [0] hG1 rfl rfl) fun x4 _ hG1 => cs [26] rfl rfl hG1 (fun hG1 => rt () [] (re hG1 rfl hr1 hF1) rfl rfl Tryz.results118 rfl rfl rfl rfl) fun hG1 => nx () [0] hG1 rfl rfl) fun hG1 => bk () [] hG1 hr1 rfl rfl) fun () _ hF => rt () [] hF rfl rfl Tryz.results118 rfl rfl rfl rfl
theorem n_impl_MemOk {κ : Ctx} {m : Mem} {s1 s2 s3 s4 : AC} {r : Bool} (h1 : RdA κ s1 m.Heap.Bytes) (h2 : RdA κ s2 m.Heap.Class) (h3 : RdA κ s3 m.Lists.Global) (h4 : RdA κ s4 m.Lists.Own) (hF : impl_MemOk m = some r) : Fn0 Tryz.prog 70 κ [.g [.h s1 m.Heap.Bytes.length, .h s2 m.Heap.Class.length, .h s3 m.Lists.Global.length, .h s4 m.Lists.Own.length]] .b r :=
 en 50 Tryz.call70 Tryz.func70 tok rfl rfl rfl <| cut 0 1 (fun (x1 : Bool) => impl_MemOk_j1 m x1 = some r) [1] (fun (x1 : Bool) (_ : Unit) => [(16, .b x1)]) [0] (fun x1 _ => []) rfl (cl0 rfl (fun h => n_impl_HeapOk (h.a h1) (h.a h2)) hF fun x10 _ hF => ca [10, 11] rfl rfl hF (fun hF => jn () [0] hF rfl rfl) fun hF => cl0 rfl (fun h => n_impl_ListsOk (h.a h3) (h.a h4)) hF fun x11 _ hF => jn () [0] hF rfl rfl) fun x1 _ hF => cs [16] rfl rfl hF (fun hF => rt () [] hF rfl rfl Tryz.results70 rfl rfl rfl rfl) fun hF => lp () [1, 19, 20] (fun (x3 : Int) (_ : Unit) => [(21, I x3)]) [0] [0] (fun x3 _ => []) Out.brk [1] (fun (_ : Unit) (_ : Unit) => []) [0] (fun _ _ => []) rfl hF rfl (fun o_ hF2 x3 _ o2 hG2 hr2 => cs [22] rfl rfl hG2 (fun hG2 => ix cSList rfl h3 hG2 rfl rfl rfl fun x8 _ hG2 s6 h6 => cl0 rfl (fun h => n_impl_listFits (h.a h1) (h.a h2) (h.a h6)) hG2 fun x9 _ hG2 => cs [31] rfl rfl hG2 (fun hG2 => rt () [] (re hG2 rfl hr2 hF2) rfl rfl Tryz.results70 rfl rfl rfl rfl) fun hG2 => nx () [0] hG2 rfl rfl) fun hG2 => bk () [0] hG2 hr2 rfl rfl) fun () _ hF => lp () [1, 35, 36] (fun (x5 : Int) (_ : Unit) => [(37, I x5)]) [0] [0] (fun x5 _ => []) Out.brk [] (fun (_ : Unit) (_ : Unit) => []) [] (fun _ _ => []) rfl hF rfl (fun o_ hF3 x5 _ o3 hG3 hr3 => cs [38] rfl rfl hG3 (fun hG3 => ix cSList rfl h4 hG3 rfl rfl rfl fun x6 _ hG3 s5 h5 => cl0 rfl (fun h => n_impl_listFits (h.a h1) (h.a h2) (h.a h5)) hG3 fun x7 _ hG3 => cs [48] rfl rfl hG3 (fun hG3 => rt () [] (re hG3 rfl hr3 hF3) rfl rfl Tryz.results70 rfl rfl rfl rfl) fun hG3 => nx () [0] hG3 rfl rfl) fun hG3 => bk () [] hG3 hr3 rfl rfl) fun () _ hF => rt () [] hF rfl rfl Tryz.results70 rfl rfl rfl rfl
theorem n_slices_IndexFunc_Pin {κ : Ctx} {s : List Pin} {f : (Pin → Option Bool)} {s1 : AC} {g_f : FuncId} {cap_f : List Value} {r : Int} (h1 : RdA κ s1 s) (h_f : Fu1 Tryz.prog κ (cPin : Cel Pin) .b g_f cap_f f) (hF : slices_IndexFunc_Pin s f = some r) : Fn0 Tryz.prog 155 κ [.h s1 s.length, .k (.func (.func g_f) #[] cap_f.toArray)] I r :=
 en 19 Tryz.call155 Tryz.func155 tok rfl rfl rfl <| lp () [0, 1, 7] (fun (x2 : Int) (_ : Unit) => [(8, I x2)]) [] [] (fun x2 _ => []) Out.brk [] (fun (_ : Unit) (_ : Unit) => []) [] (fun _ _ => []) rfl hF rfl (fun o_ hF1 x2 _ o1 hG1 hr1 => cs [9] rfl rfl hG1 (fun hG1 => ix cPin rfl h1 hG1 rfl rfl rfl fun x3 _ hG1 _ _ => fa1 h_f x3 () rfl rfl rfl rfl rfl trivial hG1 fun x4 _ hG1 => cs [16] rfl rfl hG1 (fun hG1 => rt () [] (re hG1 rfl hr1 hF1) rfl rfl Tryz.results155 rfl rfl rfl rfl) fun hG1 => nx () [] hG1 rfl rfl) fun hG1 => bk () [] hG1 hr1 rfl rfl) fun () _ hF => rt () [] hF rfl rfl Tryz.results155 rfl rfl rfl rfl
theorem n_slices_ContainsFunc_Pin {κ : Ctx} {s : List Pin} {f : (Pin → Option Bool)} {s1 : AC} {g_f : FuncId} {cap_f : List Value} {r : Bool} (h1 : RdA κ s1 s) (h_f : Fu1 Tryz.prog κ (cPin : Cel Pin) .b g_f cap_f f) (hF : slices_ContainsFunc_Pin s f = some r) : Fn0 Tryz.prog 119 κ [.h s1 s.length, .k (.func (.func g_f) #[] cap_f.toArray)] .b r :=
 en 9 Tryz.call119 Tryz.func119 tok rfl rfl rfl <| cl0 rfl (fun h => n_slices_IndexFunc_Pin (h.a h1) (h.u1 h_f)) hF fun x1 _ hF => rt () [] hF rfl rfl Tryz.results119 rfl rfl rfl rfl
theorem n_impl_ClockOk_1 {κ : Ctx} {p : Pin} {k0 : Clock} {s1 : AC} {b0 : Nat × Nat} {r : Bool} (h1 : RdA κ s1 k0.Pins) (hF : impl_ClockOk_1 p k0 = some r) : FnS Tryz.prog 120 κ [.g [.b p.On, I p.Epoch, .b p.Marked, I p.Seen], .p 0 0] [b0] [.ro 0 [I k0.Epoch, .h s1 k0.Pins.length]] (fun r (_ : Unit) => .b r) (fun _ _ => []) r :=
 en 26 Tryz.call120 Tryz.func120 tok rfl rfl rfl <| cut 0 2 (fun (x1 : Bool) => impl_ClockOk_1_j1 x1 = some r) [] (fun (x1 : Bool) (_ : Unit) => [(3, .b x1)]) [] (fun x1 _ => []) rfl (cl0 rfl (fun _ => n_impl_within) hF fun x2 _ hF => ca [9, 10] rfl rfl hF (fun hF => jn () [] hF rfl rfl) fun hF => cl0 rfl (fun _ => n_impl_within) hF fun x3 _ hF => ca [14, 15, 16] rfl rfl hF (fun hF => jn () [] hF rfl rfl) fun hF => ca [19, 20] rfl rfl hF (fun hF => neS Tryz.eqGuardType168 Tryz.stoodInHeld168 Tryz.underlying168 (eqf_Tryz168 9997 p ((⟨false, 0, false, 0⟩ : Pin))) rfl rfl rfl rfl rfl rfl <| jn () [] hF rfl rfl) fun hF => jn () [] hF rfl rfl) fun x1 _ hF => rt () [] hF rfl rfl Tryz.results120 rfl rfl rfl rfl
theorem n_impl_ClockOk {κ : Ctx} {c : Clock} {s1 : AC} {r : Bool} (h1 : RdA κ s1 c.Pins) (hF : impl_ClockOk c = some r) : Fn0 Tryz.prog 71 κ [.g [I c.Epoch, .h s1 c.Pins.length]] .b r :=
 en 19 Tryz.call71 Tryz.func71 tok rfl rfl rfl <| cut 0 1 (fun (x1 : Bool) => impl_ClockOk_j1 x1 = some r) [] (fun (x1 : Bool) (_ : Unit) => [(2, .b x1)]) [] (fun x1 _ => []) rfl (cl0 rfl (fun _ => n_impl_within) hF fun x2 _ hF => ca [5, 6] rfl rfl hF (fun hF => ca [10, 11, 12] rfl rfl hF (fun hF => mf [0] rfl rfl rfl <| clc1 [0] rfl rfl rfl rfl (fun h => fun hB => n_slices_ContainsFunc_Pin (h.a h1) (fk1 (cs := [(0, [I c.Epoch, .h s1 c.Pins.length])]) Tryz.call120 hB rfl (fun _ => rfl) fun hk _ => n_impl_ClockOk_1 (rk hk (h.a h1)))) hF fun x3 _ hF => jn () [] hF rfl rfl) fun hF => jn () [] hF rfl rfl) fun hF => jn () [] hF rfl rfl) fun x1 _ hF => rt () [] hF rfl rfl Tryz.results71 rfl rfl rfl rfl
theorem n_impl_HandleOk {κ : Ctx} {h : Int}  {r : Bool}  (hF : impl_HandleOk h = some r) : Fn0 Tryz.prog 85 κ [I h] .b r :=
 en 10 Tryz.call85 Tryz.func85 tok rfl rfl rfl <| cut 0 0 (fun (x1 : Bool) => impl_HandleOk_j1 x1 = some r) [] (fun (x1 : Bool) (_ : Unit) => [(2, .b x1)]) [] (fun x1 _ => []) rfl (cl0 rfl (fun _ => n_impl_within) hF fun x2 _ hF => ca [4, 5] rfl rfl hF (fun hF => jn () [] hF rfl rfl) fun hF => jn () [] hF rfl rfl) fun x1 _ hF => rt () [] hF rfl rfl Tryz.results85 rfl rfl rfl rfl
theorem n_impl_LimboOk {κ : Ctx} {l : List LList} {s1 : AC} {r : Bool} (h_s1 : RdA κ s1 l) (hF : impl_LimboOk l = some r) : Fn0 Tryz.prog 72 κ [.h s1 l.length] .b r :=
 oldF Tryz.call72 fun hm vs hv => by cases hv; exact Calls.mono (c_impl_LimboOk (hm (fRd [AC.v s1 l.length] l) h_s1) hF) fun _ _ ⟨v, h1, h2, h3⟩ => ⟨v, h1, by rw [h2]; rfl, h3⟩
theorem n_impl_isLink {κ : Ctx} {h : Int}  {r : Bool}  (hF : impl_isLink h = some r) : Fn0 Tryz.prog 41 κ [I h] .b r :=
 en 9 Tryz.call41 Tryz.func41 tok rfl rfl rfl <| cut 0 0 (fun (x1 : Bool) => impl_isLink_j1 x1 = some r) [] (fun (x1 : Bool) (_ : Unit) => [(2, .b x1)]) [] (fun x1 _ => []) rfl (ca [4, 5] rfl rfl hF (fun hF => jn () [] hF rfl rfl) fun hF => cl0 rfl (fun _ => n_impl_HandleOk) hF fun x2 _ hF => jn () [] hF rfl rfl) fun x1 _ hF => rt () [] hF rfl rfl Tryz.results41 rfl rfl rfl rfl
theorem n_impl_HazOk_1 {κ : Ctx} {h : Int}  {r : Bool}  (hF : impl_HazOk_1 h = some r) : Fn0 Tryz.prog 122 κ [I h] .b r :=
 en 6 Tryz.call122 Tryz.func122 tok rfl rfl rfl <| cl0 rfl (fun _ => n_impl_isLink) hF fun x1 _ hF => rt () [] hF rfl rfl Tryz.results122 rfl rfl rfl rfl
theorem n_impl_HazOk {κ : Ctx} {z : List Int} {s1 : AC} {r : Bool} (h1 : RdA κ s1 z) (hF : impl_HazOk z = some r) : Fn0 Tryz.prog 73 κ [.h s1 z.length] .b r :=
 en 11 Tryz.call73 Tryz.func73 tok rfl rfl rfl <| cut 0 0 (fun (x1 : Bool) => impl_HazOk_j1 x1 = some r) [] (fun (x1 : Bool) (_ : Unit) => [(2, .b x1)]) [] (fun x1 _ => []) rfl (ca [5, 6] rfl rfl hF (fun hF => cl0 rfl (fun h => n_slices_ContainsFunc_int (h.a h1) (fu1 Tryz.call122 fun _ => n_impl_HazOk_1)) hF fun x2 _ hF => jn () [] hF rfl rfl) fun hF => jn () [] hF rfl rfl) fun x1 _ hF => rt () [] hF rfl rfl Tryz.results73 rfl rfl rfl rfl
theorem n_slices_IndexFunc_LList {κ : Ctx} {s : List LList} {f : (LList → Option Bool)} {s1 : AC} {g_f : FuncId} {cap_f : List Value} {r : Int} (h1 : RdA κ s1 s) (h_f : Fu1 Tryz.prog κ (cLList : Cel LList) .b g_f cap_f f) (hF : slices_IndexFunc_LList s f = some r) : Fn0 Tryz.prog 123 κ [.h s1 s.length, .k (.func (.func g_f) #[] cap_f.toArray)] I r :=
 en 19 Tryz.call123 Tryz.func123 tok rfl rfl rfl <| lp () [0, 1, 7] (fun (x2 : Int) (_ : Unit) => [(8, I x2)]) [] [] (fun x2 _ => []) Out.brk [] (fun (_ : Unit) (_ : Unit) => []) [] (fun _ _ => []) rfl hF rfl (fun o_ hF1 x2 _ o1 hG1 hr1 => cs [9] rfl rfl hG1 (fun hG1 => ix cLList rfl h1 hG1 rfl rfl rfl fun x3 _ hG1 s2 h2 => fa1 h_f x3 s2 rfl rfl rfl rfl rfl h2 hG1 fun x4 _ hG1 => cs [16] rfl rfl hG1 (fun hG1 => rt () [] (re hG1 rfl hr1 hF1) rfl rfl Tryz.results123 rfl rfl rfl rfl) fun hG1 => nx () [] hG1 rfl rfl) fun hG1 => bk () [] hG1 hr1 rfl rfl) fun () _ hF => rt () [] hF rfl rfl Tryz.results123 rfl rfl rfl rfl
theorem n_slices_ContainsFunc_LList {κ : Ctx} {s : List LList} {f : (LList → Option Bool)} {s1 : AC} {g_f : FuncId} {cap_f : List Value} {r : Bool} (h1 : RdA κ s1 s) (h_f : Fu1 Tryz.prog κ (cLList : Cel LList) .b g_f cap_f f) (hF : slices_ContainsFunc_LList s f = some r) : Fn0 Tryz.prog 74 κ [.h s1 s.length, .k (.func (.func g_f) #[] cap_f.toArray)] .b r :=
 en 9 Tryz.call74 Tryz.func74 tok rfl rfl rfl <| cl0 rfl (fun h => n_slices_IndexFunc_LList (h.a h1) (h.u1 h_f)) hF fun x1 _ hF => rt () [] hF rfl rfl Tryz.results74 rfl rfl rfl rfl
theorem n_slices_IndexFunc_LRow {κ : Ctx} {s : List LRow} {f : (LRow → Option Bool)} {s1 : AC} {g_f : FuncId} {cap_f : List Value} {r : Int} (h1 : RdA κ s1 s) (h_f : Fu1 Tryz.prog κ (cLRow : Cel LRow) .b g_f cap_f f) (hF : slices_IndexFunc_LRow s f = some r) : Fn0 Tryz.prog 124 κ [.h s1 s.length, .k (.func (.func g_f) #[] cap_f.toArray)] I r :=
 en 19 Tryz.call124 Tryz.func124 tok rfl rfl rfl <| lp () [0, 1, 7] (fun (x2 : Int) (_ : Unit) => [(8, I x2)]) [] [] (fun x2 _ => []) Out.brk [] (fun (_ : Unit) (_ : Unit) => []) [] (fun _ _ => []) rfl hF rfl (fun o_ hF1 x2 _ o1 hG1 hr1 => cs [9] rfl rfl hG1 (fun hG1 => ix cLRow rfl h1 hG1 rfl rfl rfl fun x3 _ hG1 _ _ => fa1 h_f x3 () rfl rfl rfl rfl rfl trivial hG1 fun x4 _ hG1 => cs [16] rfl rfl hG1 (fun hG1 => rt () [] (re hG1 rfl hr1 hF1) rfl rfl Tryz.results124 rfl rfl rfl rfl) fun hG1 => nx () [] hG1 rfl rfl) fun hG1 => bk () [] hG1 hr1 rfl rfl) fun () _ hF => rt () [] hF rfl rfl Tryz.results124 rfl rfl rfl rfl
theorem n_slices_ContainsFunc_LRow {κ : Ctx} {s : List LRow} {f : (LRow → Option Bool)} {s1 : AC} {g_f : FuncId} {cap_f : List Value} {r : Bool} (h1 : RdA κ s1 s) (h_f : Fu1 Tryz.prog κ (cLRow : Cel LRow) .b g_f cap_f f) (hF : slices_ContainsFunc_LRow s f = some r) : Fn0 Tryz.prog 76 κ [.h s1 s.length, .k (.func (.func g_f) #[] cap_f.toArray)] .b r :=
 en 9 Tryz.call76 Tryz.func76 tok rfl rfl rfl <| cl0 rfl (fun h => n_slices_IndexFunc_LRow (h.a h1) (h.u1 h_f)) hF fun x1 _ hF => rt () [] hF rfl rfl Tryz.results76 rfl rfl rfl rfl
theorem n_slices_Index_int {κ : Ctx} {s : List Int} {v : Int} {s1 : AC} {r : Int} (h1 : RdA κ s1 s) (hF : slices_Index_int s v = some r) : Fn0 Tryz.prog 186 κ [.h s1 s.length, I v] I r :=
 en 19 Tryz.call186 Tryz.func186 tok rfl rfl rfl <| lp () [0, 1, 7] (fun (x2 : Int) (_ : Unit) => [(8, I x2)]) [] [] (fun x2 _ => []) Out.brk [] (fun (_ : Unit) (_ : Unit) => []) [] (fun _ _ => []) rfl hF rfl (fun o_ hF1 x2 _ o1 hG1 hr1 => cs [9] rfl rfl hG1 (fun hG1 => ix cI rfl h1 hG1 rfl rfl rfl fun x3 _ hG1 _ _ => cs [16] rfl rfl hG1 (fun hG1 => rt () [] (re hG1 rfl hr1 hF1) rfl rfl Tryz.results186 rfl rfl rfl rfl) fun hG1 => nx () [] hG1 rfl rfl) fun hG1 => bk () [] hG1 hr1 rfl rfl) fun () _ hF => rt () [] hF rfl rfl Tryz.results186 rfl rfl rfl rfl
theorem n_slices_Contains_int {κ : Ctx} {s : List Int} {v : Int} {s1 : AC} {r : Bool} (h1 : RdA κ s1 s) (hF : slices_Contains_int s v = some r) : Fn0 Tryz.prog 179 κ [.h s1 s.length, I v] .b r :=
 en 9 Tryz.call179 Tryz.func179 tok rfl rfl rfl <| cl0 rfl (fun h => n_slices_Index_int (h.a h1)) hF fun x1 _ hF => rt () [] hF rfl rfl Tryz.results179 rfl rfl rfl rfl
theorem n_impl_OnList_1 {κ : Ctx} {s : SList} {k0 : Int} {s1 : AC} {b0 : Nat × Nat} {r : Bool} (h1 : RdA κ s1 s.Slots) (hF : impl_OnList_1 s k0 = some r) : FnS Tryz.prog 178 κ [.g [.h s1 s.Slots.length], .p 0 0] [b0] [.ro 0 [I k0]] (fun r (_ : Unit) => .b r) (fun _ _ => []) r :=
 en 8 Tryz.call178 Tryz.func178 tok rfl rfl rfl <| cl0 rfl (fun h => n_slices_Contains_int (h.a h1)) hF fun x1 _ hF => rt () [] hF rfl rfl Tryz.results178 rfl rfl rfl rfl
theorem n_slices_IndexFunc_SList {κ : Ctx} {s : List SList} {f : (SList → Option Bool)} {s1 : AC} {g_f : FuncId} {cap_f : List Value} {r : Int} (h1 : RdA κ s1 s) (h_f : Fu1 Tryz.prog κ (cSList : Cel SList) .b g_f cap_f f) (hF : slices_IndexFunc_SList s f = some r) : Fn0 Tryz.prog 187 κ [.h s1 s.length, .k (.func (.func g_f) #[] cap_f.toArray)] I r :=
 en 19 Tryz.call187 Tryz.func187 tok rfl rfl rfl <| lp () [0, 1, 7] (fun (x2 : Int) (_ : Unit) => [(8, I x2)]) [] [] (fun x2 _ => []) Out.brk [] (fun (_ : Unit) (_ : Unit) => []) [] (fun _ _ => []) rfl hF rfl (fun o_ hF1 x2 _ o1 hG1 hr1 => cs [9] rfl rfl hG1 (fun hG1 => ix cSList rfl h1 hG1 rfl rfl rfl fun x3 _ hG1 s2 h2 => fa1 h_f x3 s2 rfl rfl rfl rfl rfl h2 hG1 fun x4 _ hG1 => cs [16] rfl rfl hG1 (fun hG1 => rt () [] (re hG1 rfl hr1 hF1) rfl rfl Tryz.results187 rfl rfl rfl rfl) fun hG1 => nx () [] hG1 rfl rfl) fun hG1 => bk () [] hG1 hr1 rfl rfl) fun () _ hF => rt () [] hF rfl rfl Tryz.results187 rfl rfl rfl rfl
theorem n_slices_ContainsFunc_SList {κ : Ctx} {s : List SList} {f : (SList → Option Bool)} {s1 : AC} {g_f : FuncId} {cap_f : List Value} {r : Bool} (h1 : RdA κ s1 s) (h_f : Fu1 Tryz.prog κ (cSList : Cel SList) .b g_f cap_f f) (hF : slices_ContainsFunc_SList s f = some r) : Fn0 Tryz.prog 180 κ [.h s1 s.length, .k (.func (.func g_f) #[] cap_f.toArray)] .b r :=
 en 9 Tryz.call180 Tryz.func180 tok rfl rfl rfl <| cl0 rfl (fun h => n_slices_IndexFunc_SList (h.a h1) (h.u1 h_f)) hF fun x1 _ hF => rt () [] hF rfl rfl Tryz.results180 rfl rfl rfl rfl
theorem n_impl_OnList {κ : Ctx} {l : Lists} {slot : Int} {s1 s2 : AC} {r : Bool} (h1 : RdA κ s1 l.Global) (h2 : RdA κ s2 l.Own) (hF : impl_OnList l slot = some r) : Fn0 Tryz.prog 156 κ [.g [.h s1 l.Global.length, .h s2 l.Own.length], I slot] .b r :=
 en 17 Tryz.call156 Tryz.func156 tok rfl rfl rfl <| mf [1] rfl rfl rfl <| cut 0 2 (fun (x1 : Bool) => impl_OnList_j1 x1 = some r) [] (fun (x1 : Bool) (_ : Unit) => [(4, .b x1)]) [] (fun x1 _ => []) rfl (clc1 [1] rfl rfl rfl rfl (fun h => fun hB => n_slices_ContainsFunc_SList (h.a h1) (fk1 (cs := [(1, [I slot])]) Tryz.call178 hB rfl (fun _ => rfl) fun _ hy => n_impl_OnList_1 hy)) hF fun x2 _ hF => ca [10, 11] rfl rfl hF (fun hF => jn () [] hF rfl rfl) fun hF => clc1 [1] rfl rfl rfl rfl (fun h => fun hB => n_slices_ContainsFunc_SList (h.a h2) (fk1 (cs := [(1, [I slot])]) Tryz.call178 hB rfl (fun _ => rfl) fun _ hy => n_impl_OnList_1 hy)) hF fun x3 _ hF => jn () [] hF rfl rfl) fun x1 _ hF => rt () [] hF rfl rfl Tryz.results156 rfl rfl rfl rfl
theorem n_impl_stateOf {κ : Ctx} {m : Mem} {slot : Int} {s1 s2 s3 s4 : AC} {r : Int} (h1 : RdA κ s1 m.Heap.Bytes) (h2 : RdA κ s2 m.Heap.Class) (h3 : RdA κ s3 m.Lists.Global) (h4 : RdA κ s4 m.Lists.Own) (hF : impl_stateOf m slot = some r) : Fn0 Tryz.prog 125 κ [.g [.h s1 m.Heap.Bytes.length, .h s2 m.Heap.Class.length, .h s3 m.Lists.Global.length, .h s4 m.Lists.Own.length], I slot] I r :=
 en 22 Tryz.call125 Tryz.func125 tok rfl rfl rfl <| cl0 rfl (fun h => n_impl_classIn (h.a h1) (h.a h2)) hF fun x1 _ hF => cs [5, 10] rfl rfl hF (fun hF => rt () [] hF rfl rfl Tryz.results125 rfl rfl rfl rfl) fun hF => cl0 rfl (fun h => n_impl_OnList (h.a h3) (h.a h4)) hF fun x2 _ hF => cs [11, 15] rfl rfl hF (fun hF => rt () [] hF rfl rfl Tryz.results125 rfl rfl rfl rfl) fun hF => cl0 rfl (fun h => n_impl_GenIn (h.a h1) (h.a h2)) hF fun x3 _ hF => cs [16, 21] rfl rfl hF (fun hF => rt () [] hF rfl rfl Tryz.results125 rfl rfl rfl rfl) fun hF => rt () [] hF rfl rfl Tryz.results125 rfl rfl rfl rfl
theorem n_impl_isLive {κ : Ctx} {m : Mem} {h : Int} {s1 s2 s3 s4 : AC} {r : Bool} (h1 : RdA κ s1 m.Heap.Bytes) (h2 : RdA κ s2 m.Heap.Class) (h3 : RdA κ s3 m.Lists.Global) (h4 : RdA κ s4 m.Lists.Own) (hF : impl_isLive m h = some r) : Fn0 Tryz.prog 78 κ [.g [.h s1 m.Heap.Bytes.length, .h s2 m.Heap.Class.length, .h s3 m.Lists.Global.length, .h s4 m.Lists.Own.length], I h] .b r :=
 en 24 Tryz.call78 Tryz.func78 tok rfl rfl rfl <| cut 0 1 (fun (x1 : Bool) => impl_isLive_j1 x1 = some r) [] (fun (x1 : Bool) (_ : Unit) => [(4, .b x1)]) [] (fun x1 _ => []) rfl (cl0 rfl (fun _ => n_impl_HandleOk) hF fun x2 _ hF => ca [6, 7] rfl rfl hF (fun hF => cl0 rfl (fun h => n_impl_stateOf (h.a h1) (h.a h2) (h.a h3) (h.a h4)) hF fun x3 _ hF => ca [12, 13, 14] rfl rfl hF (fun hF => cl0 rfl (fun h => n_impl_GenIn (h.a h1) (h.a h2)) hF fun x4 _ hF => jn () [] hF rfl rfl) fun hF => jn () [] hF rfl rfl) fun hF => jn () [] hF rfl rfl) fun x1 _ hF => rt () [] hF rfl rfl Tryz.results78 rfl rfl rfl rfl
theorem n_impl_BaseOk_1_1 {κ : Ctx} {r_ : LRow} {k0 : Base} {s1 s2 s3 s4 s5 s6 s7 : AC} {b0 : Nat × Nat} {r : Bool} (h1 : RdA κ s1 k0.Mem.Heap.Bytes) (h2 : RdA κ s2 k0.Mem.Heap.Class) (h3 : RdA κ s3 k0.Mem.Lists.Global) (h4 : RdA κ s4 k0.Mem.Lists.Own) (h5 : RdA κ s5 k0.Clock.Pins) (h6 : RdA κ s6 k0.Limbo) (h7 : RdA κ s7 k0.Haz) (hF : impl_BaseOk_1_1 r_ k0 = some r) : FnS Tryz.prog 77 κ [.g [I r_.Handle, I r_.Epoch], .p 0 0] [b0] [.ro 0 [.h s1 k0.Mem.Heap.Bytes.length, .h s2 k0.Mem.Heap.Class.length, .h s3 k0.Mem.Lists.Global.length, .h s4 k0.Mem.Lists.Own.length, I k0.Clock.Epoch, .h s5 k0.Clock.Pins.length, .h s6 k0.Limbo.length, .h s7 k0.Haz.length]] (fun r (_ : Unit) => .b r) (fun _ _ => []) r :=
 en 18 Tryz.call77 Tryz.func77 tok rfl rfl rfl <| cut 0 2 (fun (x1 : Bool) => impl_BaseOk_1_1_j1 x1 = some r) [] (fun (x1 : Bool) (_ : Unit) => [(3, .b x1)]) [] (fun x1 _ => []) rfl (cl0 rfl (fun h => n_impl_isLive (h.a h1) (h.a h2) (h.a h3) (h.a h4)) hF fun x2 _ hF => ca [9, 10] rfl rfl hF (fun hF => jn () [] hF rfl rfl) fun hF => jn () [] hF rfl rfl) fun x1 _ hF => rt () [] hF rfl rfl Tryz.results77 rfl rfl rfl rfl
theorem n_impl_BaseOk_1 {κ : Ctx} {l : LList} {k0 : Base} {s1 : AC} {s2 s3 s4 s5 s6 s7 s8 : AC} {b0 : Nat × Nat} {r : Bool} (h1 : RdA κ s1 l.Rows) (h2 : RdA κ s2 k0.Mem.Heap.Bytes) (h3 : RdA κ s3 k0.Mem.Heap.Class) (h4 : RdA κ s4 k0.Mem.Lists.Global) (h5 : RdA κ s5 k0.Mem.Lists.Own) (h6 : RdA κ s6 k0.Clock.Pins) (h7 : RdA κ s7 k0.Limbo) (h8 : RdA κ s8 k0.Haz) (hF : impl_BaseOk_1 l k0 = some r) : FnS Tryz.prog 75 κ [.g [.h s1 l.Rows.length], .p 0 0] [b0] [.ro 0 [.h s2 k0.Mem.Heap.Bytes.length, .h s3 k0.Mem.Heap.Class.length, .h s4 k0.Mem.Lists.Global.length, .h s5 k0.Mem.Lists.Own.length, I k0.Clock.Epoch, .h s6 k0.Clock.Pins.length, .h s7 k0.Limbo.length, .h s8 k0.Haz.length]] (fun r (_ : Unit) => .b r) (fun _ _ => []) r :=
 en 8 Tryz.call75 Tryz.func75 tok rfl rfl rfl <| mf [0] rfl rfl rfl <| clc1 [0] rfl rfl rfl rfl (fun h => fun hB => n_slices_ContainsFunc_LRow (h.a h1) (fk1 (cs := [(0, [.h s2 k0.Mem.Heap.Bytes.length, .h s3 k0.Mem.Heap.Class.length, .h s4 k0.Mem.Lists.Global.length, .h s5 k0.Mem.Lists.Own.length, I k0.Clock.Epoch, .h s6 k0.Clock.Pins.length, .h s7 k0.Limbo.length, .h s8 k0.Haz.length])]) Tryz.call77 hB rfl (fun _ => rfl) fun hk _ => n_impl_BaseOk_1_1 (rk hk (h.a h2)) (rk hk (h.a h3)) (rk hk (h.a h4)) (rk hk (h.a h5)) (rk hk (h.a h6)) (rk hk (h.a h7)) (rk hk (h.a h8)))) hF fun x1 _ hF => rt () [] hF rfl rfl Tryz.results75 rfl rfl rfl rfl
theorem n_impl_BaseOk {κ : Ctx} {b : Base} {s1 s2 s3 s4 s5 s6 s7 : AC} {r : Bool} (h1 : RdA κ s1 b.Mem.Heap.Bytes) (h2 : RdA κ s2 b.Mem.Heap.Class) (h3 : RdA κ s3 b.Mem.Lists.Global) (h4 : RdA κ s4 b.Mem.Lists.Own) (h5 : RdA κ s5 b.Clock.Pins) (h6 : RdA κ s6 b.Limbo) (h7 : RdA κ s7 b.Haz) (hF : impl_BaseOk b = some r) : Fn0 Tryz.prog 36 κ [.g [.h s1 b.Mem.Heap.Bytes.length, .h s2 b.Mem.Heap.Class.length, .h s3 b.Mem.Lists.Global.length, .h s4 b.Mem.Lists.Own.length, I b.Clock.Epoch, .h s5 b.Clock.Pins.length, .h s6 b.Limbo.length, .h s7 b.Haz.length]] .b r :=
 en 30 Tryz.call36 Tryz.func36 tok rfl rfl rfl <| cut 0 1 (fun (x1 : Bool) => impl_BaseOk_j1 b x1 = some r) [1] (fun (x1 : Bool) (_ : Unit) => [(24, .b x1)]) [0] (fun x1 _ => []) rfl (cl0 rfl (fun h => n_impl_MemOk (h.a h1) (h.a h2) (h.a h3) (h.a h4)) hF fun x3 _ hF => ca [6, 7] rfl rfl hF (fun hF => jn () [0] hF rfl rfl) fun hF => cl0 rfl (fun h => n_impl_ClockOk (h.a h5)) hF fun x4 _ hF => ca [11, 12, 13] rfl rfl hF (fun hF => jn () [0] hF rfl rfl) fun hF => cl0 rfl (fun h => n_impl_LimboOk (h.a h6)) hF fun x5 _ hF => ca [17, 18, 19] rfl rfl hF (fun hF => jn () [0] hF rfl rfl) fun hF => cl0 rfl (fun h => n_impl_HazOk (h.a h7)) hF fun x6 _ hF => jn () [0] hF rfl rfl) fun x1 _ hF => cs [24] rfl rfl hF (fun hF => rt () [] hF rfl rfl Tryz.results36 rfl rfl rfl rfl) fun hF => mf [0] rfl rfl rfl <| clc1 [0] rfl rfl rfl rfl (fun h => fun hB => n_slices_ContainsFunc_LList (h.a h6) (fk1 (cs := [(0, [.h s1 b.Mem.Heap.Bytes.length, .h s2 b.Mem.Heap.Class.length, .h s3 b.Mem.Lists.Global.length, .h s4 b.Mem.Lists.Own.length, I b.Clock.Epoch, .h s5 b.Clock.Pins.length, .h s6 b.Limbo.length, .h s7 b.Haz.length])]) Tryz.call75 hB rfl (fun _ => rfl) fun hk hy => n_impl_BaseOk_1 hy (rk hk (h.a h1)) (rk hk (h.a h2)) (rk hk (h.a h3)) (rk hk (h.a h4)) (rk hk (h.a h5)) (rk hk (h.a h6)) (rk hk (h.a h7)))) hF fun x2 _ hF => rt () [] hF rfl rfl Tryz.results36 rfl rfl rfl rfl
theorem n_slices_IndexFunc_Queue {κ : Ctx} {s : List Queue} {f : (Queue → Option Bool)} {s1 : AC} {g_f : FuncId} {cap_f : List Value} {r : Int} (h1 : RdA κ s1 s) (h_f : Fu1 Tryz.prog κ (cQueue : Cel Queue) .b g_f cap_f f) (hF : slices_IndexFunc_Queue s f = some r) : Fn0 Tryz.prog 127 κ [.h s1 s.length, .k (.func (.func g_f) #[] cap_f.toArray)] I r :=
 en 19 Tryz.call127 Tryz.func127 tok rfl rfl rfl <| lp () [0, 1, 7] (fun (x2 : Int) (_ : Unit) => [(8, I x2)]) [] [] (fun x2 _ => []) Out.brk [] (fun (_ : Unit) (_ : Unit) => []) [] (fun _ _ => []) rfl hF rfl (fun o_ hF1 x2 _ o1 hG1 hr1 => cs [9] rfl rfl hG1 (fun hG1 => ix cQueue rfl h1 hG1 rfl rfl rfl fun x3 _ hG1 s2 h2 => fa1 h_f x3 s2 rfl rfl rfl rfl rfl h2 hG1 fun x4 _ hG1 => cs [16] rfl rfl hG1 (fun hG1 => rt () [] (re hG1 rfl hr1 hF1) rfl rfl Tryz.results127 rfl rfl rfl rfl) fun hG1 => nx () [] hG1 rfl rfl) fun hG1 => bk () [] hG1 hr1 rfl rfl) fun () _ hF => rt () [] hF rfl rfl Tryz.results127 rfl rfl rfl rfl
theorem n_slices_ContainsFunc_Queue {κ : Ctx} {s : List Queue} {f : (Queue → Option Bool)} {s1 : AC} {g_f : FuncId} {cap_f : List Value} {r : Bool} (h1 : RdA κ s1 s) (h_f : Fu1 Tryz.prog κ (cQueue : Cel Queue) .b g_f cap_f f) (hF : slices_ContainsFunc_Queue s f = some r) : Fn0 Tryz.prog 79 κ [.h s1 s.length, .k (.func (.func g_f) #[] cap_f.toArray)] .b r :=
 en 9 Tryz.call79 Tryz.func79 tok rfl rfl rfl <| cl0 rfl (fun h => n_slices_IndexFunc_Queue (h.a h1) (h.u1 h_f)) hF fun x1 _ hF => rt () [] hF rfl rfl Tryz.results79 rfl rfl rfl rfl
theorem n_slices_IndexFunc_Op {κ : Ctx} {s : List GOp} {f : (GOp → Option Bool)} {s1 : AC} {g_f : FuncId} {cap_f : List Value} {r : Int} (h1 : RdA κ s1 s) (h_f : Fu1 Tryz.prog κ (cGOp : Cel GOp) .b g_f cap_f f) (hF : slices_IndexFunc_Op s f = some r) : Fn0 Tryz.prog 128 κ [.h s1 s.length, .k (.func (.func g_f) #[] cap_f.toArray)] I r :=
 en 19 Tryz.call128 Tryz.func128 tok rfl rfl rfl <| lp () [0, 1, 7] (fun (x2 : Int) (_ : Unit) => [(8, I x2)]) [] [] (fun x2 _ => []) Out.brk [] (fun (_ : Unit) (_ : Unit) => []) [] (fun _ _ => []) rfl hF rfl (fun o_ hF1 x2 _ o1 hG1 hr1 => cs [9] rfl rfl hG1 (fun hG1 => ix cGOp rfl h1 hG1 rfl rfl rfl fun x3 _ hG1 _ _ => fa1 h_f x3 () rfl rfl rfl rfl rfl trivial hG1 fun x4 _ hG1 => cs [16] rfl rfl hG1 (fun hG1 => rt () [] (re hG1 rfl hr1 hF1) rfl rfl Tryz.results128 rfl rfl rfl rfl) fun hG1 => nx () [] hG1 rfl rfl) fun hG1 => bk () [] hG1 hr1 rfl rfl) fun () _ hF => rt () [] hF rfl rfl Tryz.results128 rfl rfl rfl rfl
theorem n_slices_ContainsFunc_Op {κ : Ctx} {s : List GOp} {f : (GOp → Option Bool)} {s1 : AC} {g_f : FuncId} {cap_f : List Value} {r : Bool} (h1 : RdA κ s1 s) (h_f : Fu1 Tryz.prog κ (cGOp : Cel GOp) .b g_f cap_f f) (hF : slices_ContainsFunc_Op s f = some r) : Fn0 Tryz.prog 81 κ [.h s1 s.length, .k (.func (.func g_f) #[] cap_f.toArray)] .b r :=
 en 9 Tryz.call81 Tryz.func81 tok rfl rfl rfl <| cl0 rfl (fun h => n_slices_IndexFunc_Op (h.a h1) (h.u1 h_f)) hF fun x1 _ hF => rt () [] hF rfl rfl Tryz.results81 rfl rfl rfl rfl
theorem n_impl_OpOk {κ : Ctx} {o_ : GOp}  {r : Bool}  (hF : impl_OpOk o_ = some r) : Fn0 Tryz.prog 83 κ [.g [I o_.Kind, I o_.Cell, I o_.Size, I o_.Val]] .b r :=
 en 64 Tryz.call83 Tryz.func83 tok rfl rfl rfl <| cut 0 1 (fun (x1 : Bool) => impl_OpOk_j1 o_ x1 = some r) [1] (fun (x1 : Bool) (_ : Unit) => [(3, .b x1)]) [0] (fun x1 _ => []) rfl (caK [6, 7] rfl rfl hF (fun hb8 hF => jn () [0] hF rfl rfl) fun hb8 hF => caK [10, 11, 12] rfl rfl hF (fun hb9 hF => jn () [0] hF rfl rfl) fun hb9 hF => caK [15, 16, 17] rfl rfl hF (fun hb10 hF => jn () [0] hF rfl rfl) fun hb10 hF => jn () [0] hF rfl rfl) fun x1 _ hF => cl0 rfl (fun _ => n_impl_within) hF fun x2 _ hF => csK [22, 26] rfl rfl hF (fun hb1 hF => rt () [] hF rfl rfl Tryz.results83 rfl rfl rfl rfl) fun hb1 hF => cut 0 1 (fun (x3 : Bool) => impl_OpOk_j2 o_ x3 = some r) [1] (fun (x3 : Bool) (_ : Unit) => [(27, .b x3)]) [0] (fun x3 _ => []) rfl (caK [3, 28, 29] rfl rfl hF (fun hb6 hF => cl0 rfl (fun _ => n_impl_within) hF fun x8 _ hF => caK [33, 34, 35] rfl rfl hF (fun hb7 hF => jn () [0] hF rfl rfl) fun hb7 hF => jn () [0] hF rfl rfl) fun hb6 hF => jn () [0] hF rfl rfl) fun x3 _ hF => csK [27] rfl rfl hF (fun hb2 hF => rt () [] hF rfl rfl Tryz.results83 rfl rfl rfl rfl) fun hb2 hF => csK [44, 47] rfl rfl hF (fun hb3 hF => cut 0 1 (fun (x4 : Bool) => impl_OpOk_j3 x4 = some r) [] (fun (x4 : Bool) (_ : Unit) => [(2, .b x4)]) [] (fun x4 _ => []) rfl (cl0 rfl (fun _ => n_impl_within) hF fun x5 _ hF => caK [50, 51] rfl rfl hF (fun hb4 hF => cl0 rfl (fun _ => n_impl_within) hF fun x6 _ hF => jn () [] hF rfl rfl) fun hb4 hF => jn () [] hF rfl rfl) fun x4 _ hF => rt () [] hF rfl rfl Tryz.results83 rfl rfl rfl rfl) fun hb3 hF => cut 0 1 (fun (x7 : Bool) => impl_OpOk_j4 x7 = some r) [] (fun (x7 : Bool) (_ : Unit) => [(2, .b x7)]) [] (fun x7 _ => []) rfl (caK [58, 59] rfl rfl hF (fun hb5 hF => jn () [] hF rfl rfl) fun hb5 hF => jn () [] hF rfl rfl) fun x7 _ hF => rt () [] hF rfl rfl Tryz.results83 rfl rfl rfl rfl
theorem n_impl_todoOk_1_1 {κ : Ctx} {o_ : GOp}  {r : Bool}  (hF : impl_todoOk_1_1 o_ = some r) : Fn0 Tryz.prog 82 κ [.g [I o_.Kind, I o_.Cell, I o_.Size, I o_.Val]] .b r :=
 en 6 Tryz.call82 Tryz.func82 tok rfl rfl rfl <| cl0 rfl (fun _ => n_impl_OpOk) hF fun x1 _ hF => rt () [] hF rfl rfl Tryz.results82 rfl rfl rfl rfl
theorem n_impl_todoOk_1 {κ : Ctx} {q : Queue} {s1 : AC} {r : Bool} (h1 : RdA κ s1 q.Ops) (hF : impl_todoOk_1 q = some r) : Fn0 Tryz.prog 80 κ [.g [.h s1 q.Ops.length]] .b r :=
 en 12 Tryz.call80 Tryz.func80 tok rfl rfl rfl <| cut 0 1 (fun (x1 : Bool) => impl_todoOk_1_j1 x1 = some r) [] (fun (x1 : Bool) (_ : Unit) => [(2, .b x1)]) [] (fun x1 _ => []) rfl (ca [6, 7] rfl rfl hF (fun hF => jn () [] hF rfl rfl) fun hF => cl0 rfl (fun h => n_slices_ContainsFunc_Op (h.a h1) (fu1 Tryz.call82 fun _ => n_impl_todoOk_1_1)) hF fun x2 _ hF => jn () [] hF rfl rfl) fun x1 _ hF => rt () [] hF rfl rfl Tryz.results80 rfl rfl rfl rfl
theorem n_impl_todoOk {κ : Ctx} {todo : List Queue} {s1 : AC} {r : Bool} (h1 : RdA κ s1 todo) (hF : impl_todoOk todo = some r) : Fn0 Tryz.prog 37 κ [.h s1 todo.length] .b r :=
 en 11 Tryz.call37 Tryz.func37 tok rfl rfl rfl <| cut 0 0 (fun (x1 : Bool) => impl_todoOk_j1 x1 = some r) [] (fun (x1 : Bool) (_ : Unit) => [(2, .b x1)]) [] (fun x1 _ => []) rfl (ca [5, 6] rfl rfl hF (fun hF => cl0 rfl (fun h => n_slices_ContainsFunc_Queue (h.a h1) (fu1 Tryz.call80 fun hy => n_impl_todoOk_1 hy)) hF fun x2 _ hF => jn () [] hF rfl rfl) fun hF => jn () [] hF rfl rfl) fun x1 _ hF => rt () [] hF rfl rfl Tryz.results37 rfl rfl rfl rfl
theorem n_impl_ShelfOk_1 {κ : Ctx} {h : Int}  {r : Bool}  (hF : impl_ShelfOk_1 h = some r) : Fn0 Tryz.prog 40 κ [I h] .b r :=
 en 6 Tryz.call40 Tryz.func40 tok rfl rfl rfl <| cl0 rfl (fun _ => n_impl_isLink) hF fun x1 _ hF => rt () [] hF rfl rfl Tryz.results40 rfl rfl rfl rfl
theorem n_slices_IndexFunc_Job {κ : Ctx} {s : List Job} {f : (Job → Option Bool)} {s1 : AC} {g_f : FuncId} {cap_f : List Value} {r : Int} (h1 : RdA κ s1 s) (h_f : Fu1 Tryz.prog κ (cJob : Cel Job) .b g_f cap_f f) (hF : slices_IndexFunc_Job s f = some r) : Fn0 Tryz.prog 86 κ [.h s1 s.length, .k (.func (.func g_f) #[] cap_f.toArray)] I r :=
 en 19 Tryz.call86 Tryz.func86 tok rfl rfl rfl <| lp () [0, 1, 7] (fun (x2 : Int) (_ : Unit) => [(8, I x2)]) [] [] (fun x2 _ => []) Out.brk [] (fun (_ : Unit) (_ : Unit) => []) [] (fun _ _ => []) rfl hF rfl (fun o_ hF1 x2 _ o1 hG1 hr1 => cs [9] rfl rfl hG1 (fun hG1 => ix cJob rfl h1 hG1 rfl rfl rfl fun x3 _ hG1 _ _ => fa1 h_f x3 () rfl rfl rfl rfl rfl trivial hG1 fun x4 _ hG1 => cs [16] rfl rfl hG1 (fun hG1 => rt () [] (re hG1 rfl hr1 hF1) rfl rfl Tryz.results86 rfl rfl rfl rfl) fun hG1 => nx () [] hG1 rfl rfl) fun hG1 => bk () [] hG1 hr1 rfl rfl) fun () _ hF => rt () [] hF rfl rfl Tryz.results86 rfl rfl rfl rfl
theorem n_slices_ContainsFunc_Job {κ : Ctx} {s : List Job} {f : (Job → Option Bool)} {s1 : AC} {g_f : FuncId} {cap_f : List Value} {r : Bool} (h1 : RdA κ s1 s) (h_f : Fu1 Tryz.prog κ (cJob : Cel Job) .b g_f cap_f f) (hF : slices_ContainsFunc_Job s f = some r) : Fn0 Tryz.prog 42 κ [.h s1 s.length, .k (.func (.func g_f) #[] cap_f.toArray)] .b r :=
 en 9 Tryz.call42 Tryz.func42 tok rfl rfl rfl <| cl0 rfl (fun h => n_slices_IndexFunc_Job (h.a h1) (h.u1 h_f)) hF fun x1 _ hF => rt () [] hF rfl rfl Tryz.results42 rfl rfl rfl rfl
theorem n_impl_jobOk {κ : Ctx} {j : Job}  {r : Bool}  (hF : impl_jobOk j = some r) : Fn0 Tryz.prog 44 κ [.g [.b j.Busy, I j.Op.Kind, I j.Op.Cell, I j.Op.Size, I j.Op.Val, I j.Serial, I j.Pc, I j.Sub.Kind, I j.Sub.A, I j.Sub.Pc, I j.Sub.E, I j.Sub.Row, I j.Sub.B, I j.Sub.H, I j.Sub.Out, I j.Sub.Code, .b j.Sub.Done, I j.H, I j.Old, I j.Val, I j.Code]] .b r :=
 en 22 Tryz.call44 Tryz.func44 tok rfl rfl rfl <| cs [5] rfl rfl hF (fun hF => eqS Tryz.eqGuardType73 Tryz.stoodInHeld73 Tryz.underlying73 (eqf_Tryz73 9996 j ((⟨false, (⟨0, 0, 0, 0⟩ : GOp), 0, 0, (⟨0, 0, 0, 0, 0, 0, 0, 0, 0, false⟩ : Sub), 0, 0, 0, 0⟩ : Job))) rfl rfl rfl rfl rfl rfl <| rt () [] hF rfl rfl Tryz.results44 rfl rfl rfl rfl) fun hF => cut 0 1 (fun (x1 : Bool) => impl_jobOk_j1 x1 = some r) [] (fun (x1 : Bool) (_ : Unit) => [(2, .b x1)]) [] (fun x1 _ => []) rfl (cl0 rfl (fun _ => n_impl_OpOk) hF fun x2 _ hF => ca [11, 12] rfl rfl hF (fun hF => cl0 rfl (fun _ => n_impl_isLink) hF fun x3 _ hF => ca [15, 16, 17] rfl rfl hF (fun hF => cl0 rfl (fun _ => n_impl_isLink) hF fun x4 _ hF => jn () [] hF rfl rfl) fun hF => jn () [] hF rfl rfl) fun hF => jn () [] hF rfl rfl) fun x1 _ hF => rt () [] hF rfl rfl Tryz.results44 rfl rfl rfl rfl
theorem n_impl_ShelfOk_2 {κ : Ctx} {j : Job}  {r : Bool}  (hF : impl_ShelfOk_2 j = some r) : Fn0 Tryz.prog 43 κ [.g [.b j.Busy, I j.Op.Kind, I j.Op.Cell, I j.Op.Size, I j.Op.Val, I j.Serial, I j.Pc, I j.Sub.Kind, I j.Sub.A, I j.Sub.Pc, I j.Sub.E, I j.Sub.Row, I j.Sub.B, I j.Sub.H, I j.Sub.Out, I j.Sub.Code, .b j.Sub.Done, I j.H, I j.Old, I j.Val, I j.Code]] .b r :=
 en 6 Tryz.call43 Tryz.func43 tok rfl rfl rfl <| cl0 rfl (fun _ => n_impl_jobOk) hF fun x1 _ hF => rt () [] hF rfl rfl Tryz.results43 rfl rfl rfl rfl
theorem n_impl_ShelfOk {κ : Ctx} {s : Shelf} {s1 s2 s3 s4 s5 s6 s7 s8 s9 s10 s11 : AC} {r : Bool} (h1 : RdA κ s1 s.Base.Mem.Heap.Bytes) (h2 : RdA κ s2 s.Base.Mem.Heap.Class) (h3 : RdA κ s3 s.Base.Mem.Lists.Global) (h4 : RdA κ s4 s.Base.Mem.Lists.Own) (h5 : RdA κ s5 s.Base.Clock.Pins) (h6 : RdA κ s6 s.Base.Limbo) (h7 : RdA κ s7 s.Base.Haz) (h8 : RdA κ s8 s.Cells) (h9 : RdA κ s9 s.Jobs) (h10 : RdA κ s10 s.Todo) (h11 : RdA κ s11 s.Log) (hF : impl_ShelfOk s = some r) : Fn0 Tryz.prog 14 κ [.g [.h s1 s.Base.Mem.Heap.Bytes.length, .h s2 s.Base.Mem.Heap.Class.length, .h s3 s.Base.Mem.Lists.Global.length, .h s4 s.Base.Mem.Lists.Own.length, I s.Base.Clock.Epoch, .h s5 s.Base.Clock.Pins.length, .h s6 s.Base.Limbo.length, .h s7 s.Base.Haz.length, .h s8 s.Cells.length, .h s9 s.Jobs.length, .h s10 s.Todo.length, .h s11 s.Log.length, I s.Serial]] .b r :=
 en 40 Tryz.call14 Tryz.func14 tok rfl rfl rfl <| cut 0 1 (fun (x1 : Bool) => impl_ShelfOk_j1 x1 = some r) [] (fun (x1 : Bool) (_ : Unit) => [(2, .b x1)]) [] (fun x1 _ => []) rfl (cl0 rfl (fun h => n_impl_BaseOk (h.a h1) (h.a h2) (h.a h3) (h.a h4) (h.a h5) (h.a h6) (h.a h7)) hF fun x2 _ hF => ca [5, 6] rfl rfl hF (fun hF => ca [10, 11, 12] rfl rfl hF (fun hF => ca [16, 17, 18] rfl rfl hF (fun hF => cl0 rfl (fun h => n_impl_todoOk (h.a h10)) hF fun x3 _ hF => ca [21, 22, 23] rfl rfl hF (fun hF => cl0 rfl (fun _ => n_impl_within) hF fun x4 _ hF => ca [26, 27, 28] rfl rfl hF (fun hF => cl0 rfl (fun h => n_slices_ContainsFunc_int (h.a h8) (fu1 Tryz.call40 fun _ => n_impl_ShelfOk_1)) hF fun x5 _ hF => ca [32, 33, 34] rfl rfl hF (fun hF => cl0 rfl (fun h => n_slices_ContainsFunc_Job (h.a h9) (fu1 Tryz.call43 fun _ => n_impl_ShelfOk_2)) hF fun x6 _ hF => jn () [] hF rfl rfl) fun hF => jn () [] hF rfl rfl) fun hF => jn () [] hF rfl rfl) fun hF => jn () [] hF rfl rfl) fun hF => jn () [] hF rfl rfl) fun hF => jn () [] hF rfl rfl) fun hF => jn () [] hF rfl rfl) fun x1 _ hF => rt () [] hF rfl rfl Tryz.results14 rfl rfl rfl rfl
theorem n_impl_ClassOf {κ : Ctx} {size : Int}  {r : Int}  (hF : impl_ClassOf size = some r) : Fn0 Tryz.prog 45 κ [I size] I r :=
 en 17 Tryz.call45 Tryz.func45 tok rfl rfl rfl <| lp () [0] (fun (x2 : Int) (_ : Unit) => [(4, I x2)]) [] [] (fun x2 _ => []) Out.brk [] (fun (_ : Unit) (_ : Unit) => []) [] (fun _ _ => []) rfl hF rfl (fun o_ hF1 x2 _ o1 hG1 hr1 => cs [5] rfl rfl hG1 (fun hG1 => cut 0 0 (fun (x3 : Bool) => impl_ClassOf_j2 x2 x3 = some o1) [0, 3, 4] (fun (x3 : Bool) (_ : Unit) => [(14, .b x3)]) [] (fun x3 _ => []) rfl (ca [8, 9] rfl rfl hG1 (fun hG1 => cl0 rfl (fun _ => n_impl_SizeOf) hG1 fun x4 _ hG1 => jn () [] hG1 rfl rfl) fun hG1 => jn () [] hG1 rfl rfl) fun x3 _ hG1 => cs [14] rfl rfl hG1 (fun hG1 => rt () [] (re hG1 rfl hr1 hF1) rfl rfl Tryz.results45 rfl rfl rfl rfl) fun hG1 => nx () [] hG1 rfl rfl) fun hG1 => bk () [] hG1 hr1 rfl rfl) fun () _ hF => rt () [] hF rfl rfl Tryz.results45 rfl rfl rfl rfl
theorem n_impl_isSet {κ : Ctx} {j : Job}  {r : Bool}  (hF : impl_isSet j = some r) : Fn0 Tryz.prog 15 κ [.g [.b j.Busy, I j.Op.Kind, I j.Op.Cell, I j.Op.Size, I j.Op.Val, I j.Serial, I j.Pc, I j.Sub.Kind, I j.Sub.A, I j.Sub.Pc, I j.Sub.E, I j.Sub.Row, I j.Sub.B, I j.Sub.H, I j.Sub.Out, I j.Sub.Code, .b j.Sub.Done, I j.H, I j.Old, I j.Val, I j.Code]] .b r :=
 en 18 Tryz.call15 Tryz.func15 tok rfl rfl rfl <| cut 0 1 (fun (x1 : Bool) => impl_isSet_j1 x1 = some r) [] (fun (x1 : Bool) (_ : Unit) => [(2, .b x1)]) [] (fun x1 _ => []) rfl (ca [4, 5] rfl rfl hF (fun hF => ca [9, 10, 11] rfl rfl hF (fun hF => cl0 rfl (fun _ => n_impl_ClassOf) hF fun x2 _ hF => jn () [] hF rfl rfl) fun hF => jn () [] hF rfl rfl) fun hF => jn () [] hF rfl rfl) fun x1 _ hF => rt () [] hF rfl rfl Tryz.results15 rfl rfl rfl rfl
theorem n_impl_isWorker {κ : Ctx} {w_ : Int}  {r : Bool}  (hF : impl_isWorker w_ = some r) : Fn0 Tryz.prog 130 κ [I w_] .b r :=
 en 5 Tryz.call130 Tryz.func130 tok rfl rfl rfl <| cl0 rfl (fun _ => n_impl_within) hF fun x1 _ hF => rt () [] hF rfl rfl Tryz.results130 rfl rfl rfl rfl
theorem n_impl_OwnAt {κ : Ctx} {w_ : Int} {c : Int}  {r : Int}  (hF : impl_OwnAt w_ c = some r) : Fn0 Tryz.prog 88 κ [I w_, I c] I r :=
 en 17 Tryz.call88 Tryz.func88 tok rfl rfl rfl <| cut 0 0 (fun (x1 : Bool) => impl_OwnAt_j1 w_ c x1 = some r) [0, 1] (fun (x1 : Bool) (_ : Unit) => [(12, .b x1)]) [] (fun x1 _ => []) rfl (cl0 rfl (fun _ => n_impl_isWorker) hF fun x2 _ hF => ca [7, 8] rfl rfl hF (fun hF => jn () [] hF rfl rfl) fun hF => cl0 rfl (fun _ => n_impl_isClass) hF fun x3 _ hF => jn () [] hF rfl rfl) fun x1 _ hF => cs [12] rfl rfl hF (fun hF => rt () [] hF rfl rfl Tryz.results88 rfl rfl rfl rfl) fun hF => rt () [] hF rfl rfl Tryz.results88 rfl rfl rfl rfl
theorem n_impl_Ungranted {κ : Ctx} {h : Heap} {s1 s2 : AC} {r : Int} (h1 : RdA κ s1 h.Bytes) (h2 : RdA κ s2 h.Class) (hF : impl_Ungranted h = some r) : Fn0 Tryz.prog 89 κ [.g [.h s1 h.Bytes.length, .h s2 h.Class.length]] I r :=
 en 19 Tryz.call89 Tryz.func89 tok rfl rfl rfl <| lp () [7, 8] (fun (p : Int × Int) (_ : Unit) => [(3, I p.1), (9, I p.2)]) [] [] (fun p _ => []) id [] (fun (x5 : Int) (_ : Unit) => [(3, I x5)]) [] (fun x5 _ => []) rfl hF rfl (fun o_ hF1 ⟨x3, x4⟩ _ o1 hG1 hr1 => cs [10] rfl rfl hG1 (fun hG1 => cut 2 1 (fun (x6 : Int) => impl_Ungranted_j2 x4 x6 = some o1) [7, 8, 9] (fun (x6 : Int) (_ : Unit) => [(3, I x6)]) [] (fun x6 _ => []) rfl (ix cI rfl h2 hG1 rfl rfl rfl fun x7 _ hG1 _ _ => cs [14] rfl rfl hG1 (fun hG1 => jn () [] hG1 rfl rfl) fun hG1 => jn () [] hG1 rfl rfl) fun x6 _ hG1 => nx () [] hG1 rfl rfl) fun hG1 => bk () [] hG1 hr1 rfl rfl) fun x5 _ hF => rt () [] hF rfl rfl Tryz.results89 rfl rfl rfl rfl
theorem n_impl_exhausted {κ : Ctx} {s : Shelf} {w_ : Int} {s1 s2 s3 s4 s5 s6 s7 s8 s9 s10 s11 : AC} {r : Bool} (h1 : RdA κ s1 s.Base.Mem.Heap.Bytes) (h2 : RdA κ s2 s.Base.Mem.Heap.Class) (h3 : RdA κ s3 s.Base.Mem.Lists.Global) (h4 : RdA κ s4 s.Base.Mem.Lists.Own) (h5 : RdA κ s5 s.Base.Clock.Pins) (h6 : RdA κ s6 s.Base.Limbo) (h7 : RdA κ s7 s.Base.Haz) (h8 : RdA κ s8 s.Cells) (h9 : RdA κ s9 s.Jobs) (h10 : RdA κ s10 s.Todo) (h11 : RdA κ s11 s.Log) (hF : impl_exhausted s w_ = some r) : Fn0 Tryz.prog 46 κ [.g [.h s1 s.Base.Mem.Heap.Bytes.length, .h s2 s.Base.Mem.Heap.Class.length, .h s3 s.Base.Mem.Lists.Global.length, .h s4 s.Base.Mem.Lists.Own.length, I s.Base.Clock.Epoch, .h s5 s.Base.Clock.Pins.length, .h s6 s.Base.Limbo.length, .h s7 s.Base.Haz.length, .h s8 s.Cells.length, .h s9 s.Jobs.length, .h s10 s.Todo.length, .h s11 s.Log.length, I s.Serial], I w_] .b r :=
 en 53 Tryz.call46 Tryz.func46 tok rfl rfl rfl <| ix cJob rfl h9 hF rfl rfl rfl fun x1 _ hF _ _ => cl0 rfl (fun _ => n_impl_isSet) hF fun x2 _ hF => cs [14] rfl rfl hF (fun hF => rt () [] hF rfl rfl Tryz.results46 rfl rfl rfl rfl) fun hF => cl0 rfl (fun _ => n_impl_ClassOf) hF fun x3 _ hF => cut 0 3 (fun (x4 : Bool) => impl_exhausted_j1 x4 = some r) [] (fun (x4 : Bool) (_ : Unit) => [(4, .b x4)]) [] (fun x4 _ => []) rfl (dr [0, 1, 2] rfl mixed_Tryz (by kernel_rfl) fun _ => ix cSList rfl h3 hF rfl rfl rfl fun x5 _ hF s12 h12 => ca [29, 30] rfl rfl hF (fun hF => cl0 rfl (fun _ => n_impl_OwnAt) hF fun x6 _ hF => ix cSList rfl h4 hF rfl rfl rfl fun x7 _ hF s13 h13 => ca [43, 44, 45] rfl rfl hF (fun hF => cl0 rfl (fun h => n_impl_Ungranted (h.a h1) (h.a h2)) hF fun x8 _ hF => jn () [] hF rfl rfl) fun hF => jn () [] hF rfl rfl) fun hF => jn () [] hF rfl rfl) fun x4 _ hF => rt () [] hF rfl rfl Tryz.results46 rfl rfl rfl rfl
theorem n_impl_wasExhausted {κ : Ctx} {l : List Shelf} {w_ : Int} {s1 : AC} {r : Bool} (h1 : RdA κ s1 l) (hF : impl_wasExhausted l w_ = some r) : Fn0 Tryz.prog 16 κ [.h s1 l.length, I w_] .b r :=
 en 55 Tryz.call16 Tryz.func16 tok rfl rfl rfl <| ix cShelf rfl h1 hF rfl rfl rfl fun x1 _ hF s2 h2 => ix cJob rfl h2.2.2.2.2.2.2.2.2.1 hF rfl rfl rfl fun x2 _ hF _ _ => lp () [0, 1, 5] (fun (x4 : Int) (_ : Unit) => [(6, I x4)]) [] [] (fun x4 _ => []) Out.brk [] (fun (_ : Unit) (_ : Unit) => []) [] (fun _ _ => []) rfl hF rfl (fun o_ hF1 x4 _ o1 hG1 hr1 => cut 0 2 (fun (x5 : Bool) => impl_wasExhausted_j2 l w_ x4 x5 = some o1) [0, 1, 5, 6] (fun (x5 : Bool) (_ : Unit) => [(46, .b x5)]) [] (fun x5 _ => []) rfl (ca [22, 23] rfl rfl hG1 (fun hG1 => ix cShelf rfl h1 hG1 rfl rfl rfl fun x8 _ hG1 s4 h4 => ix cJob rfl h4.2.2.2.2.2.2.2.2.1 hG1 rfl rfl rfl fun x9 _ hG1 _ _ => ca [32, 33, 34] rfl rfl hG1 (fun hG1 => ix cShelf rfl h1 hG1 rfl rfl rfl fun x10 _ hG1 s5 h5 => ix cJob rfl h5.2.2.2.2.2.2.2.2.1 hG1 rfl rfl rfl fun x11 _ hG1 _ _ => jn () [] hG1 rfl rfl) fun hG1 => jn () [] hG1 rfl rfl) fun hG1 => jn () [] hG1 rfl rfl) fun x5 _ hG1 => cs [46] rfl rfl hG1 (fun hG1 => ix cShelf rfl h1 hG1 rfl rfl rfl fun x6 _ hG1 s3 h3 => cl0 rfl (fun h => n_impl_exhausted (h.a h3.1) (h.a h3.2.1) (h.a h3.2.2.1) (h.a h3.2.2.2.1) (h.a h3.2.2.2.2.1) (h.a h3.2.2.2.2.2.1) (h.a h3.2.2.2.2.2.2.1) (h.a h3.2.2.2.2.2.2.2.1) (h.a h3.2.2.2.2.2.2.2.2.1) (h.a h3.2.2.2.2.2.2.2.2.2.1) (h.a h3.2.2.2.2.2.2.2.2.2.2)) hG1 fun x7 _ hG1 => cs [54] rfl rfl hG1 (fun hG1 => rt () [] (re hG1 rfl hr1 hF1) rfl rfl Tryz.results16 rfl rfl rfl rfl) fun hG1 => nx () [] hG1 rfl rfl) fun hG1 => bk () [] hG1 hr1 rfl rfl) fun () _ hF => rt () [] hF rfl rfl Tryz.results16 rfl rfl rfl rfl
theorem n_impl_Fair {κ : Ctx} {l : List Shelf} {s1 : AC} {r : Bool} (h1 : RdA κ s1 l) (hF : impl_Fair l = some r) : Fn0 Tryz.prog 7 κ [.h s1 l.length] .b r :=
 en 43 Tryz.call7 Tryz.func7 tok rfl rfl rfl <| lp () [0, 7, 8] (fun (x2 : Int) (_ : Unit) => [(9, I x2)]) [] [] (fun x2 _ => []) Out.brk [] (fun (_ : Unit) (_ : Unit) => []) [] (fun _ _ => []) rfl hF rfl (fun o_ hF1 x2 _ o1 hG1 hr1 => cs [10] rfl rfl hG1 (fun hG1 => ix cShelf rfl h1 hG1 rfl rfl rfl fun x3 _ hG1 s2 h2 => cl0 rfl (fun h => n_impl_ShelfOk (h.a h2.1) (h.a h2.2.1) (h.a h2.2.2.1) (h.a h2.2.2.2.1) (h.a h2.2.2.2.2.1) (h.a h2.2.2.2.2.2.1) (h.a h2.2.2.2.2.2.2.1) (h.a h2.2.2.2.2.2.2.2.1) (h.a h2.2.2.2.2.2.2.2.2.1) (h.a h2.2.2.2.2.2.2.2.2.2.1) (h.a h2.2.2.2.2.2.2.2.2.2.2)) hG1 fun x4 _ hG1 => cs [16] rfl rfl hG1 (fun hG1 => rt () [] (re hG1 rfl hr1 hF1) rfl rfl Tryz.results7 rfl rfl rfl rfl) fun hG1 => lp () [0, 3, 7, 8, 9, 18, 19] (fun (x6 : Int) (_ : Unit) => [(20, I x6)]) [] [] (fun x6 _ => []) Out.brk [0, 7, 8, 9] (fun (_ : Unit) (_ : Unit) => []) [] (fun _ _ => []) rfl hG1 rfl (fun o_ hF2 x6 _ o2 hG2 hr2 => cs [21] rfl rfl hG2 (fun hG2 => ix cJob rfl h2.2.2.2.2.2.2.2.2.1 hG2 rfl rfl rfl fun x7 _ hG2 _ _ => cut 0 4 (fun (x8 : Bool) => impl_Fair_j3 x6 x8 = some o2) [0, 3, 7, 8, 9, 18, 19, 20] (fun (x8 : Bool) (_ : Unit) => [(40, .b x8)]) [] (fun x8 _ => []) rfl (cl0 rfl (fun _ => n_impl_isSet) hG2 fun x9 _ hG2 => ca [26, 27] rfl rfl hG2 (fun hG2 => ca [30, 31, 32] rfl rfl hG2 (fun hG2 => qsb_h rfl rfl rfl rfl rfl h1 rfl rfl hG2 fun hG2 s3 h3 => cl0 rfl (fun h => n_impl_wasExhausted (h.a h3)) hG2 fun x10 _ hG2 => jn () [] hG2 rfl rfl) fun hG2 => jn () [] hG2 rfl rfl) fun hG2 => jn () [] hG2 rfl rfl) fun x8 _ hG2 => cs [40] rfl rfl hG2 (fun hG2 => rt () [] (re (re hG2 rfl hr2 hF2) rfl hr1 hF1) rfl rfl Tryz.results7 rfl rfl rfl rfl) fun hG2 => nx () [] hG2 rfl rfl) fun hG2 => bk () [] hG2 hr2 rfl rfl) fun () _ hG1 => nx () [] hG1 rfl rfl) fun hG1 => bk () [] hG1 hr1 rfl rfl) fun () _ hF => rt () [] hF rfl rfl Tryz.results7 rfl rfl rfl rfl
theorem n_laws_eqIntS {κ : Ctx} {a_ : List Int} {b : List Int} {s1 : AC} {s2 : AC} {r : Bool} (h1 : RdA κ s1 a_) (h2 : RdA κ s2 b) (hF : laws_eqIntS a_ b = some r) : Fn0 Tryz.prog 48 κ [.h s1 a_.length, .h s2 b.length] .b r :=
 en 26 Tryz.call48 Tryz.func48 tok rfl rfl rfl <| cs [10] rfl rfl hF (fun hF => rt () [] hF rfl rfl Tryz.results48 rfl rfl rfl rfl) fun hF => lp () [0, 1] (fun (x2 : Int) (_ : Unit) => [(5, I x2)]) [] [] (fun x2 _ => []) Out.brk [] (fun (_ : Unit) (_ : Unit) => []) [] (fun _ _ => []) rfl hF rfl (fun o_ hF1 x2 _ o1 hG1 hr1 => cs [14] rfl rfl hG1 (fun hG1 => dr [] rfl mixed_Tryz (by kernel_rfl) fun _ => ix cI rfl h1 hG1 rfl rfl rfl fun x3 _ hG1 _ _ => ix cI rfl h2 hG1 rfl rfl rfl fun x4 _ hG1 _ _ => cs [25] rfl rfl hG1 (fun hG1 => rt () [] (re hG1 rfl hr1 hF1) rfl rfl Tryz.results48 rfl rfl rfl rfl) fun hG1 => nx () [] hG1 rfl rfl) fun hG1 => bk () [] hG1 hr1 rfl rfl) fun () _ hF => rt () [] hF rfl rfl Tryz.results48 rfl rfl rfl rfl
theorem n_laws_eqHeap {κ : Ctx} {a_ : Heap} {b : Heap} {s1 s2 : AC} {s3 s4 : AC} {r : Bool} (h1 : RdA κ s1 a_.Bytes) (h2 : RdA κ s2 a_.Class) (h3 : RdA κ s3 b.Bytes) (h4 : RdA κ s4 b.Class) (hF : laws_eqHeap a_ b = some r) : Fn0 Tryz.prog 131 κ [.g [.h s1 a_.Bytes.length, .h s2 a_.Class.length], .g [.h s3 b.Bytes.length, .h s4 b.Class.length]] .b r :=
 en 17 Tryz.call131 Tryz.func131 tok rfl rfl rfl <| cl0 rfl (fun h => n_laws_eqIntS (h.a h1) (h.a h3)) hF fun x1 _ hF => cs [10] rfl rfl hF (fun hF => rt () [] hF rfl rfl Tryz.results131 rfl rfl rfl rfl) fun hF => cl0 rfl (fun h => n_laws_eqIntS (h.a h2) (h.a h4)) hF fun x2 _ hF => cs [16] rfl rfl hF (fun hF => rt () [] hF rfl rfl Tryz.results131 rfl rfl rfl rfl) fun hF => rt () [] hF rfl rfl Tryz.results131 rfl rfl rfl rfl
theorem n_laws_eqSList {κ : Ctx} {a_ : SList} {b : SList} {s1 : AC} {s2 : AC} {r : Bool} (h1 : RdA κ s1 a_.Slots) (h2 : RdA κ s2 b.Slots) (hF : laws_eqSList a_ b = some r) : Fn0 Tryz.prog 181 κ [.g [.h s1 a_.Slots.length], .g [.h s2 b.Slots.length]] .b r :=
 en 11 Tryz.call181 Tryz.func181 tok rfl rfl rfl <| cl0 rfl (fun h => n_laws_eqIntS (h.a h1) (h.a h2)) hF fun x1 _ hF => cs [10] rfl rfl hF (fun hF => rt () [] hF rfl rfl Tryz.results181 rfl rfl rfl rfl) fun hF => rt () [] hF rfl rfl Tryz.results181 rfl rfl rfl rfl
theorem n_laws_eqSListS {κ : Ctx} {a_ : List SList} {b : List SList} {s1 : AC} {s2 : AC} {r : Bool} (h1 : RdA κ s1 a_) (h2 : RdA κ s2 b) (hF : laws_eqSListS a_ b = some r) : Fn0 Tryz.prog 160 κ [.h s1 a_.length, .h s2 b.length] .b r :=
 en 27 Tryz.call160 Tryz.func160 tok rfl rfl rfl <| cs [10] rfl rfl hF (fun hF => rt () [] hF rfl rfl Tryz.results160 rfl rfl rfl rfl) fun hF => lp () [0, 1] (fun (x2 : Int) (_ : Unit) => [(5, I x2)]) [] [] (fun x2 _ => []) Out.brk [] (fun (_ : Unit) (_ : Unit) => []) [] (fun _ _ => []) rfl hF rfl (fun o_ hF1 x2 _ o1 hG1 hr1 => cs [14] rfl rfl hG1 (fun hG1 => dr [] rfl mixed_Tryz (by kernel_rfl) fun _ => ix cSList rfl h1 hG1 rfl rfl rfl fun x3 _ hG1 s3 h3 => ix cSList rfl h2 hG1 rfl rfl rfl fun x4 _ hG1 s4 h4 => cl0 rfl (fun h => n_laws_eqSList (h.a h3) (h.a h4)) hG1 fun x5 _ hG1 => cs [26] rfl rfl hG1 (fun hG1 => rt () [] (re hG1 rfl hr1 hF1) rfl rfl Tryz.results160 rfl rfl rfl rfl) fun hG1 => nx () [] hG1 rfl rfl) fun hG1 => bk () [] hG1 hr1 rfl rfl) fun () _ hF => rt () [] hF rfl rfl Tryz.results160 rfl rfl rfl rfl
theorem n_laws_eqLists {κ : Ctx} {a_ : Lists} {b : Lists} {s1 s2 : AC} {s3 s4 : AC} {r : Bool} (h1 : RdA κ s1 a_.Global) (h2 : RdA κ s2 a_.Own) (h3 : RdA κ s3 b.Global) (h4 : RdA κ s4 b.Own) (hF : laws_eqLists a_ b = some r) : Fn0 Tryz.prog 132 κ [.g [.h s1 a_.Global.length, .h s2 a_.Own.length], .g [.h s3 b.Global.length, .h s4 b.Own.length]] .b r :=
 en 17 Tryz.call132 Tryz.func132 tok rfl rfl rfl <| cl0 rfl (fun h => n_laws_eqSListS (h.a h1) (h.a h3)) hF fun x1 _ hF => cs [10] rfl rfl hF (fun hF => rt () [] hF rfl rfl Tryz.results132 rfl rfl rfl rfl) fun hF => cl0 rfl (fun h => n_laws_eqSListS (h.a h2) (h.a h4)) hF fun x2 _ hF => cs [16] rfl rfl hF (fun hF => rt () [] hF rfl rfl Tryz.results132 rfl rfl rfl rfl) fun hF => rt () [] hF rfl rfl Tryz.results132 rfl rfl rfl rfl
theorem n_laws_eqMem {κ : Ctx} {a_ : Mem} {b : Mem} {s1 s2 s3 s4 : AC} {s5 s6 s7 s8 : AC} {r : Bool} (h1 : RdA κ s1 a_.Heap.Bytes) (h2 : RdA κ s2 a_.Heap.Class) (h3 : RdA κ s3 a_.Lists.Global) (h4 : RdA κ s4 a_.Lists.Own) (h5 : RdA κ s5 b.Heap.Bytes) (h6 : RdA κ s6 b.Heap.Class) (h7 : RdA κ s7 b.Lists.Global) (h8 : RdA κ s8 b.Lists.Own) (hF : laws_eqMem a_ b = some r) : Fn0 Tryz.prog 90 κ [.g [.h s1 a_.Heap.Bytes.length, .h s2 a_.Heap.Class.length, .h s3 a_.Lists.Global.length, .h s4 a_.Lists.Own.length], .g [.h s5 b.Heap.Bytes.length, .h s6 b.Heap.Class.length, .h s7 b.Lists.Global.length, .h s8 b.Lists.Own.length]] .b r :=
 en 17 Tryz.call90 Tryz.func90 tok rfl rfl rfl <| cl0 rfl (fun h => n_laws_eqHeap (h.a h1) (h.a h2) (h.a h5) (h.a h6)) hF fun x1 _ hF => cs [10] rfl rfl hF (fun hF => rt () [] hF rfl rfl Tryz.results90 rfl rfl rfl rfl) fun hF => cl0 rfl (fun h => n_laws_eqLists (h.a h3) (h.a h4) (h.a h7) (h.a h8)) hF fun x2 _ hF => cs [16] rfl rfl hF (fun hF => rt () [] hF rfl rfl Tryz.results90 rfl rfl rfl rfl) fun hF => rt () [] hF rfl rfl Tryz.results90 rfl rfl rfl rfl
theorem n_laws_eqPin {κ : Ctx} {a_ : Pin} {b : Pin}  {r : Bool}  (hF : laws_eqPin a_ b = some r) : Fn0 Tryz.prog 161 κ [.g [.b a_.On, I a_.Epoch, .b a_.Marked, I a_.Seen], .g [.b b.On, I b.Epoch, .b b.Marked, I b.Seen]] .b r :=
 en 25 Tryz.call161 Tryz.func161 tok rfl rfl rfl <| cs [9] rfl rfl hF (fun hF => rt () [] hF rfl rfl Tryz.results161 rfl rfl rfl rfl) fun hF => cs [14] rfl rfl hF (fun hF => rt () [] hF rfl rfl Tryz.results161 rfl rfl rfl rfl) fun hF => cs [19] rfl rfl hF (fun hF => rt () [] hF rfl rfl Tryz.results161 rfl rfl rfl rfl) fun hF => cs [24] rfl rfl hF (fun hF => rt () [] hF rfl rfl Tryz.results161 rfl rfl rfl rfl) fun hF => rt () [] hF rfl rfl Tryz.results161 rfl rfl rfl rfl
theorem n_laws_eqPinS {κ : Ctx} {a_ : List Pin} {b : List Pin} {s1 : AC} {s2 : AC} {r : Bool} (h1 : RdA κ s1 a_) (h2 : RdA κ s2 b) (hF : laws_eqPinS a_ b = some r) : Fn0 Tryz.prog 133 κ [.h s1 a_.length, .h s2 b.length] .b r :=
 en 27 Tryz.call133 Tryz.func133 tok rfl rfl rfl <| cs [10] rfl rfl hF (fun hF => rt () [] hF rfl rfl Tryz.results133 rfl rfl rfl rfl) fun hF => lp () [0, 1] (fun (x2 : Int) (_ : Unit) => [(5, I x2)]) [] [] (fun x2 _ => []) Out.brk [] (fun (_ : Unit) (_ : Unit) => []) [] (fun _ _ => []) rfl hF rfl (fun o_ hF1 x2 _ o1 hG1 hr1 => cs [14] rfl rfl hG1 (fun hG1 => dr [] rfl mixed_Tryz (by kernel_rfl) fun _ => ix cPin rfl h1 hG1 rfl rfl rfl fun x3 _ hG1 _ _ => ix cPin rfl h2 hG1 rfl rfl rfl fun x4 _ hG1 _ _ => cl0 rfl (fun _ => n_laws_eqPin) hG1 fun x5 _ hG1 => cs [26] rfl rfl hG1 (fun hG1 => rt () [] (re hG1 rfl hr1 hF1) rfl rfl Tryz.results133 rfl rfl rfl rfl) fun hG1 => nx () [] hG1 rfl rfl) fun hG1 => bk () [] hG1 hr1 rfl rfl) fun () _ hF => rt () [] hF rfl rfl Tryz.results133 rfl rfl rfl rfl
theorem n_laws_eqClock {κ : Ctx} {a_ : Clock} {b : Clock} {s1 : AC} {s2 : AC} {r : Bool} (h1 : RdA κ s1 a_.Pins) (h2 : RdA κ s2 b.Pins) (hF : laws_eqClock a_ b = some r) : Fn0 Tryz.prog 91 κ [.g [I a_.Epoch, .h s1 a_.Pins.length], .g [I b.Epoch, .h s2 b.Pins.length]] .b r :=
 en 16 Tryz.call91 Tryz.func91 tok rfl rfl rfl <| cs [9] rfl rfl hF (fun hF => rt () [] hF rfl rfl Tryz.results91 rfl rfl rfl rfl) fun hF => cl0 rfl (fun h => n_laws_eqPinS (h.a h1) (h.a h2)) hF fun x1 _ hF => cs [15] rfl rfl hF (fun hF => rt () [] hF rfl rfl Tryz.results91 rfl rfl rfl rfl) fun hF => rt () [] hF rfl rfl Tryz.results91 rfl rfl rfl rfl
theorem n_laws_eqLRow {κ : Ctx} {a_ : LRow} {b : LRow}  {r : Bool}  (hF : laws_eqLRow a_ b = some r) : Fn0 Tryz.prog 182 κ [.g [I a_.Handle, I a_.Epoch], .g [I b.Handle, I b.Epoch]] .b r :=
 en 15 Tryz.call182 Tryz.func182 tok rfl rfl rfl <| cs [9] rfl rfl hF (fun hF => rt () [] hF rfl rfl Tryz.results182 rfl rfl rfl rfl) fun hF => cs [14] rfl rfl hF (fun hF => rt () [] hF rfl rfl Tryz.results182 rfl rfl rfl rfl) fun hF => rt () [] hF rfl rfl Tryz.results182 rfl rfl rfl rfl
theorem n_laws_eqLRowS {κ : Ctx} {a_ : List LRow} {b : List LRow} {s1 : AC} {s2 : AC} {r : Bool} (h1 : RdA κ s1 a_) (h2 : RdA κ s2 b) (hF : laws_eqLRowS a_ b = some r) : Fn0 Tryz.prog 162 κ [.h s1 a_.length, .h s2 b.length] .b r :=
 en 27 Tryz.call162 Tryz.func162 tok rfl rfl rfl <| cs [10] rfl rfl hF (fun hF => rt () [] hF rfl rfl Tryz.results162 rfl rfl rfl rfl) fun hF => lp () [0, 1] (fun (x2 : Int) (_ : Unit) => [(5, I x2)]) [] [] (fun x2 _ => []) Out.brk [] (fun (_ : Unit) (_ : Unit) => []) [] (fun _ _ => []) rfl hF rfl (fun o_ hF1 x2 _ o1 hG1 hr1 => cs [14] rfl rfl hG1 (fun hG1 => dr [] rfl mixed_Tryz (by kernel_rfl) fun _ => ix cLRow rfl h1 hG1 rfl rfl rfl fun x3 _ hG1 _ _ => ix cLRow rfl h2 hG1 rfl rfl rfl fun x4 _ hG1 _ _ => cl0 rfl (fun _ => n_laws_eqLRow) hG1 fun x5 _ hG1 => cs [26] rfl rfl hG1 (fun hG1 => rt () [] (re hG1 rfl hr1 hF1) rfl rfl Tryz.results162 rfl rfl rfl rfl) fun hG1 => nx () [] hG1 rfl rfl) fun hG1 => bk () [] hG1 hr1 rfl rfl) fun () _ hF => rt () [] hF rfl rfl Tryz.results162 rfl rfl rfl rfl
theorem n_laws_eqLList {κ : Ctx} {a_ : LList} {b : LList} {s1 : AC} {s2 : AC} {r : Bool} (h1 : RdA κ s1 a_.Rows) (h2 : RdA κ s2 b.Rows) (hF : laws_eqLList a_ b = some r) : Fn0 Tryz.prog 134 κ [.g [.h s1 a_.Rows.length], .g [.h s2 b.Rows.length]] .b r :=
 en 11 Tryz.call134 Tryz.func134 tok rfl rfl rfl <| cl0 rfl (fun h => n_laws_eqLRowS (h.a h1) (h.a h2)) hF fun x1 _ hF => cs [10] rfl rfl hF (fun hF => rt () [] hF rfl rfl Tryz.results134 rfl rfl rfl rfl) fun hF => rt () [] hF rfl rfl Tryz.results134 rfl rfl rfl rfl
theorem n_laws_eqLListS {κ : Ctx} {a_ : List LList} {b : List LList} {s1 : AC} {s2 : AC} {r : Bool} (h1 : RdA κ s1 a_) (h2 : RdA κ s2 b) (hF : laws_eqLListS a_ b = some r) : Fn0 Tryz.prog 92 κ [.h s1 a_.length, .h s2 b.length] .b r :=
 en 27 Tryz.call92 Tryz.func92 tok rfl rfl rfl <| cs [10] rfl rfl hF (fun hF => rt () [] hF rfl rfl Tryz.results92 rfl rfl rfl rfl) fun hF => lp () [0, 1] (fun (x2 : Int) (_ : Unit) => [(5, I x2)]) [] [] (fun x2 _ => []) Out.brk [] (fun (_ : Unit) (_ : Unit) => []) [] (fun _ _ => []) rfl hF rfl (fun o_ hF1 x2 _ o1 hG1 hr1 => cs [14] rfl rfl hG1 (fun hG1 => dr [] rfl mixed_Tryz (by kernel_rfl) fun _ => ix cLList rfl h1 hG1 rfl rfl rfl fun x3 _ hG1 s3 h3 => ix cLList rfl h2 hG1 rfl rfl rfl fun x4 _ hG1 s4 h4 => cl0 rfl (fun h => n_laws_eqLList (h.a h3) (h.a h4)) hG1 fun x5 _ hG1 => cs [26] rfl rfl hG1 (fun hG1 => rt () [] (re hG1 rfl hr1 hF1) rfl rfl Tryz.results92 rfl rfl rfl rfl) fun hG1 => nx () [] hG1 rfl rfl) fun hG1 => bk () [] hG1 hr1 rfl rfl) fun () _ hF => rt () [] hF rfl rfl Tryz.results92 rfl rfl rfl rfl
theorem n_laws_eqBase {κ : Ctx} {a_ : Base} {b : Base} {s1 s2 s3 s4 s5 s6 s7 : AC} {s8 s9 s10 s11 s12 s13 s14 : AC} {r : Bool} (h1 : RdA κ s1 a_.Mem.Heap.Bytes) (h2 : RdA κ s2 a_.Mem.Heap.Class) (h3 : RdA κ s3 a_.Mem.Lists.Global) (h4 : RdA κ s4 a_.Mem.Lists.Own) (h5 : RdA κ s5 a_.Clock.Pins) (h6 : RdA κ s6 a_.Limbo) (h7 : RdA κ s7 a_.Haz) (h8 : RdA κ s8 b.Mem.Heap.Bytes) (h9 : RdA κ s9 b.Mem.Heap.Class) (h10 : RdA κ s10 b.Mem.Lists.Global) (h11 : RdA κ s11 b.Mem.Lists.Own) (h12 : RdA κ s12 b.Clock.Pins) (h13 : RdA κ s13 b.Limbo) (h14 : RdA κ s14 b.Haz) (hF : laws_eqBase a_ b = some r) : Fn0 Tryz.prog 47 κ [.g [.h s1 a_.Mem.Heap.Bytes.length, .h s2 a_.Mem.Heap.Class.length, .h s3 a_.Mem.Lists.Global.length, .h s4 a_.Mem.Lists.Own.length, I a_.Clock.Epoch, .h s5 a_.Clock.Pins.length, .h s6 a_.Limbo.length, .h s7 a_.Haz.length], .g [.h s8 b.Mem.Heap.Bytes.length, .h s9 b.Mem.Heap.Class.length, .h s10 b.Mem.Lists.Global.length, .h s11 b.Mem.Lists.Own.length, I b.Clock.Epoch, .h s12 b.Clock.Pins.length, .h s13 b.Limbo.length, .h s14 b.Haz.length]] .b r :=
 en 29 Tryz.call47 Tryz.func47 tok rfl rfl rfl <| cl0 rfl (fun h => n_laws_eqMem (h.a h1) (h.a h2) (h.a h3) (h.a h4) (h.a h8) (h.a h9) (h.a h10) (h.a h11)) hF fun x1 _ hF => cs [10] rfl rfl hF (fun hF => rt () [] hF rfl rfl Tryz.results47 rfl rfl rfl rfl) fun hF => cl0 rfl (fun h => n_laws_eqClock (h.a h5) (h.a h12)) hF fun x2 _ hF => cs [16] rfl rfl hF (fun hF => rt () [] hF rfl rfl Tryz.results47 rfl rfl rfl rfl) fun hF => cl0 rfl (fun h => n_laws_eqLListS (h.a h6) (h.a h13)) hF fun x3 _ hF => cs [22] rfl rfl hF (fun hF => rt () [] hF rfl rfl Tryz.results47 rfl rfl rfl rfl) fun hF => cl0 rfl (fun h => n_laws_eqIntS (h.a h7) (h.a h14)) hF fun x4 _ hF => cs [28] rfl rfl hF (fun hF => rt () [] hF rfl rfl Tryz.results47 rfl rfl rfl rfl) fun hF => rt () [] hF rfl rfl Tryz.results47 rfl rfl rfl rfl
theorem n_laws_eqOp {κ : Ctx} {a_ : GOp} {b : GOp}  {r : Bool}  (hF : laws_eqOp a_ b = some r) : Fn0 Tryz.prog 135 κ [.g [I a_.Kind, I a_.Cell, I a_.Size, I a_.Val], .g [I b.Kind, I b.Cell, I b.Size, I b.Val]] .b r :=
 en 25 Tryz.call135 Tryz.func135 tok rfl rfl rfl <| cs [9] rfl rfl hF (fun hF => rt () [] hF rfl rfl Tryz.results135 rfl rfl rfl rfl) fun hF => cs [14] rfl rfl hF (fun hF => rt () [] hF rfl rfl Tryz.results135 rfl rfl rfl rfl) fun hF => cs [19] rfl rfl hF (fun hF => rt () [] hF rfl rfl Tryz.results135 rfl rfl rfl rfl) fun hF => cs [24] rfl rfl hF (fun hF => rt () [] hF rfl rfl Tryz.results135 rfl rfl rfl rfl) fun hF => rt () [] hF rfl rfl Tryz.results135 rfl rfl rfl rfl
theorem n_laws_eqSub {κ : Ctx} {a_ : Sub} {b : Sub}  {r : Bool}  (hF : laws_eqSub a_ b = some r) : Fn0 Tryz.prog 136 κ [.g [I a_.Kind, I a_.A, I a_.Pc, I a_.E, I a_.Row, I a_.B, I a_.H, I a_.Out, I a_.Code, .b a_.Done], .g [I b.Kind, I b.A, I b.Pc, I b.E, I b.Row, I b.B, I b.H, I b.Out, I b.Code, .b b.Done]] .b r :=
 en 55 Tryz.call136 Tryz.func136 tok rfl rfl rfl <| cs [9] rfl rfl hF (fun hF => rt () [] hF rfl rfl Tryz.results136 rfl rfl rfl rfl) fun hF => cs [14] rfl rfl hF (fun hF => rt () [] hF rfl rfl Tryz.results136 rfl rfl rfl rfl) fun hF => cs [19] rfl rfl hF (fun hF => rt () [] hF rfl rfl Tryz.results136 rfl rfl rfl rfl) fun hF => cs [24] rfl rfl hF (fun hF => rt () [] hF rfl rfl Tryz.results136 rfl rfl rfl rfl) fun hF => cs [29] rfl rfl hF (fun hF => rt () [] hF rfl rfl Tryz.results136 rfl rfl rfl rfl) fun hF => cs [34] rfl rfl hF (fun hF => rt () [] hF rfl rfl Tryz.results136 rfl rfl rfl rfl) fun hF => cs [39] rfl rfl hF (fun hF => rt () [] hF rfl rfl Tryz.results136 rfl rfl rfl rfl) fun hF => cs [44] rfl rfl hF (fun hF => rt () [] hF rfl rfl Tryz.results136 rfl rfl rfl rfl) fun hF => cs [49] rfl rfl hF (fun hF => rt () [] hF rfl rfl Tryz.results136 rfl rfl rfl rfl) fun hF => cs [54] rfl rfl hF (fun hF => rt () [] hF rfl rfl Tryz.results136 rfl rfl rfl rfl) fun hF => rt () [] hF rfl rfl Tryz.results136 rfl rfl rfl rfl
theorem n_laws_eqJob {κ : Ctx} {a_ : Job} {b : Job}  {r : Bool}  (hF : laws_eqJob a_ b = some r) : Fn0 Tryz.prog 93 κ [.g [.b a_.Busy, I a_.Op.Kind, I a_.Op.Cell, I a_.Op.Size, I a_.Op.Val, I a_.Serial, I a_.Pc, I a_.Sub.Kind, I a_.Sub.A, I a_.Sub.Pc, I a_.Sub.E, I a_.Sub.Row, I a_.Sub.B, I a_.Sub.H, I a_.Sub.Out, I a_.Sub.Code, .b a_.Sub.Done, I a_.H, I a_.Old, I a_.Val, I a_.Code], .g [.b b.Busy, I b.Op.Kind, I b.Op.Cell, I b.Op.Size, I b.Op.Val, I b.Serial, I b.Pc, I b.Sub.Kind, I b.Sub.A, I b.Sub.Pc, I b.Sub.E, I b.Sub.Row, I b.Sub.B, I b.Sub.H, I b.Sub.Out, I b.Sub.Code, .b b.Sub.Done, I b.H, I b.Old, I b.Val, I b.Code]] .b r :=
 en 52 Tryz.call93 Tryz.func93 tok rfl rfl rfl <| cs [9] rfl rfl hF (fun hF => rt () [] hF rfl rfl Tryz.results93 rfl rfl rfl rfl) fun hF => cl0 rfl (fun _ => n_laws_eqOp) hF fun x1 _ hF => cs [15] rfl rfl hF (fun hF => rt () [] hF rfl rfl Tryz.results93 rfl rfl rfl rfl) fun hF => cs [20] rfl rfl hF (fun hF => rt () [] hF rfl rfl Tryz.results93 rfl rfl rfl rfl) fun hF => cs [25] rfl rfl hF (fun hF => rt () [] hF rfl rfl Tryz.results93 rfl rfl rfl rfl) fun hF => cl0 rfl (fun _ => n_laws_eqSub) hF fun x2 _ hF => cs [31] rfl rfl hF (fun hF => rt () [] hF rfl rfl Tryz.results93 rfl rfl rfl rfl) fun hF => cs [36] rfl rfl hF (fun hF => rt () [] hF rfl rfl Tryz.results93 rfl rfl rfl rfl) fun hF => cs [41] rfl rfl hF (fun hF => rt () [] hF rfl rfl Tryz.results93 rfl rfl rfl rfl) fun hF => cs [46] rfl rfl hF (fun hF => rt () [] hF rfl rfl Tryz.results93 rfl rfl rfl rfl) fun hF => cs [51] rfl rfl hF (fun hF => rt () [] hF rfl rfl Tryz.results93 rfl rfl rfl rfl) fun hF => rt () [] hF rfl rfl Tryz.results93 rfl rfl rfl rfl
theorem n_laws_eqJobS {κ : Ctx} {a_ : List Job} {b : List Job} {s1 : AC} {s2 : AC} {r : Bool} (h1 : RdA κ s1 a_) (h2 : RdA κ s2 b) (hF : laws_eqJobS a_ b = some r) : Fn0 Tryz.prog 49 κ [.h s1 a_.length, .h s2 b.length] .b r :=
 en 27 Tryz.call49 Tryz.func49 tok rfl rfl rfl <| cs [10] rfl rfl hF (fun hF => rt () [] hF rfl rfl Tryz.results49 rfl rfl rfl rfl) fun hF => lp () [0, 1] (fun (x2 : Int) (_ : Unit) => [(5, I x2)]) [] [] (fun x2 _ => []) Out.brk [] (fun (_ : Unit) (_ : Unit) => []) [] (fun _ _ => []) rfl hF rfl (fun o_ hF1 x2 _ o1 hG1 hr1 => cs [14] rfl rfl hG1 (fun hG1 => dr [] rfl mixed_Tryz (by kernel_rfl) fun _ => ix cJob rfl h1 hG1 rfl rfl rfl fun x3 _ hG1 _ _ => ix cJob rfl h2 hG1 rfl rfl rfl fun x4 _ hG1 _ _ => cl0 rfl (fun _ => n_laws_eqJob) hG1 fun x5 _ hG1 => cs [26] rfl rfl hG1 (fun hG1 => rt () [] (re hG1 rfl hr1 hF1) rfl rfl Tryz.results49 rfl rfl rfl rfl) fun hG1 => nx () [] hG1 rfl rfl) fun hG1 => bk () [] hG1 hr1 rfl rfl) fun () _ hF => rt () [] hF rfl rfl Tryz.results49 rfl rfl rfl rfl
theorem n_laws_eqOpS {κ : Ctx} {a_ : List GOp} {b : List GOp} {s1 : AC} {s2 : AC} {r : Bool} (h1 : RdA κ s1 a_) (h2 : RdA κ s2 b) (hF : laws_eqOpS a_ b = some r) : Fn0 Tryz.prog 137 κ [.h s1 a_.length, .h s2 b.length] .b r :=
 en 27 Tryz.call137 Tryz.func137 tok rfl rfl rfl <| cs [10] rfl rfl hF (fun hF => rt () [] hF rfl rfl Tryz.results137 rfl rfl rfl rfl) fun hF => lp () [0, 1] (fun (x2 : Int) (_ : Unit) => [(5, I x2)]) [] [] (fun x2 _ => []) Out.brk [] (fun (_ : Unit) (_ : Unit) => []) [] (fun _ _ => []) rfl hF rfl (fun o_ hF1 x2 _ o1 hG1 hr1 => cs [14] rfl rfl hG1 (fun hG1 => dr [] rfl mixed_Tryz (by kernel_rfl) fun _ => ix cGOp rfl h1 hG1 rfl rfl rfl fun x3 _ hG1 _ _ => ix cGOp rfl h2 hG1 rfl rfl rfl fun x4 _ hG1 _ _ => cl0 rfl (fun _ => n_laws_eqOp) hG1 fun x5 _ hG1 => cs [26] rfl rfl hG1 (fun hG1 => rt () [] (re hG1 rfl hr1 hF1) rfl rfl Tryz.results137 rfl rfl rfl rfl) fun hG1 => nx () [] hG1 rfl rfl) fun hG1 => bk () [] hG1 hr1 rfl rfl) fun () _ hF => rt () [] hF rfl rfl Tryz.results137 rfl rfl rfl rfl
theorem n_laws_eqQueue {κ : Ctx} {a_ : Queue} {b : Queue} {s1 : AC} {s2 : AC} {r : Bool} (h1 : RdA κ s1 a_.Ops) (h2 : RdA κ s2 b.Ops) (hF : laws_eqQueue a_ b = some r) : Fn0 Tryz.prog 94 κ [.g [.h s1 a_.Ops.length], .g [.h s2 b.Ops.length]] .b r :=
 en 11 Tryz.call94 Tryz.func94 tok rfl rfl rfl <| cl0 rfl (fun h => n_laws_eqOpS (h.a h1) (h.a h2)) hF fun x1 _ hF => cs [10] rfl rfl hF (fun hF => rt () [] hF rfl rfl Tryz.results94 rfl rfl rfl rfl) fun hF => rt () [] hF rfl rfl Tryz.results94 rfl rfl rfl rfl
theorem n_laws_eqQueueS {κ : Ctx} {a_ : List Queue} {b : List Queue} {s1 : AC} {s2 : AC} {r : Bool} (h1 : RdA κ s1 a_) (h2 : RdA κ s2 b) (hF : laws_eqQueueS a_ b = some r) : Fn0 Tryz.prog 50 κ [.h s1 a_.length, .h s2 b.length] .b r :=
 en 27 Tryz.call50 Tryz.func50 tok rfl rfl rfl <| cs [10] rfl rfl hF (fun hF => rt () [] hF rfl rfl Tryz.results50 rfl rfl rfl rfl) fun hF => lp () [0, 1] (fun (x2 : Int) (_ : Unit) => [(5, I x2)]) [] [] (fun x2 _ => []) Out.brk [] (fun (_ : Unit) (_ : Unit) => []) [] (fun _ _ => []) rfl hF rfl (fun o_ hF1 x2 _ o1 hG1 hr1 => cs [14] rfl rfl hG1 (fun hG1 => dr [] rfl mixed_Tryz (by kernel_rfl) fun _ => ix cQueue rfl h1 hG1 rfl rfl rfl fun x3 _ hG1 s3 h3 => ix cQueue rfl h2 hG1 rfl rfl rfl fun x4 _ hG1 s4 h4 => cl0 rfl (fun h => n_laws_eqQueue (h.a h3) (h.a h4)) hG1 fun x5 _ hG1 => cs [26] rfl rfl hG1 (fun hG1 => rt () [] (re hG1 rfl hr1 hF1) rfl rfl Tryz.results50 rfl rfl rfl rfl) fun hG1 => nx () [] hG1 rfl rfl) fun hG1 => bk () [] hG1 hr1 rfl rfl) fun () _ hF => rt () [] hF rfl rfl Tryz.results50 rfl rfl rfl rfl
theorem n_laws_eqEv {κ : Ctx} {a_ : Ev} {b : Ev}  {r : Bool}  (hF : laws_eqEv a_ b = some r) : Fn0 Tryz.prog 95 κ [.g [I a_.Kind, I a_.Who, I a_.Serial, I a_.Cell, I a_.Handle, I a_.Val, I a_.Code], .g [I b.Kind, I b.Who, I b.Serial, I b.Cell, I b.Handle, I b.Val, I b.Code]] .b r :=
 en 40 Tryz.call95 Tryz.func95 tok rfl rfl rfl <| cs [9] rfl rfl hF (fun hF => rt () [] hF rfl rfl Tryz.results95 rfl rfl rfl rfl) fun hF => cs [14] rfl rfl hF (fun hF => rt () [] hF rfl rfl Tryz.results95 rfl rfl rfl rfl) fun hF => cs [19] rfl rfl hF (fun hF => rt () [] hF rfl rfl Tryz.results95 rfl rfl rfl rfl) fun hF => cs [24] rfl rfl hF (fun hF => rt () [] hF rfl rfl Tryz.results95 rfl rfl rfl rfl) fun hF => cs [29] rfl rfl hF (fun hF => rt () [] hF rfl rfl Tryz.results95 rfl rfl rfl rfl) fun hF => cs [34] rfl rfl hF (fun hF => rt () [] hF rfl rfl Tryz.results95 rfl rfl rfl rfl) fun hF => cs [39] rfl rfl hF (fun hF => rt () [] hF rfl rfl Tryz.results95 rfl rfl rfl rfl) fun hF => rt () [] hF rfl rfl Tryz.results95 rfl rfl rfl rfl
theorem n_laws_eqEvS {κ : Ctx} {a_ : List Ev} {b : List Ev} {s1 : AC} {s2 : AC} {r : Bool} (h1 : RdA κ s1 a_) (h2 : RdA κ s2 b) (hF : laws_eqEvS a_ b = some r) : Fn0 Tryz.prog 51 κ [.h s1 a_.length, .h s2 b.length] .b r :=
 en 27 Tryz.call51 Tryz.func51 tok rfl rfl rfl <| cs [10] rfl rfl hF (fun hF => rt () [] hF rfl rfl Tryz.results51 rfl rfl rfl rfl) fun hF => lp () [0, 1] (fun (x2 : Int) (_ : Unit) => [(5, I x2)]) [] [] (fun x2 _ => []) Out.brk [] (fun (_ : Unit) (_ : Unit) => []) [] (fun _ _ => []) rfl hF rfl (fun o_ hF1 x2 _ o1 hG1 hr1 => cs [14] rfl rfl hG1 (fun hG1 => dr [] rfl mixed_Tryz (by kernel_rfl) fun _ => ix cEv rfl h1 hG1 rfl rfl rfl fun x3 _ hG1 _ _ => ix cEv rfl h2 hG1 rfl rfl rfl fun x4 _ hG1 _ _ => cl0 rfl (fun _ => n_laws_eqEv) hG1 fun x5 _ hG1 => cs [26] rfl rfl hG1 (fun hG1 => rt () [] (re hG1 rfl hr1 hF1) rfl rfl Tryz.results51 rfl rfl rfl rfl) fun hG1 => nx () [] hG1 rfl rfl) fun hG1 => bk () [] hG1 hr1 rfl rfl) fun () _ hF => rt () [] hF rfl rfl Tryz.results51 rfl rfl rfl rfl
theorem n_laws_eqShelf {κ : Ctx} {a_ : Shelf} {b : Shelf} {s1 s2 s3 s4 s5 s6 s7 s8 s9 s10 s11 : AC} {s12 s13 s14 s15 s16 s17 s18 s19 s20 s21 s22 : AC} {r : Bool} (h1 : RdA κ s1 a_.Base.Mem.Heap.Bytes) (h2 : RdA κ s2 a_.Base.Mem.Heap.Class) (h3 : RdA κ s3 a_.Base.Mem.Lists.Global) (h4 : RdA κ s4 a_.Base.Mem.Lists.Own) (h5 : RdA κ s5 a_.Base.Clock.Pins) (h6 : RdA κ s6 a_.Base.Limbo) (h7 : RdA κ s7 a_.Base.Haz) (h8 : RdA κ s8 a_.Cells) (h9 : RdA κ s9 a_.Jobs) (h10 : RdA κ s10 a_.Todo) (h11 : RdA κ s11 a_.Log) (h12 : RdA κ s12 b.Base.Mem.Heap.Bytes) (h13 : RdA κ s13 b.Base.Mem.Heap.Class) (h14 : RdA κ s14 b.Base.Mem.Lists.Global) (h15 : RdA κ s15 b.Base.Mem.Lists.Own) (h16 : RdA κ s16 b.Base.Clock.Pins) (h17 : RdA κ s17 b.Base.Limbo) (h18 : RdA κ s18 b.Base.Haz) (h19 : RdA κ s19 b.Cells) (h20 : RdA κ s20 b.Jobs) (h21 : RdA κ s21 b.Todo) (h22 : RdA κ s22 b.Log) (hF : laws_eqShelf a_ b = some r) : Fn0 Tryz.prog 17 κ [.g [.h s1 a_.Base.Mem.Heap.Bytes.length, .h s2 a_.Base.Mem.Heap.Class.length, .h s3 a_.Base.Mem.Lists.Global.length, .h s4 a_.Base.Mem.Lists.Own.length, I a_.Base.Clock.Epoch, .h s5 a_.Base.Clock.Pins.length, .h s6 a_.Base.Limbo.length, .h s7 a_.Base.Haz.length, .h s8 a_.Cells.length, .h s9 a_.Jobs.length, .h s10 a_.Todo.length, .h s11 a_.Log.length, I a_.Serial], .g [.h s12 b.Base.Mem.Heap.Bytes.length, .h s13 b.Base.Mem.Heap.Class.length, .h s14 b.Base.Mem.Lists.Global.length, .h s15 b.Base.Mem.Lists.Own.length, I b.Base.Clock.Epoch, .h s16 b.Base.Clock.Pins.length, .h s17 b.Base.Limbo.length, .h s18 b.Base.Haz.length, .h s19 b.Cells.length, .h s20 b.Jobs.length, .h s21 b.Todo.length, .h s22 b.Log.length, I b.Serial]] .b r :=
 en 40 Tryz.call17 Tryz.func17 tok rfl rfl rfl <| cl0 rfl (fun h => n_laws_eqBase (h.a h1) (h.a h2) (h.a h3) (h.a h4) (h.a h5) (h.a h6) (h.a h7) (h.a h12) (h.a h13) (h.a h14) (h.a h15) (h.a h16) (h.a h17) (h.a h18)) hF fun x1 _ hF => cs [10] rfl rfl hF (fun hF => rt () [] hF rfl rfl Tryz.results17 rfl rfl rfl rfl) fun hF => cl0 rfl (fun h => n_laws_eqIntS (h.a h8) (h.a h19)) hF fun x2 _ hF => cs [16] rfl rfl hF (fun hF => rt () [] hF rfl rfl Tryz.results17 rfl rfl rfl rfl) fun hF => cl0 rfl (fun h => n_laws_eqJobS (h.a h9) (h.a h20)) hF fun x3 _ hF => cs [22] rfl rfl hF (fun hF => rt () [] hF rfl rfl Tryz.results17 rfl rfl rfl rfl) fun hF => cl0 rfl (fun h => n_laws_eqQueueS (h.a h10) (h.a h21)) hF fun x4 _ hF => cs [28] rfl rfl hF (fun hF => rt () [] hF rfl rfl Tryz.results17 rfl rfl rfl rfl) fun hF => cl0 rfl (fun h => n_laws_eqEvS (h.a h11) (h.a h22)) hF fun x5 _ hF => cs [34] rfl rfl hF (fun hF => rt () [] hF rfl rfl Tryz.results17 rfl rfl rfl rfl) fun hF => cs [39] rfl rfl hF (fun hF => rt () [] hF rfl rfl Tryz.results17 rfl rfl rfl rfl) fun hF => rt () [] hF rfl rfl Tryz.results17 rfl rfl rfl rfl
theorem n_laws_eqShelfS {κ : Ctx} {a_ : List Shelf} {b : List Shelf} {s1 : AC} {s2 : AC} {r : Bool} (h1 : RdA κ s1 a_) (h2 : RdA κ s2 b) (hF : laws_eqShelfS a_ b = some r) : Fn0 Tryz.prog 8 κ [.h s1 a_.length, .h s2 b.length] .b r :=
 en 27 Tryz.call8 Tryz.func8 tok rfl rfl rfl <| cs [10] rfl rfl hF (fun hF => rt () [] hF rfl rfl Tryz.results8 rfl rfl rfl rfl) fun hF => lp () [0, 1] (fun (x2 : Int) (_ : Unit) => [(5, I x2)]) [] [] (fun x2 _ => []) Out.brk [] (fun (_ : Unit) (_ : Unit) => []) [] (fun _ _ => []) rfl hF rfl (fun o_ hF1 x2 _ o1 hG1 hr1 => cs [14] rfl rfl hG1 (fun hG1 => dr [] rfl mixed_Tryz (by kernel_rfl) fun _ => ix cShelf rfl h1 hG1 rfl rfl rfl fun x3 _ hG1 s3 h3 => ix cShelf rfl h2 hG1 rfl rfl rfl fun x4 _ hG1 s4 h4 => cl0 rfl (fun h => n_laws_eqShelf (h.a h3.1) (h.a h3.2.1) (h.a h3.2.2.1) (h.a h3.2.2.2.1) (h.a h3.2.2.2.2.1) (h.a h3.2.2.2.2.2.1) (h.a h3.2.2.2.2.2.2.1) (h.a h3.2.2.2.2.2.2.2.1) (h.a h3.2.2.2.2.2.2.2.2.1) (h.a h3.2.2.2.2.2.2.2.2.2.1) (h.a h3.2.2.2.2.2.2.2.2.2.2) (h.a h4.1) (h.a h4.2.1) (h.a h4.2.2.1) (h.a h4.2.2.2.1) (h.a h4.2.2.2.2.1) (h.a h4.2.2.2.2.2.1) (h.a h4.2.2.2.2.2.2.1) (h.a h4.2.2.2.2.2.2.2.1) (h.a h4.2.2.2.2.2.2.2.2.1) (h.a h4.2.2.2.2.2.2.2.2.2.1) (h.a h4.2.2.2.2.2.2.2.2.2.2)) hG1 fun x5 _ hG1 => cs [26] rfl rfl hG1 (fun hG1 => rt () [] (re hG1 rfl hr1 hF1) rfl rfl Tryz.results8 rfl rfl rfl rfl) fun hG1 => nx () [] hG1 rfl rfl) fun hG1 => bk () [] hG1 hr1 rfl rfl) fun () _ hF => rt () [] hF rfl rfl Tryz.results8 rfl rfl rfl rfl
theorem n_laws_FnExactFair {κ : Ctx} {aL : List Shelf} {s1 : AC} {r : Bool} (h1 : RdA κ s1 aL) (hF : laws_FnExactFair aL = some r) : Fn0 Tryz.prog 3 κ [.h s1 aL.length] .b r :=
 en 27 Tryz.call3 Tryz.func3 tok rfl rfl rfl <| cl0 rfl (fun h => n_laws_szShelfS (h.a h1)) hF fun x1 _ hF => cs [11] rfl rfl hF (fun hF => rt () [] hF rfl rfl Tryz.results3 rfl rfl rfl rfl) fun hF => cl rfl (fun _ _ => rfl) (fun h => n_laws_toShelfS (h.a h1)) hF fun x2 _ hF s2 => cl0 rfl (fun h => n_spec_Fair (h.o 0 rfl)) hF fun x3 _ hF => cl rfl (fun _ _ => rfl) (fun h => n_laws_toShelfS (h.a h1)) hF fun x4 _ hF s3 => cl0 rfl (fun h => n_impl_Fair (h.o 1 rfl)) hF fun x5 _ hF => cs [21] rfl rfl hF (fun hF => rt () [] hF rfl rfl Tryz.results3 rfl rfl rfl rfl) fun hF => cl rfl (fun _ _ => rfl) (fun h => n_laws_toShelfS (h.a h1)) hF fun x6 _ hF s4 => cl0 rfl (fun h => n_laws_eqShelfS (h.o 1 rfl) (h.o 2 rfl)) hF fun x7 _ hF => cs [26] rfl rfl hF (fun hF => rt () [] hF rfl rfl Tryz.results3 rfl rfl rfl rfl) fun hF => rt () [] hF rfl rfl Tryz.results3 rfl rfl rfl rfl
end Go.Proofs.YtkcicilgoehljabGreat
end
section
set_option linter.unusedVariables false
set_option linter.unusedSimpArgs false
namespace Go.Gv
theorem enum_eq {σ ρ : Type} {f : σ → Option (Step σ ρ)} (n : Nat) (S : Nat → σ) (r : ρ) (hs : ∀ k, k < n → f (S k) = some (.next (S (k + 1)))) (he : f (S n) = some (.stop r)) : loop f (S 0) = some r := by
  have key : ∀ d k, k + d = n → loop f (S k) = some r := by
    intro d
    induction d with
    | zero => intro k hk; obtain rfl : k = n := by omega
              exact loop_stop he
    | succ d ih => intro k hk; rw [loop_next (hs k (by omega))]; exact ih (k + 1) (by omega)
  exact key n 0 (by omega)
theorem enum_scan {σ ρ : Type} {f : σ → Option (Step σ ρ)} (n : Nat) (S : Nat → σ) (g : Nat → ρ)
    (h : ∀ k, k ≤ n → f (S k) = some (.stop (g k)) ∨ (k < n ∧ f (S k) = some (.next (S (k + 1))) ∧ g k = g (k + 1))) : ∀ k, k ≤ n → loop f (S k) = some (g k) := by
  have key : ∀ d k, k + d = n → loop f (S k) = some (g k) := by
    intro d
    induction d with
    | zero =>
      intro k hk
      rcases h k (by omega) with h1 | ⟨h1, _⟩
      · exact loop_stop h1
      · omega
    | succ d ih =>
      intro k hk
      rcases h k (by omega) with h1 | ⟨_, h2, h3⟩
      · exact loop_stop h1
      · rw [loop_next h2, h3]; exact ih (k + 1) (by omega)
  intro k hk
  exact key (n - k) k (by omega)
theorem scan_all {σ ρ : Type} {f : σ → Option (Step σ ρ)} (n : Nat) (S : Nat → σ) (p : Nat → Prop) [DecidablePred p] (yes no : ρ)
    (h1 : ∀ k, k < n → p k → f (S k) = some (.next (S (k + 1)))) (h2 : ∀ k, k < n → ¬ p k → f (S k) = some (.stop no)) (h3 : f (S n) = some (.stop yes)) :
    loop f (S 0) = some (if ∀ k, k < n → p k then yes else no) := by
  classical
  have key : ∀ d k, k + d = n → loop f (S k) = some (if ∀ j, k ≤ j → j < n → p j then yes else no) := by
    intro d
    induction d with
    | zero =>
      intro k hk; obtain rfl : k = n := by omega
      rw [loop_stop h3, if_pos (fun j a b => by omega)]
    | succ d ih =>
      intro k hk
      by_cases hp : p k
      · rw [loop_next (h1 k (by omega) hp), ih (k + 1) (by omega)]
        by_cases h : ∀ j, k + 1 ≤ j → j < n → p j
        · rw [if_pos h, if_pos]
          intro j a b
          by_cases e : j = k
          · subst e; exact hp
          · exact h j (by omega) b
        · rw [if_neg h, if_neg]
          exact fun q => h fun j a b => q j (by omega) b
      · rw [loop_stop (h2 k (by omega) hp), if_neg]
        exact fun q => hp (q k (Nat.le_refl _) (by omega))
  have := key n 0 (by omega)
  rw [this]
  by_cases h : ∀ k, k < n → p k
  · rw [if_pos h, if_pos (fun j _ b => h j b)]
  · rw [if_neg h, if_neg (fun q => h fun k a => q k (Nat.zero_le _) a)]
theorem scan_list {α σ ρ : Type} {f : σ → Option (Step σ ρ)} (l : List α) (S : Nat → σ) (p : α → Prop) [DecidablePred p] (yes no : ρ)
    (h1 : ∀ k (h : k < l.length), p l[k] → f (S k) = some (.next (S (k + 1)))) (h2 : ∀ k (h : k < l.length), ¬ p l[k] → f (S k) = some (.stop no)) (h3 : f (S l.length) = some (.stop yes)) :
    loop f (S 0) = some (if ∀ x ∈ l, p x then yes else no) := by
  classical
  have := scan_all (f := f) l.length S (fun k => ∀ h : k < l.length, p l[k]) yes no (fun k h hp => h1 k h (hp h)) (fun k h hp => h2 k h (fun q => hp fun _ => q)) h3
  rw [this]
  by_cases h : ∀ x ∈ l, p x
  · rw [if_pos h, if_pos (fun k hk _ => h _ (List.getElem_mem hk))]
  · rw [if_neg h, if_neg]
    intro q
    refine h fun x hx => ?_
    obtain ⟨k, hk, rfl⟩ := List.mem_iff_getElem.1 hx
    exact q k hk hk
theorem w64_in {x : Int} (h1 : -9223372036854775808 ≤ x) (h2 : x ≤ 9223372036854775807) : w64 x = x := w64_id ⟨h1, h2⟩
theorem idx_in {α : Type} {l : List α} {i : Int} (h0 : 0 ≤ i) (h1 : i < l.length) : idx l i = some (l[i.toNat]'(by omega)) := idx_eq h0 h1
theorem tdiv_pos {x y : Int} (h1 : 0 ≤ x) : x.tdiv y = x / y := Int.tdiv_eq_ediv_of_nonneg h1
theorem tmod_pos {x y : Int} (h1 : 0 ≤ x) : x.tmod y = x % y := Int.tmod_eq_emod_of_nonneg h1
end Go.Gv
end
section
set_option linter.unusedVariables false
set_option linter.unusedSimpArgs false
namespace Go.Gv
theorem within_eq (n a b : Int) : impl_within n a b = some (decide (a ≤ n ∧ n ≤ b)) := by
  unfold impl_within impl_within_j1
  by_cases h : a ≤ n <;> simp [h]
theorem l1In_eq (n a b : Int) : spec_l1In n a b = some (decide (a ≤ n ∧ n ≤ b)) := by
  unfold spec_l1In spec_l1In_j1
  by_cases h : a ≤ n <;> simp [h]
theorem map_take {α β : Type} (f : α → β) {l : List α} {k : Nat} (h : k < l.length) : (l.take (k + 1)).map f = (l.take k).map f ++ [f l[k]] := by
  rw [List.take_succ_eq_append_getElem h, List.map_append]; rfl
end Go.Gv
end
section
set_option linter.unusedVariables false
set_option linter.unusedSimpArgs false
namespace Go.Gv
def sizeC (c : Int) : Int := if c = 0 then 8 else if c = 1 then 16 else if c = 2 then 40 else 0
def strideC (c : Int) : Int := if c = 0 then 12 else if c = 1 then 20 else if c = 2 then 44 else 0
def perC (c : Int) : Int := if c = 0 then 4 else if c = 1 then 2 else if c = 2 then 1 else 0
theorem cls_cases {c : Int} (h : 0 ≤ c ∧ c ≤ 2) : c = 0 ∨ c = 1 ∨ c = 2 := by omega
theorem sizeC_no {c : Int} (h : ¬ (0 ≤ c ∧ c ≤ 2)) : sizeC c = 0 := by unfold sizeC; rw [if_neg (by omega), if_neg (by omega), if_neg (by omega)]
theorem strideC_no {c : Int} (h : ¬ (0 ≤ c ∧ c ≤ 2)) : strideC c = 0 := by unfold strideC; rw [if_neg (by omega), if_neg (by omega), if_neg (by omega)]
theorem perC_no {c : Int} (h : ¬ (0 ≤ c ∧ c ≤ 2)) : perC c = 0 := by unfold perC; rw [if_neg (by omega), if_neg (by omega), if_neg (by omega)]
theorem perC_le (c : Int) : 0 ≤ perC c ∧ perC c ≤ 4 := by unfold perC; split <;> (try split) <;> (try split) <;> omega
theorem strideC_le (c : Int) : 0 ≤ strideC c ∧ strideC c ≤ 44 := by unfold strideC; split <;> (try split) <;> (try split) <;> omega
theorem perC_pos {c : Int} : 0 < perC c ↔ 0 ≤ c ∧ c ≤ 2 := by
  unfold perC; constructor
  · intro h; split at h <;> (try split at h) <;> (try split at h) <;> omega
  · intro h; rcases cls_cases h with rfl | rfl | rfl <;> decide
theorem spec_SizeOf_eq (c : Int) : spec_SizeOf c = some (sizeC c) := by
  unfold spec_SizeOf sizeC
  by_cases h0 : c = 0 <;> by_cases h1 : c = 1 <;> by_cases h2 : c = 2 <;> simp [h0, h1, h2]
theorem impl_isClass_eq (c : Int) : impl_isClass c = some (decide (0 ≤ c ∧ c ≤ 2)) := by simp [impl_isClass, within_eq]
theorem impl_SizeOf_eq (c : Int) : impl_SizeOf c = some (sizeC c) := by
  unfold impl_SizeOf
  rw [impl_isClass_eq]
  by_cases h : 0 ≤ c ∧ c ≤ 2
  · rcases cls_cases h with rfl | rfl | rfl <;> rfl
  · simp [h, sizeC_no h]
theorem spec_StrideOf_eq (c : Int) : spec_StrideOf c = some (strideC c) := by
  unfold spec_StrideOf
  rw [l1In_eq]
  by_cases h : 0 ≤ c ∧ c ≤ 2
  · rcases cls_cases h with rfl | rfl | rfl <;> rfl
  · simp [h, strideC_no h]
theorem impl_StrideOf_eq (c : Int) : impl_StrideOf c = some (strideC c) := by
  unfold impl_StrideOf
  rw [impl_isClass_eq]
  by_cases h : 0 ≤ c ∧ c ≤ 2
  · rcases cls_cases h with rfl | rfl | rfl <;> rfl
  · simp [h, strideC_no h]
theorem spec_PerPage_eq (c : Int) : spec_PerPage c = some (perC c) := by
  unfold spec_PerPage
  rw [l1In_eq]
  by_cases h : 0 ≤ c ∧ c ≤ 2
  · rcases cls_cases h with rfl | rfl | rfl <;> rfl
  · simp [h, perC_no h]
theorem impl_PerPage_eq (c : Int) : impl_PerPage c = some (perC c) := by
  unfold impl_PerPage
  rw [impl_isClass_eq]
  by_cases h : 0 ≤ c ∧ c ≤ 2
  · rcases cls_cases h with rfl | rfl | rfl <;> rfl
  · simp [h, perC_no h]
theorem spec_PageOf_eq (s : Int) : spec_PageOf s = some (if 0 ≤ s ∧ s ≤ 23 then s / 4 else -1) := by
  unfold spec_PageOf
  rw [l1In_eq]
  by_cases h : 0 ≤ s ∧ s ≤ 23
  · simp [h, tdiv_pos h.1]; rw [w64_in (by omega) (by omega)]
  · simp [h]
theorem spec_IndexOf_eq (s : Int) : spec_IndexOf s = some (if 0 ≤ s ∧ s ≤ 23 then s % 4 else -1) := by
  unfold spec_IndexOf
  rw [l1In_eq]
  by_cases h : 0 ≤ s ∧ s ≤ 23
  · simp [h, tmod_pos h.1]
  · simp [h]
def genC (s c : Int) : Int := if (0 ≤ s ∧ s ≤ 23) ∧ s % 4 < perC c then s / 4 * 64 + 8 + s % 4 * strideC c else -1
theorem mul_stride {i c : Int} (h0 : 0 ≤ i) (h1 : i < perC c) : 0 ≤ i * strideC c ∧ i * strideC c + strideC c ≤ 56 := by
  unfold perC at h1; unfold strideC
  split at h1
  · rw [if_pos ‹_›]; omega
  · split at h1
    · rw [if_neg ‹_›, if_pos ‹_›]; omega
    · split at h1
      · rw [if_neg ‹_›, if_neg ‹_›, if_pos ‹_›]; omega
      · omega
theorem spec_GenAt_eq (s c : Int) : spec_GenAt s c = some (genC s c) := by
  unfold spec_GenAt spec_GenAt_j1 genC
  rw [spec_PageOf_eq, spec_IndexOf_eq, spec_PerPage_eq, spec_StrideOf_eq]
  by_cases h : 0 ≤ s ∧ s ≤ 23
  · have hp := perC_le c
    have h1 : ¬ s / 4 < 0 := by omega
    have h2 : w64 (perC c - 1) = perC c - 1 := w64_in (by omega) (by omega)
    by_cases h3 : s % 4 < perC c
    · have hm := mul_stride (by omega) h3
      have hs := strideC_le c
      have h4 : 0 ≤ s % 4 ∧ s % 4 ≤ perC c - 1 := by omega
      have h5 : ¬ perC c - 1 < s % 4 := by omega
      have e1 : w64 (s / 4 * 64) = s / 4 * 64 := w64_in (by omega) (by omega)
      have e2 : w64 (s / 4 * 64 + 8) = s / 4 * 64 + 8 := w64_in (by omega) (by omega)
      have e3 : w64 (s % 4 * strideC c) = s % 4 * strideC c := w64_in (by omega) (by omega)
      have e4 : w64 (s / 4 * 64 + 8 + s % 4 * strideC c) = s / 4 * 64 + 8 + s % 4 * strideC c := w64_in (by omega) (by omega)
      simp [h, h1, h2, h3, h4, h5, l1In_eq, e1, e2, e3, e4]
    · have h4 : ¬ s % 4 ≤ perC c - 1 := by omega
      simp [h, h1, h2, h3, h4, l1In_eq]
  · simp [h]
theorem impl_isSlot_eq (s : Int) : impl_isSlot s = some (decide (0 ≤ s ∧ s ≤ 23)) := by simp [impl_isSlot, within_eq]
theorem impl_GenAt_eq (s c : Int) : impl_GenAt s c = some (genC s c) := by
  unfold impl_GenAt impl_GenAt_j1 genC
  rw [impl_isSlot_eq, impl_isClass_eq, impl_PerPage_eq, impl_StrideOf_eq]
  by_cases h : 0 ≤ s ∧ s ≤ 23
  · have hp := perC_le c
    rw [tmod_pos h.1, tdiv_pos h.1]
    by_cases h3 : s % 4 < perC c
    · have hm := mul_stride (by omega) h3
      have hs := strideC_le c
      have hc : 0 ≤ c ∧ c ≤ 2 := perC_pos.1 (by omega)
      have e0 : w64 (s / 4) = s / 4 := w64_in (by omega) (by omega)
      have e1 : w64 (s / 4 * 64) = s / 4 * 64 := w64_in (by omega) (by omega)
      have e2 : w64 (s / 4 * 64 + 8) = s / 4 * 64 + 8 := w64_in (by omega) (by omega)
      have e3 : w64 (s % 4 * strideC c) = s % 4 * strideC c := w64_in (by omega) (by omega)
      have e4 : w64 (s / 4 * 64 + 8 + s % 4 * strideC c) = s / 4 * 64 + 8 + s % 4 * strideC c := w64_in (by omega) (by omega)
      have h5 : ¬ perC c ≤ s % 4 := by omega
      simp [h, hc, h3, h5, e0, e1, e2, e3, e4]
    · have h5 : perC c ≤ s % 4 := by omega
      by_cases hc : 0 ≤ c ∧ c ≤ 2 <;> simp [h, hc, h3, h5]
  · simp [h]
end Go.Gv
end
section
set_option linter.unusedVariables false
set_option linter.unusedSimpArgs false
namespace Go.Gv
def ldF (l : List Int) : Int := l.foldl (fun n x => n * 256 + x) 0
def ByteL (l : List Int) : Prop := ∀ x ∈ l, 0 ≤ x ∧ x ≤ 255
instance (l : List Int) : Decidable (ByteL l) := by unfold ByteL; infer_instance
theorem ldF_take {l : List Int} {k : Nat} (h : k < l.length) : ldF (l.take (k + 1)) = ldF (l.take k) * 256 + l[k] := by
  unfold ldF
  rw [List.take_succ_eq_append_getElem h, List.foldl_append]; rfl
theorem ldF_bound {l : List Int} (h : ByteL l) : ∀ k, k ≤ l.length → 0 ≤ ldF (l.take k) ∧ ldF (l.take k) < 256 ^ k := by
  intro k
  induction k with
  | zero => intro _; simp [ldF]
  | succ k ih =>
    intro hk
    have h1 := ih (by omega)
    have h2 := h _ (List.getElem_mem (show k < l.length by omega))
    rw [ldF_take (by omega), Int.pow_succ]
    omega
theorem pow256 {k : Nat} (h : k ≤ 6) : (256 : Int) ^ k ≤ 281474976710656 := by
  have h1 : (256 : Nat) ^ k ≤ 256 ^ 6 := Nat.pow_le_pow_right (by omega) h
  have h2 : (256 : Nat) ^ 6 = 281474976710656 := by decide
  rw [h2] at h1
  have h3 : ((256 ^ k : Nat) : Int) ≤ 281474976710656 := by omega
  rw [Int.natCast_pow] at h3
  exact h3
def ld (b : List Int) (at_ w : Nat) : Int := ldF ((b.drop at_).take w)
theorem ld_step {n x : Int} {k : Nat} (hk : k ≤ 6) (h : 0 ≤ n ∧ n < 256 ^ k) (hx : 0 ≤ x ∧ x ≤ 255) : w64 (w64 (n * 256) + x) = n * 256 + x ∧ w64 (w64 (256 * n) + x) = n * 256 + x := by
  have := pow256 hk
  rw [Int.mul_comm 256 n, w64_in (x := n * 256) (by omega) (by omega), w64_in (by omega) (by omega)]
  exact ⟨rfl, rfl⟩
theorem pw_len {b : List Int} {a w : Nat} (h : a + w ≤ b.length) : ((b.drop a).take w).length = w := by simp; omega
theorem pw_get {b : List Int} {a w k : Nat} (h : k < ((b.drop a).take w).length) (h' : a + k < b.length) : ((b.drop a).take w)[k] = b[a + k] := by simp
theorem pw_byte {b : List Int} (hb : ByteL b) (a w : Nat) : ByteL ((b.drop a).take w) := fun x hx => hb x (List.mem_of_mem_drop (List.mem_of_mem_take hx))
theorem spec_l3Load_eq {b : List Int} (hb : ByteL b) {a w : Nat} (hw : w ≤ 7) (h : a + w ≤ b.length) (hl : b.length ≤ 100000) : spec_l3Load b (a : Int) (w : Int) = some (ld b a w) := by
  unfold spec_l3Load
  have hlen := pw_len h
  have hbb := pw_byte hb a w
  have key : loop (spec_l3Load_l1 b (a : Int) (w : Int)) (0, 0) = some (ld b a w) := by
    refine enum_eq (f := spec_l3Load_l1 b (a : Int) (w : Int)) w (fun k => (ldF (((b.drop a).take w).take k), (k : Int))) _ (fun k hk => ?_) ?_
    · have hb1 := ldF_bound hbb k (by omega)
      have hk' : k < ((b.drop a).take w).length := by omega
      have hx := hbb _ (List.getElem_mem hk')
      have hs := ld_step (by omega) hb1 hx
      rw [pw_get hk' (by omega)] at hs
      have e1 : w64 ((a : Int) + k) = ((a + k : Nat) : Int) := by rw [w64_in (by omega) (by omega)]; omega
      simp only [spec_l3Load_l1]
      rw [if_pos (by simp; omega), e1, idx_nat (by omega)]
      simp only [Option.bind_some, hs.1, ldF_take hk', pw_get hk' (show a + k < b.length by omega)]
      rw [w64_in (x := (k : Int) + 1) (by omega) (by omega)]; rfl
    · have : ((b.drop a).take w).take w = (b.drop a).take w := by rw [List.take_take]; simp
      simp [spec_l3Load_l1, this, ld]
  rw [key]; rfl
theorem impl_loadNum_eq {b : List Int} (hb : ByteL b) {a w : Nat} (hw : w ≤ 7) (h : a + w ≤ b.length) (hl : b.length ≤ 100000) : impl_loadNum b (a : Int) (w : Int) = some (ld b a w) := by
  unfold impl_loadNum
  have hlen := pw_len h
  have hbb := pw_byte hb a w
  have e0 : w64 ((a : Int) + w) = ((a + w : Nat) : Int) := by rw [w64_in (by omega) (by omega)]; omega
  have e2 : (b.take (a + w)).drop a = (b.drop a).take w := by rw [List.drop_take]; congr 1; omega
  rw [need_yes (by rw [e0]; omega)]
  have key : loop (impl_loadNum_l1 b (a : Int) (w : Int)) (0, 0) = some (ld b a w) := by
    refine enum_eq (f := impl_loadNum_l1 b (a : Int) (w : Int)) w (fun k => (ldF (((b.drop a).take w).take k), (k : Int))) _ (fun k hk => ?_) ?_
    · have hb1 := ldF_bound hbb k (by omega)
      have hk' : k < ((b.drop a).take w).length := by omega
      have hx := hbb _ (List.getElem_mem hk')
      have hs := ld_step (by omega) hb1 hx
      simp only [impl_loadNum_l1, e0, Int.toNat_natCast, e2]
      rw [if_pos (by simp; omega), idx_nat hk']
      simp only [Option.bind_some, hs.2, ldF_take hk']
      rw [w64_in (x := (k : Int) + 1) (by omega) (by omega)]; rfl
    · have : ((b.drop a).take w).take w = (b.drop a).take w := by rw [List.take_take]; simp
      simp only [impl_loadNum_l1, e0, Int.toNat_natCast, e2, this, ld]
      rw [if_neg (by rw [hlen]; simp)]
  rw [key]; rfl
theorem contains_int {l : List Int} (hl : l.length ≤ maxLen) (f : Int → Bool) : slices_ContainsFunc_int l (fun x => some (f x)) = some (l.any f) := by
  unfold slices_ContainsFunc_int slices_IndexFunc_int
  have key : ∀ k : Nat, k ≤ l.length → loop (slices_IndexFunc_int_l1 l (fun x => some (f x))) (k : Int) = some (if (l.drop k).any f then Out.ret ((k + (l.drop k).findIdx f : Nat) : Int) else Out.brk ()) := by
    refine scan_eq l.length _ fun k hk => ?_
    by_cases h3 : k < l.length
    · have hd : l.drop k = l[k] :: l.drop (k + 1) := List.drop_eq_getElem_cons h3
      simp only [slices_IndexFunc_int_l1]
      rw [if_pos (by simp; omega), idx_nat h3, w64_nat (lt_max h3 hl), hd]
      simp only [Option.bind_some, List.any_cons, List.findIdx_cons]
      by_cases h4 : f l[k] = true
      · left; simp [h4]
      · right
        have h4 : f l[k] = false := by simpa using h4
        refine ⟨h3, by simp [h4], ?_⟩
        simp only [h4, Bool.false_or, cond_false]
        congr 2; omega
    · left
      obtain rfl : k = l.length := by omega
      simp [slices_IndexFunc_int_l1]
  have t0 : loop (slices_IndexFunc_int_l1 l (fun x => some (f x))) 0 = _ := key 0 (by omega)
  rw [t0]
  simp only [List.drop_zero]
  by_cases h : l.any f = true
  · simp [h, slices_IndexFunc_int_m1]
  · have h : l.any f = false := by simpa using h
    simp [h, slices_IndexFunc_int_m1, slices_IndexFunc_int_j1]
def BOk (b : List Int) : Prop := b.length ≤ 1000 ∧ ByteL b
instance (b : List Int) : Decidable (BOk b) := by unfold BOk; infer_instance
theorem spec_BytesOk_eq {b : List Int} (hl : b.length ≤ maxLen) : spec_BytesOk b = some (decide (BOk b)) := by
  unfold spec_BytesOk
  have key : loop (spec_BytesOk_l1 b) 0 = some (if ∀ x ∈ b, 0 ≤ x ∧ x ≤ 255 then Out.brk () else Out.ret false) := by
    refine scan_list (f := spec_BytesOk_l1 b) b (fun k => (k : Int)) (fun x => 0 ≤ x ∧ x ≤ 255) _ _ (fun k h hp => ?_) (fun k h hp => ?_) ?_
    · simp only [spec_BytesOk_l1]
      rw [if_pos (by simp; omega), idx_nat h, w64_nat (lt_max h hl)]
      simp [l1In_eq, hp]
    · simp only [spec_BytesOk_l1]
      rw [if_pos (by simp; omega), idx_nat h]
      simp only [Option.bind_some, l1In_eq, hp, decide_false, Bool.not_false, if_true]
    · simp [spec_BytesOk_l1]
  rw [key]
  by_cases h : ∀ x ∈ b, 0 ≤ x ∧ x ≤ 255
  · rw [if_pos h]
    have : BOk b ↔ b.length ≤ 1000 := ⟨fun q => q.1, fun q => ⟨q, h⟩⟩
    simp only [Option.bind_some, spec_BytesOk_m1, spec_BytesOk_j1, this]
    congr 1; rw [Bool.eq_iff_iff]; simp; omega
  · rw [if_neg h]
    have : ¬ BOk b := fun q => h q.2
    simp [spec_BytesOk_m1, this]
theorem any_not {α : Type} {p : α → Prop} [DecidablePred p] (l : List α) : (l.any fun x => !decide (p x)) = !decide (∀ x ∈ l, p x) := by
  rw [Bool.eq_iff_iff]; simp
theorem impl_BytesOk_eq {b : List Int} (hl : b.length ≤ maxLen) : impl_BytesOk b = some (decide (BOk b)) := by
  unfold impl_BytesOk impl_BytesOk_j1
  have e : (fun y0 => impl_BytesOk_1 y0) = fun y : Int => some (!decide (0 ≤ y ∧ y ≤ 255)) := by
    funext y; simp [impl_BytesOk_1, impl_isByte, within_eq]
  rw [e, contains_int hl, any_not]
  by_cases h : b.length ≤ 1000
  · have : BOk b ↔ ∀ x ∈ b, 0 ≤ x ∧ x ≤ 255 := ⟨fun q => q.2, fun q => ⟨h, q⟩⟩
    have h' : (b.length : Int) ≤ 1000 := by omega
    simp [h', this]
  · have : ¬ BOk b := fun q => h q.1
    have h' : ¬ (b.length : Int) ≤ 1000 := by omega
    simp [h', this]
def HShape (h : Heap) : Prop := h.Bytes.length = 384 ∧ h.Class.length = 6 ∧ ByteL h.Bytes ∧ ∀ c ∈ h.Class, -1 ≤ c ∧ c ≤ 2
instance (h : Heap) : Decidable (HShape h) := by unfold HShape; infer_instance
theorem spec_l7Shape_eq {h : Heap} (hl : h.Bytes.length ≤ maxLen) : spec_l7Shape h = some (decide (HShape h)) := by
  unfold spec_l7Shape spec_l7Shape_j1
  by_cases h1 : h.Bytes.length = 384
  · by_cases h2 : h.Class.length = 6
    · rw [spec_BytesOk_eq hl]
      have n1 : ((h.Bytes.length : Int) != 384) = false := by simp; omega
      have n2 : ((h.Class.length : Int) != 6) = false := by simp; omega
      simp only [n1, n2, Bool.false_eq_true, if_false, Option.bind_some]
      by_cases h3 : ByteL h.Bytes
      · have b1 : BOk h.Bytes := ⟨by omega, h3⟩
        have key : loop (spec_l7Shape_l2 h) 0 = some (if ∀ x ∈ h.Class, -1 ≤ x ∧ x ≤ 2 then Out.brk () else Out.ret false) := by
          refine scan_list (f := spec_l7Shape_l2 h) h.Class (fun k => (k : Int)) (fun x => -1 ≤ x ∧ x ≤ 2) _ _ (fun k h hp => ?_) (fun k h hp => ?_) ?_
          · simp only [spec_l7Shape_l2]
            rw [if_pos (by simp; omega), idx_nat h, w64_in (by omega) (by omega)]
            simp [l1In_eq, hp]
          · simp only [spec_l7Shape_l2]
            rw [if_pos (by simp; omega), idx_nat h]
            simp only [Option.bind_some, l1In_eq]
            rw [decide_eq_false hp]; rfl
          · simp [spec_l7Shape_l2, h2]
        rw [key]
        have : HShape h ↔ ∀ x ∈ h.Class, -1 ≤ x ∧ x ≤ 2 := ⟨fun q => q.2.2.2, fun q => ⟨h1, h2, h3, q⟩⟩
        simp only [b1, decide_true, Bool.not_true, Bool.false_eq_true, if_false, this]
        by_cases h4 : ∀ x ∈ h.Class, -1 ≤ x ∧ x ≤ 2
        · rw [if_pos h4, decide_eq_true h4]; rfl
        · rw [if_neg h4, decide_eq_false h4]; rfl
      · have b1 : ¬ BOk h.Bytes := fun q => h3 q.2
        have : ¬ HShape h := fun q => h3 q.2.2.1
        simp [b1, this]
    · have n1 : ((h.Bytes.length : Int) != 384) = false := by simp; omega
      have n2 : ((h.Class.length : Int) != 6) = true := by simp; omega
      have : ¬ HShape h := fun q => h2 q.2.1
      simp [n1, n2, this]
  · have n1 : ((h.Bytes.length : Int) != 384) = true := by simp; omega
    have : ¬ HShape h := fun q => h1 q.1
    simp [n1, this]
theorem impl_shaped_eq {h : Heap} (hl : h.Bytes.length ≤ maxLen) : impl_shaped h = some (decide (HShape h)) := by
  unfold impl_shaped impl_shaped_j1
  by_cases h1 : h.Bytes.length = 384
  · have n1 : ((h.Bytes.length : Int) == 384) = true := by simp; omega
    rw [impl_BytesOk_eq hl]
    by_cases h3 : ByteL h.Bytes
    · have b1 : BOk h.Bytes := ⟨by omega, h3⟩
      by_cases h2 : h.Class.length = 6
      · have n2 : ((h.Class.length : Int) == 6) = true := by simp; omega
        have e : (fun y0 => impl_shaped_1 y0) = fun y : Int => some (!decide (-1 ≤ y ∧ y ≤ 2)) := by
          funext y; simp [impl_shaped_1, within_eq]
        rw [e, contains_int (by rw [h2]; simp [maxLen]), any_not]
        have : HShape h ↔ ∀ x ∈ h.Class, -1 ≤ x ∧ x ≤ 2 := ⟨fun q => q.2.2.2, fun q => ⟨h1, h2, h3, q⟩⟩
        simp [n1, n2, b1, this]
      · have n2 : ((h.Class.length : Int) == 6) = false := by simp; omega
        have : ¬ HShape h := fun q => h2 q.2.1
        simp [n1, n2, b1, this]
    · have b1 : ¬ BOk h.Bytes := fun q => h3 q.2
      have : ¬ HShape h := fun q => h3 q.2.2.1
      simp [n1, b1, this]
  · have n1 : ((h.Bytes.length : Int) == 384) = false := by simp; omega
    have : ¬ HShape h := fun q => h1 q.1
    simp [n1, this]
end Go.Gv
end
section
set_option linter.unusedVariables false
set_option linter.unusedSimpArgs false
set_option linter.unusedSectionVars false
namespace Go.Gv
def pageB (h : Heap) (p : Nat) : List Int := (h.Bytes.drop (p * 64)).take 64
def clsP (h : Heap) (p : Nat) : Int := h.Class.getD p 0
def PageOk (h : Heap) (p : Nat) : Prop :=
  if clsP h p < 0 then ∀ x ∈ pageB h p, x = 0
  else ((pageB h p).getD 0 0 = 171 ∧ (pageB h p).getD 1 0 = clsP h p ∧ (pageB h p).getD 2 0 = perC (clsP h p)) ∧ (∀ x ∈ ((pageB h p).drop 3).take 5, x = 0) ∧ ∀ i, i < (perC (clsP h p)).toNat → 1 ≤ ld h.Bytes (p * 64 + 8 + i * (strideC (clsP h p)).toNat) 4 ∧ ld h.Bytes (p * 64 + 8 + i * (strideC (clsP h p)).toNat) 4 ≤ 7
instance (h : Heap) (p : Nat) : Decidable (PageOk h p) := by unfold PageOk; infer_instance
section
variable {h : Heap} (hs : HShape h) {p : Nat} (hp : p < 6)
include hs hp
theorem page_len : (pageB h p).length = 64 := pw_len (by have := hs.1; omega)
theorem page_get {k : Nat} (hk : k < 64) : h.Bytes[p * 64 + k]'(by have := hs.1; omega) = (pageB h p)[k]'(by rw [page_len hs hp]; exact hk) := (pw_get (show k < ((h.Bytes.drop (p * 64)).take 64).length by have := page_len hs hp; unfold pageB at this; omega) _).symm
theorem page_getD {k : Nat} (hk : k < 64) : h.Bytes[p * 64 + k]'(by have := hs.1; omega) = (pageB h p).getD k 0 := by
  rw [page_get hs hp hk, List.getD_eq_getElem?_getD, List.getElem?_eq_getElem (by rw [page_len hs hp]; exact hk)]; rfl
theorem cls_get : h.Class[p]'(by have := hs.2.1; omega) = clsP h p := by
  unfold clsP
  rw [List.getD_eq_getElem?_getD, List.getElem?_eq_getElem (by have := hs.2.1; omega)]; rfl
theorem idx_cls : idx h.Class (p : Int) = some (clsP h p) := by rw [idx_nat (by have := hs.2.1; omega), cls_get hs hp]
theorem idx_page {k : Nat} (hk : k < 64) : idx h.Bytes (((p * 64 + k : Nat)) : Int) = some ((pageB h p).getD k 0) := by
  rw [idx_nat (by have := hs.1; omega), page_getD hs hp hk]
theorem page_byte : ByteL (pageB h p) := pw_byte hs.2.2.1 _ _
theorem page_zero {c : Int} (hc : clsP h p = c) {i : Nat} (hi : i < (perC c).toNat) : (8 + i * (strideC c).toNat) + 4 ≤ 64 ∧ 0 ≤ (i : Int) * strideC c ∧ ((8 + i * (strideC c).toNat : Nat) : Int) = 8 + (i : Int) * strideC c := by
  have h1 : (i : Int) < perC c := by omega
  have hc2 : 0 ≤ c ∧ c ≤ 2 := perC_pos.1 (by omega)
  rcases cls_cases hc2 with rfl | rfl | rfl
  · have e : strideC 0 = 12 := rfl
    have g : (12 : Int).toNat = 12 := rfl
    have f : (perC 0).toNat = 4 := rfl
    rw [e, g]; rw [f] at hi; omega
  · have e : strideC 1 = 20 := rfl
    have g : (20 : Int).toNat = 20 := rfl
    have f : (perC 1).toNat = 2 := rfl
    rw [e, g]; rw [f] at hi; omega
  · have e : strideC 2 = 44 := rfl
    have g : (44 : Int).toNat = 44 := rfl
    have f : (perC 2).toNat = 1 := rfl
    rw [e, g]; rw [f] at hi; omega
theorem gen_slot {i : Nat} (hi : i < (perC (clsP h p)).toNat) : genC ((p : Int) * 4 + i) (clsP h p) = ((p * 64 + (8 + i * (strideC (clsP h p)).toNat) : Nat) : Int) := by
  have hz := page_zero hs hp rfl hi
  have hle := perC_le (clsP h p)
  unfold genC
  rw [if_pos (by omega)]
  have e1 : ((p : Int) * 4 + i) / 4 = p := by omega
  have e2 : ((p : Int) * 4 + i) % 4 = i := by omega
  rw [e1, e2]
  omega
theorem spec_l7Page_eq : spec_l7Page h (p : Int) = some (decide (PageOk h p)) := by
  have hb := hs.1
  have hl := page_len hs hp
  have e0 : w64 ((p : Int) * 64) = ((p * 64 + 0 : Nat) : Int) := by rw [w64_in (by omega) (by omega)]; omega
  have e1 : w64 (((p * 64 + 0 : Nat) : Int) + 1) = ((p * 64 + 1 : Nat) : Int) := by rw [w64_in (by omega) (by omega)]; omega
  have e2 : w64 (((p * 64 + 0 : Nat) : Int) + 2) = ((p * 64 + 2 : Nat) : Int) := by rw [w64_in (by omega) (by omega)]; omega
  have e3 : w64 (((p * 64 + 0 : Nat) : Int) + 3) = ((p * 64 + 3 : Nat) : Int) := by rw [w64_in (by omega) (by omega)]; omega
  have e8 : w64 (((p * 64 + 0 : Nat) : Int) + 8) = ((p * 64 + 8 : Nat) : Int) := by rw [w64_in (by omega) (by omega)]; omega
  have e64 : w64 (((p * 64 + 0 : Nat) : Int) + 64) = ((p * 64 + 64 : Nat) : Int) := by rw [w64_in (by omega) (by omega)]; omega
  unfold spec_l7Page
  rw [idx_cls hs hp]
  simp only [Option.bind_some]
  by_cases hc : clsP h p < 0
  · simp only [hc, decide_true, if_true, e0]
    have key : loop (spec_l7Page_l1 h (p : Int)) (((p * 64 + 0 : Nat)) : Int) = some (if ∀ x ∈ pageB h p, x = 0 then Out.brk () else Out.ret false) := by
      refine scan_list (f := spec_l7Page_l1 h (p : Int)) (pageB h p) (fun k => ((p * 64 + k : Nat) : Int)) (fun x => x = 0) _ _ (fun k hk hx => ?_) (fun k hk hx => ?_) ?_
      · simp only [spec_l7Page_l1, e0, e64]
        rw [if_pos (by simp; omega), idx_nat (by omega), page_get hs hp (by omega), w64_in (by omega) (by omega)]
        simp only [Option.bind_some, hx]; simp; omega
      · simp only [spec_l7Page_l1, e0, e64]
        rw [if_pos (by simp; omega), idx_nat (by omega), page_get hs hp (by omega)]
        have hx' : ((pageB h p)[k] != 0) = true := by simpa using hx
        simp only [Option.bind_some, hx', if_true]
      · simp only [spec_l7Page_l1, e0, e64, hl]
        rw [if_neg (by simp)]
    rw [key]
    have hP : PageOk h p ↔ ∀ x ∈ pageB h p, x = 0 := by unfold PageOk; rw [if_pos hc]
    by_cases h4 : ∀ x ∈ pageB h p, x = 0
    · rw [if_pos h4, decide_eq_true (hP.2 h4)]; rfl
    · rw [if_neg h4, decide_eq_false (fun q => h4 (hP.1 q))]; rfl
  · have hP : PageOk h p ↔ ((pageB h p).getD 0 0 = 171 ∧ (pageB h p).getD 1 0 = clsP h p ∧ (pageB h p).getD 2 0 = perC (clsP h p)) ∧ (∀ x ∈ ((pageB h p).drop 3).take 5, x = 0) ∧ ∀ i, i < (perC (clsP h p)).toNat → 1 ≤ ld h.Bytes (p * 64 + 8 + i * (strideC (clsP h p)).toNat) 4 ∧ ld h.Bytes (p * 64 + 8 + i * (strideC (clsP h p)).toNat) 4 ≤ 7 := by unfold PageOk; rw [if_neg hc]
    simp only [hc, decide_false, Bool.false_eq_true, if_false, e0, e1, e2, idx_page hs hp (show 0 < 64 by omega), idx_page hs hp (show 1 < 64 by omega), idx_page hs hp (show 2 < 64 by omega), Option.bind_some, spec_PerPage_eq]
    by_cases a0 : (pageB h p).getD 0 0 = 171
    · by_cases a1 : (pageB h p).getD 1 0 = clsP h p
      · by_cases a2 : (pageB h p).getD 2 0 = perC (clsP h p)
        · have n0 : ((pageB h p).getD 0 0 != 171) = false := by simp only [bne_eq_false_iff_eq]; exact a0
          have n1 : ((pageB h p).getD 1 0 != clsP h p) = false := by simp only [bne_eq_false_iff_eq]; exact a1
          have n2 : ((pageB h p).getD 2 0 != perC (clsP h p)) = false := by simp only [bne_eq_false_iff_eq]; exact a2
          simp only [n0, n1, n2, Bool.false_eq_true, if_false, spec_l7Page_j2, e0, e3]
          have hl5 : (((pageB h p).drop 3).take 5).length = 5 := by simp [hl]
          have key : loop (spec_l7Page_l3 h (p : Int)) (((p * 64 + 3 : Nat)) : Int) = some (if ∀ x ∈ ((pageB h p).drop 3).take 5, x = 0 then Out.brk () else Out.ret false) := by
            refine scan_list (f := spec_l7Page_l3 h (p : Int)) (((pageB h p).drop 3).take 5) (fun k => ((p * 64 + (3 + k) : Nat) : Int)) (fun x => x = 0) _ _ (fun k hk hx => ?_) (fun k hk hx => ?_) ?_
            · simp only [spec_l7Page_l3, e0, e8]
              rw [if_pos (by simp; omega), idx_nat (by omega), page_get hs hp (by omega), w64_in (by omega) (by omega), ← pw_get hk (by omega), hx]
              simp; omega
            · simp only [spec_l7Page_l3, e0, e8]
              rw [if_pos (by simp; omega), idx_nat (by omega), page_get hs hp (by omega), ← pw_get hk (by omega)]
              have hx' : ((((pageB h p).drop 3).take 5)[k] != 0) = true := by simp only [bne_iff_ne]; exact hx
              simp only [Option.bind_some, hx', if_true]
            · simp only [spec_l7Page_l3, e0, e8, hl5]
              rw [if_neg (by simp)]
          rw [key]
          by_cases h4 : ∀ x ∈ ((pageB h p).drop 3).take 5, x = 0
          · rw [if_pos h4]
            simp only [Option.bind_some, spec_l7Page_m3, spec_l7Page_j3]
            have key2 : loop (spec_l7Page_l4 h (p : Int) (clsP h p)) 0 = some (if ∀ i, i < (perC (clsP h p)).toNat → 1 ≤ ld h.Bytes (p * 64 + 8 + i * (strideC (clsP h p)).toNat) 4 ∧ ld h.Bytes (p * 64 + 8 + i * (strideC (clsP h p)).toNat) 4 ≤ 7 then Out.brk () else Out.ret false) := by
              have hle := perC_le (clsP h p)
              have hst : ∀ k : Nat, k < (perC (clsP h p)).toNat → spec_l7Page_l4 h (p : Int) (clsP h p) (k : Int) = if 1 ≤ ld h.Bytes (p * 64 + 8 + k * (strideC (clsP h p)).toNat) 4 ∧ ld h.Bytes (p * 64 + 8 + k * (strideC (clsP h p)).toNat) 4 ≤ 7 then some (.next ((k + 1 : Nat) : Int)) else some (.stop (Out.ret false)) := by
                intro k hk
                have hz := page_zero hs hp rfl hk
                have s1 : spec_SlotAt (p : Int) (k : Int) = some ((p : Int) * 4 + k) := by
                  unfold spec_SlotAt spec_SlotAt_j1
                  rw [l1In_eq, l1In_eq]
                  have g1 : (0 : Int) ≤ p ∧ (p : Int) ≤ 5 := by omega
                  have g2 : (0 : Int) ≤ k ∧ (k : Int) ≤ 3 := by omega
                  simp only [Option.bind_some, g1, g2, and_self, decide_true, Bool.not_true, Bool.false_eq_true, if_false]
                  rw [w64_in (x := (p : Int) * 4) (by omega) (by omega), w64_in (by omega) (by omega)]
                have l1 := spec_l3Load_eq hs.2.2.1 (a := p * 64 + (8 + k * (strideC (clsP h p)).toNat)) (w := 4) (by omega) (by omega) (by omega)
                simp only [spec_l7Page_l4, spec_PerPage_eq, Option.bind_some]
                rw [if_pos (by simp; omega), s1]
                simp only [Option.bind_some, spec_GenAt_eq, gen_slot hs hp hk]
                rw [show ((4 : Nat) : Int) = 4 from rfl] at l1
                rw [l1, Nat.add_assoc, w64_in (x := (k : Int) + 1) (by omega) (by omega)]
                simp only [Option.bind_some, l1In_eq]
                by_cases q : 1 ≤ ld h.Bytes (p * 64 + (8 + k * (strideC (clsP h p)).toNat)) 4 ∧ ld h.Bytes (p * 64 + (8 + k * (strideC (clsP h p)).toNat)) 4 ≤ 7
                · rw [if_pos q, decide_eq_true q]; rfl
                · rw [if_neg q, decide_eq_false q]; rfl
              refine scan_all (f := spec_l7Page_l4 h (p : Int) (clsP h p)) (perC (clsP h p)).toNat (fun k => (k : Int)) (fun i => 1 ≤ ld h.Bytes (p * 64 + 8 + i * (strideC (clsP h p)).toNat) 4 ∧ ld h.Bytes (p * 64 + 8 + i * (strideC (clsP h p)).toNat) 4 ≤ 7) _ _ (fun k hk hx => ?_) (fun k hk hx => ?_) ?_
              · rw [hst k hk, if_pos hx]
              · rw [hst k hk, if_neg hx]
              · simp only [spec_l7Page_l4, spec_PerPage_eq, Option.bind_some]
                rw [if_neg (by simp; omega)]
            rw [key2]
            by_cases h5 : ∀ i, i < (perC (clsP h p)).toNat → 1 ≤ ld h.Bytes (p * 64 + 8 + i * (strideC (clsP h p)).toNat) 4 ∧ ld h.Bytes (p * 64 + 8 + i * (strideC (clsP h p)).toNat) 4 ≤ 7
            · rw [if_pos h5, decide_eq_true (hP.2 ⟨⟨a0, a1, a2⟩, h4, h5⟩)]; rfl
            · rw [if_neg h5, decide_eq_false (fun q => h5 (hP.1 q).2.2)]; rfl
          · rw [if_neg h4, decide_eq_false (fun q => h4 (hP.1 q).2.1)]; rfl
        · have n0 : ((pageB h p).getD 0 0 != 171) = false := by simp only [bne_eq_false_iff_eq]; exact a0
          have n1 : ((pageB h p).getD 1 0 != clsP h p) = false := by simp only [bne_eq_false_iff_eq]; exact a1
          have n2 : ((pageB h p).getD 2 0 != perC (clsP h p)) = true := by simp only [bne_iff_ne]; exact a2
          simp only [n0, n1, n2, Bool.false_eq_true, if_false, spec_l7Page_j2, if_true]
          rw [decide_eq_false (fun q => a2 (hP.1 q).1.2.2)]
      · have n0 : ((pageB h p).getD 0 0 != 171) = false := by simp only [bne_eq_false_iff_eq]; exact a0
        have n1 : ((pageB h p).getD 1 0 != clsP h p) = true := by simp only [bne_iff_ne]; exact a1
        simp only [n0, n1, Bool.false_eq_true, if_false, spec_l7Page_j2, if_true]
        rw [decide_eq_false (fun q => a1 (hP.1 q).1.2.1)]
    · have n0 : ((pageB h p).getD 0 0 != 171) = true := by simp only [bne_iff_ne]; exact a0
      simp only [n0, Bool.false_eq_true, if_false, spec_l7Page_j2, if_true]
      rw [decide_eq_false (fun q => a0 (hP.1 q).1.1)]
end
end Go.Gv
end
section
set_option linter.unusedVariables false
set_option linter.unusedSimpArgs false
set_option linter.unusedSectionVars false
namespace Go.Gv
theorem impl_isZero_eq {l : List Int} (hl : l.length ≤ maxLen) : impl_isZero l = some (decide (∀ x ∈ l, x = 0)) := by
  unfold impl_isZero
  have e : (fun y0 => impl_isZero_1 y0) = fun y : Int => some (!decide (y = 0)) := by
    funext y; simp [impl_isZero_1, bne]; rfl
  rw [e, contains_int hl, any_not]
  simp
section
variable {h : Heap} (hs : HShape h) {p : Nat} (hp : p < 6)
include hs hp
theorem pg_eq : (h.Bytes.take ((p + 1) * 64)).drop (p * 64) = pageB h p := by
  unfold pageB
  rw [List.drop_take]; congr 1; omega
theorem ld_page {a : Nat} (ha : a + 4 ≤ 64) : ld (pageB h p) a 4 = ld h.Bytes (p * 64 + a) 4 := by
  unfold ld pageB
  rw [List.drop_take, List.take_take, List.drop_drop]
  congr 2; omega
theorem idx_pg {k : Nat} (hk : k < 64) : idx (pageB h p) (k : Int) = some ((pageB h p).getD k 0) := by
  have := page_len hs hp
  rw [idx_nat (by omega), List.getD_eq_getElem?_getD, List.getElem?_eq_getElem (by omega)]; rfl
theorem impl_pageOk_eq : impl_pageOk h (p : Int) = some (decide (PageOk h p)) := by
  have hb := hs.1
  have hl := page_len hs hp
  have hm : (pageB h p).length ≤ maxLen := by rw [hl]; simp [maxLen]
  have e0 : w64 ((p : Int) * 64) = ((p * 64 : Nat) : Int) := by rw [w64_in (by omega) (by omega)]; omega
  have e1 : w64 (w64 ((p : Int) + 1) * 64) = (((p + 1) * 64 : Nat) : Int) := by rw [w64_in (x := (p : Int) + 1) (by omega) (by omega), w64_in (by omega) (by omega)]; omega
  have i0 := idx_pg hs hp (show 0 < 64 by omega)
  have i1 := idx_pg hs hp (show 1 < 64 by omega)
  have i2 := idx_pg hs hp (show 2 < 64 by omega)
  rw [show ((0 : Nat) : Int) = 0 from rfl] at i0
  rw [show ((1 : Nat) : Int) = 1 from rfl] at i1
  rw [show ((2 : Nat) : Int) = 2 from rfl] at i2
  unfold impl_pageOk
  rw [idx_cls hs hp]
  simp only [Option.bind_some, e0, e1, Int.toNat_natCast, pg_eq hs hp]
  rw [need_yes (by omega)]
  by_cases hc : clsP h p < 0
  · have hP : PageOk h p ↔ ∀ x ∈ pageB h p, x = 0 := by unfold PageOk; rw [if_pos hc]
    simp only [hc, decide_true, if_true, impl_isZero_eq hm, Option.bind_some, hP]
  · have hP : PageOk h p ↔ ((pageB h p).getD 0 0 = 171 ∧ (pageB h p).getD 1 0 = clsP h p ∧ (pageB h p).getD 2 0 = perC (clsP h p)) ∧ (∀ x ∈ ((pageB h p).drop 3).take 5, x = 0) ∧ ∀ i, i < (perC (clsP h p)).toNat → 1 ≤ ld h.Bytes (p * 64 + 8 + i * (strideC (clsP h p)).toNat) 4 ∧ ld h.Bytes (p * 64 + 8 + i * (strideC (clsP h p)).toNat) 4 ≤ 7 := by unfold PageOk; rw [if_neg hc]
    simp only [hc, decide_false, Bool.false_eq_true, if_false, i0, i1, i2, Option.bind_some, impl_PerPage_eq]
    by_cases a0 : (pageB h p).getD 0 0 = 171
    · by_cases a1 : (pageB h p).getD 1 0 = clsP h p
      · by_cases a2 : (pageB h p).getD 2 0 = perC (clsP h p)
        · have n0 : ((pageB h p).getD 0 0 != 171) = false := by simp only [bne_eq_false_iff_eq]; exact a0
          have n1 : ((pageB h p).getD 1 0 != clsP h p) = false := by simp only [bne_eq_false_iff_eq]; exact a1
          have n2 : ((pageB h p).getD 2 0 != perC (clsP h p)) = false := by simp only [bne_eq_false_iff_eq]; exact a2
          have t8 : ((pageB h p).take (8 : Int).toNat).drop (3 : Int).toNat = ((pageB h p).drop 3).take 5 := by
            rw [show (8 : Int).toNat = 8 from rfl, show (3 : Int).toNat = 3 from rfl, List.drop_take]
          simp only [n0, n1, n2, Bool.false_eq_true, if_false, impl_pageOk_j1, t8]
          rw [need_yes (by omega), impl_isZero_eq (by simp [maxLen]; omega)]
          by_cases h4 : ∀ x ∈ ((pageB h p).drop 3).take 5, x = 0
          · simp only [decide_eq_true h4, Option.bind_some, Bool.not_true, Bool.false_eq_true, if_false, impl_PerPage_eq]
            have key2 : loop (impl_pageOk_l2 h (p : Int) (clsP h p) (perC (clsP h p))) 0 = some (if ∀ i, i < (perC (clsP h p)).toNat → 1 ≤ ld h.Bytes (p * 64 + 8 + i * (strideC (clsP h p)).toNat) 4 ∧ ld h.Bytes (p * 64 + 8 + i * (strideC (clsP h p)).toNat) 4 ≤ 7 then Out.brk () else Out.ret false) := by
              have hle := perC_le (clsP h p)
              have hst : ∀ k : Nat, k < (perC (clsP h p)).toNat → impl_pageOk_l2 h (p : Int) (clsP h p) (perC (clsP h p)) (k : Int) = if 1 ≤ ld h.Bytes (p * 64 + 8 + k * (strideC (clsP h p)).toNat) 4 ∧ ld h.Bytes (p * 64 + 8 + k * (strideC (clsP h p)).toNat) 4 ≤ 7 then some (.next ((k + 1 : Nat) : Int)) else some (.stop (Out.ret false)) := by
                intro k hk
                have hz := page_zero hs hp rfl hk
                have e5 : w64 (8 + w64 ((k : Int) * strideC (clsP h p))) = ((8 + k * (strideC (clsP h p)).toNat : Nat) : Int) := by
                  rw [w64_in (x := (k : Int) * strideC (clsP h p)) (by omega) (by omega), w64_in (by omega) (by omega)]; omega
                have l1 := impl_loadNum_eq (page_byte hs hp) (a := 8 + k * (strideC (clsP h p)).toNat) (w := 4) (by omega) (by omega) (by omega)
                rw [show ((4 : Nat) : Int) = 4 from rfl, ld_page hs hp (by omega)] at l1
                simp only [impl_pageOk_l2, impl_StrideOf_eq, Option.bind_some, e0, e1, Int.toNat_natCast, pg_eq hs hp, e5]
                rw [if_pos (by simp; omega), l1, Nat.add_assoc, w64_in (x := (k : Int) + 1) (by omega) (by omega)]
                simp only [Option.bind_some, within_eq]
                by_cases q : 1 ≤ ld h.Bytes (p * 64 + (8 + k * (strideC (clsP h p)).toNat)) 4 ∧ ld h.Bytes (p * 64 + (8 + k * (strideC (clsP h p)).toNat)) 4 ≤ 7
                · rw [if_pos q, decide_eq_true q]; rfl
                · rw [if_neg q, decide_eq_false q]; rfl
              refine scan_all (f := impl_pageOk_l2 h (p : Int) (clsP h p) (perC (clsP h p))) (perC (clsP h p)).toNat (fun k => (k : Int)) (fun i => 1 ≤ ld h.Bytes (p * 64 + 8 + i * (strideC (clsP h p)).toNat) 4 ∧ ld h.Bytes (p * 64 + 8 + i * (strideC (clsP h p)).toNat) 4 ≤ 7) _ _ (fun k hk hx => ?_) (fun k hk hx => ?_) ?_
              · rw [hst k hk, if_pos hx]
              · rw [hst k hk, if_neg hx]
              · simp only [impl_pageOk_l2]
                rw [if_neg (by simp; omega)]
            rw [key2]
            by_cases h5 : ∀ i, i < (perC (clsP h p)).toNat → 1 ≤ ld h.Bytes (p * 64 + 8 + i * (strideC (clsP h p)).toNat) 4 ∧ ld h.Bytes (p * 64 + 8 + i * (strideC (clsP h p)).toNat) 4 ≤ 7
            · rw [if_pos h5, decide_eq_true (hP.2 ⟨⟨a0, a1, a2⟩, h4, h5⟩)]; rfl
            · rw [if_neg h5, decide_eq_false (fun q => h5 (hP.1 q).2.2)]; rfl
          · simp only [decide_eq_false h4, Option.bind_some, Bool.not_false, if_true]
            rw [decide_eq_false (fun q => h4 (hP.1 q).2.1)]
        · have n0 : ((pageB h p).getD 0 0 != 171) = false := by simp only [bne_eq_false_iff_eq]; exact a0
          have n1 : ((pageB h p).getD 1 0 != clsP h p) = false := by simp only [bne_eq_false_iff_eq]; exact a1
          have n2 : ((pageB h p).getD 2 0 != perC (clsP h p)) = true := by simp only [bne_iff_ne]; exact a2
          simp only [n0, n1, n2, Bool.false_eq_true, if_false, impl_pageOk_j1, if_true]
          rw [decide_eq_false (fun q => a2 (hP.1 q).1.2.2)]
      · have n0 : ((pageB h p).getD 0 0 != 171) = false := by simp only [bne_eq_false_iff_eq]; exact a0
        have n1 : ((pageB h p).getD 1 0 != clsP h p) = true := by simp only [bne_iff_ne]; exact a1
        simp only [n0, n1, Bool.false_eq_true, if_false, impl_pageOk_j1, if_true]
        rw [decide_eq_false (fun q => a1 (hP.1 q).1.2.1)]
    · have n0 : ((pageB h p).getD 0 0 != 171) = true := by simp only [bne_iff_ne]; exact a0
      simp only [n0, Bool.false_eq_true, if_false, impl_pageOk_j1, if_true]
      rw [decide_eq_false (fun q => a0 (hP.1 q).1.1)]
end
instance (h : Heap) : Decidable (∀ p, p < 6 → PageOk h p) := Nat.decidableBallLT 6 fun p _ => PageOk h p
def HOk (h : Heap) : Prop := HShape h ∧ ∀ p, p < 6 → PageOk h p
instance (h : Heap) : Decidable (HOk h) := by unfold HOk; infer_instance
theorem spec_HeapOk_eq {h : Heap} (hl : h.Bytes.length ≤ maxLen) : spec_HeapOk h = some (decide (HOk h)) := by
  unfold spec_HeapOk
  rw [spec_l7Shape_eq hl]
  by_cases hs : HShape h
  · have key : loop (spec_HeapOk_l1 h) 0 = some (if ∀ p, p < 6 → PageOk h p then Out.brk () else Out.ret false) := by
      refine scan_all (f := spec_HeapOk_l1 h) 6 (fun k => (k : Int)) (fun p => PageOk h p) _ _ (fun k hk hx => ?_) (fun k hk hx => ?_) ?_
      · simp only [spec_HeapOk_l1]
        rw [if_pos (by simp; omega), spec_l7Page_eq hs hk, w64_in (by omega) (by omega), decide_eq_true hx]; rfl
      · simp only [spec_HeapOk_l1]
        rw [if_pos (by simp; omega), spec_l7Page_eq hs hk, decide_eq_false hx]; rfl
      · rfl
    simp only [Option.bind_some, decide_eq_true hs, Bool.not_true, Bool.false_eq_true, if_false]
    rw [key]
    by_cases h4 : ∀ p, p < 6 → PageOk h p
    · rw [if_pos h4, decide_eq_true (show HOk h from ⟨hs, h4⟩)]; rfl
    · rw [if_neg h4, decide_eq_false (fun q : HOk h => h4 q.2)]; rfl
  · rw [decide_eq_false (fun q : HOk h => hs q.1), decide_eq_false hs]; rfl
theorem impl_HeapOk_eq {h : Heap} (hl : h.Bytes.length ≤ maxLen) : impl_HeapOk h = some (decide (HOk h)) := by
  unfold impl_HeapOk
  rw [impl_shaped_eq hl]
  by_cases hs : HShape h
  · have key : loop (impl_HeapOk_l1 h) 0 = some (if ∀ p, p < 6 → PageOk h p then Out.brk () else Out.ret false) := by
      refine scan_all (f := impl_HeapOk_l1 h) 6 (fun k => (k : Int)) (fun p => PageOk h p) _ _ (fun k hk hx => ?_) (fun k hk hx => ?_) ?_
      · simp only [impl_HeapOk_l1]
        rw [if_pos (by simp; omega), impl_pageOk_eq hs hk, w64_in (by omega) (by omega), decide_eq_true hx]; rfl
      · simp only [impl_HeapOk_l1]
        rw [if_pos (by simp; omega), impl_pageOk_eq hs hk, decide_eq_false hx]; rfl
      · rfl
    simp only [Option.bind_some, decide_eq_true hs, Bool.not_true, Bool.false_eq_true, if_false]
    rw [key]
    by_cases h4 : ∀ p, p < 6 → PageOk h p
    · rw [if_pos h4, decide_eq_true (show HOk h from ⟨hs, h4⟩)]; rfl
    · rw [if_neg h4, decide_eq_false (fun q : HOk h => h4 q.2)]; rfl
  · rw [decide_eq_false (fun q : HOk h => hs q.1), decide_eq_false hs]; rfl
def clsS (h : Heap) (s : Int) : Int := if (0 ≤ s ∧ s ≤ 23) ∧ s % 4 < perC (clsP h (s / 4).toNat) then clsP h (s / 4).toNat else -1
theorem clsS_in {h : Heap} {s : Int} (hc : 0 ≤ clsS h s) : (0 ≤ s ∧ s ≤ 23) ∧ s % 4 < perC (clsP h (s / 4).toNat) ∧ clsS h s = clsP h (s / 4).toNat := by
  unfold clsS at hc ⊢
  split at hc
  · rename_i h1; exact ⟨h1.1, h1.2, by rw [if_pos h1]⟩
  · omega
theorem spec_l7Class_eq {h : Heap} (hs : HShape h) (s : Int) : spec_l7Class h s = some (clsS h s) := by
  unfold spec_l7Class spec_l7Class_j1 clsS
  rw [spec_PageOf_eq, spec_IndexOf_eq]
  by_cases h1 : 0 ≤ s ∧ s ≤ 23
  · obtain ⟨k, rfl⟩ := Int.eq_ofNat_of_zero_le h1.1
    have hk : k / 4 < 6 := by omega
    have e1 : ((k : Int) / 4) = ((k / 4 : Nat) : Int) := by omega
    have hi := idx_cls hs hk
    have n1 : ¬ ((k / 4 : Nat) : Int) < 0 := by omega
    simp only [h1, and_self, if_true, Option.bind_some, e1, n1, decide_false, Bool.false_eq_true, if_false, hi, Int.toNat_natCast, true_and]
    by_cases h2 : clsP h (k / 4) < 0
    · have h3 : perC (clsP h (k / 4)) = 0 := perC_no (by omega)
      have h4 : ¬ (k : Int) % 4 < 0 := by omega
      simp [h2, h3, h4]
    · by_cases h3 : (k : Int) % 4 < perC (clsP h (k / 4))
      · have h4 : ¬ perC (clsP h (k / 4)) ≤ (k : Int) % 4 := by omega
        simp [h2, h3, h4, spec_PerPage_eq]
      · have h4 : perC (clsP h (k / 4)) ≤ (k : Int) % 4 := by omega
        simp [h2, h3, h4, spec_PerPage_eq]
  · simp [h1]
theorem impl_classIn_eq {h : Heap} (hs : HShape h) (s : Int) : impl_classIn h s = some (clsS h s) := by
  unfold impl_classIn impl_classIn_j1 clsS
  rw [impl_isSlot_eq]
  by_cases h1 : 0 ≤ s ∧ s ≤ 23
  · obtain ⟨k, rfl⟩ := Int.eq_ofNat_of_zero_le h1.1
    have hk : k / 4 < 6 := by omega
    have e1 : ((k : Int) / 4) = ((k / 4 : Nat) : Int) := by omega
    have hi := idx_cls hs hk
    have e2 : w64 (Int.tdiv (k : Int) 4) = ((k / 4 : Nat) : Int) := by rw [tdiv_pos (by omega), w64_in (by omega) (by omega)]; omega
    simp only [h1, and_self, decide_true, Bool.not_true, Bool.false_eq_true, if_true, Option.bind_some, e1, e2, if_false, hi, Int.toNat_natCast, true_and, impl_GenAt_eq]
    by_cases h3 : (k : Int) % 4 < perC (clsP h (k / 4))
    · have hm := mul_stride (c := clsP h (k / 4)) (by omega) h3
      have hg : ¬ genC (k : Int) (clsP h (k / 4)) < 0 := by
        unfold genC; rw [if_pos ⟨h1, h3⟩]; omega
      simp [h3, hg]
    · have hg : genC (k : Int) (clsP h (k / 4)) < 0 := by
        unfold genC; rw [if_neg (fun q => h3 q.2)]; omega
      simp [h3, hg]
  · simp [h1]
def genS (h : Heap) (s : Int) : Int := ld h.Bytes (genC s (clsS h s)).toNat 4
theorem genC_in {h : Heap} {s : Int} (hc : 0 ≤ clsS h s) : 0 ≤ genC s (clsS h s) ∧ genC s (clsS h s) + 4 ≤ 384 := by
  obtain ⟨h1, h2, h3⟩ := clsS_in hc
  rw [h3]
  have hm := mul_stride (c := clsP h (s / 4).toNat) (by omega) h2
  have hst : 0 < strideC (clsP h (s / 4).toNat) := by
    have : 0 ≤ clsP h (s / 4).toNat ∧ clsP h (s / 4).toNat ≤ 2 := perC_pos.1 (by omega)
    rcases cls_cases this with e | e | e <;> rw [e] <;> decide
  have : 4 ≤ strideC (clsP h (s / 4).toNat) := by
    have : 0 ≤ clsP h (s / 4).toNat ∧ clsP h (s / 4).toNat ≤ 2 := perC_pos.1 (by omega)
    rcases cls_cases this with e | e | e <;> rw [e] <;> decide
  unfold genC; rw [if_pos ⟨h1, h2⟩]; omega
theorem spec_l7Gen_eq {h : Heap} (hs : HShape h) {s : Int} (hc : 0 ≤ clsS h s) : spec_l7Gen h s = some (genS h s) := by
  have hg := genC_in hc
  unfold spec_l7Gen
  rw [spec_l7Class_eq hs]
  simp only [Option.bind_some, spec_GenAt_eq]
  have l1 := spec_l3Load_eq hs.2.2.1 (a := (genC s (clsS h s)).toNat) (w := 4) (by omega) (by have := hs.1; omega) (by have := hs.1; omega)
  rw [show ((4 : Nat) : Int) = 4 from rfl, Int.toNat_of_nonneg hg.1] at l1
  rw [l1]; rfl
theorem impl_GenIn_eq {h : Heap} (hs : HShape h) {s : Int} (hc : 0 ≤ clsS h s) : impl_GenIn h s = some (genS h s) := by
  have hg := genC_in hc
  have hm : h.Bytes.length ≤ maxLen := by rw [hs.1]; simp [maxLen]
  unfold impl_GenIn impl_ClassAt
  rw [impl_shaped_eq hm, impl_classIn_eq hs]
  have l1 := impl_loadNum_eq hs.2.2.1 (a := (genC s (clsS h s)).toNat) (w := 4) (by omega) (by have := hs.1; omega) (by have := hs.1; omega)
  rw [show ((4 : Nat) : Int) = 4 from rfl, Int.toNat_of_nonneg hg.1] at l1
  have n1 : ¬ clsS h s < 0 := by omega
  simp [hs, n1, impl_GenAt_eq, l1, genS]
end Go.Gv
end
section
set_option linter.unusedVariables false
set_option linter.unusedSimpArgs false
set_option linter.unusedSectionVars false
namespace Go.Gv
def flatS (l : List SList) : List Int := l.flatMap SList.Slots
def allS (l : Lists) : List Int := flatS l.Global ++ flatS l.Own
def LOk (l : Lists) : Prop := l.Global.length = 3 ∧ l.Own.length = 9 ∧ (∀ s ∈ l.Own, s.Slots.length ≤ 2) ∧ (∀ x ∈ allS l, 0 ≤ x ∧ x ≤ 23) ∧ (allS l).Nodup
instance (l : Lists) : Decidable (LOk l) := by unfold LOk; infer_instance
theorem flat_take {l : List SList} {k : Nat} (h : k < l.length) : flatS (l.take (k + 1)) = flatS (l.take k) ++ l[k].Slots := by
  unfold flatS
  rw [List.take_succ_eq_append_getElem h, List.flatMap_append]; simp
theorem flat_le (l : List SList) (k : Nat) : (flatS (l.take k)).length ≤ (flatS l).length := by
  have : flatS l = flatS (l.take k) ++ flatS (l.drop k) := by
    unfold flatS; rw [← List.flatMap_append, List.take_append_drop]
  rw [this]; simp
theorem flat_get (l : List SList) {k : Nat} (h : k < l.length) : l[k].Slots.length ≤ (flatS l).length := by
  have h1 := flat_le l (k + 1)
  rw [flat_take h] at h1
  simp at h1; omega
theorem spec_l8All_eq {l : Lists} (h : (allS l).length ≤ 1073741824) (hg : l.Global.length ≤ maxLen) (ho : l.Own.length ≤ maxLen) : spec_l8All l = some (allS l) := by
  have hsum : (flatS l.Global).length + (flatS l.Own).length ≤ 1073741824 := by simpa [allS] using h
  unfold spec_l8All
  have k1 : loop (spec_l8All_l1 l) ([], 0) = some (flatS l.Global) := by
    refine enum_eq (f := spec_l8All_l1 l) l.Global.length (fun k => (flatS (l.Global.take k), (k : Int))) _ (fun k hk => ?_) ?_
    · have h1 := flat_le l.Global (k + 1)
      rw [flat_take hk] at h1
      simp only [spec_l8All_l1]
      rw [if_pos (by simp; omega), idx_nat hk]
      simp only [Option.bind_some]
      rw [need_yes (by simp at h1; omega), flat_take hk, w64_nat (lt_max hk hg)]
    · simp [spec_l8All_l1]
  rw [k1]
  simp only [Option.bind_some, spec_l8All_m1, spec_l8All_j1]
  have k2 : loop (spec_l8All_l2 l) (flatS l.Global, 0) = some (allS l) := by
    have := enum_eq (f := spec_l8All_l2 l) l.Own.length (fun k => (flatS l.Global ++ flatS (l.Own.take k), (k : Int))) (allS l) (fun k hk => ?_) ?_
    · simpa [flatS] using this
    · have h1 := flat_le l.Own (k + 1)
      rw [flat_take hk] at h1
      simp only [spec_l8All_l2]
      rw [if_pos (by simp; omega), idx_nat hk]
      simp only [Option.bind_some]
      rw [need_yes (by simp at h1 ⊢; omega), flat_take hk, w64_nat (lt_max hk ho), List.append_assoc]
    · simp [spec_l8All_l2, allS]
  rw [k2]; rfl
theorem spec_l8Has_eq {l : List Int} (hl : l.length ≤ maxLen) (x : Int) : spec_l8Has l x = some (decide (x ∈ l)) := by
  unfold spec_l8Has
  have key : loop (spec_l8Has_l1 l x) 0 = some (if ∀ y ∈ l, y ≠ x then Out.brk () else Out.ret true) := by
    refine scan_list (f := spec_l8Has_l1 l x) l (fun k => (k : Int)) (fun y => y ≠ x) _ _ (fun k h hp => ?_) (fun k h hp => ?_) ?_
    · simp only [spec_l8Has_l1]
      rw [if_pos (by simp; omega), idx_nat h, w64_nat (lt_max h hl)]
      have : (l[k] == x) = false := by simpa using hp
      simp only [Option.bind_some, this, Bool.false_eq_true, if_false]
    · simp only [spec_l8Has_l1]
      rw [if_pos (by simp; omega), idx_nat h]
      have : (l[k] == x) = true := by simpa using hp
      simp only [Option.bind_some, this, if_true]
    · simp [spec_l8Has_l1]
  rw [key]
  by_cases h : x ∈ l
  · rw [if_neg (fun q => q x h rfl), decide_eq_true h]; rfl
  · rw [if_pos (fun y hy (e : y = x) => h (e ▸ hy)), decide_eq_false h]; rfl
theorem nodup_take (l : List Int) : l.Nodup ↔ ∀ k (h : k < l.length), l[k] ∉ l.take k := by
  unfold List.Nodup
  rw [List.pairwise_iff_getElem]
  constructor
  · intro h k hk hm
    obtain ⟨i, hi, he⟩ := List.mem_take_iff_getElem.1 hm
    exact h i k (by omega) hk (by omega) he
  · intro h i j hi hj hij he
    exact h j hj (List.mem_take_iff_getElem.2 ⟨i, by omega, he⟩)
theorem spec_ListsOk_eq {l : Lists} (h : (allS l).length ≤ 1073741824) : spec_ListsOk l = some (decide (LOk l)) := by
  unfold spec_ListsOk spec_ListsOk_j1
  by_cases hg : l.Global.length = 3
  · by_cases ho : l.Own.length = 9
    · have n1 : ((l.Global.length : Int) != 3) = false := by simp; omega
      have n2 : ((l.Own.length : Int) != 9) = false := by simp; omega
      simp only [n1, n2, Bool.false_eq_true, if_false]
      have k1 : loop (spec_ListsOk_l2 l) 0 = some (if ∀ s ∈ l.Own, s.Slots.length ≤ 2 then Out.brk () else Out.ret false) := by
        refine scan_list (f := spec_ListsOk_l2 l) l.Own (fun k => (k : Int)) (fun s => s.Slots.length ≤ 2) _ _ (fun k hk hp => ?_) (fun k hk hp => ?_) ?_
        · simp only [spec_ListsOk_l2]
          rw [if_pos (by simp; omega), idx_nat hk, w64_in (by omega) (by omega)]
          simp only [Option.bind_some]
          rw [if_neg (by simp; omega)]; rfl
        · simp only [spec_ListsOk_l2]
          rw [if_pos (by simp; omega), idx_nat hk]
          simp only [Option.bind_some]
          rw [if_pos (by simp; omega)]
        · simp [spec_ListsOk_l2]
      rw [k1]
      by_cases h2 : ∀ s ∈ l.Own, s.Slots.length ≤ 2
      · rw [if_pos h2]
        simp only [Option.bind_some, spec_ListsOk_m2, spec_ListsOk_j2]
        rw [spec_l8All_eq h (by rw [hg]; simp [maxLen]) (by rw [ho]; simp [maxLen])]
        simp only [Option.bind_some]
        have k2 : loop (spec_ListsOk_l3 (allS l)) 0 = some (if ∀ k, k < (allS l).length → (0 ≤ (allS l).getD k 0 ∧ (allS l).getD k 0 ≤ 23) ∧ (allS l).getD k 0 ∉ (allS l).take k then Out.brk () else Out.ret false) := by
          have hst : ∀ k, k < (allS l).length → spec_ListsOk_l3 (allS l) (k : Int) = if (0 ≤ (allS l).getD k 0 ∧ (allS l).getD k 0 ≤ 23) ∧ (allS l).getD k 0 ∉ (allS l).take k then some (.next ((k + 1 : Nat) : Int)) else some (.stop (Out.ret false)) := by
            intro k hk
            have e : (allS l).getD k 0 = (allS l)[k] := by rw [List.getD_eq_getElem?_getD, List.getElem?_eq_getElem hk]; rfl
            rw [e]
            simp only [spec_ListsOk_l3]
            rw [if_pos (by simp; omega), idx_nat hk]
            simp only [Option.bind_some, l1In_eq, spec_ListsOk_j4]
            by_cases q : 0 ≤ (allS l)[k] ∧ (allS l)[k] ≤ 23
            · rw [decide_eq_true q]
              simp only [Bool.not_true, Bool.false_eq_true, if_false, Int.toNat_natCast, List.drop_zero]
              rw [need_yes (by omega), spec_l8Has_eq (by simp [maxLen]; omega), w64_in (by omega) (by omega)]
              by_cases q2 : (allS l)[k] ∈ (allS l).take k
              · rw [if_neg (fun x => x.2 q2), decide_eq_true q2]; rfl
              · rw [if_pos ⟨q, q2⟩, decide_eq_false q2]; rfl
            · rw [decide_eq_false q]; simp only [Bool.not_false, if_true]; rw [if_neg (fun x => q x.1)]
          refine scan_all (f := spec_ListsOk_l3 (allS l)) (allS l).length (fun k => (k : Int)) (fun k => (0 ≤ (allS l).getD k 0 ∧ (allS l).getD k 0 ≤ 23) ∧ (allS l).getD k 0 ∉ (allS l).take k) _ _ (fun k hk hx => ?_) (fun k hk hx => ?_) ?_
          · rw [hst k hk, if_pos hx]
          · rw [hst k hk, if_neg hx]
          · simp [spec_ListsOk_l3]
        rw [k2]
        have hiff : LOk l ↔ ∀ k, k < (allS l).length → (0 ≤ (allS l).getD k 0 ∧ (allS l).getD k 0 ≤ 23) ∧ (allS l).getD k 0 ∉ (allS l).take k := by
          have e : ∀ k (hk : k < (allS l).length), (allS l).getD k 0 = (allS l)[k] := fun k hk => by rw [List.getD_eq_getElem?_getD, List.getElem?_eq_getElem hk]; rfl
          constructor
          · rintro ⟨_, _, _, q1, q2⟩ k hk
            rw [e k hk]
            exact ⟨q1 _ (List.getElem_mem hk), (nodup_take _).1 q2 k hk⟩
          · intro q
            refine ⟨hg, ho, h2, fun x hx => ?_, (nodup_take _).2 fun k hk => ?_⟩
            · obtain ⟨k, hk, rfl⟩ := List.mem_iff_getElem.1 hx
              have := (q k hk).1; rw [e k hk] at this; exact this
            · have := (q k hk).2; rw [e k hk] at this; exact this
        by_cases q : LOk l
        · rw [if_pos (hiff.1 q), decide_eq_true q]; rfl
        · rw [if_neg (fun x => q (hiff.2 x)), decide_eq_false q]; rfl
      · rw [if_neg h2, decide_eq_false (fun q : LOk l => h2 q.2.2.1)]; rfl
    · have n1 : ((l.Global.length : Int) != 3) = false := by simp; omega
      have n2 : ((l.Own.length : Int) != 9) = true := by simp; omega
      simp only [n1, n2, Bool.false_eq_true, if_false, if_true]
      rw [decide_eq_false (fun q : LOk l => ho q.2.1)]
  · have n1 : ((l.Global.length : Int) != 3) = true := by simp; omega
    simp only [n1, if_true]
    rw [decide_eq_false (fun q : LOk l => hg q.1)]
def goMet : List Bool → List Int → Option (List Bool)
  | met, [] => some met
  | met, x :: r => if (0 ≤ x ∧ x ≤ 23) ∧ met.getD x.toNat true = false then goMet (met.set x.toNat true) r else none
theorem goMet_len : ∀ {xs : List Int} {met m : List Bool}, goMet met xs = some m → m.length = met.length
  | [], met, m, h => by simp [goMet] at h; rw [h]
  | x :: r, met, m, h => by
    simp only [goMet] at h
    split at h
    · have := goMet_len h; simpa using this
    · cases h
theorem goMet_append : ∀ (a b : List Int) (met : List Bool), goMet met (a ++ b) = (goMet met a).bind fun m => goMet m b
  | [], b, met => rfl
  | x :: r, b, met => by
    simp only [List.cons_append, goMet]
    split
    · exact goMet_append r b _
    · rfl
theorem goMet_some : ∀ (xs : List Int) (met : List Bool), met.length = 24 → ((goMet met xs).isSome = true ↔ (∀ x ∈ xs, 0 ≤ x ∧ x ≤ 23) ∧ xs.Nodup ∧ ∀ x ∈ xs, met.getD x.toNat true = false)
  | [], met, hm => by simp [goMet]
  | x :: r, met, hm => by
    simp only [goMet]
    by_cases h : (0 ≤ x ∧ x ≤ 23) ∧ met.getD x.toNat true = false
    · rw [if_pos h, goMet_some r _ (by simpa using hm)]
      have hset : ∀ y, 0 ≤ y ∧ y ≤ 23 → (((met.set x.toNat true).getD y.toNat true = false) ↔ (y ≠ x ∧ met.getD y.toNat true = false)) := by
        intro y hy
        rw [List.getD_eq_getElem?_getD, List.getD_eq_getElem?_getD]
        by_cases e : y = x
        · subst e; rw [List.getElem?_set_self (by omega)]; simp
        · rw [List.getElem?_set_ne (by omega)]; simp [e]
      constructor
      · rintro ⟨q1, q2, q3⟩
        refine ⟨fun y hy => ?_, List.nodup_cons.2 ⟨fun hx => ?_, q2⟩, fun y hy => ?_⟩
        · rcases List.mem_cons.1 hy with rfl | hy
          · exact h.1
          · exact q1 y hy
        · exact ((hset x h.1).1 (q3 x hx)).1 rfl
        · rcases List.mem_cons.1 hy with rfl | hy
          · exact h.2
          · exact ((hset y (q1 y hy)).1 (q3 y hy)).2
      · rintro ⟨q1, q2, q3⟩
        have q2 := List.nodup_cons.1 q2
        refine ⟨fun y hy => q1 y (List.mem_cons_of_mem _ hy), q2.2, fun y hy => (hset y (q1 y (List.mem_cons_of_mem _ hy))).2 ⟨fun e => q2.1 (e ▸ hy), q3 y (List.mem_cons_of_mem _ hy)⟩⟩
    · rw [if_neg h]
      constructor
      · intro q; cases q
      · rintro ⟨q1, q2, q3⟩
        exact (h ⟨q1 x List.mem_cons_self, q3 x List.mem_cons_self⟩).elim
def endMet : Option (List Bool) → Out (List Bool) Bool
  | some m => .brk m
  | none => .ret false
theorem l4_eq {s : SList} (hl : s.Slots.length ≤ maxLen) : ∀ d k (met : List Bool), k + d = s.Slots.length → met.length = 24 → loop (impl_ListsOk_l4 s) ((k : Int), met) = some (endMet (goMet met (s.Slots.drop k))) := by
  intro d
  induction d with
  | zero =>
    intro k met hk hm
    rw [loop_stop (r := Out.brk met) (by simp [impl_ListsOk_l4]; omega), List.drop_eq_nil_of_le (by omega)]; rfl
  | succ d ih =>
    intro k met hk hm
    have hk' : k < s.Slots.length := by omega
    have hd : s.Slots.drop k = s.Slots[k] :: s.Slots.drop (k + 1) := List.drop_eq_getElem_cons hk'
    have hst : impl_ListsOk_l4 s ((k : Int), met) = if (0 ≤ s.Slots[k] ∧ s.Slots[k] ≤ 23) ∧ met.getD s.Slots[k].toNat true = false then some (.next (((k + 1 : Nat) : Int), met.set s.Slots[k].toNat true)) else some (.stop (Out.ret false)) := by
      simp only [impl_ListsOk_l4]
      rw [if_pos (by simp; omega), idx_nat hk']
      simp only [Option.bind_some, impl_isSlot_eq]
      generalize s.Slots[k] = x
      by_cases q : 0 ≤ x ∧ x ≤ 23
      · obtain ⟨j, rfl⟩ := Int.eq_ofNat_of_zero_le q.1
        have hj : j < met.length := by omega
        have e : met.getD j true = met[j] := by rw [List.getD_eq_getElem?_getD, List.getElem?_eq_getElem hj]; rfl
        simp only [q, and_self, decide_true, Bool.not_true, Bool.false_eq_true, if_false, impl_ListsOk_j5, Int.toNat_natCast, true_and, e]
        rw [need_yes (by omega), idx_nat hj]
        simp only [Option.bind_some]
        cases met[j]
        · simp only [Bool.false_eq_true, if_false, if_true]
          rw [need_yes (by omega), w64_nat (lt_max hk' hl)]
        · simp
      · rw [decide_eq_false q]; simp only [Bool.not_false, if_true, impl_ListsOk_j5]; rw [if_neg (fun x => q x.1)]
    rw [hd, goMet]
    by_cases q : (0 ≤ s.Slots[k] ∧ s.Slots[k] ≤ 23) ∧ met.getD s.Slots[k].toNat true = false
    · rw [if_pos q] at hst ⊢
      rw [loop_next hst, ih (k + 1) _ (by omega) (by simpa using hm)]
    · rw [if_neg q] at hst ⊢
      rw [loop_stop hst]; rfl
def LeTwo (l : List SList) : Prop := ∀ s ∈ l, s.Slots.length ≤ 2
instance (l : List SList) : Decidable (LeTwo l) := by unfold LeTwo; infer_instance
theorem l2_eq {l : Lists} (ho : l.Own.length = 9) (hn : (l.Own ++ l.Global).length ≤ 1000) (hs : ∀ s ∈ l.Own ++ l.Global, s.Slots.length ≤ maxLen) : ∀ d k (met : List Bool), k + d = (l.Own ++ l.Global).length → met.length = 24 →
    loop (impl_ListsOk_l2 l) ((k : Int), met) = some (if LeTwo (((l.Own ++ l.Global).drop k).take (9 - k)) ∧ (goMet met (flatS ((l.Own ++ l.Global).drop k))).isSome = true then Out.brk () else Out.ret false) := by
  intro d
  induction d with
  | zero =>
    intro k met hk hm
    rw [List.drop_eq_nil_of_le (by omega), if_pos ⟨by simp [LeTwo], rfl⟩]
    refine loop_stop ?_
    simp only [impl_ListsOk_l2]
    rw [if_neg (by simp; simp at hk; omega)]
  | succ d ih =>
    intro k met hk hm
    have hk' : k < (l.Own ++ l.Global).length := by omega
    have hd : (l.Own ++ l.Global).drop k = (l.Own ++ l.Global)[k] :: (l.Own ++ l.Global).drop (k + 1) := List.drop_eq_getElem_cons hk'
    have hsk := hs _ (List.getElem_mem hk')
    have hf : flatS ((l.Own ++ l.Global).drop k) = (l.Own ++ l.Global)[k].Slots ++ flatS ((l.Own ++ l.Global).drop (k + 1)) := by unfold flatS; rw [hd, List.flatMap_cons]
    have hin : ∀ b : Bool, impl_ListsOk_j3 (k : Int) met (l.Own ++ l.Global)[k] b = if b then some (.stop (Out.ret false)) else (match goMet met (l.Own ++ l.Global)[k].Slots with | some m => some (.next (((k + 1 : Nat) : Int), m)) | none => some (.stop (Out.ret false))) := by
      intro b
      have h4 := l4_eq hsk _ 0 met (Nat.zero_add _) hm
      rw [show ((0 : Nat) : Int) = 0 from rfl, List.drop_zero] at h4
      unfold impl_ListsOk_j3
      rw [h4]
      cases b
      · simp only [Bool.false_eq_true, if_false, Option.bind_some]
        cases goMet met (l.Own ++ l.Global)[k].Slots with
        | none => rfl
        | some m => simp only [endMet, impl_ListsOk_m4, impl_ListsOk_j4]; rw [w64_in (by omega) (by omega)]; rfl
      · rfl
    have hst : impl_ListsOk_l2 l ((k : Int), met) = impl_ListsOk_j3 (k : Int) met (l.Own ++ l.Global)[k] (decide (k < 9 ∧ 2 < (l.Own ++ l.Global)[k].Slots.length)) := by
      simp only [impl_ListsOk_l2]
      rw [if_pos (by simp; simp at hk'; omega), idx_nat hk']
      simp only [Option.bind_some]
      by_cases h9 : k < 9
      · rw [if_pos (by simp; omega)]
        congr 1
        rw [Bool.eq_iff_iff]; simp only [decide_eq_true_eq]; omega
      · rw [if_neg (by simp; omega), decide_eq_false (by omega)]
    rw [hin] at hst
    by_cases h2 : k < 9 ∧ 2 < (l.Own ++ l.Global)[k].Slots.length
    · rw [decide_eq_true h2] at hst
      simp only [if_true] at hst
      rw [loop_stop hst, if_neg]
      rintro ⟨q, _⟩
      have e : 9 - k = (9 - (k + 1)) + 1 := by omega
      rw [hd, e, List.take_succ_cons] at q
      have := q _ List.mem_cons_self
      omega
    · rw [decide_eq_false h2] at hst
      simp only [Bool.false_eq_true, if_false] at hst
      have hcond : LeTwo (((l.Own ++ l.Global).drop k).take (9 - k)) ↔ LeTwo (((l.Own ++ l.Global).drop (k + 1)).take (9 - (k + 1))) := by
        unfold LeTwo
        by_cases h9 : k < 9
        · have e : 9 - k = (9 - (k + 1)) + 1 := by omega
          rw [hd, e, List.take_succ_cons, List.forall_mem_cons]
          exact ⟨fun q => q.2, fun q => ⟨by omega, q⟩⟩
        · have e : 9 - k = 0 := by omega
          have e' : 9 - (k + 1) = 0 := by omega
          rw [e, e']; simp
      rw [hf, goMet_append]
      cases hg : goMet met (l.Own ++ l.Global)[k].Slots with
      | none =>
        rw [hg] at hst
        rw [loop_stop hst, if_neg (by simp)]
      | some m =>
        rw [hg] at hst
        rw [loop_next hst, ih (k + 1) m (by omega) (by rw [goMet_len hg]; exact hm)]
        simp only [Option.bind_some, hcond]
theorem impl_ListsOk_eq {l : Lists} (h : (allS l).length ≤ 1073741824) : impl_ListsOk l = some (decide (LOk l)) := by
  unfold impl_ListsOk impl_ListsOk_j1
  by_cases hg : l.Global.length = 3
  · by_cases ho : l.Own.length = 9
    · have n1 : ((l.Global.length : Int) != 3) = false := by simp; omega
      have n2 : ((l.Own.length : Int) != 9) = false := by simp; omega
      simp only [n1, n2, Bool.false_eq_true, if_false]
      rw [need_yes (by omega)]
      have hsl : ∀ s ∈ l.Own ++ l.Global, s.Slots.length ≤ maxLen := by
        intro s hm
        have hsum : (flatS l.Global).length + (flatS l.Own).length ≤ 1073741824 := by simpa [allS] using h
        have hb : (1073741824 : Nat) ≤ maxLen := by simp [maxLen]
        rcases List.mem_append.1 hm with hm | hm
        · obtain ⟨k, hk, rfl⟩ := List.mem_iff_getElem.1 hm
          have := flat_get l.Own hk; omega
        · obtain ⟨k, hk, rfl⟩ := List.mem_iff_getElem.1 hm
          have := flat_get l.Global hk; omega
      have key := l2_eq ho (by simp; omega) hsl (l.Own ++ l.Global).length 0 [false, false, false, false, false, false, false, false, false, false, false, false, false, false, false, false, false, false, false, false, false, false, false, false] (by omega) rfl
      rw [show ((0 : Nat) : Int) = 0 from rfl, List.drop_zero, Nat.sub_zero] at key
      rw [key]
      have et : (l.Own ++ l.Global).take 9 = l.Own := by rw [← ho]; simp
      have ef : flatS (l.Own ++ l.Global) = flatS l.Own ++ flatS l.Global := by simp [flatS]
      have hm0 : ∀ j : Nat, j < 24 → [false, false, false, false, false, false, false, false, false, false, false, false, false, false, false, false, false, false, false, false, false, false, false, false].getD j true = false := by decide
      have hiff : LOk l ↔ LeTwo ((l.Own ++ l.Global).take 9) ∧ (goMet [false, false, false, false, false, false, false, false, false, false, false, false, false, false, false, false, false, false, false, false, false, false, false, false] (flatS (l.Own ++ l.Global))).isSome = true := by
        rw [goMet_some _ _ rfl, et, ef]
        have hp : (flatS l.Own ++ flatS l.Global).Perm (allS l) := List.perm_append_comm
        constructor
        · rintro ⟨_, _, q1, q2, q3⟩
          exact ⟨q1, fun x hx => q2 x (hp.mem_iff.1 hx), hp.nodup_iff.2 q3, fun x hx => hm0 _ (by have := q2 x (hp.mem_iff.1 hx); omega)⟩
        · rintro ⟨q1, q2, q3, _⟩
          exact ⟨hg, ho, q1, fun x hx => q2 x (hp.mem_iff.2 hx), hp.nodup_iff.1 q3⟩
      by_cases q : LOk l
      · rw [if_pos (hiff.1 q), decide_eq_true q]; rfl
      · rw [if_neg (fun x => q (hiff.2 x)), decide_eq_false q]; rfl
    · have n1 : ((l.Global.length : Int) != 3) = false := by simp; omega
      have n2 : ((l.Own.length : Int) != 9) = true := by simp; omega
      simp only [n1, n2, Bool.false_eq_true, if_false, if_true]
      rw [decide_eq_false (fun q : LOk l => ho q.2.1)]
  · have n1 : ((l.Global.length : Int) != 3) = true := by simp; omega
    simp only [n1, if_true]
    rw [decide_eq_false (fun q : LOk l => hg q.1)]
end Go.Gv
end
section
set_option linter.unusedVariables false
set_option linter.unusedSimpArgs false
set_option linter.unusedSectionVars false
namespace Go.Gv
def FitsL (h : Heap) (l : List Int) (c : Int) : Prop := ∀ x ∈ l, clsS h x = c ∧ genS h x ≤ 6
instance (h : Heap) (l : List Int) (c : Int) : Decidable (FitsL h l c) := by unfold FitsL; infer_instance
theorem spec_l9Listed_eq {h : Heap} (hs : HShape h) {l : List Int} (hl : l.length ≤ maxLen) {c : Int} (hc : 0 ≤ c) : spec_l9Listed h l c = some (decide (FitsL h l c)) := by
  unfold spec_l9Listed
  have key : loop (spec_l9Listed_l1 h l c) 0 = some (if ∀ x ∈ l, clsS h x = c ∧ genS h x ≤ 6 then Out.brk () else Out.ret false) := by
    have hst : ∀ k (hk : k < l.length), spec_l9Listed_l1 h l c (k : Int) = if clsS h l[k] = c ∧ genS h l[k] ≤ 6 then some (.next ((k + 1 : Nat) : Int)) else some (.stop (Out.ret false)) := by
      intro k hk
      simp only [spec_l9Listed_l1]
      rw [if_pos (by simp; omega), idx_nat hk]
      generalize l[k] = x
      simp only [Option.bind_some, spec_l7Class_eq hs, spec_l9Listed_j2]
      by_cases q : clsS h x = c
      · have n1 : (clsS h x != c) = false := by simp only [bne_eq_false_iff_eq]; exact q
        simp only [n1, Bool.false_eq_true, if_false, spec_l7Gen_eq hs (show 0 ≤ clsS h x by omega), Option.bind_some, w64_nat (lt_max hk hl)]
        by_cases q2 : genS h x ≤ 6
        · rw [if_neg (by simp; omega), if_pos ⟨q, q2⟩]
        · rw [if_pos (by simp; omega), if_neg (fun x => q2 x.2)]
      · have n1 : (clsS h x != c) = true := by simp only [bne_iff_ne]; exact q
        simp only [n1, if_true]
        rw [if_neg (fun x => q x.1)]
    refine scan_list (f := spec_l9Listed_l1 h l c) l (fun k => (k : Int)) (fun x => clsS h x = c ∧ genS h x ≤ 6) _ _ (fun k hk hp => ?_) (fun k hk hp => ?_) ?_
    · rw [hst k hk, if_pos hp]
    · rw [hst k hk, if_neg hp]
    · simp [spec_l9Listed_l1]
  rw [key]
  by_cases q : ∀ x ∈ l, clsS h x = c ∧ genS h x ≤ 6
  · rw [if_pos q, decide_eq_true (show FitsL h l c from q)]; rfl
  · rw [if_neg q, decide_eq_false (show ¬ FitsL h l c from q)]; rfl
theorem impl_listFits_eq {h : Heap} (hs : HShape h) {s : SList} (hl : s.Slots.length ≤ maxLen) {c : Int} (hc : 0 ≤ c) : impl_listFits h s c = some (decide (FitsL h s.Slots c)) := by
  unfold impl_listFits
  have key : loop (impl_listFits_l1 h s c) 0 = some (if ∀ x ∈ s.Slots, clsS h x = c ∧ genS h x ≤ 6 then Out.brk () else Out.ret false) := by
    have hst : ∀ k (hk : k < s.Slots.length), impl_listFits_l1 h s c (k : Int) = if clsS h s.Slots[k] = c ∧ genS h s.Slots[k] ≤ 6 then some (.next ((k + 1 : Nat) : Int)) else some (.stop (Out.ret false)) := by
      intro k hk
      simp only [impl_listFits_l1]
      rw [if_pos (by simp; omega), idx_nat hk]
      generalize s.Slots[k] = x
      simp only [Option.bind_some, impl_classIn_eq hs, impl_listFits_j2]
      by_cases q : clsS h x = c
      · have n1 : (clsS h x != c) = false := by simp only [bne_eq_false_iff_eq]; exact q
        simp only [n1, Bool.false_eq_true, if_false, impl_GenIn_eq hs (show 0 ≤ clsS h x by omega), Option.bind_some, w64_nat (lt_max hk hl)]
        by_cases q2 : genS h x ≤ 6
        · rw [if_neg (by simp; omega), if_pos ⟨q, q2⟩]
        · rw [if_pos (by simp; omega), if_neg (fun x => q2 x.2)]
      · have n1 : (clsS h x != c) = true := by simp only [bne_iff_ne]; exact q
        simp only [n1, if_true]
        rw [if_neg (fun x => q x.1)]
    refine scan_list (f := impl_listFits_l1 h s c) s.Slots (fun k => (k : Int)) (fun x => clsS h x = c ∧ genS h x ≤ 6) _ _ (fun k hk hp => ?_) (fun k hk hp => ?_) ?_
    · rw [hst k hk, if_pos hp]
    · rw [hst k hk, if_neg hp]
    · simp [impl_listFits_l1]
  rw [key]
  by_cases q : ∀ x ∈ s.Slots, clsS h x = c ∧ genS h x ≤ 6
  · rw [if_pos q, decide_eq_true (show FitsL h s.Slots c from q)]; rfl
  · rw [if_neg q, decide_eq_false (show ¬ FitsL h s.Slots c from q)]; rfl
def slotsAt (l : List SList) (k : Nat) : List Int := (l.getD k ⟨[]⟩).Slots
theorem slotsAt_get {l : List SList} {k : Nat} (h : k < l.length) : l[k].Slots = slotsAt l k := by
  unfold slotsAt; rw [List.getD_eq_getElem?_getD, List.getElem?_eq_getElem h]; rfl
def GFit (m : Mem) (k : Nat) : Prop := FitsL m.Heap (slotsAt m.Lists.Global k) (k : Int)
def OFit (m : Mem) (k : Nat) : Prop := FitsL m.Heap (slotsAt m.Lists.Own k) ((k % 3 : Nat) : Int)
instance (m : Mem) (k : Nat) : Decidable (GFit m k) := by unfold GFit; infer_instance
instance (m : Mem) (k : Nat) : Decidable (OFit m k) := by unfold OFit; infer_instance
instance (m : Mem) : Decidable (∀ k, k < 3 → GFit m k) := Nat.decidableBallLT 3 fun k _ => GFit m k
instance (m : Mem) : Decidable (∀ k, k < 9 → OFit m k) := Nat.decidableBallLT 9 fun k _ => OFit m k
instance (m : Mem) (c : Nat) : Decidable (∀ w, w < 3 → OFit m (w * 3 + c)) := Nat.decidableBallLT 3 fun w _ => OFit m (w * 3 + c)
instance (m : Mem) : Decidable (∀ k, k < 3 → GFit m k ∧ ∀ w, w < 3 → OFit m (w * 3 + k)) := Nat.decidableBallLT 3 fun k _ => GFit m k ∧ ∀ w, w < 3 → OFit m (w * 3 + k)
def MOk (m : Mem) : Prop := (HOk m.Heap ∧ LOk m.Lists) ∧ (∀ k, k < 3 → GFit m k) ∧ ∀ k, k < 9 → OFit m k
instance (m : Mem) : Decidable (MOk m) := by unfold MOk; infer_instance
theorem LOk.slots {l : Lists} (h : LOk l) (hb : (allS l).length ≤ 1073741824) : (∀ s ∈ l.Global, s.Slots.length ≤ 1073741824) ∧ ∀ s ∈ l.Own, s.Slots.length ≤ 1073741824 := by
  have hsum : (flatS l.Global).length + (flatS l.Own).length ≤ 1073741824 := by simpa [allS] using hb
  constructor
  · intro s hm
    obtain ⟨k, hk, rfl⟩ := List.mem_iff_getElem.1 hm
    have := flat_get l.Global hk; omega
  · intro s hm
    obtain ⟨k, hk, rfl⟩ := List.mem_iff_getElem.1 hm
    have := flat_get l.Own hk; omega
theorem own_all {m : Mem} : (∀ k, k < 3 → GFit m k ∧ ∀ w, w < 3 → OFit m (w * 3 + k)) ↔ (∀ k, k < 3 → GFit m k) ∧ ∀ k, k < 9 → OFit m k := by
  constructor
  · intro h
    refine ⟨fun k hk => (h k hk).1, fun k hk => ?_⟩
    have := (h (k % 3) (by omega)).2 (k / 3) (by omega)
    have e : k / 3 * 3 + k % 3 = k := by omega
    rwa [e] at this
  · rintro ⟨h1, h2⟩ k hk
    exact ⟨h1 k hk, fun w hw => h2 _ (by omega)⟩
theorem spec_MemOk_eq {m : Mem} (hb : m.Heap.Bytes.length ≤ maxLen) (hl : (allS m.Lists).length ≤ 1073741824) : spec_MemOk m = some (decide (MOk m)) := by
  unfold spec_MemOk spec_MemOk_j1
  rw [spec_HeapOk_eq hb, spec_ListsOk_eq hl]
  by_cases h1 : HOk m.Heap
  · by_cases h2 : LOk m.Lists
    · have hmx : (1073741824 : Nat) ≤ maxLen := by simp [maxLen]
      have hsl := LOk.slots h2 hl
      simp only [decide_eq_true h1, decide_eq_true h2, Option.bind_some, Bool.not_true, Bool.false_eq_true, if_false]
      have k3 : ∀ c : Nat, c < 3 → loop (spec_MemOk_l3 m (c : Int)) 0 = some (if ∀ w, w < 3 → OFit m (w * 3 + c) then Out.brk () else Out.ret false) := by
        intro c hc
        have hst : ∀ w : Nat, w < 3 → spec_MemOk_l3 m (c : Int) (w : Int) = if OFit m (w * 3 + c) then some (.next ((w + 1 : Nat) : Int)) else some (.stop (Out.ret false)) := by
          intro w hw
          have hk : w * 3 + c < m.Lists.Own.length := by rw [h2.2.1]; omega
          have e : spec_OwnAt (w : Int) (c : Int) = some ((w * 3 + c : Nat) : Int) := by
            unfold spec_OwnAt spec_OwnAt_j1
            rw [l1In_eq, l1In_eq, decide_eq_true (by omega), decide_eq_true (by omega)]
            simp only [Option.bind_some, Bool.not_true, Bool.false_eq_true, if_false]
            rw [w64_in (x := (w : Int) * 3) (by omega) (by omega), w64_in (by omega) (by omega)]; rfl
          have hlen := hsl.2 _ (List.getElem_mem hk)
          simp only [spec_MemOk_l3]
          rw [if_pos (by simp; omega), e]
          simp only [Option.bind_some, idx_nat hk]
          rw [spec_l9Listed_eq h1.1 (by omega) (by omega), slotsAt_get hk]
          have em : (w * 3 + c) % 3 = c := by omega
          have ho : OFit m (w * 3 + c) ↔ FitsL m.Heap (slotsAt m.Lists.Own (w * 3 + c)) (c : Int) := by unfold OFit; rw [em]
          rw [w64_in (by omega) (by omega)]
          by_cases q : OFit m (w * 3 + c)
          · rw [if_pos q, decide_eq_true (ho.1 q)]; rfl
          · rw [if_neg q, decide_eq_false (fun x => q (ho.2 x))]; rfl
        refine scan_all (f := spec_MemOk_l3 m (c : Int)) 3 (fun k => (k : Int)) (fun w => OFit m (w * 3 + c)) _ _ (fun k hk hx => ?_) (fun k hk hx => ?_) ?_
        · rw [hst k hk, if_pos hx]
        · rw [hst k hk, if_neg hx]
        · rfl
      have k2 : loop (spec_MemOk_l2 m) 0 = some (if ∀ k, k < 3 → GFit m k ∧ ∀ w, w < 3 → OFit m (w * 3 + k) then Out.brk () else Out.ret false) := by
        have hst : ∀ c : Nat, c < 3 → spec_MemOk_l2 m (c : Int) = if GFit m c ∧ ∀ w, w < 3 → OFit m (w * 3 + c) then some (.next ((c + 1 : Nat) : Int)) else some (.stop (Out.ret false)) := by
          intro c hc
          have hk : c < m.Lists.Global.length := by rw [h2.1]; omega
          have hlen := hsl.1 _ (List.getElem_mem hk)
          simp only [spec_MemOk_l2]
          rw [if_pos (by simp; omega)]
          simp only [Option.bind_some, idx_nat hk]
          rw [spec_l9Listed_eq h1.1 (by omega) (by omega), slotsAt_get hk, k3 c hc]
          by_cases q : GFit m c
          · have q' : FitsL m.Heap (slotsAt m.Lists.Global c) (c : Int) := q
            rw [decide_eq_true q']
            simp only [Option.bind_some, Bool.not_true, Bool.false_eq_true, if_false]
            by_cases q2 : ∀ w, w < 3 → OFit m (w * 3 + c)
            · rw [if_pos q2, if_pos ⟨q, q2⟩]
              simp only [spec_MemOk_m3, spec_MemOk_j3]
              rw [w64_in (by omega) (by omega)]; rfl
            · rw [if_neg q2, if_neg (fun x => q2 x.2)]; rfl
          · have q' : ¬ FitsL m.Heap (slotsAt m.Lists.Global c) (c : Int) := q
            rw [decide_eq_false q', if_neg (fun x : GFit m c ∧ _ => q x.1)]; rfl
        refine scan_all (f := spec_MemOk_l2 m) 3 (fun k => (k : Int)) (fun k => GFit m k ∧ ∀ w, w < 3 → OFit m (w * 3 + k)) _ _ (fun k hk hx => ?_) (fun k hk hx => ?_) ?_
        · rw [hst k hk, if_pos hx]
        · rw [hst k hk, if_neg hx]
        · rfl
      rw [k2]
      by_cases q : ∀ k, k < 3 → GFit m k ∧ ∀ w, w < 3 → OFit m (w * 3 + k)
      · rw [if_pos q, decide_eq_true (show MOk m from ⟨⟨h1, h2⟩, own_all.1 q⟩)]; rfl
      · rw [if_neg q, decide_eq_false (fun x : MOk m => q (own_all.2 x.2))]; rfl
    · rw [decide_eq_false (fun q : MOk m => h2 q.1.2), decide_eq_true h1, decide_eq_false h2]; rfl
  · rw [decide_eq_false (fun q : MOk m => h1 q.1.1), decide_eq_false h1]; rfl
theorem impl_MemOk_eq {m : Mem} (hb : m.Heap.Bytes.length ≤ maxLen) (hl : (allS m.Lists).length ≤ 1073741824) : impl_MemOk m = some (decide (MOk m)) := by
  unfold impl_MemOk impl_MemOk_j1
  rw [impl_HeapOk_eq hb, impl_ListsOk_eq hl]
  by_cases h1 : HOk m.Heap
  · by_cases h2 : LOk m.Lists
    · have hmx : (1073741824 : Nat) ≤ maxLen := by simp [maxLen]
      have hsl := LOk.slots h2 hl
      simp only [decide_eq_true h1, decide_eq_true h2, Option.bind_some, Bool.not_true, Bool.false_eq_true, if_false]
      have k3 : loop (impl_MemOk_l3 m) 0 = some (if ∀ k, k < 9 → OFit m k then Out.brk () else Out.ret false) := by
        have hst : ∀ w : Nat, w < 9 → impl_MemOk_l3 m (w : Int) = if OFit m w then some (.next ((w + 1 : Nat) : Int)) else some (.stop (Out.ret false)) := by
          intro w hw
          have hk : w < m.Lists.Own.length := by rw [h2.2.1]; omega
          have hlen := hsl.2 _ (List.getElem_mem hk)
          have em : Int.tmod (w : Int) 3 = ((w % 3 : Nat) : Int) := by rw [tmod_pos (by omega)]; omega
          simp only [impl_MemOk_l3]
          rw [if_pos (by simp; omega)]
          simp only [Option.bind_some, idx_nat hk, em]
          rw [impl_listFits_eq h1.1 (by omega) (by omega), slotsAt_get hk, w64_in (by omega) (by omega)]
          by_cases q : OFit m w
          · rw [if_pos q, decide_eq_true (show FitsL m.Heap (slotsAt m.Lists.Own w) ((w % 3 : Nat) : Int) from q)]; rfl
          · rw [if_neg q, decide_eq_false (show ¬ FitsL m.Heap (slotsAt m.Lists.Own w) ((w % 3 : Nat) : Int) from q)]; rfl
        refine scan_all (f := impl_MemOk_l3 m) 9 (fun k => (k : Int)) (fun w => OFit m w) _ _ (fun k hk hx => ?_) (fun k hk hx => ?_) ?_
        · rw [hst k hk, if_pos hx]
        · rw [hst k hk, if_neg hx]
        · simp [impl_MemOk_l3, h2.2.1]
      have k2 : loop (impl_MemOk_l2 m) 0 = some (if ∀ k, k < 3 → GFit m k then Out.brk () else Out.ret false) := by
        have hst : ∀ w : Nat, w < 3 → impl_MemOk_l2 m (w : Int) = if GFit m w then some (.next ((w + 1 : Nat) : Int)) else some (.stop (Out.ret false)) := by
          intro w hw
          have hk : w < m.Lists.Global.length := by rw [h2.1]; omega
          have hlen := hsl.1 _ (List.getElem_mem hk)
          simp only [impl_MemOk_l2]
          rw [if_pos (by simp; omega)]
          simp only [Option.bind_some, idx_nat hk]
          rw [impl_listFits_eq h1.1 (by omega) (by omega), slotsAt_get hk, w64_in (by omega) (by omega)]
          by_cases q : GFit m w
          · rw [if_pos q, decide_eq_true (show FitsL m.Heap (slotsAt m.Lists.Global w) (w : Int) from q)]; rfl
          · rw [if_neg q, decide_eq_false (show ¬ FitsL m.Heap (slotsAt m.Lists.Global w) (w : Int) from q)]; rfl
        refine scan_all (f := impl_MemOk_l2 m) 3 (fun k => (k : Int)) (fun w => GFit m w) _ _ (fun k hk hx => ?_) (fun k hk hx => ?_) ?_
        · rw [hst k hk, if_pos hx]
        · rw [hst k hk, if_neg hx]
        · simp [impl_MemOk_l2, h2.1]
      rw [k2]
      by_cases q : ∀ k, k < 3 → GFit m k
      · rw [if_pos q]
        simp only [Option.bind_some, impl_MemOk_m2, impl_MemOk_j2]
        rw [k3]
        by_cases q2 : ∀ k, k < 9 → OFit m k
        · rw [if_pos q2, decide_eq_true (show MOk m from ⟨⟨h1, h2⟩, q, q2⟩)]; rfl
        · rw [if_neg q2, decide_eq_false (fun x : MOk m => q2 x.2.2)]; rfl
      · rw [if_neg q, decide_eq_false (fun x : MOk m => q x.2.1)]; rfl
    · rw [decide_eq_false (fun q : MOk m => h2 q.1.2), decide_eq_true h1, decide_eq_false h2]; rfl
  · rw [decide_eq_false (fun q : MOk m => h1 q.1.1), decide_eq_false h1]; rfl
end Go.Gv
end
section
set_option linter.unusedVariables false
set_option linter.unusedSimpArgs false
set_option linter.unusedSectionVars false
namespace Go.Gv
theorem flat_mem {l : List SList} {s : SList} (h : s ∈ l) : s.Slots.length ≤ (flatS l).length := by
  obtain ⟨k, hk, rfl⟩ := List.mem_iff_getElem.1 h
  exact flat_get l hk
theorem allS_len (l : Lists) : (allS l).length = (flatS l.Global).length + (flatS l.Own).length := by simp [allS]
def SmallM (m : Mem) : Prop := m.Heap.Bytes.length ≤ 1048576 ∧ m.Heap.Class.length ≤ 1048576 ∧ m.Lists.Global.length ≤ 1048576 ∧ m.Lists.Own.length ≤ 1048576 ∧ (allS m.Lists).length ≤ 1048576
theorem SmallM.slots {m : Mem} (h : SmallM m) : (∀ s ∈ m.Lists.Global, s.Slots.length ≤ 1048576) ∧ ∀ s ∈ m.Lists.Own, s.Slots.length ≤ 1048576 := by
  have := allS_len m.Lists
  have h5 := h.2.2.2.2
  exact ⟨fun s hm => by have := flat_mem hm; omega, fun s hm => by have := flat_mem hm; omega⟩
end Go.Gv
end
section
set_option linter.unusedVariables false
set_option linter.unusedSimpArgs false
set_option linter.unusedSectionVars false
namespace Go.Gv
def POk (e : Int) (p : Pin) : Prop := (0 ≤ p.Epoch ∧ p.Epoch ≤ e) ∧ (0 ≤ p.Seen ∧ p.Seen ≤ 2) ∧ (p.On = false → p = ⟨false, 0, false, 0⟩)
instance (e : Int) (p : Pin) : Decidable (POk e p) := by unfold POk; infer_instance
def COk (c : Clock) : Prop := (0 ≤ c.Epoch ∧ c.Epoch ≤ 100000) ∧ c.Pins.length = 3 ∧ ∀ p ∈ c.Pins, POk c.Epoch p
instance (c : Clock) : Decidable (COk c) := by unfold COk; infer_instance
theorem spec_ClockOk_eq (c : Clock) : spec_ClockOk c = some (decide (COk c)) := by
  unfold spec_ClockOk
  rw [l1In_eq]
  by_cases h1 : 0 ≤ c.Epoch ∧ c.Epoch ≤ 100000
  · by_cases h2 : c.Pins.length = 3
    · simp only [Option.bind_some, h1, h2, spec_ClockOk_j1]
      have key : ∀ k : Nat, k ≤ 3 → loop (spec_ClockOk_l2 c) (k : Int) = some (if ∀ p ∈ c.Pins.drop k, POk c.Epoch p then Out.brk () else Out.ret false) := by
        refine scan_eq 3 _ fun k hk => ?_
        by_cases h3 : k < 3
        · have hd : c.Pins.drop k = c.Pins[k] :: c.Pins.drop (k + 1) := List.drop_eq_getElem_cons (by omega)
          simp only [spec_ClockOk_l2]
          rw [if_pos (by simp; omega), idx_nat (by omega)]
          simp only [Option.bind_some, l1In_eq, spec_ClockOk_j3, hd]
          rw [w64_nat (by simp [maxLen]; omega)]
          generalize c.Pins[k] = p
          have hp : POk c.Epoch p ↔ decide (0 ≤ p.Epoch ∧ p.Epoch ≤ c.Epoch) = true ∧ decide (0 ≤ p.Seen ∧ p.Seen ≤ 2) = true ∧ (p.On = false → decide (p = ⟨false, 0, false, 0⟩) = true) := by simp only [POk, decide_eq_true_eq]
          simp only [List.forall_mem_cons, hp]
          generalize decide (0 ≤ p.Epoch ∧ p.Epoch ≤ c.Epoch) = b1
          generalize decide (0 ≤ p.Seen ∧ p.Seen ≤ 2) = b2
          generalize decide (p = ⟨false, 0, false, 0⟩) = b3
          generalize p.On = b4
          cases b1 <;> cases b2 <;> cases b3 <;> cases b4 <;> simp [h3]
        · left
          obtain rfl : k = 3 := by omega
          simp [spec_ClockOk_l2, List.drop_eq_nil_of_le (show c.Pins.length ≤ 3 by omega)]
      have := key 0 (by omega)
      simp only [Int.ofNat_zero, List.drop_zero] at this
      have e : decide (COk c) = if ∀ p ∈ c.Pins, POk c.Epoch p then true else false := by
        have : COk c ↔ ∀ p ∈ c.Pins, POk c.Epoch p := ⟨fun h => h.2.2, fun h => ⟨h1, h2, h⟩⟩
        simp [this]
      rw [e]
      simp only [Int.cast_ofNat_Int] at *
      have t0 : loop (spec_ClockOk_l2 c) 0 = _ := this
      by_cases h5 : ∀ p ∈ c.Pins, POk c.Epoch p
      · rw [if_pos h5] at t0 ⊢; rw [t0]; simp [spec_ClockOk_m2, spec_ClockOk_j2]
      · rw [if_neg h5] at t0 ⊢; rw [t0]; simp [spec_ClockOk_m2]
    · simp [h1, h2, spec_ClockOk_j1, COk]
      omega
  · simp [h1, spec_ClockOk_j1, COk]
theorem impl_pin_eq (p : Pin) (c : Clock) : impl_ClockOk_1 p c = some (!decide (POk c.Epoch p)) := by
  unfold impl_ClockOk_1 impl_ClockOk_1_j1
  rw [within_eq, within_eq]
  have hp : decide (POk c.Epoch p) = (decide (0 ≤ p.Epoch ∧ p.Epoch ≤ c.Epoch) && (decide (0 ≤ p.Seen ∧ p.Seen ≤ 2) && (p.On || decide (p = ⟨false, 0, false, 0⟩)))) := by
    rw [Bool.eq_iff_iff]; simp only [POk, decide_eq_true_eq, Bool.and_eq_true, Bool.or_eq_true]
    by_cases h : p.On = true
    · simp [h]
    · simp [(by simpa using h : p.On = false)]
  rw [hp]
  generalize decide (0 ≤ p.Epoch ∧ p.Epoch ≤ c.Epoch) = b1
  generalize decide (0 ≤ p.Seen ∧ p.Seen ≤ 2) = b2
  generalize decide (p = ⟨false, 0, false, 0⟩) = b3
  generalize p.On = b4
  cases b1 <;> cases b2 <;> cases b3 <;> cases b4 <;> rfl
theorem contains_Pin {l : List Pin} (hl : l.length ≤ maxLen) (f : Pin → Bool) : slices_ContainsFunc_Pin l (fun x => some (f x)) = some (l.any f) := by
  unfold slices_ContainsFunc_Pin slices_IndexFunc_Pin
  have key : ∀ k : Nat, k ≤ l.length → loop (slices_IndexFunc_Pin_l1 l (fun x => some (f x))) (k : Int) = some (if (l.drop k).any f then Out.ret ((k + (l.drop k).findIdx f : Nat) : Int) else Out.brk ()) := by
    refine scan_eq l.length _ fun k hk => ?_
    by_cases h3 : k < l.length
    · have hd : l.drop k = l[k] :: l.drop (k + 1) := List.drop_eq_getElem_cons h3
      simp only [slices_IndexFunc_Pin_l1]
      rw [if_pos (by simp; omega), idx_nat h3, w64_nat (lt_max h3 hl), hd]
      simp only [Option.bind_some, List.any_cons, List.findIdx_cons]
      by_cases h4 : f l[k] = true
      · left; simp [h4]
      · right
        have h4 : f l[k] = false := by simpa using h4
        refine ⟨h3, by simp [h4], ?_⟩
        simp only [h4, Bool.false_or, cond_false]
        congr 2; omega
    · left
      obtain rfl : k = l.length := by omega
      simp [slices_IndexFunc_Pin_l1]
  have t0 : loop (slices_IndexFunc_Pin_l1 l (fun x => some (f x))) 0 = _ := key 0 (by omega)
  rw [t0]
  simp only [List.drop_zero]
  by_cases h : l.any f = true
  · simp [h, slices_IndexFunc_Pin_m1]
  · have h : l.any f = false := by simpa using h
    simp [h, slices_IndexFunc_Pin_m1, slices_IndexFunc_Pin_j1]
theorem impl_ClockOk_eq {c : Clock} (hc : c.Pins.length ≤ maxLen) : impl_ClockOk c = some (decide (COk c)) := by
  unfold impl_ClockOk impl_ClockOk_j1
  rw [within_eq]
  have e : (fun y0 => impl_ClockOk_1 y0 c) = fun y0 => some (!decide (POk c.Epoch y0)) := funext fun y => impl_pin_eq y c
  rw [e, contains_Pin hc]
  by_cases h1 : 0 ≤ c.Epoch ∧ c.Epoch ≤ 100000
  · by_cases h2 : c.Pins.length = 3
    · have : COk c ↔ ∀ p ∈ c.Pins, POk c.Epoch p := ⟨fun h => h.2.2, fun h => ⟨h1, h2, h⟩⟩
      have e2 : (c.Pins.any fun y0 => !decide (POk c.Epoch y0)) = !decide (∀ p ∈ c.Pins, POk c.Epoch p) := by
        rw [Bool.eq_iff_iff]; simp
      simp [h1, h2, this, e2]
    · have : ¬ (c.Pins.length : Int) = 3 := by omega
      simp [h1, this, h2, COk]
  · simp [h1, COk]
end Go.Gv
end
