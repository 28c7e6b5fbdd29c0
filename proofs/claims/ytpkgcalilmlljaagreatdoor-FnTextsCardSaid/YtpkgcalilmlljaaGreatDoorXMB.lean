import Derived.Test.YtpkgcalilmlljaaGreatDoorXMA
import Derived.Shelf.LaysM
import Derived.Shelf.LaysC
import Derived.Shelf.Strconv.Itoa3
import Derived.Shelf.Strconv.AtoiAll
import Derived.Shelf.Strconv.ErrVarAll
import Derived.Shelf.Strings.Split
import Derived.Shelf.Strings.OnBuilder
import Derived.Shelf.Strings.Prefix
import Derived.Shelf.Slices.Turned
import Derived.Test.YtpkgcalilmlljaaGreatDoorProg
import Derived.Test.YtpkgcalilmlljaaGreatDoorRows
import Derived.WalkKit
import Derived.BigCall
import Derived.Deep.DeepFit
import Derived.ProofKit
import Derived.Below
import Derived.Lib.QuietBelow
set_option linter.unusedVariables false
set_option linter.unusedSimpArgs false
set_option linter.unusedSectionVars false
set_option linter.unnecessarySimpa false
set_option linter.constructorNameAsVariable false
section
/-
  DERIVED: THE SHELF's CONTRACTS AT THIS DUMP, IN PLAIN WORDS (tools/lay-plain.mjs out of 'TryzShelf.lean', which tools/lay-shelf.mjs wrote): THE SAME DECLARATIONS UNDER THE SAME NAMES: 'import', 'namespace', 'open', 'def', 'theorem' AND NOTHING ELSE: no command of the shelf's: FOR A HAND-IN. Each laying: the table of numbers ('.._ren') and one theorem, a field a fact of the dump's own or the kernel's comparison; each contract: ONE APPLICATION.
-/
namespace Go.Proofs
open Go.Shelf
def Tryz.laysM171_ren : Go.Shelf.Ren := ⟨fun | 171 => 65 | 243 => 74 | 246 => 84 | 283 => 96 | 284 => 97 | 285 => 98 | 286 => 99 | 129 => 106 | 317 => 105 | 318 => 107 | 319 => 108 | 320 => 109 | 337 => 112 | 338 => 113 | n => n, fun | 3 => 3 | 9 => 9 | 2 => 2 | 4 => 4 | 171 => 113 | 0 => 0 | 53 => 114 | 37 => 22 | 5 => 5 | 173 => 117 | 212 => 133 | 51 => 123 | 20 => 20 | 213 => 134 | 46 => 95 | 232 => 142 | 233 => 143 | n => n, fun | 17 => 6 | 18 => 7 | 19 => 8 | n => n⟩
theorem Tryz.laysM171 : Go.Proofs.LaysM.n171 Tryz.prog Tryz.laysM171_ren := {
  mixed := by kernel_rfl
  f129 := Tryz.func106.trans (congrArg some (by kernel_rfl))
  f171 := Tryz.func65.trans (congrArg some (by kernel_rfl))
  f243 := Tryz.func74.trans (congrArg some (by kernel_rfl))
  f246 := Tryz.func84.trans (congrArg some (by kernel_rfl))
  f283 := Tryz.func96.trans (congrArg some (by kernel_rfl))
  f284 := Tryz.func97.trans (congrArg some (by kernel_rfl))
  f285 := Tryz.func98.trans (congrArg some (by kernel_rfl))
  f286 := Tryz.func99.trans (congrArg some (by kernel_rfl))
  f317 := Tryz.func105.trans (congrArg some (by kernel_rfl))
  f318 := Tryz.func107.trans (congrArg some (by kernel_rfl))
  f319 := Tryz.func108.trans (congrArg some (by kernel_rfl))
  f320 := Tryz.func109.trans (congrArg some (by kernel_rfl))
  f337 := Tryz.func112.trans (congrArg some (by kernel_rfl))
  f338 := Tryz.func113.trans (congrArg some (by kernel_rfl))
  t0 := Tryz.underlying0
  a0 := Tryz.isAgg0
  z0 := Tryz.sizeOf0
  v0 := Tryz.zeroValue0
  t2 := Tryz.underlying2
  a2 := Tryz.isAgg2
  z2 := Tryz.sizeOf2
  v2 := Tryz.zeroValue2
  t3 := Tryz.underlying3
  a3 := Tryz.isAgg3
  z3 := Tryz.sizeOf3
  v3 := Tryz.zeroValue3
  t4 := Tryz.underlying4
  a4 := Tryz.isAgg4
  z4 := Tryz.sizeOf4
  v4 := Tryz.zeroValue4
  t5 := Tryz.underlying5
  a5 := Tryz.isAgg5
  z5 := Tryz.sizeOf5
  v5 := Tryz.zeroValue5
  t9 := Tryz.underlying9
  a9 := Tryz.isAgg9
  z9 := Tryz.sizeOf9
  v9 := Tryz.zeroValue9
  t20 := Tryz.underlying20
  a20 := Tryz.isAgg20
  z20 := Tryz.sizeOf20
  v20 := Tryz.zeroValue20
  t37 := Tryz.underlying22
  a37 := Tryz.isAgg22
  z37 := Tryz.sizeOf22
  v37 := Tryz.zeroValue22
  t46 := Tryz.underlying95
  a46 := Tryz.isAgg95
  z46 := Tryz.sizeOf95
  v46 := Tryz.zeroValue95
  t51 := Tryz.underlying123
  a51 := Tryz.isAgg123
  z51 := Tryz.sizeOf123
  v51 := Tryz.zeroValue123
  t53 := Tryz.underlying114
  a53 := Tryz.isAgg114
  z53 := Tryz.sizeOf114
  v53 := Tryz.zeroValue114
  t171 := Tryz.underlying113
  a171 := Tryz.isAgg113
  z171 := Tryz.sizeOf113
  v171 := Tryz.zeroValue113
  t173 := Tryz.underlying117
  a173 := Tryz.isAgg117
  z173 := Tryz.sizeOf117
  v173 := Tryz.zeroValue117
  t212 := Tryz.underlying133
  a212 := Tryz.isAgg133
  z212 := Tryz.sizeOf133
  v212 := Tryz.zeroValue133
  t213 := Tryz.underlying134
  a213 := Tryz.isAgg134
  z213 := Tryz.sizeOf134
  t232 := Tryz.underlying142
  a232 := Tryz.isAgg142
  z232 := Tryz.sizeOf142
  v232 := Tryz.zeroValue142
  t233 := Tryz.underlying143
  a233 := Tryz.isAgg143
  z233 := Tryz.sizeOf143
  v233 := Tryz.zeroValue143
  g17 := by kernel_rfl
  g18 := by kernel_rfl
  g19 := by kernel_rfl
  i0 := by kernel_rfl
  i2 := by kernel_rfl
  i3 := by kernel_rfl
  i4 := by kernel_rfl
  i5 := by kernel_rfl
  i9 := by kernel_rfl
  i20 := by kernel_rfl
  i37 := by kernel_rfl
  i46 := by kernel_rfl
  i51 := by kernel_rfl
  i53 := by kernel_rfl
  i171 := by kernel_rfl
  i173 := by kernel_rfl
  i212 := by kernel_rfl
  i232 := by kernel_rfl
  i233 := by kernel_rfl
  m17 := by kernel_rfl
  m18 := by kernel_rfl
  m19 := by kernel_rfl }
def Tryz.laysC172_ren : Go.Shelf.Ren := ⟨fun | 172 => 69 | 244 => 79 | 245 => 80 | 247 => 90 | 279 => 91 | 280 => 92 | 281 => 93 | 282 => 94 | 287 => 102 | 316 => 103 | 171 => 65 | 205 => 104 | 321 => 110 | 322 => 111 | 243 => 74 | 246 => 84 | 283 => 96 | 284 => 97 | 285 => 98 | 286 => 99 | 129 => 106 | 317 => 105 | 318 => 107 | 319 => 108 | 320 => 109 | 337 => 112 | 338 => 113 | n => n, fun | 9 => 9 | 3 => 3 | 75 => 83 | 76 => 84 | 4 => 4 | 5 => 5 | 167 => 106 | 37 => 22 | 0 => 0 | 85 => 107 | 2 => 2 | 168 => 109 | 53 => 114 | 175 => 126 | 46 => 95 | 210 => 130 | 127 => 94 | 145 => 140 | 143 => 138 | 21 => 21 | 171 => 113 | 173 => 117 | 212 => 133 | 51 => 123 | 20 => 20 | 213 => 134 | 232 => 142 | 233 => 143 | 80 => 86 | n => n, fun | 15 => 4 | 16 => 5 | 17 => 6 | 18 => 7 | 19 => 8 | n => n⟩
theorem Tryz.laysC172 : Go.Proofs.LaysC.n172 Tryz.prog Tryz.laysC172_ren := {
  mixed := by kernel_rfl
  f129 := Tryz.func106.trans (congrArg some (by kernel_rfl))
  f171 := Tryz.func65.trans (congrArg some (by kernel_rfl))
  f172 := Tryz.func69.trans (congrArg some (by kernel_rfl))
  f205 := Tryz.func104.trans (congrArg some (by kernel_rfl))
  f243 := Tryz.func74.trans (congrArg some (by kernel_rfl))
  f244 := Tryz.func79.trans (congrArg some (by kernel_rfl))
  f245 := Tryz.func80.trans (congrArg some (by kernel_rfl))
  f246 := Tryz.func84.trans (congrArg some (by kernel_rfl))
  f247 := Tryz.func90.trans (congrArg some (by kernel_rfl))
  f279 := Tryz.func91.trans (congrArg some (by kernel_rfl))
  f280 := Tryz.func92.trans (congrArg some (by kernel_rfl))
  f281 := Tryz.func93.trans (congrArg some (by kernel_rfl))
  f282 := Tryz.func94.trans (congrArg some (by kernel_rfl))
  f283 := Tryz.func96.trans (congrArg some (by kernel_rfl))
  f284 := Tryz.func97.trans (congrArg some (by kernel_rfl))
  f285 := Tryz.func98.trans (congrArg some (by kernel_rfl))
  f286 := Tryz.func99.trans (congrArg some (by kernel_rfl))
  f287 := Tryz.func102.trans (congrArg some (by kernel_rfl))
  f316 := Tryz.func103.trans (congrArg some (by kernel_rfl))
  f317 := Tryz.func105.trans (congrArg some (by kernel_rfl))
  f318 := Tryz.func107.trans (congrArg some (by kernel_rfl))
  f319 := Tryz.func108.trans (congrArg some (by kernel_rfl))
  f320 := Tryz.func109.trans (congrArg some (by kernel_rfl))
  f321 := Tryz.func110.trans (congrArg some (by kernel_rfl))
  f322 := Tryz.func111.trans (congrArg some (by kernel_rfl))
  f337 := Tryz.func112.trans (congrArg some (by kernel_rfl))
  f338 := Tryz.func113.trans (congrArg some (by kernel_rfl))
  t0 := Tryz.underlying0
  a0 := Tryz.isAgg0
  z0 := Tryz.sizeOf0
  v0 := Tryz.zeroValue0
  t2 := Tryz.underlying2
  a2 := Tryz.isAgg2
  z2 := Tryz.sizeOf2
  v2 := Tryz.zeroValue2
  t3 := Tryz.underlying3
  a3 := Tryz.isAgg3
  z3 := Tryz.sizeOf3
  v3 := Tryz.zeroValue3
  t4 := Tryz.underlying4
  a4 := Tryz.isAgg4
  z4 := Tryz.sizeOf4
  v4 := Tryz.zeroValue4
  t5 := Tryz.underlying5
  a5 := Tryz.isAgg5
  z5 := Tryz.sizeOf5
  v5 := Tryz.zeroValue5
  t9 := Tryz.underlying9
  a9 := Tryz.isAgg9
  z9 := Tryz.sizeOf9
  v9 := Tryz.zeroValue9
  t20 := Tryz.underlying20
  a20 := Tryz.isAgg20
  z20 := Tryz.sizeOf20
  v20 := Tryz.zeroValue20
  t21 := Tryz.underlying21
  a21 := Tryz.isAgg21
  z21 := Tryz.sizeOf21
  v21 := Tryz.zeroValue21
  t37 := Tryz.underlying22
  a37 := Tryz.isAgg22
  z37 := Tryz.sizeOf22
  v37 := Tryz.zeroValue22
  t46 := Tryz.underlying95
  a46 := Tryz.isAgg95
  z46 := Tryz.sizeOf95
  v46 := Tryz.zeroValue95
  t51 := Tryz.underlying123
  a51 := Tryz.isAgg123
  z51 := Tryz.sizeOf123
  v51 := Tryz.zeroValue123
  t53 := Tryz.underlying114
  a53 := Tryz.isAgg114
  z53 := Tryz.sizeOf114
  v53 := Tryz.zeroValue114
  t75 := Tryz.underlying83
  a75 := Tryz.isAgg83
  z75 := Tryz.sizeOf83
  v75 := Tryz.zeroValue83
  t76 := Tryz.underlying84
  a76 := Tryz.isAgg84
  z76 := Tryz.sizeOf84
  v76 := Tryz.zeroValue84
  t85 := Tryz.underlying107
  a85 := Tryz.isAgg107
  z85 := Tryz.sizeOf107
  v85 := Tryz.zeroValue107
  t127 := Tryz.underlying94
  a127 := Tryz.isAgg94
  z127 := Tryz.sizeOf94
  v127 := Tryz.zeroValue94
  t143 := Tryz.underlying138
  a143 := Tryz.isAgg138
  z143 := Tryz.sizeOf138
  v143 := Tryz.zeroValue138
  t145 := Tryz.underlying140
  a145 := Tryz.isAgg140
  z145 := Tryz.sizeOf140
  v145 := Tryz.zeroValue140
  t167 := Tryz.underlying106
  a167 := Tryz.isAgg106
  z167 := Tryz.sizeOf106
  v167 := Tryz.zeroValue106
  t168 := Tryz.underlying109
  a168 := Tryz.isAgg109
  z168 := Tryz.sizeOf109
  v168 := Tryz.zeroValue109
  t171 := Tryz.underlying113
  a171 := Tryz.isAgg113
  z171 := Tryz.sizeOf113
  v171 := Tryz.zeroValue113
  t173 := Tryz.underlying117
  a173 := Tryz.isAgg117
  z173 := Tryz.sizeOf117
  v173 := Tryz.zeroValue117
  t175 := Tryz.underlying126
  a175 := Tryz.isAgg126
  z175 := Tryz.sizeOf126
  v175 := Tryz.zeroValue126
  t210 := Tryz.underlying130
  a210 := Tryz.isAgg130
  z210 := Tryz.sizeOf130
  v210 := Tryz.zeroValue130
  t212 := Tryz.underlying133
  a212 := Tryz.isAgg133
  z212 := Tryz.sizeOf133
  v212 := Tryz.zeroValue133
  t213 := Tryz.underlying134
  a213 := Tryz.isAgg134
  z213 := Tryz.sizeOf134
  t232 := Tryz.underlying142
  a232 := Tryz.isAgg142
  z232 := Tryz.sizeOf142
  v232 := Tryz.zeroValue142
  t233 := Tryz.underlying143
  a233 := Tryz.isAgg143
  z233 := Tryz.sizeOf143
  v233 := Tryz.zeroValue143
  g15 := by kernel_rfl
  g16 := by kernel_rfl
  g17 := by kernel_rfl
  g18 := by kernel_rfl
  g19 := by kernel_rfl
  t80 := Tryz.underlying86
  a80 := Tryz.isAgg86
  z80 := Tryz.sizeOf86
  v80 := Tryz.zeroValue86
  i0 := by kernel_rfl
  i2 := by kernel_rfl
  i3 := by kernel_rfl
  i4 := by kernel_rfl
  i5 := by kernel_rfl
  i9 := by kernel_rfl
  i20 := by kernel_rfl
  i21 := by kernel_rfl
  i37 := by kernel_rfl
  i46 := by kernel_rfl
  i51 := by kernel_rfl
  i53 := by kernel_rfl
  i75 := by kernel_rfl
  i76 := by kernel_rfl
  i80 := by kernel_rfl
  i85 := by kernel_rfl
  i127 := by kernel_rfl
  i143 := by kernel_rfl
  i145 := by kernel_rfl
  i167 := by kernel_rfl
  i168 := by kernel_rfl
  i171 := by kernel_rfl
  i173 := by kernel_rfl
  i175 := by kernel_rfl
  i210 := by kernel_rfl
  i212 := by kernel_rfl
  i232 := by kernel_rfl
  i233 := by kernel_rfl
  m15 := by kernel_rfl
  m16 := by kernel_rfl
  m17 := by kernel_rfl
  m18 := by kernel_rfl
  m19 := by kernel_rfl
  c0 := by kernel_rfl
  c2 := by kernel_rfl
  c3 := by kernel_rfl
  c4 := by kernel_rfl
  c5 := by kernel_rfl
  c9 := by kernel_rfl
  c20 := by kernel_rfl
  c21 := by kernel_rfl
  c37 := by kernel_rfl
  c46 := by kernel_rfl
  c51 := by kernel_rfl
  c53 := by kernel_rfl
  c75 := by kernel_rfl
  c76 := by kernel_rfl
  c80 := by kernel_rfl
  c85 := by kernel_rfl
  c127 := by kernel_rfl
  c143 := by kernel_rfl
  c145 := by kernel_rfl
  c167 := by kernel_rfl
  c168 := by kernel_rfl
  c171 := by kernel_rfl
  c173 := by kernel_rfl
  c175 := by kernel_rfl
  c210 := by kernel_rfl
  c212 := by kernel_rfl
  c213 := by kernel_rfl
  c232 := by kernel_rfl
  c233 := by kernel_rfl }
def Tryz.lays146_ren : Go.Shelf.Ren := ⟨fun | 146 => 25 | 221 => 51 | 268 => 66 | 138 => 67 | 143 => 68 | 195 => 75 | 197 => 76 | 218 => 77 | 219 => 78 | 260 => 85 | 217 => 86 | 225 => 87 | 224 => 88 | 267 => 89 | 266 => 100 | 314 => 101 | n => n, fun | 9 => 9 | 31 => 49 | 3 => 3 | 4 => 4 | 0 => 0 | 105 => 97 | 21 => 21 | 5 => 5 | 46 => 95 | 119 => 119 | 139 => 122 | 138 => 121 | 146 => 124 | 51 => 123 | n => n, fun | 1 => 1 | 3 => 2 | 4 => 3 | n => n⟩
theorem Tryz.lays146 : Go.Proofs.Lays.n146 Tryz.prog Tryz.lays146_ren := {
  mixed := by kernel_rfl
  f138 := Tryz.func67.trans (congrArg some (by kernel_rfl))
  f143 := Tryz.func68.trans (congrArg some (by kernel_rfl))
  f146 := Tryz.func25.trans (congrArg some (by kernel_rfl))
  f195 := Tryz.func75.trans (congrArg some (by kernel_rfl))
  f197 := Tryz.func76.trans (congrArg some (by kernel_rfl))
  f217 := Tryz.func86.trans (congrArg some (by kernel_rfl))
  f218 := Tryz.func77.trans (congrArg some (by kernel_rfl))
  f219 := Tryz.func78.trans (congrArg some (by kernel_rfl))
  f221 := Tryz.func51.trans (congrArg some (by kernel_rfl))
  f224 := Tryz.func88.trans (congrArg some (by kernel_rfl))
  f225 := Tryz.func87.trans (congrArg some (by kernel_rfl))
  f260 := Tryz.func85.trans (congrArg some (by kernel_rfl))
  f266 := Tryz.func100.trans (congrArg some (by kernel_rfl))
  f267 := Tryz.func89.trans (congrArg some (by kernel_rfl))
  f268 := Tryz.func66.trans (congrArg some (by kernel_rfl))
  f314 := Tryz.func101.trans (congrArg some (by kernel_rfl))
  t0 := Tryz.underlying0
  a0 := Tryz.isAgg0
  z0 := Tryz.sizeOf0
  v0 := Tryz.zeroValue0
  t3 := Tryz.underlying3
  a3 := Tryz.isAgg3
  z3 := Tryz.sizeOf3
  v3 := Tryz.zeroValue3
  t4 := Tryz.underlying4
  a4 := Tryz.isAgg4
  z4 := Tryz.sizeOf4
  v4 := Tryz.zeroValue4
  t5 := Tryz.underlying5
  a5 := Tryz.isAgg5
  z5 := Tryz.sizeOf5
  v5 := Tryz.zeroValue5
  t9 := Tryz.underlying9
  a9 := Tryz.isAgg9
  z9 := Tryz.sizeOf9
  v9 := Tryz.zeroValue9
  t21 := Tryz.underlying21
  a21 := Tryz.isAgg21
  z21 := Tryz.sizeOf21
  v21 := Tryz.zeroValue21
  t31 := Tryz.underlying49
  a31 := Tryz.isAgg49
  z31 := Tryz.sizeOf49
  v31 := Tryz.zeroValue49
  t46 := Tryz.underlying95
  a46 := Tryz.isAgg95
  z46 := Tryz.sizeOf95
  v46 := Tryz.zeroValue95
  t51 := Tryz.underlying123
  a51 := Tryz.isAgg123
  z51 := Tryz.sizeOf123
  v51 := Tryz.zeroValue123
  t105 := Tryz.underlying97
  a105 := Tryz.isAgg97
  z105 := Tryz.sizeOf97
  v105 := Tryz.zeroValue97
  t119 := Tryz.underlying119
  a119 := Tryz.isAgg119
  z119 := Tryz.sizeOf119
  t138 := Tryz.underlying121
  a138 := Tryz.isAgg121
  z138 := Tryz.sizeOf121
  v138 := Tryz.zeroValue121
  t139 := Tryz.underlying122
  a139 := Tryz.isAgg122
  z139 := Tryz.sizeOf122
  v139 := Tryz.zeroValue122
  t146 := Tryz.underlying124
  a146 := Tryz.isAgg124
  z146 := Tryz.sizeOf124
  v146 := Tryz.zeroValue124
  g1 := by kernel_rfl
  g3 := by kernel_rfl
  g4 := by kernel_rfl }
def Tryz.lays147_ren : Go.Shelf.Ren := ⟨fun | 147 => 34 | 221 => 51 | 268 => 66 | 138 => 67 | 143 => 68 | 195 => 75 | 197 => 76 | 218 => 77 | 219 => 78 | 260 => 85 | 217 => 86 | 225 => 87 | 224 => 88 | 267 => 89 | 266 => 100 | 314 => 101 | n => n, fun | 9 => 9 | 3 => 3 | 31 => 49 | 4 => 4 | 0 => 0 | 105 => 97 | 21 => 21 | 5 => 5 | 46 => 95 | 119 => 119 | 139 => 122 | 138 => 121 | 146 => 124 | 51 => 123 | n => n, fun | 1 => 1 | 3 => 2 | 4 => 3 | n => n⟩
theorem Tryz.lays147 : Go.Proofs.Lays.n147 Tryz.prog Tryz.lays147_ren := {
  mixed := by kernel_rfl
  f138 := Tryz.func67.trans (congrArg some (by kernel_rfl))
  f143 := Tryz.func68.trans (congrArg some (by kernel_rfl))
  f147 := Tryz.func34.trans (congrArg some (by kernel_rfl))
  f195 := Tryz.func75.trans (congrArg some (by kernel_rfl))
  f197 := Tryz.func76.trans (congrArg some (by kernel_rfl))
  f217 := Tryz.func86.trans (congrArg some (by kernel_rfl))
  f218 := Tryz.func77.trans (congrArg some (by kernel_rfl))
  f219 := Tryz.func78.trans (congrArg some (by kernel_rfl))
  f221 := Tryz.func51.trans (congrArg some (by kernel_rfl))
  f224 := Tryz.func88.trans (congrArg some (by kernel_rfl))
  f225 := Tryz.func87.trans (congrArg some (by kernel_rfl))
  f260 := Tryz.func85.trans (congrArg some (by kernel_rfl))
  f266 := Tryz.func100.trans (congrArg some (by kernel_rfl))
  f267 := Tryz.func89.trans (congrArg some (by kernel_rfl))
  f268 := Tryz.func66.trans (congrArg some (by kernel_rfl))
  f314 := Tryz.func101.trans (congrArg some (by kernel_rfl))
  t0 := Tryz.underlying0
  a0 := Tryz.isAgg0
  z0 := Tryz.sizeOf0
  v0 := Tryz.zeroValue0
  t3 := Tryz.underlying3
  a3 := Tryz.isAgg3
  z3 := Tryz.sizeOf3
  v3 := Tryz.zeroValue3
  t4 := Tryz.underlying4
  a4 := Tryz.isAgg4
  z4 := Tryz.sizeOf4
  v4 := Tryz.zeroValue4
  t5 := Tryz.underlying5
  a5 := Tryz.isAgg5
  z5 := Tryz.sizeOf5
  v5 := Tryz.zeroValue5
  t9 := Tryz.underlying9
  a9 := Tryz.isAgg9
  z9 := Tryz.sizeOf9
  v9 := Tryz.zeroValue9
  t21 := Tryz.underlying21
  a21 := Tryz.isAgg21
  z21 := Tryz.sizeOf21
  v21 := Tryz.zeroValue21
  t31 := Tryz.underlying49
  a31 := Tryz.isAgg49
  z31 := Tryz.sizeOf49
  v31 := Tryz.zeroValue49
  t46 := Tryz.underlying95
  a46 := Tryz.isAgg95
  z46 := Tryz.sizeOf95
  v46 := Tryz.zeroValue95
  t51 := Tryz.underlying123
  a51 := Tryz.isAgg123
  z51 := Tryz.sizeOf123
  v51 := Tryz.zeroValue123
  t105 := Tryz.underlying97
  a105 := Tryz.isAgg97
  z105 := Tryz.sizeOf97
  v105 := Tryz.zeroValue97
  t119 := Tryz.underlying119
  a119 := Tryz.isAgg119
  z119 := Tryz.sizeOf119
  t138 := Tryz.underlying121
  a138 := Tryz.isAgg121
  z138 := Tryz.sizeOf121
  v138 := Tryz.zeroValue121
  t139 := Tryz.underlying122
  a139 := Tryz.isAgg122
  z139 := Tryz.sizeOf122
  v139 := Tryz.zeroValue122
  t146 := Tryz.underlying124
  a146 := Tryz.isAgg124
  z146 := Tryz.sizeOf124
  v146 := Tryz.zeroValue124
  g1 := by kernel_rfl
  g3 := by kernel_rfl
  g4 := by kernel_rfl }
def Tryz.lays156_ren : Go.Shelf.Ren := ⟨fun | 156 => 33 | 165 => 56 | 166 => 57 | 169 => 58 | 240 => 72 | 241 => 73 | 276 => 82 | 277 => 83 | n => n, fun | 31 => 49 | 9 => 9 | 3 => 3 | 4 => 4 | 0 => 0 | 20 => 20 | 72 => 80 | 76 => 84 | 70 => 78 | 37 => 22 | 75 => 83 | 127 => 94 | 164 => 101 | 5 => 5 | 80 => 86 | n => n, fun | n => n⟩
theorem Tryz.lays156 : Go.Proofs.Lays.n156 Tryz.prog Tryz.lays156_ren := {
  mixed := by kernel_rfl
  f156 := Tryz.func33.trans (congrArg some (by kernel_rfl))
  f165 := Tryz.func56.trans (congrArg some (by kernel_rfl))
  f166 := Tryz.func57.trans (congrArg some (by kernel_rfl))
  f169 := Tryz.func58.trans (congrArg some (by kernel_rfl))
  f240 := Tryz.func72.trans (congrArg some (by kernel_rfl))
  f241 := Tryz.func73.trans (congrArg some (by kernel_rfl))
  f276 := Tryz.func82.trans (congrArg some (by kernel_rfl))
  f277 := Tryz.func83.trans (congrArg some (by kernel_rfl))
  t0 := Tryz.underlying0
  a0 := Tryz.isAgg0
  z0 := Tryz.sizeOf0
  v0 := Tryz.zeroValue0
  t3 := Tryz.underlying3
  a3 := Tryz.isAgg3
  z3 := Tryz.sizeOf3
  v3 := Tryz.zeroValue3
  t4 := Tryz.underlying4
  a4 := Tryz.isAgg4
  z4 := Tryz.sizeOf4
  v4 := Tryz.zeroValue4
  t9 := Tryz.underlying9
  a9 := Tryz.isAgg9
  z9 := Tryz.sizeOf9
  v9 := Tryz.zeroValue9
  t20 := Tryz.underlying20
  a20 := Tryz.isAgg20
  z20 := Tryz.sizeOf20
  v20 := Tryz.zeroValue20
  t31 := Tryz.underlying49
  a31 := Tryz.isAgg49
  z31 := Tryz.sizeOf49
  v31 := Tryz.zeroValue49
  t37 := Tryz.underlying22
  a37 := Tryz.isAgg22
  z37 := Tryz.sizeOf22
  v37 := Tryz.zeroValue22
  t70 := Tryz.underlying78
  a70 := Tryz.isAgg78
  z70 := Tryz.sizeOf78
  v70 := Tryz.zeroValue78
  t72 := Tryz.underlying80
  a72 := Tryz.isAgg80
  z72 := Tryz.sizeOf80
  v72 := Tryz.zeroValue80
  t75 := Tryz.underlying83
  a75 := Tryz.isAgg83
  z75 := Tryz.sizeOf83
  v75 := Tryz.zeroValue83
  t76 := Tryz.underlying84
  a76 := Tryz.isAgg84
  z76 := Tryz.sizeOf84
  v76 := Tryz.zeroValue84
  t127 := Tryz.underlying94
  a127 := Tryz.isAgg94
  z127 := Tryz.sizeOf94
  v127 := Tryz.zeroValue94
  t164 := Tryz.underlying101
  a164 := Tryz.isAgg101
  z164 := Tryz.sizeOf101
  v164 := Tryz.zeroValue101 }
theorem Tryz.Builder_Extra_156 : Builder.Extra Tryz.prog Tryz.lays156_ren := {
  sizeBuilder := by kernel_rfl
  liesBuilder := by kernel_rfl
  t5 := Tryz.underlying5
  a5 := Tryz.isAgg5
  z5 := Tryz.sizeOf5
  v5 := Tryz.zeroValue5
  infoByte := by kernel_rfl
  cellsByte := by kernel_rfl
  sizeByte := by kernel_rfl
  neB5 := by decide }
def Tryz.lays101_ren : Go.Shelf.Ren := ⟨fun | 101 => 70 | 208 => 81 | 206 => 95 | n => n, fun | 9 => 9 | 4 => 4 | 3 => 3 | n => n, fun | n => n⟩
theorem Tryz.lays101 : Go.Proofs.Lays.n101 Tryz.prog Tryz.lays101_ren := {
  mixed := by kernel_rfl
  f101 := Tryz.func70.trans (congrArg some (by kernel_rfl))
  f206 := Tryz.func95.trans (congrArg some (by kernel_rfl))
  f208 := Tryz.func81.trans (congrArg some (by kernel_rfl))
  t3 := Tryz.underlying3
  a3 := Tryz.isAgg3
  z3 := Tryz.sizeOf3
  v3 := Tryz.zeroValue3
  t4 := Tryz.underlying4
  a4 := Tryz.isAgg4
  z4 := Tryz.sizeOf4
  v4 := Tryz.zeroValue4
  t9 := Tryz.underlying9
  a9 := Tryz.isAgg9
  z9 := Tryz.sizeOf9
  v9 := Tryz.zeroValue9 }
def Tryz.lays109_ren : Go.Shelf.Ren := ⟨fun | 109 => 30 | n => n, fun | 31 => 49 | 9 => 9 | 3 => 3 | 0 => 0 | 4 => 4 | n => n, fun | n => n⟩
theorem Tryz.lays109 : Go.Proofs.Lays.n109 Tryz.prog Tryz.lays109_ren := {
  mixed := by kernel_rfl
  f109 := Tryz.func30.trans (congrArg some (by kernel_rfl))
  t0 := Tryz.underlying0
  a0 := Tryz.isAgg0
  z0 := Tryz.sizeOf0
  v0 := Tryz.zeroValue0
  t3 := Tryz.underlying3
  a3 := Tryz.isAgg3
  z3 := Tryz.sizeOf3
  v3 := Tryz.zeroValue3
  t4 := Tryz.underlying4
  a4 := Tryz.isAgg4
  z4 := Tryz.sizeOf4
  v4 := Tryz.zeroValue4
  t9 := Tryz.underlying9
  a9 := Tryz.isAgg9
  z9 := Tryz.sizeOf9
  v9 := Tryz.zeroValue9
  t31 := Tryz.underlying49
  a31 := Tryz.isAgg49
  z31 := Tryz.sizeOf49
  v31 := Tryz.zeroValue49 }
end Go.Proofs
end
section
/- Texts: walks over the contracts for strconv and strings: numbers, words, operations. -/
namespace Go.Proofs.YtpkgcalilmlljaaGreatDoor
open Go.RowKit Go.Sort
open Go.Gv (rdDec numL tryOp)
def nmL (i : Nat) : String := ((Rows.fnTextsRow.laid.map (·.1)).getD i "")
structure GW (w : World) : Prop where
  tab : Lib.TabIs Tryz.prog w (nmL 2) .u64 Lib.pow10Tab
  rng : ∃ tp p, w.var? Tryz.prog (nmL 4) = some #[.iface tp p]
  syn : ∃ tp p, w.var? Tryz.prog (nmL 5) = some #[.iface tp p]
  cw : w.var? Tryz.prog (nmL 6) = some #[.string ⟨#[103, 101, 116]⟩, .string ⟨#[112, 117, 116]⟩, .string ⟨#[100, 101, 108]⟩, .string ⟨#[97, 100, 100]⟩]
  max : ∃ m, w.cell? ⟨1, 0, none⟩ = some (.int .i64 m)
theorem var_below {P : Program} {w w' : World} (h : Below w.heap.size w w') {nm : String} {cs : Array Value} (hv : w.var? P nm = some cs) : w'.var? P nm = some cs := by
  unfold World.var? at hv ⊢
  cases e : P.globalNamed nm with
  | none => rw [e] at hv; cases hv
  | some g =>
    rw [e] at hv
    simp only [Option.bind_some] at hv ⊢
    have hg : g < w.heap.size := by
      rcases Nat.lt_or_ge g w.heap.size with q | q
      · exact q
      · rw [Array.getElem?_eq_none q] at hv; cases hv
    rw [h.block g hg]; exact hv
theorem GW.below {w w' : World} (g : GW w) (h : Below w.heap.size w w') : GW w' := by
  obtain ⟨a, ⟨t1, p1, b⟩, ⟨t2, p2, c⟩, d, m, e⟩ := g
  refine ⟨var_below h a, ⟨t1, p1, var_below h b⟩, ⟨t2, p2, var_below h c⟩, var_below h d, m, ?_⟩
  rw [h.cell (p := ⟨1, 0, none⟩) (World.block_lt_of_cell? _ _ e)]; exact e
theorem below_gr (w : World) (q : Nat) (os : Array Obj) : Below w.heap.size w (grow (w.drewN q) os) :=
  ⟨rfl, rfl, rfl, by simp [grow], fun i hi => by
    show ((w.drewN q).heap ++ os)[i]? = _
    rw [Array.getElem?_append_left (by exact hi)]; rfl⟩
theorem c_Dec {n : Int} (h : -9223372036854775808 ≤ n ∧ n ≤ 9223372036854775807) {w : World} (g : GW w) : Calls Tryz.prog 50 #[.int .i64 n] w fun e w' => e = .returned (.string ⟨(Lib.itoa n).toArray⟩) ∧ Below w.heap.size w w' := by
  have c := Any.strconv_Itoa Tryz.laysM171 n h.1 h.2 w g.tab
  go_enter Tryz.func50, Tryz.ntmps50
  go_wp2_with (go_at_call 65; go_fit c; rintro e w1 ⟨rfl, k, os, rfl⟩)
  go_ret
  exact ⟨rfl, below_gr w k os⟩
theorem atoi_rng {l : List UInt8} {v : Int} (h : Lib.atoiAll l = .ok v) : -9223372036854775808 ≤ v ∧ v ≤ 9223372036854775807 := by
  unfold Lib.atoiAll at h
  split at h
  · cases h
  · dsimp only at h
    split at h
    · cases h
    · cases h
    · split at h
      · cases h
      · split at h
        · cases h
        · cases h
          split <;> omega
theorem toL (s : ByteArray) : s.toList = s.data.toList := ByteArray.toList_eq s
theorem c_ReadDec {s : ByteArray} (hs : s.size ≤ 281474976710656) {r : Int × Bool} (hr : rdDec s.data.toList = r) {w : World} (g : GW w) : Calls Tryz.prog 52 #[.string s] w fun e w' => e = .returned (.tuple #[.int .i64 r.1, .bool r.2]) ∧ Below w.heap.size w w' := by
  unfold rdDec at hr
  cases h : Lib.atoiAll s.data.toList with
  | ok v =>
    rw [h] at hr
    dsimp only at hr
    have hv := atoi_rng h
    have cA := Any.strconv_Atoi_ok Tryz.laysC172 s (by omega) v h w
    go_enter Tryz.func52, Tryz.ntmps52
    go_wp2_with (go_at_call 69; go_fit cA; rintro e w1 ⟨rfl, hw⟩)
    have hb : Below w.heap.size w w1 := by
      rcases hw with rfl | ⟨t, rfl⟩
      · exact Below.refl _ _
      · exact Lib.bytesWorld_below _ _ _
    go_wp2_with (go_at_call 50; go_fit (c_Dec hv (g.below hb)); rintro e w2 ⟨rfl, hb2⟩)
    · have h1 : Lib.itoa v = s.data.toList := by rw [← toL]; assumption
      go_wp2_with (go_at_call 70; go_fit (Any.strings_TrimPrefix Tryz.lays101 _ _ _); rintro e w3 ⟨rfl, rfl⟩)
      · have h2 : 9 < ((Lib.trimPrefix s.data.toList [45]).length : Int) := by assumption
        go_ret2
        rw [if_neg (by omega)] at hr
        subst hr
        exact ⟨rfl, hb.trans (hb2.mono hb.size)⟩
      · have h2 : ¬ 9 < ((Lib.trimPrefix s.data.toList [45]).length : Int) := by first | assumption | omega
        go_ret2
        rw [if_pos ⟨h1, by omega⟩] at hr
        subst hr
        exact ⟨rfl, hb.trans (hb2.mono hb.size)⟩
    · have h1 : ¬ Lib.itoa v = s.data.toList := by rw [← toL]; assumption
      go_ret2
      rw [if_neg (fun q => h1 q.1)] at hr
      subst hr
      exact ⟨rfl, hb.trans (hb2.mono hb.size)⟩
  | range =>
    rw [h] at hr
    dsimp only at hr
    subst hr
    obtain ⟨tp, p, hp⟩ := g.rng
    have cA := Any.strconv_Atoi_range_var Tryz.laysC172 s hs h tp p w hp
    go_enter Tryz.func52, Tryz.ntmps52
    go_wp2_with (go_at_call 69; go_fit cA; rintro e w1 ⟨N, rfl, _, _, hb⟩)
    go_ret2
    exact ⟨rfl, hb⟩
  | _ =>
    rw [h] at hr
    dsimp only at hr
    subst hr
    obtain ⟨tp, p, hp⟩ := g.syn
    have cA := Any.strconv_Atoi_syntax_var Tryz.laysC172 s hs h tp p w hp
    go_enter Tryz.func52, Tryz.ntmps52
    go_wp2_with (go_at_call 69; go_fit cA; rintro e w1 ⟨N, rfl, _, _, hb⟩)
    go_ret2
    exact ⟨rfl, hb⟩

def nums (zs : List ByteArray) (k j : Nat) : Int := if j < k then (rdDec (zs.getD j ByteArray.empty).data.toList).1 else 0
theorem results_cell1 {fn : Func} {p : Tmp} {ty : TypeId} (h : fn.results = #[.cell p ty]) (tmps : Array Value) (P : Program) (w : World) : (results fn tmps).run P w = ((asAddr (tmps.getD p undef)).run P w).andThen fun a w₁ => (loadVar ty a).run P w₁ := by
  simp only [results, h]
  simp [Sem.run_bind, Result.andThen]
structure Arr (W : World) (b : Nat) (x y z : Int) : Prop where
  c0 : W.cell? ⟨b, 0, none⟩ = some (.int .i64 x)
  c1 : W.cell? ⟨b, 1, none⟩ = some (.int .i64 y)
  c2 : W.cell? ⟨b, 2, none⟩ = some (.int .i64 z)
  f0 : W.frozen? ⟨b, 0, none⟩ = false
  f1 : W.frozen? ⟨b, 1, none⟩ = false
  f2 : W.frozen? ⟨b, 2, none⟩ = false
  lt : b < W.heap.size
theorem Arr.below {W W' : World} {b : Nat} {x y z : Int} (h : Arr W b x y z) (k : Below W.heap.size W W') : Arr W' b x y z :=
  ⟨(k.cell h.lt).trans h.c0, (k.cell h.lt).trans h.c1, (k.cell h.lt).trans h.c2, (k.frozen h.lt).trans h.f0, (k.frozen h.lt).trans h.f1, (k.frozen h.lt).trans h.f2, Nat.lt_of_lt_of_le h.lt k.size⟩
theorem set_size (W : World) (p : Addr) (v : Value) : (W.setCell p v).heap.size = W.heap.size := by simp [World.setCell]
theorem Arr.other {W : World} {b : Nat} {x y z : Int} (h : Arr W b x y z) {p : Addr} (hp : p.block ≠ b) (v : Value) : Arr (W.setCell p v) b x y z :=
  ⟨(World.cell?_setCell_other _ _ _ _ (by intro e; exact hp (congrArg Addr.block e))).trans h.c0, (World.cell?_setCell_other _ _ _ _ (by intro e; exact hp (congrArg Addr.block e))).trans h.c1, (World.cell?_setCell_other _ _ _ _ (by intro e; exact hp (congrArg Addr.block e))).trans h.c2, (World.frozen?_setCell ..).trans h.f0, (World.frozen?_setCell ..).trans h.f1, (World.frozen?_setCell ..).trans h.f2, by rw [set_size]; exact h.lt⟩
theorem Arr.s0 {W : World} {b : Nat} {x y z : Int} (h : Arr W b x y z) (v : Int) : Arr (W.setCell ⟨b, 0, none⟩ (.int .i64 v)) b v y z :=
  ⟨World.cell?_setCell_same _ _ _ h.c0, (World.cell?_setCell_other _ _ _ _ (by simp)).trans h.c1, (World.cell?_setCell_other _ _ _ _ (by simp)).trans h.c2, (World.frozen?_setCell ..).trans h.f0, (World.frozen?_setCell ..).trans h.f1, (World.frozen?_setCell ..).trans h.f2, by rw [set_size]; exact h.lt⟩
theorem Arr.s1 {W : World} {b : Nat} {x y z : Int} (h : Arr W b x y z) (v : Int) : Arr (W.setCell ⟨b, 1, none⟩ (.int .i64 v)) b x v z :=
  ⟨(World.cell?_setCell_other _ _ _ _ (by simp)).trans h.c0, World.cell?_setCell_same _ _ _ h.c1, (World.cell?_setCell_other _ _ _ _ (by simp)).trans h.c2, (World.frozen?_setCell ..).trans h.f0, (World.frozen?_setCell ..).trans h.f1, (World.frozen?_setCell ..).trans h.f2, by rw [set_size]; exact h.lt⟩
theorem Arr.s2 {W : World} {b : Nat} {x y z : Int} (h : Arr W b x y z) (v : Int) : Arr (W.setCell ⟨b, 2, none⟩ (.int .i64 v)) b x y v :=
  ⟨(World.cell?_setCell_other _ _ _ _ (by simp)).trans h.c0, (World.cell?_setCell_other _ _ _ _ (by simp)).trans h.c1, World.cell?_setCell_same _ _ _ h.c2, (World.frozen?_setCell ..).trans h.f0, (World.frozen?_setCell ..).trans h.f1, (World.frozen?_setCell ..).trans h.f2, by rw [set_size]; exact h.lt⟩
set_option maxRecDepth 100000 in
theorem c_readDecs {b off n c : Nat} {zs : List ByteArray} (hn : n ≤ c) (hz : zs.length = n) (hbig : c ≤ 9223372036854775807) {w : World} (g : GW w) (hb : b < w.heap.size) (hc : ∀ j, j < n → w.cell? ⟨b, off + j, none⟩ = some (.string (zs.getD j ByteArray.empty))) (hs : ∀ j, j < n → (zs.getD j ByteArray.empty).size ≤ 281474976710656) :
    Calls Tryz.prog 26 #[.slice (some ⟨b, off, none⟩) n c] w fun e w' => e = .returned (.agg #[.int .i64 (nums zs n 0), .int .i64 (nums zs n 1), .int .i64 (nums zs n 2)]) ∧ Below w.heap.size w w' := by
  go_enter Tryz.func26, Tryz.ntmps26
  go_wp2
  go_loopw [13] (fun i wr => ∃ k : Nat, k ≤ min n 3 ∧ i = .int .i64 k ∧ Below w.heap.size w wr ∧ Arr wr (w.heap.size + 1) (nums zs k 0) (nums zs k 1) (nums zs k 2) ∧ Arr wr w.heap.size 0 0 0)
    (fun i _ => 3 - (intOf i).toNat)
  case atStart =>
    refine ⟨0, Nat.zero_le _, by simp, ((Below.refl _ _).alloc (Nat.le_refl _) _).alloc (by simp) _, ⟨?_, ?_, ?_, ?_, ?_, ?_, ?_⟩, ⟨?_, ?_, ?_, ?_, ?_, ?_, ?_⟩⟩ <;> go_simp <;> first | rfl | omega
  case round =>
    obtain ⟨k, hk, rfl, hB, hA, hR⟩ := hrel
    by_cases hlt : k < min n 3
    · have hck := (hB.cell (p := ⟨b, off + k, none⟩) (by exact hb)).trans (hc k (by omega))
      obtain ⟨r, hr⟩ : ∃ r, r = rdDec (zs.getD k ByteArray.empty).data.toList := ⟨_, rfl⟩
      have cR := c_ReadDec (hs k (by omega)) hr.symm (g.below hB)
      have hnum : ∀ j, j ≠ k → nums zs (k + 1) j = nums zs k j := fun j hj => by
        unfold nums
        by_cases q : j < k
        · rw [if_pos q, if_pos (by omega)]
        · rw [if_neg q, if_neg (by omega)]
      have hnk : nums zs (k + 1) k = r.1 := by unfold nums; rw [if_pos (by omega), hr]
      generalize zs.getD k ByteArray.empty = z at *
      have k3 : k < 3 := by omega
      rcases (by omega : k = 0 ∨ k = 1 ∨ k = 2) with rfl | rfl | rfl
      · have n1 := hnum 1 (by decide)
        have n2 := hnum 2 (by decide)
        clear hnum
        simp only [Nat.add_zero] at hck
        go_wp2_with (go_at_call 52; go_fit cR; rintro e w2 ⟨rfl, hb2⟩; have hA2 := hA.below hb2; have hR2 := hR.below hb2; have hB2 := hB.trans (hb2.mono hB.size); obtain ⟨q0, q1, q2, p0, p1, p2, _⟩ := id hA2)
        go_roundw
        case rel => exact ⟨1, by omega, by simp, hB2.setCell (by simp) _, by rw [n1, n2, hnk, hr]; exact hA2.s0 _, hR2.other (by simp) _⟩
        case measure => simp [intOf]
      · have n1 := hnum 0 (by decide)
        have n2 := hnum 2 (by decide)
        clear hnum
        go_wp2_with (go_at_call 52; go_fit cR; rintro e w2 ⟨rfl, hb2⟩; have hA2 := hA.below hb2; have hR2 := hR.below hb2; have hB2 := hB.trans (hb2.mono hB.size); obtain ⟨q0, q1, q2, p0, p1, p2, _⟩ := id hA2)
        go_roundw
        case rel => exact ⟨2, by omega, by simp, hB2.setCell (by simp) _, by rw [n1, n2, hnk, hr]; exact hA2.s1 _, hR2.other (by simp) _⟩
        case measure => simp [intOf]
      · have n1 := hnum 0 (by decide)
        have n2 := hnum 1 (by decide)
        clear hnum
        go_wp2_with (go_at_call 52; go_fit cR; rintro e w2 ⟨rfl, hb2⟩; have hA2 := hA.below hb2; have hR2 := hR.below hb2; have hB2 := hB.trans (hb2.mono hB.size); obtain ⟨q0, q1, q2, p0, p1, p2, _⟩ := id hA2)
        go_roundw
        case rel => exact ⟨3, by omega, by simp, hB2.setCell (by simp) _, by rw [n1, n2, hnk, hr]; exact hA2.s2 _, hR2.other (by simp) _⟩
        case measure => simp [intOf]
    · have hkn : nums zs k 0 = nums zs n 0 ∧ nums zs k 1 = nums zs n 1 ∧ nums zs k 2 = nums zs n 2 := by
        rcases Nat.lt_or_ge n 3 with q | q
        · obtain rfl : k = n := by omega
          exact ⟨rfl, rfl, rfl⟩
        · obtain rfl : k = 3 := by omega
          unfold nums
          refine ⟨?_, ?_, ?_⟩ <;> rw [if_pos (by omega), if_pos (by omega)]
      rw [hkn.1, hkn.2.1, hkn.2.2] at hA
      obtain ⟨a0, a1, a2, a3, a4, a5, _⟩ := hA
      obtain ⟨r0, r1, r2, r3, r4, r5, _⟩ := id hR
      go_wp2
      have hF := ((hR.s0 (nums zs n 0)).s1 (nums zs n 1)).s2 (nums zs n 2)
      try simp only [Exit.inBlock, Exit.then]
      refine bodyPost_ret (v := .agg #[.int .i64 (nums zs n 0), .int .i64 (nums zs n 1), .int .i64 (nums zs n 2)]) ((results_cell1 rfl _ _ _).trans ?_) rfl ⟨rfl, ((hB.setCell (by simp) _).setCell (by simp) _).setCell (by simp) _⟩
      obtain ⟨b0, b1, b2, _, _, _, _⟩ := hF
      generalize (((wr.setCell ⟨w.heap.size, 0, none⟩ (.int .i64 (nums zs n 0))).setCell ⟨w.heap.size, 1, none⟩ (.int .i64 (nums zs n 1))).setCell ⟨w.heap.size, 2, none⟩ (.int .i64 (nums zs n 2))) = W at *
      go_simp

theorem nums_eq {zs : List ByteArray} {j : Nat} : nums zs zs.length j = numL (zs.map (·.data.toList)) j := by
  unfold nums numL
  by_cases h : j < zs.length
  · rw [if_pos h, List.getD_eq_getElem?_getD, List.getD_eq_getElem?_getD, List.getElem?_map, List.getElem?_eq_getElem h]; rfl
  · rw [if_neg h, List.getD_eq_getElem?_getD, List.getElem?_map, List.getElem?_eq_none (by omega)]; rfl
def spB (s : ByteArray) : List ByteArray := Lib.splitB ⟨#[32]⟩ 0 (Lib.countB s ⟨#[32]⟩) s
theorem spB_len (s : ByteArray) : (spB s).length = Lib.countB s ⟨#[32]⟩ + 1 := Lib.splitB_all ⟨#[32]⟩ (by decide) 0 _ s rfl
theorem spB_eq (s : ByteArray) : (spB s).map (·.data.toList) = Lib.split s.data.toList [32] := Lib.splitB_data _ _ _ _
theorem splitB_size (sep : ByteArray) : ∀ (k : Nat) (s : ByteArray), ∀ z ∈ Lib.splitB sep 0 k s, z.size ≤ s.size
  | 0, s, z, h => by rw [List.mem_singleton.1 h]; exact Nat.le_refl _
  | k + 1, s, z, h => by
    unfold Lib.splitB at h
    split at h
    · rw [List.mem_singleton.1 h]; exact Nat.le_refl _
    · rcases List.mem_cons.1 h with rfl | h
      · rw [ByteArray.size_extract]; omega
      · have := splitB_size sep k _ z h
        rw [ByteArray.size_extract] at this
        omega
theorem spB_size (s : ByteArray) : ∀ z ∈ spB s, z.size ≤ s.size := splitB_size _ _ s
/-- Behind strings.Split(s, " ") and the reading of the words' numbers. -/
theorem c_words {s : ByteArray} (hs : s.size < 4294967281) {w : World} (g : GW w) : Calls Tryz.prog 25 #[.string s, .string ⟨#[32]⟩] w fun e w' => e = .returned (.slice (some ⟨w.heap.size, 0, none⟩) (Lib.countB s ⟨#[32]⟩ + 1) (Lib.countB s ⟨#[32]⟩ + 1)) ∧ w' = w.alloc (.cells ((spB s).map Value.string).toArray 9) := by
  obtain ⟨m, hm⟩ := g.max
  exact Any.strings_Split Tryz.lays146 (by kernel_rfl) s ⟨#[32]⟩ m w hs hm (by decide)
theorem c_nums {s : ByteArray} (hs : s.size < 4294967281) {a b c : Int} (ha : numL (Lib.split s.data.toList [32]) 1 = a) (hb : numL (Lib.split s.data.toList [32]) 2 = b) (hc : numL (Lib.split s.data.toList [32]) 3 = c) {w : World} (g : GW w) {B n o : Nat} (hB : B = w.heap.size) (hn : n = Lib.countB s ⟨#[32]⟩) (hno : o = 1 ∨ n = 0) : Calls Tryz.prog 26 #[.slice (some ⟨B, o, none⟩) n n] (w.alloc (.cells ((spB s).map Value.string).toArray 9)) fun e w' =>
    e = .returned (.agg #[.int .i64 a, .int .i64 b, .int .i64 c]) ∧ Below (w.heap.size + 1) (w.alloc (.cells ((spB s).map Value.string).toArray 9)) w' := by
  have hl := spB_len s
  have hg : GW (w.alloc (.cells ((spB s).map Value.string).toArray 9)) := g.below ((Below.refl _ _).alloc (Nat.le_refl _) _)
  have gd : ∀ j, ((spB s).drop 1).getD j ByteArray.empty = (spB s).getD (1 + j) ByteArray.empty := fun j => by
    rw [List.getD_eq_getElem?_getD, List.getD_eq_getElem?_getD, List.getElem?_drop]
  have hc' : n = ((spB s).drop 1).length := by rw [List.length_drop, hl]; omega
  have := c_readDecs (b := B) (off := o) (zs := (spB s).drop 1) (Nat.le_refl n) hc'.symm (by have := Lib.countB_le ⟨#[32]⟩ (by decide) s.size s (Nat.le_refl _); omega) hg (by subst hB; simp) (fun j hj => by
    obtain rfl : o = 1 := by omega
    rw [gd, World.cell?_alloc_at _ _ _ _ hB]
    simp [List.getD_eq_getElem?_getD, List.getElem?_eq_getElem (show 1 + j < (spB s).length by omega)]) (fun j hj => by
    rw [gd, List.getD_eq_getElem?_getD, List.getElem?_eq_getElem (show 1 + j < (spB s).length by omega)]
    have := spB_size s _ (List.getElem_mem (show 1 + j < (spB s).length by omega))
    simp only [Option.getD_some]; omega)
  have en : ∀ j, nums ((spB s).drop 1) n j = numL (Lib.split s.data.toList [32]) (1 + j) := fun j => by
    rw [hc', nums_eq, List.map_drop, spB_eq]
    unfold numL
    rw [List.getD_eq_getElem?_getD, List.getD_eq_getElem?_getD, List.getElem?_drop]
  rw [en, en, en, ha, hb, hc] at this
  simpa using this
structure Arr4 (W : World) (b : Nat) : Prop where
  c0 : W.cell? ⟨b, 0, none⟩ = some (.int .i64 0)
  c1 : W.cell? ⟨b, 1, none⟩ = some (.int .i64 0)
  c2 : W.cell? ⟨b, 2, none⟩ = some (.int .i64 0)
  c3 : W.cell? ⟨b, 3, none⟩ = some (.int .i64 0)
  f0 : W.frozen? ⟨b, 0, none⟩ = false
  f1 : W.frozen? ⟨b, 1, none⟩ = false
  f2 : W.frozen? ⟨b, 2, none⟩ = false
  f3 : W.frozen? ⟨b, 3, none⟩ = false
  lt : b < W.heap.size
theorem Arr4.below {W W' : World} {b : Nat} (h : Arr4 W b) (k : Below W.heap.size W W') : Arr4 W' b :=
  ⟨(k.cell h.lt).trans h.c0, (k.cell h.lt).trans h.c1, (k.cell h.lt).trans h.c2, (k.cell h.lt).trans h.c3, (k.frozen h.lt).trans h.f0, (k.frozen h.lt).trans h.f1, (k.frozen h.lt).trans h.f2, (k.frozen h.lt).trans h.f3, Nat.lt_of_lt_of_le h.lt k.size⟩
theorem set4 {W : World} {b : Nat} (h : Arr4 W b) (x y z u : Int) : ((((W.setCell ⟨b, 0, none⟩ (.int .i64 x)).setCell ⟨b, 1, none⟩ (.int .i64 y)).setCell ⟨b, 2, none⟩ (.int .i64 z)).setCell ⟨b, 3, none⟩ (.int .i64 u)).cell? ⟨b, 0, none⟩ = some (.int .i64 x) ∧ ((((W.setCell ⟨b, 0, none⟩ (.int .i64 x)).setCell ⟨b, 1, none⟩ (.int .i64 y)).setCell ⟨b, 2, none⟩ (.int .i64 z)).setCell ⟨b, 3, none⟩ (.int .i64 u)).cell? ⟨b, 1, none⟩ = some (.int .i64 y) ∧ ((((W.setCell ⟨b, 0, none⟩ (.int .i64 x)).setCell ⟨b, 1, none⟩ (.int .i64 y)).setCell ⟨b, 2, none⟩ (.int .i64 z)).setCell ⟨b, 3, none⟩ (.int .i64 u)).cell? ⟨b, 2, none⟩ = some (.int .i64 z) ∧ ((((W.setCell ⟨b, 0, none⟩ (.int .i64 x)).setCell ⟨b, 1, none⟩ (.int .i64 y)).setCell ⟨b, 2, none⟩ (.int .i64 z)).setCell ⟨b, 3, none⟩ (.int .i64 u)).cell? ⟨b, 3, none⟩ = some (.int .i64 u) := by
  obtain ⟨c0, c1, c2, c3, _, _, _, _, _⟩ := h
  refine ⟨?_, ?_, ?_, ?_⟩ <;> go_simp
theorem alloc_below (W : World) (o : Obj) : Below W.heap.size W (W.alloc o) := (Below.refl _ _).alloc (Nat.le_refl _) _
def opV (o : Option Int) (a b c : Int) : Value := match o with
  | some k => .tuple #[.agg #[.int .i64 k, .int .i64 a, .int .i64 b, .int .i64 c], .bool true]
  | none => .tuple #[.agg #[.int .i64 0, .int .i64 0, .int .i64 0, .int .i64 0], .bool false]
set_option maxRecDepth 100000 in
set_option maxHeartbeats 2000000 in
theorem c_ReadOp {sh : Int → Int → Int → Int → Option (List UInt8)} (cS : ∀ {k a b c : Int} {t : List UInt8}, sh k a b c = some t → ∀ {W : World}, GW W → Calls Tryz.prog 6 #[.agg #[.int .i64 k, .int .i64 a, .int .i64 b, .int .i64 c]] W fun e W' => e = .returned (.string ⟨t.toArray⟩) ∧ Below W.heap.size W W')
    {s : ByteArray} (hs : s.size < 4294967281) {a b c : Int} (ha : numL (Lib.split s.data.toList [32]) 1 = a) (hb : numL (Lib.split s.data.toList [32]) 2 = b) (hc : numL (Lib.split s.data.toList [32]) 3 = c) {o : Option Int} (ho : tryOp sh s.data.toList a b c [1, 2, 3, 4, 5, 6, 7] = some o) {w : World} (g : GW w) :
    Calls Tryz.prog 7 #[.string s] w fun e w' => e = .returned (opV o a b c) ∧ Below w.heap.size w w' := by
  have hz0 : GW (w.alloc (.cells #[.int .i64 0, .int .i64 0, .int .i64 0, .int .i64 0] 25)) := g.below ((Below.refl _ _).alloc (Nat.le_refl _) _)
  have cW := c_words hs hz0
  have cN0 := fun h0 : Lib.countB s ⟨#[32]⟩ = 0 => c_nums hs ha hb hc hz0 (B := w.heap.size + 1) (n := 0) (o := 0) (by simp) h0.symm (.inr rfl)
  have cN1 := c_nums hs ha hb hc hz0 (B := w.heap.size + 1) (n := Lib.countB s ⟨#[32]⟩) (o := 1) (by simp) rfl (.inl rfl)
  go_enter Tryz.func7, Tryz.ntmps7
  go_wp2_with (go_at_call 25; go_fit cW; rintro e w1 ⟨rfl, rfl⟩)
  · have h0 : Lib.countB s ⟨#[32]⟩ = 0 := by omega
    have cN := cN0 h0
    clear cN0 cN1
    go_wp2_with (go_at_call 26; go_fit cN; rintro e w2 ⟨rfl, hb2⟩)
    have hB2 : Below w.heap.size w w2 := ((Below.refl _ _).alloc (Nat.le_refl _) _).trans ((((Below.refl _ _).alloc (Nat.le_refl _) _).trans (hb2.mono (by simp))).mono (by simp))
    have hR2 : Arr4 w2 w.heap.size := by
      have hlt : w.heap.size < w.heap.size + 1 + 1 := by omega
      simp only [World.size_alloc] at hb2
      constructor
      all_goals first | (rw [hb2.cell hlt]; go_simp; done) | (rw [hb2.frozen hlt]; go_simp; done) | (have := hb2.size; simp at this; omega)
    go_loopw [6] (fun i wr => ∃ k : Nat, k ≤ 8 ∧ i = .int .i64 k ∧ tryOp sh s.data.toList a b c ((List.range' k (8 - k)).map Int.ofNat) = some o ∧ Below w.heap.size w wr ∧ Arr wr w2.heap.size a b c ∧ Arr4 wr w.heap.size)
      (fun i _ => 9 - (intOf i).toNat)
    case atStart =>
      refine ⟨1, by omega, rfl, ho, hB2.alloc hB2.size _, ?_, hR2.below (alloc_below _ _)⟩
      constructor <;> go_simp
    case round =>
      obtain ⟨k, hk8, rfl, ht, hB, hA, hR⟩ := hrel
      by_cases hlt : k ≤ 7
      · rw [show 8 - k = (8 - (k + 1)) + 1 by omega, List.range'_succ, List.map_cons] at ht
        unfold tryOp at ht
        by_cases hse : s.data.toList = []
        · have hemp : s.toList.isEmpty = true := by rw [toL, hse]; rfl
          rw [if_pos hse] at ht
          obtain ⟨a0, a1, a2, _, _, _, _⟩ := id hA
          go_wp2
          go_roundw
          case rel => exact ⟨k + 1, by omega, by simp, ht, hB.trans ((alloc_below _ _).mono hB.size), hA.below (alloc_below _ _), hR.below (alloc_below _ _)⟩
          case measure => simp [intOf]; omega
        · have hemp : s.toList.isEmpty = false := by rw [toL]; simpa using hse
          rw [if_neg hse] at ht
          cases hsh : sh (Int.ofNat k) a b c with
          | none => rw [hsh] at ht; cases ht
          | some t =>
            rw [hsh, Option.bind_some] at ht
            obtain ⟨a0, a1, a2, _, _, _, _⟩ := id hA
            have cT := cS hsh (W := wr.alloc (.cells #[.int .i64 k, .int .i64 a, .int .i64 b, .int .i64 c] 25)) ((g.below hB).below (alloc_below _ _))
            have post : ∀ w3, Below (wr.alloc (.cells #[.int .i64 k, .int .i64 a, .int .i64 b, .int .i64 c] 25)).heap.size (wr.alloc (.cells #[.int .i64 k, .int .i64 a, .int .i64 b, .int .i64 c] 25)) w3 → (Below w.heap.size w w3 ∧ Arr w3 w2.heap.size a b c ∧ Arr4 w3 w.heap.size) ∧ w3.cell? ⟨wr.heap.size, 0, none⟩ = some (.int .i64 k) ∧ w3.cell? ⟨wr.heap.size, 1, none⟩ = some (.int .i64 a) ∧ w3.cell? ⟨wr.heap.size, 2, none⟩ = some (.int .i64 b) ∧ w3.cell? ⟨wr.heap.size, 3, none⟩ = some (.int .i64 c) := fun w3 hb3 => by
              have hlt : wr.heap.size < (wr.alloc (.cells #[.int .i64 k, .int .i64 a, .int .i64 b, .int .i64 c] 25)).heap.size := by simp
              refine ⟨⟨hB.trans (((alloc_below wr _).trans (hb3.mono (by simp))).mono hB.size), (hA.below (alloc_below _ _)).below hb3, (hR.below (alloc_below _ _)).below hb3⟩, ?_, ?_, ?_, ?_⟩ <;> rw [hb3.cell hlt] <;> go_simp
            by_cases hte : t = s.data.toList
            · have hq : (t == s.toList) = true := by rw [toL]; simpa using hte
              rw [if_pos hte] at ht
              cases ht
              go_wp2_with (go_at_call 6; go_fit cT; rintro e w3 ⟨rfl, hb3⟩; obtain ⟨⟨p1, p2, p3⟩, e0, e1, e2, e3⟩ := post w3 hb3; obtain ⟨r0, r1, r2, r3, r4, r5, r6, r7, r8⟩ := id p3)
              obtain ⟨d0, d1, d2, d3⟩ := set4 p3 k a b c
              refine bodyPost_ret (v := opV (some (Int.ofNat k)) a b c) ((results_cell_tmp rfl _ _ _).trans ?_) rfl ⟨rfl, (((p1.setCell (by simp) _).setCell (by simp) _).setCell (by simp) _).setCell (by simp) _⟩
              generalize ((((w3.setCell ⟨w.heap.size, 0, none⟩ (.int .i64 (k : Int))).setCell ⟨w.heap.size, 1, none⟩ (.int .i64 a)).setCell ⟨w.heap.size, 2, none⟩ (.int .i64 b)).setCell ⟨w.heap.size, 3, none⟩ (.int .i64 c)) = F at *
              go_simp
              rfl
            · have hq : (t == s.toList) = false := by rw [toL]; simpa using hte
              rw [if_neg hte] at ht
              go_wp2_with (go_at_call 6; go_fit cT; rintro e w3 ⟨rfl, hb3⟩; obtain ⟨⟨p1, p2, p3⟩, e0, e1, e2, e3⟩ := post w3 hb3; obtain ⟨r0, r1, r2, r3, r4, r5, r6, r7, r8⟩ := id p3)
              go_roundw
              case rel => exact ⟨k + 1, by omega, by simp, ht, p1, p2, p3⟩
              case measure => simp [intOf]; omega
      · obtain rfl : k = 8 := by omega
        cases ht
        obtain ⟨r0, r1, r2, r3, r4, r5, r6, r7, r8⟩ := id hR
        go_wp2
        obtain ⟨d0, d1, d2, d3⟩ := set4 hR 0 0 0 0
        refine bodyPost_ret (v := opV none a b c) ((results_cell_tmp rfl _ _ _).trans ?_) rfl ⟨rfl, (((hB.setCell (by simp) _).setCell (by simp) _).setCell (by simp) _).setCell (by simp) _⟩
        generalize ((((wr.setCell ⟨w.heap.size, 0, none⟩ (.int .i64 0)).setCell ⟨w.heap.size, 1, none⟩ (.int .i64 0)).setCell ⟨w.heap.size, 2, none⟩ (.int .i64 0)).setCell ⟨w.heap.size, 3, none⟩ (.int .i64 0)) = F at *
        go_simp
        rfl
  · clear cN0
    go_wp2_with (go_at_call 26; go_fit cN1; rintro e w2 ⟨rfl, hb2⟩)
    have hB2 : Below w.heap.size w w2 := ((Below.refl _ _).alloc (Nat.le_refl _) _).trans ((((Below.refl _ _).alloc (Nat.le_refl _) _).trans (hb2.mono (by simp))).mono (by simp))
    have hR2 : Arr4 w2 w.heap.size := by
      have hlt : w.heap.size < w.heap.size + 1 + 1 := by omega
      simp only [World.size_alloc] at hb2
      constructor
      all_goals first | (rw [hb2.cell hlt]; go_simp; done) | (rw [hb2.frozen hlt]; go_simp; done) | (have := hb2.size; simp at this; omega)
    go_loopw [6] (fun i wr => ∃ k : Nat, k ≤ 8 ∧ i = .int .i64 k ∧ tryOp sh s.data.toList a b c ((List.range' k (8 - k)).map Int.ofNat) = some o ∧ Below w.heap.size w wr ∧ Arr wr w2.heap.size a b c ∧ Arr4 wr w.heap.size)
      (fun i _ => 9 - (intOf i).toNat)
    case atStart =>
      refine ⟨1, by omega, rfl, ho, hB2.alloc hB2.size _, ?_, hR2.below (alloc_below _ _)⟩
      constructor <;> go_simp
    case round =>
      obtain ⟨k, hk8, rfl, ht, hB, hA, hR⟩ := hrel
      by_cases hlt : k ≤ 7
      · rw [show 8 - k = (8 - (k + 1)) + 1 by omega, List.range'_succ, List.map_cons] at ht
        unfold tryOp at ht
        by_cases hse : s.data.toList = []
        · have hemp : s.toList.isEmpty = true := by rw [toL, hse]; rfl
          rw [if_pos hse] at ht
          obtain ⟨a0, a1, a2, _, _, _, _⟩ := id hA
          go_wp2
          go_roundw
          case rel => exact ⟨k + 1, by omega, by simp, ht, hB.trans ((alloc_below _ _).mono hB.size), hA.below (alloc_below _ _), hR.below (alloc_below _ _)⟩
          case measure => simp [intOf]; omega
        · have hemp : s.toList.isEmpty = false := by rw [toL]; simpa using hse
          rw [if_neg hse] at ht
          cases hsh : sh (Int.ofNat k) a b c with
          | none => rw [hsh] at ht; cases ht
          | some t =>
            rw [hsh, Option.bind_some] at ht
            obtain ⟨a0, a1, a2, _, _, _, _⟩ := id hA
            have cT := cS hsh (W := wr.alloc (.cells #[.int .i64 k, .int .i64 a, .int .i64 b, .int .i64 c] 25)) ((g.below hB).below (alloc_below _ _))
            have post : ∀ w3, Below (wr.alloc (.cells #[.int .i64 k, .int .i64 a, .int .i64 b, .int .i64 c] 25)).heap.size (wr.alloc (.cells #[.int .i64 k, .int .i64 a, .int .i64 b, .int .i64 c] 25)) w3 → (Below w.heap.size w w3 ∧ Arr w3 w2.heap.size a b c ∧ Arr4 w3 w.heap.size) ∧ w3.cell? ⟨wr.heap.size, 0, none⟩ = some (.int .i64 k) ∧ w3.cell? ⟨wr.heap.size, 1, none⟩ = some (.int .i64 a) ∧ w3.cell? ⟨wr.heap.size, 2, none⟩ = some (.int .i64 b) ∧ w3.cell? ⟨wr.heap.size, 3, none⟩ = some (.int .i64 c) := fun w3 hb3 => by
              have hlt : wr.heap.size < (wr.alloc (.cells #[.int .i64 k, .int .i64 a, .int .i64 b, .int .i64 c] 25)).heap.size := by simp
              refine ⟨⟨hB.trans (((alloc_below wr _).trans (hb3.mono (by simp))).mono hB.size), (hA.below (alloc_below _ _)).below hb3, (hR.below (alloc_below _ _)).below hb3⟩, ?_, ?_, ?_, ?_⟩ <;> rw [hb3.cell hlt] <;> go_simp
            by_cases hte : t = s.data.toList
            · have hq : (t == s.toList) = true := by rw [toL]; simpa using hte
              rw [if_pos hte] at ht
              cases ht
              go_wp2_with (go_at_call 6; go_fit cT; rintro e w3 ⟨rfl, hb3⟩; obtain ⟨⟨p1, p2, p3⟩, e0, e1, e2, e3⟩ := post w3 hb3; obtain ⟨r0, r1, r2, r3, r4, r5, r6, r7, r8⟩ := id p3)
              obtain ⟨d0, d1, d2, d3⟩ := set4 p3 k a b c
              refine bodyPost_ret (v := opV (some (Int.ofNat k)) a b c) ((results_cell_tmp rfl _ _ _).trans ?_) rfl ⟨rfl, (((p1.setCell (by simp) _).setCell (by simp) _).setCell (by simp) _).setCell (by simp) _⟩
              generalize ((((w3.setCell ⟨w.heap.size, 0, none⟩ (.int .i64 (k : Int))).setCell ⟨w.heap.size, 1, none⟩ (.int .i64 a)).setCell ⟨w.heap.size, 2, none⟩ (.int .i64 b)).setCell ⟨w.heap.size, 3, none⟩ (.int .i64 c)) = F at *
              go_simp
              rfl
            · have hq : (t == s.toList) = false := by rw [toL]; simpa using hte
              rw [if_neg hte] at ht
              go_wp2_with (go_at_call 6; go_fit cT; rintro e w3 ⟨rfl, hb3⟩; obtain ⟨⟨p1, p2, p3⟩, e0, e1, e2, e3⟩ := post w3 hb3; obtain ⟨r0, r1, r2, r3, r4, r5, r6, r7, r8⟩ := id p3)
              go_roundw
              case rel => exact ⟨k + 1, by omega, by simp, ht, p1, p2, p3⟩
              case measure => simp [intOf]; omega
      · obtain rfl : k = 8 := by omega
        cases ht
        obtain ⟨r0, r1, r2, r3, r4, r5, r6, r7, r8⟩ := id hR
        go_wp2
        obtain ⟨d0, d1, d2, d3⟩ := set4 hR 0 0 0 0
        refine bodyPost_ret (v := opV none a b c) ((results_cell_tmp rfl _ _ _).trans ?_) rfl ⟨rfl, (((hB.setCell (by simp) _).setCell (by simp) _).setCell (by simp) _).setCell (by simp) _⟩
        generalize ((((wr.setCell ⟨w.heap.size, 0, none⟩ (.int .i64 0)).setCell ⟨w.heap.size, 1, none⟩ (.int .i64 0)).setCell ⟨w.heap.size, 2, none⟩ (.int .i64 0)).setCell ⟨w.heap.size, 3, none⟩ (.int .i64 0)) = F at *
        go_simp
        rfl
end Go.Proofs.YtpkgcalilmlljaaGreatDoor
end
