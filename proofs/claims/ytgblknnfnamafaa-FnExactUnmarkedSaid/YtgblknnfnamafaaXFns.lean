import Derived.Test.YtgblknnfnamafaaXTypes
set_option linter.unusedVariables false
namespace Go.Gv
noncomputable def laws_szPinS (a_ : List Pin) (left : Int) : Option Int :=
  (if decide ((w64 (left - ((a_.length : Int)))) < 0) then some ((-1)) else some (w64 (left - ((a_.length : Int)))))

noncomputable def laws_szClock (a_ : Clock) (left : Int) : Option Int :=
  (laws_szPinS a_.Pins left).bind fun x1 => (if decide (x1 < 0) then some ((-1)) else some x1)

noncomputable def laws_toPin (a_ : Pin) : Option Pin :=
  some a_

noncomputable def laws_toPinS_j1 (x5 : List Pin) : Option ((List Pin)) :=
  some x5

noncomputable def laws_toPinS_l1 (a_ : List Pin) : ((List Pin) × Int) → Option (Step ((List Pin) × Int) ((List Pin)))
  | (x3, x4) => (if decide (x4 < ((a_.length : Int))) then (idx a_ x4).bind fun x6 => (laws_toPin x6).bind fun x7 => (idx x3 x4).bind fun x8 => some (.next ((x3.set x4.toNat x7, w64 (x4 + 1)))) else some (.stop (x3)))

noncomputable def laws_toPinS_m1  : ((List Pin)) → Option ((List Pin))
  | x5 => laws_toPinS_j1 x5

noncomputable def laws_toPinS (a_ : List Pin) : Option ((List Pin)) :=
  need (0 ≤ ((a_.length : Int)) ∧ ((a_.length : Int)) ≤ 4294967296) ((loop (laws_toPinS_l1 a_) ((List.replicate ((a_.length : Int)).toNat ((⟨false, 0, false, 0⟩ : Pin)), 0))).bind (laws_toPinS_m1))

noncomputable def laws_toClock (a_ : Clock) : Option Clock :=
  (laws_toPinS a_.Pins).bind fun x1 => some ((⟨a_.Epoch, x1⟩ : Clock))

noncomputable def spec_l1In_j1 (x1 : Bool) : Option Bool :=
  some x1

noncomputable def spec_l1In (x : Int) (low : Int) (high : Int) : Option Bool :=
  (if decide (low ≤ x) then spec_l1In_j1 (decide (x ≤ high)) else spec_l1In_j1 false)

noncomputable def spec_ClockOk_j2  : Option Bool :=
  some true

noncomputable def spec_ClockOk_j3 (x3 : Int) (x5 : Bool) : Option (Step Int (Out Unit Bool)) :=
  (if x5 then some (.stop (Out.ret false)) else some (.next (w64 (x3 + 1))))

noncomputable def spec_ClockOk_l2 (c : Clock) : Int → Option (Step Int (Out Unit Bool))
  | x3 => (if decide (x3 < 3) then (idx c.Pins x3).bind fun x4 => (if !x4.On then (if !(decide (x4 = (⟨false, 0, false, 0⟩ : Pin))) then spec_ClockOk_j3 x3 true else (spec_l1In x4.Epoch 0 c.Epoch).bind fun x6 => (if !x6 then spec_ClockOk_j3 x3 true else (spec_l1In x4.Seen 0 2).bind fun x7 => spec_ClockOk_j3 x3 (!x7))) else (spec_l1In x4.Epoch 0 c.Epoch).bind fun x8 => (if !x8 then spec_ClockOk_j3 x3 true else (spec_l1In x4.Seen 0 2).bind fun x9 => spec_ClockOk_j3 x3 (!x9))) else some (.stop (Out.brk (()))))

noncomputable def spec_ClockOk_m2  : (Out Unit Bool) → Option Bool
  | .brk (()) => spec_ClockOk_j2
  | .ret r => some r

noncomputable def spec_ClockOk_j1 (c : Clock) (x1 : Bool) : Option Bool :=
  (if x1 then some false else (loop (spec_ClockOk_l2 c) 0).bind (spec_ClockOk_m2))

noncomputable def spec_ClockOk (c : Clock) : Option Bool :=
  (spec_l1In c.Epoch 0 100000).bind fun x10 => (if !x10 then spec_ClockOk_j1 c true else spec_ClockOk_j1 c (((c.Pins.length : Int)) != 3))

noncomputable def spec_Unmarked_j1 (x5 : Int) : Option Int :=
  some x5

noncomputable def spec_Unmarked_j3 (x4 : Int) (x7 : Int) : Option (Step (Int × Int) Int) :=
  some (.next ((x7, w64 (x4 + 1))))

noncomputable def spec_Unmarked_j4 (x3 : Int) (x4 : Int) (x8 : Bool) : Option (Step (Int × Int) Int) :=
  (if x8 then spec_Unmarked_j3 x4 (w64 (x3 + 1)) else spec_Unmarked_j3 x4 x3)

noncomputable def spec_Unmarked_j2 (c : Clock) (x3 : Int) (x4 : Int) (x6 : Bool) : Option (Step (Int × Int) Int) :=
  (if x6 then (idx c.Pins x4).bind fun x9 => (if x9.On then (idx c.Pins x4).bind fun x10 => spec_Unmarked_j4 x3 x4 (!x10.Marked) else spec_Unmarked_j4 x3 x4 false) else some (.stop (x3)))

noncomputable def spec_Unmarked_l1 (c : Clock) : (Int × Int) → Option (Step (Int × Int) Int)
  | (x3, x4) => (if decide (x4 < 3) then (spec_ClockOk c).bind fun x11 => spec_Unmarked_j2 c x3 x4 x11 else spec_Unmarked_j2 c x3 x4 false)

noncomputable def spec_Unmarked_m1  : Int → Option Int
  | x5 => spec_Unmarked_j1 x5

noncomputable def spec_Unmarked (c : Clock) : Option Int :=
  (loop (spec_Unmarked_l1 c) ((0, 0))).bind (spec_Unmarked_m1)

noncomputable def impl_within_j1 (x1 : Bool) : Option Bool :=
  some x1

noncomputable def impl_within (n : Int) (low : Int) (high : Int) : Option Bool :=
  (if decide (low ≤ n) then impl_within_j1 (decide (n ≤ high)) else impl_within_j1 false)

noncomputable def slices_IndexFunc_Pin_j1  : Option Int :=
  some ((-1))

noncomputable def slices_IndexFunc_Pin_l1 (s : List Pin) (f : (Pin → Option Bool)) : Int → Option (Step Int (Out Unit Int))
  | x2 => (if decide (x2 < ((s.length : Int))) then (idx s x2).bind fun x3 => (f x3).bind fun x4 => (if x4 then some (.stop (Out.ret x2)) else some (.next (w64 (x2 + 1)))) else some (.stop (Out.brk (()))))

noncomputable def slices_IndexFunc_Pin_m1  : (Out Unit Int) → Option Int
  | .brk (()) => slices_IndexFunc_Pin_j1
  | .ret r => some r

noncomputable def slices_IndexFunc_Pin (s : List Pin) (f : (Pin → Option Bool)) : Option Int :=
  (loop (slices_IndexFunc_Pin_l1 s f) 0).bind (slices_IndexFunc_Pin_m1)

noncomputable def slices_ContainsFunc_Pin (s : List Pin) (f : (Pin → Option Bool)) : Option Bool :=
  (slices_IndexFunc_Pin s f).bind fun x1 => some (decide (0 ≤ x1))

noncomputable def impl_ClockOk_1_j1 (x1 : Bool) : Option Bool :=
  some x1

noncomputable def impl_ClockOk_1 (p : Pin) (k0 : Clock) : Option Bool :=
  (impl_within p.Epoch 0 k0.Epoch).bind fun x2 => (if !x2 then impl_ClockOk_1_j1 true else (impl_within p.Seen 0 2).bind fun x3 => (if !x3 then impl_ClockOk_1_j1 true else (if !p.On then impl_ClockOk_1_j1 (!(decide (p = (⟨false, 0, false, 0⟩ : Pin)))) else impl_ClockOk_1_j1 false)))

noncomputable def impl_ClockOk_j1 (x1 : Bool) : Option Bool :=
  some x1

noncomputable def impl_ClockOk (c : Clock) : Option Bool :=
  (impl_within c.Epoch 0 100000).bind fun x2 => (if x2 then (if ((c.Pins.length : Int)) == 3 then (slices_ContainsFunc_Pin c.Pins ((fun y0 => impl_ClockOk_1 y0 c))).bind fun x3 => impl_ClockOk_j1 (!x3) else impl_ClockOk_j1 false) else impl_ClockOk_j1 false)

noncomputable def impl_Pin_effective_j1 (x1 : Bool) : Option Bool :=
  some x1

noncomputable def impl_Pin_effective (p : Pin) : Option Bool :=
  (if p.On then impl_Pin_effective_j1 (!p.Marked) else impl_Pin_effective_j1 false)

noncomputable def impl_flag (is : Bool) : Option Int :=
  (if is then some 1 else some 0)

noncomputable def impl_Unmarked_j1 (x6 : Int) : Option Int :=
  some x6

noncomputable def impl_Unmarked_l1 (c : Clock) : (Int × Int) → Option (Step (Int × Int) Int)
  | (x4, x5) => (if decide (x5 < ((c.Pins.length : Int))) then (idx c.Pins x5).bind fun x7 => (impl_Pin_effective x7).bind fun x8 => (impl_flag x8).bind fun x9 => some (.next ((w64 (x4 + x9), w64 (x5 + 1)))) else some (.stop (x4)))

noncomputable def impl_Unmarked_m1  : Int → Option Int
  | x6 => impl_Unmarked_j1 x6

noncomputable def impl_Unmarked (c : Clock) : Option Int :=
  (impl_ClockOk c).bind fun x1 => (if !x1 then some 0 else (loop (impl_Unmarked_l1 c) ((0, 0))).bind (impl_Unmarked_m1))

noncomputable def laws_eqPin (a_ : Pin) (b : Pin) : Option Bool :=
  (if !(a_.On == b.On) then some false else (if a_.Epoch != b.Epoch then some false else (if !(a_.Marked == b.Marked) then some false else (if a_.Seen != b.Seen then some false else some true))))

noncomputable def laws_eqPinS_j1  : Option Bool :=
  some true

noncomputable def laws_eqPinS_l1 (a_ : List Pin) (b : List Pin) : Int → Option (Step Int (Out Unit Bool))
  | x2 => (if decide (x2 < ((a_.length : Int))) then (idx a_ x2).bind fun x3 => (idx b x2).bind fun x4 => (laws_eqPin x3 x4).bind fun x5 => (if !x5 then some (.stop (Out.ret false)) else some (.next (w64 (x2 + 1)))) else some (.stop (Out.brk (()))))

noncomputable def laws_eqPinS_m1  : (Out Unit Bool) → Option Bool
  | .brk (()) => laws_eqPinS_j1
  | .ret r => some r

noncomputable def laws_eqPinS (a_ : List Pin) (b : List Pin) : Option Bool :=
  (if ((a_.length : Int)) != ((b.length : Int)) then some false else (loop (laws_eqPinS_l1 a_ b) 0).bind (laws_eqPinS_m1))

noncomputable def laws_eqClock (a_ : Clock) (b : Clock) : Option Bool :=
  (if a_.Epoch != b.Epoch then some false else (laws_eqPinS a_.Pins b.Pins).bind fun x1 => (if !x1 then some false else some true))

noncomputable def laws_FnExactUnmarked (aC : Clock) : Option Bool :=
  (laws_szClock aC 1048576).bind fun x1 => (if decide (x1 < 0) then some true else (laws_toClock aC).bind fun x2 => (spec_Unmarked x2).bind fun x3 => (laws_toClock aC).bind fun x4 => (impl_Unmarked x4).bind fun x5 => (if x5 != x3 then some false else (laws_toClock aC).bind fun x6 => (laws_eqClock x4 x6).bind fun x7 => (if !x7 then some false else some true)))
end Go.Gv
