/- laws.FnExactShowBase in plain Lean. -/
import Derived.Test.YtpndngnohcffnaaGreatPBaseLaws
import Derived.Test.YtpndngnohcffnaaGreatPBaseEq
set_option linter.unusedVariables false
set_option linter.unusedSimpArgs false
set_option linter.unusedSectionVars false
namespace Go.Gv
theorem law_FnExactShowBase {aB : Base} (hf : fit aB) : laws_FnExactShowBase aB = some true := by
  obtain ⟨x, h1, h2⟩ := szBase_eq hf
  unfold laws_FnExactShowBase
  rw [h1]
  simp only [Option.bind_some]
  by_cases h3 : x < 0
  · simp [h3]
  · have hs : SmallB aB := h2 h3
    have hb : (1048576 : Nat) ≤ maxLen := by simp [maxLen]
    have g1 := hs.1.1; have g2 := hs.1.2.2.2.2; have g3 := hs.2.1; have g4 := hs.2.2.1; have g5 := hs.2.2.2.1; have g6 := hs.2.2.2.2
    have hf2 : aB.Mem.Heap.Bytes.length ≤ maxLen ∧ (allS aB.Mem.Lists).length ≤ 1073741824 ∧ aB.Clock.Pins.length ≤ maxLen ∧ aB.Limbo.length ≤ maxLen ∧ (flatR aB.Limbo).length ≤ 1073741824 ∧ aB.Haz.length ≤ maxLen := ⟨by omega, by omega, by omega, by omega, by omega, by omega⟩
    simp only [h3, decide_false, Bool.false_eq_true, if_false, toBase_eq hs, Option.bind_some, spec_ShowBase_eq hf2, impl_ShowBase_eq hf2, eqBase_self hs]
    simp
end Go.Gv
