/- Both readers agree. -/
import Derived.Test.YtpndngnohcffnaaGreatPRead3
set_option linter.unusedVariables false
set_option linter.unusedSimpArgs false
set_option linter.unusedSectionVars false
namespace Go.Gv
def noM : Mem := ⟨⟨[], []⟩, ⟨[], []⟩⟩
theorem MOk.small {m : Mem} (h : MOk m) : SmallM m := by
  have h1 := h.1.1.1.1; have h2 := h.1.1.1.2.1; have h3 := h.1.2.1; have h4 := h.1.2.2.1; have h5 := h.slots.1
  unfold SmallM; omega
theorem small_no : SmallM noM := by unfold SmallM noM; simp [allS, flatS]
theorem showM_of {m : Mem} (h : MOk m) : showM? m = showM m := by unfold showM?; rw [if_pos h]
end Go.Gv
