/- A clock compared with itself. -/
import Derived.Test.YtpndngnohcffnaaGreatPClock
set_option linter.unusedVariables false
set_option linter.unusedSimpArgs false
set_option linter.unusedSectionVars false
namespace Go.Gv
theorem eqPin_eq (a b : Pin) : laws_eqPin a b = some (decide (a = b)) := by
  obtain ⟨a1, a2, a3, a4⟩ := a
  obtain ⟨b1, b2, b3, b4⟩ := b
  simp only [laws_eqPin, Pin.mk.injEq]
  by_cases h1 : a1 = b1 <;> by_cases h2 : a2 = b2 <;> by_cases h3 : a3 = b3 <;> by_cases h4 : a4 = b4 <;> simp [h1, h2, h3, h4]

theorem eqPinS_self {l : List Pin} (hl : l.length ≤ maxLen) : laws_eqPinS l l = some true := by
  unfold laws_eqPinS
  have key : ∀ k : Nat, k ≤ l.length → loop (laws_eqPinS_l1 l l) (k : Int) = some (Out.brk ()) := by
    refine scan_eq l.length _ fun k hk => ?_
    by_cases h3 : k < l.length
    · right
      simp only [laws_eqPinS_l1]
      rw [if_pos (by simp; omega), idx_nat h3, w64_nat (lt_max h3 hl)]
      simp [eqPin_eq, h3]
    · left
      obtain rfl : k = l.length := by omega
      simp [laws_eqPinS_l1]
  have t0 : loop (laws_eqPinS_l1 l l) 0 = _ := key 0 (by omega)
  simp [t0, laws_eqPinS_m1, laws_eqPinS_j1]

theorem eqClock_self {c : Clock} (hl : c.Pins.length ≤ maxLen) : laws_eqClock c c = some true := by
  unfold laws_eqClock
  simp [eqPinS_self hl]

end Go.Gv
