/- Clocks: both sides agree. -/
import Derived.Test.YtpndngnohcffnaaGreatPMemEq
set_option linter.unusedVariables false
set_option linter.unusedSimpArgs false
set_option linter.unusedSectionVars false
namespace Go.Gv
def POk (e : Int) (p : Pin) : Prop := (0 ≤ p.Epoch ∧ p.Epoch ≤ e) ∧ (0 ≤ p.Seen ∧ p.Seen ≤ 2) ∧ (p.On = false → p = ⟨false, 0, false, 0⟩)
instance (e : Int) (p : Pin) : Decidable (POk e p) := by unfold POk; infer_instance
def COk (c : Clock) : Prop := (0 ≤ c.Epoch ∧ c.Epoch ≤ 100000) ∧ c.Pins.length = 3 ∧ ∀ p ∈ c.Pins, POk c.Epoch p
instance (c : Clock) : Decidable (COk c) := by unfold COk; infer_instance

theorem spec_ClockOk_eq (c : Clock) : spec_ClockOk c = some (decide (COk c)) := by
  unfold spec_ClockOk
  rw [l1In_eq]
  by_cases h1 : 0 ≤ c.Epoch ∧ c.Epoch ≤ 100000
  · by_cases h2 : c.Pins.length = 3
    · simp only [Option.bind_some, h1, h2, spec_ClockOk_j1]
      have key : ∀ k : Nat, k ≤ 3 → loop (spec_ClockOk_l2 c) (k : Int) = some (if ∀ p ∈ c.Pins.drop k, POk c.Epoch p then Out.brk () else Out.ret false) := by
        refine scan_eq 3 _ fun k hk => ?_
        by_cases h3 : k < 3
        · have hd : c.Pins.drop k = c.Pins[k] :: c.Pins.drop (k + 1) := List.drop_eq_getElem_cons (by omega)
          simp only [spec_ClockOk_l2]
          rw [if_pos (by simp; omega), idx_nat (by omega)]
          simp only [Option.bind_some, l1In_eq, spec_ClockOk_j3, hd]
          rw [w64_nat (by simp [maxLen]; omega)]
          generalize c.Pins[k] = p
          have hp : POk c.Epoch p ↔ decide (0 ≤ p.Epoch ∧ p.Epoch ≤ c.Epoch) = true ∧ decide (0 ≤ p.Seen ∧ p.Seen ≤ 2) = true ∧ (p.On = false → decide (p = ⟨false, 0, false, 0⟩) = true) := by simp only [POk, decide_eq_true_eq]
          simp only [List.forall_mem_cons, hp]
          generalize decide (0 ≤ p.Epoch ∧ p.Epoch ≤ c.Epoch) = b1
          generalize decide (0 ≤ p.Seen ∧ p.Seen ≤ 2) = b2
          generalize decide (p = ⟨false, 0, false, 0⟩) = b3
          generalize p.On = b4
          cases b1 <;> cases b2 <;> cases b3 <;> cases b4 <;> simp [h3]
        · left
          obtain rfl : k = 3 := by omega
          simp [spec_ClockOk_l2, List.drop_eq_nil_of_le (show c.Pins.length ≤ 3 by omega)]
      have := key 0 (by omega)
      simp only [Int.ofNat_zero, List.drop_zero] at this
      have e : decide (COk c) = if ∀ p ∈ c.Pins, POk c.Epoch p then true else false := by
        have : COk c ↔ ∀ p ∈ c.Pins, POk c.Epoch p := ⟨fun h => h.2.2, fun h => ⟨h1, h2, h⟩⟩
        simp [this]
      rw [e]
      simp only [Int.cast_ofNat_Int] at *
      have t0 : loop (spec_ClockOk_l2 c) 0 = _ := this
      by_cases h5 : ∀ p ∈ c.Pins, POk c.Epoch p
      · rw [if_pos h5] at t0 ⊢; rw [t0]; simp [spec_ClockOk_m2, spec_ClockOk_j2]
      · rw [if_neg h5] at t0 ⊢; rw [t0]; simp [spec_ClockOk_m2]
    · simp [h1, h2, spec_ClockOk_j1, COk]
      omega
  · simp [h1, spec_ClockOk_j1, COk]

theorem impl_pin_eq (p : Pin) (c : Clock) : impl_ClockOk_1 p c = some (!decide (POk c.Epoch p)) := by
  unfold impl_ClockOk_1 impl_ClockOk_1_j1
  rw [within_eq, within_eq]
  have hp : decide (POk c.Epoch p) = (decide (0 ≤ p.Epoch ∧ p.Epoch ≤ c.Epoch) && (decide (0 ≤ p.Seen ∧ p.Seen ≤ 2) && (p.On || decide (p = ⟨false, 0, false, 0⟩)))) := by
    rw [Bool.eq_iff_iff]; simp only [POk, decide_eq_true_eq, Bool.and_eq_true, Bool.or_eq_true]
    by_cases h : p.On = true
    · simp [h]
    · simp [(by simpa using h : p.On = false)]
  rw [hp]
  generalize decide (0 ≤ p.Epoch ∧ p.Epoch ≤ c.Epoch) = b1
  generalize decide (0 ≤ p.Seen ∧ p.Seen ≤ 2) = b2
  generalize decide (p = ⟨false, 0, false, 0⟩) = b3
  generalize p.On = b4
  cases b1 <;> cases b2 <;> cases b3 <;> cases b4 <;> rfl

/-- Where a test first answers yes. -/
theorem contains_Pin {l : List Pin} (hl : l.length ≤ maxLen) (f : Pin → Bool) : slices_ContainsFunc_Pin l (fun x => some (f x)) = some (l.any f) := by
  unfold slices_ContainsFunc_Pin slices_IndexFunc_Pin
  have key : ∀ k : Nat, k ≤ l.length → loop (slices_IndexFunc_Pin_l1 l (fun x => some (f x))) (k : Int) = some (if (l.drop k).any f then Out.ret ((k + (l.drop k).findIdx f : Nat) : Int) else Out.brk ()) := by
    refine scan_eq l.length _ fun k hk => ?_
    by_cases h3 : k < l.length
    · have hd : l.drop k = l[k] :: l.drop (k + 1) := List.drop_eq_getElem_cons h3
      simp only [slices_IndexFunc_Pin_l1]
      rw [if_pos (by simp; omega), idx_nat h3, w64_nat (lt_max h3 hl), hd]
      simp only [Option.bind_some, List.any_cons, List.findIdx_cons]
      by_cases h4 : f l[k] = true
      · left; simp [h4]
      · right
        have h4 : f l[k] = false := by simpa using h4
        refine ⟨h3, by simp [h4], ?_⟩
        simp only [h4, Bool.false_or, cond_false]
        congr 2; omega
    · left
      obtain rfl : k = l.length := by omega
      simp [slices_IndexFunc_Pin_l1]
  have t0 : loop (slices_IndexFunc_Pin_l1 l (fun x => some (f x))) 0 = _ := key 0 (by omega)
  rw [t0]
  simp only [List.drop_zero]
  by_cases h : l.any f = true
  · simp [h, slices_IndexFunc_Pin_m1]
  · have h : l.any f = false := by simpa using h
    simp [h, slices_IndexFunc_Pin_m1, slices_IndexFunc_Pin_j1]

theorem impl_ClockOk_eq {c : Clock} (hc : c.Pins.length ≤ maxLen) : impl_ClockOk c = some (decide (COk c)) := by
  unfold impl_ClockOk impl_ClockOk_j1
  rw [within_eq]
  have e : (fun y0 => impl_ClockOk_1 y0 c) = fun y0 => some (!decide (POk c.Epoch y0)) := funext fun y => impl_pin_eq y c
  rw [e, contains_Pin hc]
  by_cases h1 : 0 ≤ c.Epoch ∧ c.Epoch ≤ 100000
  · by_cases h2 : c.Pins.length = 3
    · have : COk c ↔ ∀ p ∈ c.Pins, POk c.Epoch p := ⟨fun h => h.2.2, fun h => ⟨h1, h2, h⟩⟩
      have e2 : (c.Pins.any fun y0 => !decide (POk c.Epoch y0)) = !decide (∀ p ∈ c.Pins, POk c.Epoch p) := by
        rw [Bool.eq_iff_iff]; simp
      simp [h1, h2, this, e2]
    · have : ¬ (c.Pins.length : Int) = 3 := by omega
      simp [h1, this, h2, COk]
  · simp [h1, COk]

end Go.Gv
