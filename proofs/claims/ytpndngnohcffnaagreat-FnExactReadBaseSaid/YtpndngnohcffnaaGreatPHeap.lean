/- Heaps: what both sides compute. -/
import Derived.Test.YtpndngnohcffnaaGreatPNum
set_option linter.unusedVariables false
set_option linter.unusedSimpArgs false
namespace Go.Gv

def sizeC (c : Int) : Int := if c = 0 then 8 else if c = 1 then 16 else if c = 2 then 40 else 0
def strideC (c : Int) : Int := if c = 0 then 12 else if c = 1 then 20 else if c = 2 then 44 else 0
def perC (c : Int) : Int := if c = 0 then 4 else if c = 1 then 2 else if c = 2 then 1 else 0
theorem cls_cases {c : Int} (h : 0 ≤ c ∧ c ≤ 2) : c = 0 ∨ c = 1 ∨ c = 2 := by omega
theorem sizeC_no {c : Int} (h : ¬ (0 ≤ c ∧ c ≤ 2)) : sizeC c = 0 := by unfold sizeC; rw [if_neg (by omega), if_neg (by omega), if_neg (by omega)]
theorem strideC_no {c : Int} (h : ¬ (0 ≤ c ∧ c ≤ 2)) : strideC c = 0 := by unfold strideC; rw [if_neg (by omega), if_neg (by omega), if_neg (by omega)]
theorem perC_no {c : Int} (h : ¬ (0 ≤ c ∧ c ≤ 2)) : perC c = 0 := by unfold perC; rw [if_neg (by omega), if_neg (by omega), if_neg (by omega)]
theorem perC_le (c : Int) : 0 ≤ perC c ∧ perC c ≤ 4 := by unfold perC; split <;> (try split) <;> (try split) <;> omega
theorem strideC_le (c : Int) : 0 ≤ strideC c ∧ strideC c ≤ 44 := by unfold strideC; split <;> (try split) <;> (try split) <;> omega
theorem perC_pos {c : Int} : 0 < perC c ↔ 0 ≤ c ∧ c ≤ 2 := by
  unfold perC; constructor
  · intro h; split at h <;> (try split at h) <;> (try split at h) <;> omega
  · intro h; rcases cls_cases h with rfl | rfl | rfl <;> decide
theorem spec_SizeOf_eq (c : Int) : spec_SizeOf c = some (sizeC c) := by
  unfold spec_SizeOf sizeC
  by_cases h0 : c = 0 <;> by_cases h1 : c = 1 <;> by_cases h2 : c = 2 <;> simp [h0, h1, h2]
theorem impl_isClass_eq (c : Int) : impl_isClass c = some (decide (0 ≤ c ∧ c ≤ 2)) := by simp [impl_isClass, within_eq]
theorem impl_SizeOf_eq (c : Int) : impl_SizeOf c = some (sizeC c) := by
  unfold impl_SizeOf
  rw [impl_isClass_eq]
  by_cases h : 0 ≤ c ∧ c ≤ 2
  · rcases cls_cases h with rfl | rfl | rfl <;> rfl
  · simp [h, sizeC_no h]
theorem spec_StrideOf_eq (c : Int) : spec_StrideOf c = some (strideC c) := by
  unfold spec_StrideOf
  rw [l1In_eq]
  by_cases h : 0 ≤ c ∧ c ≤ 2
  · rcases cls_cases h with rfl | rfl | rfl <;> rfl
  · simp [h, strideC_no h]
theorem impl_StrideOf_eq (c : Int) : impl_StrideOf c = some (strideC c) := by
  unfold impl_StrideOf
  rw [impl_isClass_eq]
  by_cases h : 0 ≤ c ∧ c ≤ 2
  · rcases cls_cases h with rfl | rfl | rfl <;> rfl
  · simp [h, strideC_no h]
theorem spec_PerPage_eq (c : Int) : spec_PerPage c = some (perC c) := by
  unfold spec_PerPage
  rw [l1In_eq]
  by_cases h : 0 ≤ c ∧ c ≤ 2
  · rcases cls_cases h with rfl | rfl | rfl <;> rfl
  · simp [h, perC_no h]
theorem impl_PerPage_eq (c : Int) : impl_PerPage c = some (perC c) := by
  unfold impl_PerPage
  rw [impl_isClass_eq]
  by_cases h : 0 ≤ c ∧ c ≤ 2
  · rcases cls_cases h with rfl | rfl | rfl <;> rfl
  · simp [h, perC_no h]
theorem spec_PageOf_eq (s : Int) : spec_PageOf s = some (if 0 ≤ s ∧ s ≤ 23 then s / 4 else -1) := by
  unfold spec_PageOf
  rw [l1In_eq]
  by_cases h : 0 ≤ s ∧ s ≤ 23
  · simp [h, tdiv_pos h.1]; rw [w64_in (by omega) (by omega)]
  · simp [h]
theorem spec_IndexOf_eq (s : Int) : spec_IndexOf s = some (if 0 ≤ s ∧ s ≤ 23 then s % 4 else -1) := by
  unfold spec_IndexOf
  rw [l1In_eq]
  by_cases h : 0 ≤ s ∧ s ≤ 23
  · simp [h, tmod_pos h.1]
  · simp [h]
def genC (s c : Int) : Int := if (0 ≤ s ∧ s ≤ 23) ∧ s % 4 < perC c then s / 4 * 64 + 8 + s % 4 * strideC c else -1
theorem mul_stride {i c : Int} (h0 : 0 ≤ i) (h1 : i < perC c) : 0 ≤ i * strideC c ∧ i * strideC c + strideC c ≤ 56 := by
  unfold perC at h1; unfold strideC
  split at h1
  · rw [if_pos ‹_›]; omega
  · split at h1
    · rw [if_neg ‹_›, if_pos ‹_›]; omega
    · split at h1
      · rw [if_neg ‹_›, if_neg ‹_›, if_pos ‹_›]; omega
      · omega
theorem spec_GenAt_eq (s c : Int) : spec_GenAt s c = some (genC s c) := by
  unfold spec_GenAt spec_GenAt_j1 genC
  rw [spec_PageOf_eq, spec_IndexOf_eq, spec_PerPage_eq, spec_StrideOf_eq]
  by_cases h : 0 ≤ s ∧ s ≤ 23
  · have hp := perC_le c
    have h1 : ¬ s / 4 < 0 := by omega
    have h2 : w64 (perC c - 1) = perC c - 1 := w64_in (by omega) (by omega)
    by_cases h3 : s % 4 < perC c
    · have hm := mul_stride (by omega) h3
      have hs := strideC_le c
      have h4 : 0 ≤ s % 4 ∧ s % 4 ≤ perC c - 1 := by omega
      have h5 : ¬ perC c - 1 < s % 4 := by omega
      have e1 : w64 (s / 4 * 64) = s / 4 * 64 := w64_in (by omega) (by omega)
      have e2 : w64 (s / 4 * 64 + 8) = s / 4 * 64 + 8 := w64_in (by omega) (by omega)
      have e3 : w64 (s % 4 * strideC c) = s % 4 * strideC c := w64_in (by omega) (by omega)
      have e4 : w64 (s / 4 * 64 + 8 + s % 4 * strideC c) = s / 4 * 64 + 8 + s % 4 * strideC c := w64_in (by omega) (by omega)
      simp [h, h1, h2, h3, h4, h5, l1In_eq, e1, e2, e3, e4]
    · have h4 : ¬ s % 4 ≤ perC c - 1 := by omega
      simp [h, h1, h2, h3, h4, l1In_eq]
  · simp [h]
theorem impl_isSlot_eq (s : Int) : impl_isSlot s = some (decide (0 ≤ s ∧ s ≤ 23)) := by simp [impl_isSlot, within_eq]
theorem impl_GenAt_eq (s c : Int) : impl_GenAt s c = some (genC s c) := by
  unfold impl_GenAt impl_GenAt_j1 genC
  rw [impl_isSlot_eq, impl_isClass_eq, impl_PerPage_eq, impl_StrideOf_eq]
  by_cases h : 0 ≤ s ∧ s ≤ 23
  · have hp := perC_le c
    rw [tmod_pos h.1, tdiv_pos h.1]
    by_cases h3 : s % 4 < perC c
    · have hm := mul_stride (by omega) h3
      have hs := strideC_le c
      have hc : 0 ≤ c ∧ c ≤ 2 := perC_pos.1 (by omega)
      have e0 : w64 (s / 4) = s / 4 := w64_in (by omega) (by omega)
      have e1 : w64 (s / 4 * 64) = s / 4 * 64 := w64_in (by omega) (by omega)
      have e2 : w64 (s / 4 * 64 + 8) = s / 4 * 64 + 8 := w64_in (by omega) (by omega)
      have e3 : w64 (s % 4 * strideC c) = s % 4 * strideC c := w64_in (by omega) (by omega)
      have e4 : w64 (s / 4 * 64 + 8 + s % 4 * strideC c) = s / 4 * 64 + 8 + s % 4 * strideC c := w64_in (by omega) (by omega)
      have h5 : ¬ perC c ≤ s % 4 := by omega
      simp [h, hc, h3, h5, e0, e1, e2, e3, e4]
    · have h5 : perC c ≤ s % 4 := by omega
      by_cases hc : 0 ≤ c ∧ c ≤ 2 <;> simp [h, hc, h3, h5]
  · simp [h]
end Go.Gv
