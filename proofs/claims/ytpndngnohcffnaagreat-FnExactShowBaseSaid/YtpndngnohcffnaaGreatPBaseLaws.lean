/- Sizes, copies and comparisons of bases in the laws. -/
import Derived.Test.YtpndngnohcffnaaGreatPShowBase
set_option linter.unusedVariables false
set_option linter.unusedSimpArgs false
set_option linter.unusedSectionVars false
namespace Go.Gv
theorem szMem_n {m : Mem} (hf : fit m) : ∃ x, laws_szMem m 1048576 = some x ∧ (¬ x < 0 → SmallM m ∧ x ≤ 1048576 ∧ 0 ≤ x) := by
  obtain ⟨x, h1, h2⟩ := szMem_eq hf
  have f1 : m.Heap.Bytes.length ≤ maxLen := hf.1.1.1
  have f2 : m.Heap.Class.length ≤ maxLen := hf.1.2.1
  have f3 : m.Lists.Global.length ≤ maxLen := hf.2.1.1
  have f4 : m.Lists.Own.length ≤ maxLen := hf.2.2.1
  have f5 : ∀ s ∈ m.Lists.Global, s.Slots.length ≤ maxLen := fun s h => (hf.2.1.2 s h).1
  have f6 : ∀ s ∈ m.Lists.Own, s.Slots.length ≤ maxLen := fun s h => (hf.2.2.2 s h).1
  refine ⟨x, h1, fun q => ⟨h2 q, ?_, by omega⟩⟩
  unfold laws_szMem laws_szHeap laws_szLists at h1
  obtain ⟨x1, a1, b1⟩ := szIntS_eq f1 (n := 1048576) (by omega) (by omega)
  rw [a1] at h1
  by_cases q1 : x1 < 0
  · simp [q1] at h1; omega
  · have b1 := b1 q1
    obtain ⟨x2, a2, b2⟩ := szIntS_eq f2 (n := x1) (by omega) (by omega)
    simp only [Option.bind_some, decide_eq_false q1, Bool.false_eq_true, if_false, a2] at h1
    by_cases q2 : x2 < 0
    · simp [q2] at h1; omega
    · have b2 := b2 q2
      obtain ⟨x3, a3, b3⟩ := szSListS_eq f3 f5 (n := x2) (by omega) (by omega)
      simp only [Option.bind_some, decide_eq_false q2, Bool.false_eq_true, if_false, a3] at h1
      by_cases q3 : x3 < 0
      · simp [q3] at h1; omega
      · have b3 := b3 q3
        obtain ⟨x4, a4, b4⟩ := szSListS_eq f4 f6 (n := x3) (by omega) (by omega)
        simp only [Option.bind_some, decide_eq_false q3, Bool.false_eq_true, if_false, a4] at h1
        by_cases q4 : x4 < 0
        · simp [q4] at h1; omega
        · have b4 := b4 q4
          simp [q4] at h1; omega
theorem szLRowS_eq {l : List LRow} (hl : l.length ≤ maxLen) {n : Int} (h0 : 0 ≤ n) (h1 : n ≤ 1048576) : ∃ x, laws_szLRowS l n = some x ∧ (¬ x < 0 → x = n - l.length ∧ 0 ≤ x) := by
  have hm : l.length ≤ 9223372036854775807 := hl
  unfold laws_szLRowS
  rw [w64_in (by omega) (by omega)]
  by_cases h : n - l.length < 0
  · exact ⟨-1, by simp [h], by omega⟩
  · exact ⟨n - l.length, by simp [h], fun _ => ⟨rfl, by omega⟩⟩
theorem szLListS_eq {l : List LList} (hl : l.length ≤ maxLen) (hs : ∀ s ∈ l, s.Rows.length ≤ maxLen) {n : Int} (h0 : 0 ≤ n) (h1 : n ≤ 1048576) : ∃ x, laws_szLListS l n = some x ∧ (¬ x < 0 → x = n - (l.length + (flatR l).length : Nat) ∧ 0 ≤ x) := by
  have hm : l.length ≤ 9223372036854775807 := hl
  unfold laws_szLListS
  rw [w64_in (by omega) (by omega)]
  by_cases h : n - l.length < 0
  · exact ⟨-1, by simp [h], by omega⟩
  · have key := loop_ind (f := laws_szLListS_l1 l) (fun s => (l.length : Int).toNat - s.2.toNat) (fun s => ∃ k : Nat, s.2 = (k : Int) ∧ k ≤ l.length ∧ s.1 = n - l.length - (flatR (l.take k)).length ∧ 0 ≤ s.1) (fun o => match o with | .brk x => x = n - (l.length + (flatR l).length : Nat) ∧ 0 ≤ x | .ret x => x = -1) (by
      rintro ⟨a, b⟩ ⟨k, rfl, hk, ha, ha0⟩
      simp only at ha ha0
      by_cases hk' : k < l.length
      · have hlen := hs _ (List.getElem_mem hk')
        have hf := flatR_take hk'
        have hfl : (flatR (l.take (k + 1))).length = (flatR (l.take k)).length + l[k].Rows.length := by rw [hf]; simp
        obtain ⟨x, e1, e2⟩ := szLRowS_eq hlen (n := a) ha0 (by omega)
        have e3 : laws_szLList l[k] a = some (if x < 0 then -1 else x) := by
          unfold laws_szLList; rw [e1]
          by_cases q : x < 0 <;> simp [q]
        simp only [laws_szLListS_l1]
        rw [if_pos (by simp; omega), idx_nat hk']
        simp only [Option.bind_some, e3]
        by_cases q : x < 0
        · left; exact ⟨.ret (-1), by simp [q], rfl⟩
        · right
          have := e2 q
          refine ⟨(x, ((k + 1 : Nat) : Int)), ?_, ⟨k + 1, rfl, by omega, by simp only; omega, by simp only; omega⟩, by simp only; omega⟩
          rw [w64_nat (lt_max hk' hl)]
          simp [q]
      · obtain rfl : k = l.length := by omega
        left
        refine ⟨.brk a, by simp [laws_szLListS_l1], ?_⟩
        rw [List.take_length] at ha
        exact ⟨by omega, ha0⟩) (n - l.length, 0) ⟨0, rfl, Nat.zero_le _, by simp [flatR], by simp only; omega⟩
    obtain ⟨o, e1, e2⟩ := key
    rw [if_neg (by simpa using h), e1]
    cases o with
    | brk x => exact ⟨x, rfl, fun _ => e2⟩
    | ret x => exact ⟨x, rfl, fun q => absurd (show x < 0 by have : x = -1 := e2; omega) q⟩
theorem szBase_eq {b : Base} (hf : fit b) : ∃ x, laws_szBase b 1048576 = some x ∧ (¬ x < 0 → SmallB b) := by
  have f1 : fit b.Mem := hf.1
  have f2 : b.Clock.Pins.length ≤ maxLen := hf.2.1.2.1
  have f3 : b.Limbo.length ≤ maxLen := hf.2.2.1.1
  have f4 : ∀ s ∈ b.Limbo, s.Rows.length ≤ maxLen := fun s h => (hf.2.2.1.2 s h).1
  have f5 : b.Haz.length ≤ maxLen := hf.2.2.2.1
  have f2' : b.Clock.Pins.length ≤ 9223372036854775807 := f2
  unfold laws_szBase
  obtain ⟨x1, a1, b1⟩ := szMem_n f1
  rw [a1]
  by_cases q1 : x1 < 0
  · exact ⟨-1, by simp [q1], fun h => absurd (by omega) h⟩
  · have b1 := b1 q1
    simp only [Option.bind_some, decide_eq_false q1, Bool.false_eq_true, if_false, laws_szClock]
    rw [szPinS_eq, w64_in (by omega) (by omega)]
    by_cases q2 : x1 - b.Clock.Pins.length < 0
    · exact ⟨-1, by simp [q2], fun h => absurd (by omega) h⟩
    · obtain ⟨x3, a3, b3⟩ := szLListS_eq f3 f4 (n := x1 - b.Clock.Pins.length) (by omega) (by omega)
      simp only [if_neg q2, Option.bind_some, decide_eq_false q2, Bool.false_eq_true, if_false, a3]
      by_cases q3 : x3 < 0
      · exact ⟨-1, by simp [q3], fun h => absurd (by omega) h⟩
      · have b3 := b3 q3
        obtain ⟨x4, a4, b4⟩ := szIntS_eq f5 (n := x3) (by omega) (by omega)
        simp only [Option.bind_some, decide_eq_false q3, Bool.false_eq_true, if_false, a4]
        by_cases q4 : x4 < 0
        · exact ⟨-1, by simp [q4], fun h => absurd (by omega) h⟩
        · have b4 := b4 q4
          refine ⟨x4, by simp [q4], fun _ => ⟨b1.1, by omega, by omega, by omega, by omega⟩⟩
theorem toLRowS_eq {l : List LRow} (hl : l.length ≤ 1048576) : laws_toLRowS l = some l := by
  unfold laws_toLRowS
  rw [need_yes (by omega), Int.toNat_natCast, copy_loop l id]
  · simp [laws_toLRowS_m1, laws_toLRowS_j1]
  · intro acc k hk he
    simp only [laws_toLRowS_l1]
    rw [if_pos (by simp; omega), idx_nat hk]
    simp only [Option.bind_some, laws_toLRow]
    rw [idx_nat (by omega)]
    simp only [Option.bind_some]
    rw [w64_in (by omega) (by omega)]
    simp
  · intro acc
    simp [laws_toLRowS_l1]
theorem toLListS_eq {l : List LList} (hl : l.length ≤ 1048576) (hs : ∀ s ∈ l, s.Rows.length ≤ 1048576) : laws_toLListS l = some l := by
  unfold laws_toLListS
  rw [need_yes (by omega), Int.toNat_natCast, copy_loop l id]
  · simp [laws_toLListS_m1, laws_toLListS_j1]
  · intro acc k hk he
    simp only [laws_toLListS_l1]
    rw [if_pos (by simp; omega), idx_nat hk]
    simp only [Option.bind_some, laws_toLList, toLRowS_eq (hs _ (List.getElem_mem hk))]
    rw [idx_nat (by omega)]
    simp only [Option.bind_some]
    rw [w64_in (by omega) (by omega)]
    simp
  · intro acc
    simp [laws_toLListS_l1]
theorem SmallB.rows {b : Base} (h : SmallB b) : ∀ s ∈ b.Limbo, s.Rows.length ≤ 1048576 := fun s hs => by
  have := flatR_mem hs; have := h.2.2.2.1; omega
theorem toBase_eq {b : Base} (h : SmallB b) : laws_toBase b = some b := by
  unfold laws_toBase
  rw [toMem_eq h.1, toClock_eq h.2.1, toLListS_eq h.2.2.1 h.rows, toIntS_eq h.2.2.2.2]; rfl
end Go.Gv
