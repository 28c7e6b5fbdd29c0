/- Sizes, copies and comparisons of memories in the laws. -/
import Derived.Test.YtpndngnohcffnaaGreatPShow
set_option linter.unusedVariables false
set_option linter.unusedSimpArgs false
set_option linter.unusedSectionVars false
namespace Go.Gv
theorem szIntS_eq {l : List Int} (hl : l.length ≤ maxLen) {n : Int} (h0 : 0 ≤ n) (h1 : n ≤ 1048576) : ∃ x, laws_szIntS l n = some x ∧ (¬ x < 0 → x = n - l.length ∧ 0 ≤ x) := by
  have hm : l.length ≤ 9223372036854775807 := hl
  unfold laws_szIntS
  rw [w64_in (by omega) (by omega)]
  by_cases h : n - l.length < 0
  · exact ⟨-1, by simp [h], by omega⟩
  · exact ⟨n - l.length, by simp [h], fun _ => ⟨rfl, by omega⟩⟩
theorem szSListS_eq {l : List SList} (hl : l.length ≤ maxLen) (hs : ∀ s ∈ l, s.Slots.length ≤ maxLen) {n : Int} (h0 : 0 ≤ n) (h1 : n ≤ 1048576) : ∃ x, laws_szSListS l n = some x ∧ (¬ x < 0 → x = n - (l.length + (flatS l).length : Nat) ∧ 0 ≤ x) := by
  have hm : l.length ≤ 9223372036854775807 := hl
  unfold laws_szSListS
  rw [w64_in (by omega) (by omega)]
  by_cases h : n - l.length < 0
  · exact ⟨-1, by simp [h], by omega⟩
  · have key := loop_ind (f := laws_szSListS_l1 l) (fun s => (l.length : Int).toNat - s.2.toNat) (fun s => ∃ k : Nat, s.2 = (k : Int) ∧ k ≤ l.length ∧ s.1 = n - l.length - (flatS (l.take k)).length ∧ 0 ≤ s.1) (fun o => match o with | .brk x => x = n - (l.length + (flatS l).length : Nat) ∧ 0 ≤ x | .ret x => x = -1) (by
      rintro ⟨a, b⟩ ⟨k, rfl, hk, ha, ha0⟩
      simp only at ha ha0
      by_cases hk' : k < l.length
      · have hlen := hs _ (List.getElem_mem hk')
        have hf := flat_take hk'
        have hfl : (flatS (l.take (k + 1))).length = (flatS (l.take k)).length + l[k].Slots.length := by rw [hf]; simp
        obtain ⟨x, e1, e2⟩ := szIntS_eq hlen (n := a) ha0 (by omega)
        have e3 : laws_szSList l[k] a = some (if x < 0 then -1 else x) := by
          unfold laws_szSList; rw [e1]
          by_cases q : x < 0 <;> simp [q]
        simp only [laws_szSListS_l1]
        rw [if_pos (by simp; omega), idx_nat hk']
        simp only [Option.bind_some, e3]
        by_cases q : x < 0
        · left; exact ⟨.ret (-1), by simp [q], rfl⟩
        · right
          have := e2 q
          refine ⟨(x, ((k + 1 : Nat) : Int)), ?_, ⟨k + 1, rfl, by omega, by simp only; omega, by simp only; omega⟩, by simp only; omega⟩
          rw [w64_nat (lt_max hk' hl)]
          simp [q]
      · obtain rfl : k = l.length := by omega
        left
        refine ⟨.brk a, by simp [laws_szSListS_l1], ?_⟩
        rw [List.take_length] at ha
        exact ⟨by omega, ha0⟩) (n - l.length, 0) ⟨0, rfl, Nat.zero_le _, by simp [flatS], by simp only; omega⟩
    obtain ⟨o, e1, e2⟩ := key
    rw [if_neg (by simpa using h), e1]
    cases o with
    | brk x => exact ⟨x, rfl, fun _ => e2⟩
    | ret x => exact ⟨x, rfl, fun q => absurd (show x < 0 by have : x = -1 := e2; omega) q⟩
theorem szMem_eq {m : Mem} (hf : fit m) : ∃ x, laws_szMem m 1048576 = some x ∧ (¬ x < 0 → m.Heap.Bytes.length ≤ 1048576 ∧ m.Heap.Class.length ≤ 1048576 ∧ m.Lists.Global.length ≤ 1048576 ∧ m.Lists.Own.length ≤ 1048576 ∧ (allS m.Lists).length ≤ 1048576) := by
  have f1 : m.Heap.Bytes.length ≤ maxLen := hf.1.1.1
  have f2 : m.Heap.Class.length ≤ maxLen := hf.1.2.1
  have f3 : m.Lists.Global.length ≤ maxLen := hf.2.1.1
  have f4 : m.Lists.Own.length ≤ maxLen := hf.2.2.1
  have f5 : ∀ s ∈ m.Lists.Global, s.Slots.length ≤ maxLen := fun s h => (hf.2.1.2 s h).1
  have f6 : ∀ s ∈ m.Lists.Own, s.Slots.length ≤ maxLen := fun s h => (hf.2.2.2 s h).1
  unfold laws_szMem laws_szHeap laws_szLists
  obtain ⟨x1, a1, b1⟩ := szIntS_eq f1 (n := 1048576) (by omega) (by omega)
  rw [a1]
  by_cases q1 : x1 < 0
  · exact ⟨-1, by simp [q1], fun h => absurd (by omega) h⟩
  · have b1 := b1 q1
    obtain ⟨x2, a2, b2⟩ := szIntS_eq f2 (n := x1) (by omega) (by omega)
    simp only [Option.bind_some, decide_eq_false q1, Bool.false_eq_true, if_false, a2]
    by_cases q2 : x2 < 0
    · exact ⟨-1, by simp [q2], fun h => absurd (by omega) h⟩
    · have b2 := b2 q2
      obtain ⟨x3, a3, b3⟩ := szSListS_eq f3 f5 (n := x2) (by omega) (by omega)
      simp only [Option.bind_some, decide_eq_false q2, Bool.false_eq_true, if_false, a3]
      by_cases q3 : x3 < 0
      · exact ⟨-1, by simp [q3], fun h => absurd (by omega) h⟩
      · have b3 := b3 q3
        obtain ⟨x4, a4, b4⟩ := szSListS_eq f4 f6 (n := x3) (by omega) (by omega)
        simp only [Option.bind_some, decide_eq_false q3, Bool.false_eq_true, if_false, a4]
        by_cases q4 : x4 < 0
        · exact ⟨-1, by simp [q4], fun h => absurd (by omega) h⟩
        · have b4 := b4 q4
          refine ⟨x4, by simp [q4], fun _ => ?_⟩
          have : (allS m.Lists).length = (flatS m.Lists.Global).length + (flatS m.Lists.Own).length := by simp [allS]
          omega
theorem toIntS_eq {l : List Int} (hl : l.length ≤ 1048576) : laws_toIntS l = some l := by
  unfold laws_toIntS
  rw [need_yes (by omega), Int.toNat_natCast, copy_loop l id]
  · simp [laws_toIntS_m1, laws_toIntS_j1]
  · intro acc k hk he
    simp only [laws_toIntS_l1]
    rw [if_pos (by simp; omega), idx_nat hk]
    simp only [Option.bind_some]
    rw [idx_nat (by omega)]
    simp only [Option.bind_some]
    rw [w64_in (by omega) (by omega)]
    simp
  · intro acc
    simp [laws_toIntS_l1]
theorem toSListS_eq {l : List SList} (hl : l.length ≤ 1048576) (hs : ∀ s ∈ l, s.Slots.length ≤ 1048576) : laws_toSListS l = some l := by
  unfold laws_toSListS
  rw [need_yes (by omega), Int.toNat_natCast, copy_loop l id]
  · simp [laws_toSListS_m1, laws_toSListS_j1]
  · intro acc k hk he
    simp only [laws_toSListS_l1]
    rw [if_pos (by simp; omega), idx_nat hk]
    simp only [Option.bind_some, laws_toSList, toIntS_eq (hs _ (List.getElem_mem hk))]
    rw [idx_nat (by omega)]
    simp only [Option.bind_some]
    rw [w64_in (by omega) (by omega)]
    simp
  · intro acc
    simp [laws_toSListS_l1]
theorem flat_mem {l : List SList} {s : SList} (h : s ∈ l) : s.Slots.length ≤ (flatS l).length := by
  obtain ⟨k, hk, rfl⟩ := List.mem_iff_getElem.1 h
  exact flat_get l hk
theorem allS_len (l : Lists) : (allS l).length = (flatS l.Global).length + (flatS l.Own).length := by simp [allS]
def SmallM (m : Mem) : Prop := m.Heap.Bytes.length ≤ 1048576 ∧ m.Heap.Class.length ≤ 1048576 ∧ m.Lists.Global.length ≤ 1048576 ∧ m.Lists.Own.length ≤ 1048576 ∧ (allS m.Lists).length ≤ 1048576
theorem SmallM.slots {m : Mem} (h : SmallM m) : (∀ s ∈ m.Lists.Global, s.Slots.length ≤ 1048576) ∧ ∀ s ∈ m.Lists.Own, s.Slots.length ≤ 1048576 := by
  have := allS_len m.Lists
  have h5 := h.2.2.2.2
  exact ⟨fun s hm => by have := flat_mem hm; omega, fun s hm => by have := flat_mem hm; omega⟩
theorem toMem_eq {m : Mem} (h : SmallM m) : laws_toMem m = some m := by
  unfold laws_toMem laws_toHeap laws_toLists
  rw [toIntS_eq h.1, toIntS_eq h.2.1, toSListS_eq h.2.2.1 h.slots.1, toSListS_eq h.2.2.2.1 h.slots.2]; rfl
theorem eqIntS_self {l : List Int} (hl : l.length ≤ maxLen) : laws_eqIntS l l = some true := by
  unfold laws_eqIntS
  have key : loop (laws_eqIntS_l1 l l) 0 = some (Out.brk ()) := by
    refine enum_eq (f := laws_eqIntS_l1 l l) l.length (fun k => (k : Int)) _ (fun k hk => ?_) ?_
    · simp only [laws_eqIntS_l1]
      rw [if_pos (by simp; omega), idx_nat hk, w64_nat (lt_max hk hl)]
      simp
    · simp [laws_eqIntS_l1]
  simp [key, laws_eqIntS_m1, laws_eqIntS_j1]
theorem eqSListS_self {l : List SList} (hl : l.length ≤ maxLen) (hs : ∀ s ∈ l, s.Slots.length ≤ maxLen) : laws_eqSListS l l = some true := by
  unfold laws_eqSListS
  have key : loop (laws_eqSListS_l1 l l) 0 = some (Out.brk ()) := by
    refine enum_eq (f := laws_eqSListS_l1 l l) l.length (fun k => (k : Int)) _ (fun k hk => ?_) ?_
    · simp only [laws_eqSListS_l1]
      rw [if_pos (by simp; omega), idx_nat hk]
      simp only [Option.bind_some, laws_eqSList, eqIntS_self (hs _ (List.getElem_mem hk))]
      rw [w64_nat (lt_max hk hl)]; rfl
    · simp [laws_eqSListS_l1]
  simp [key, laws_eqSListS_m1, laws_eqSListS_j1]
theorem eqMem_self {m : Mem} (h : SmallM m) : laws_eqMem m m = some true := by
  have hb : (1048576 : Nat) ≤ maxLen := by simp [maxLen]
  have h1 := h.1; have h2 := h.2.1; have h3 := h.2.2.1; have h4 := h.2.2.2.1
  unfold laws_eqMem laws_eqHeap laws_eqLists
  rw [eqIntS_self (by omega), eqIntS_self (by omega), eqSListS_self (by omega) (fun s hs => Nat.le_trans (h.slots.1 s hs) hb), eqSListS_self (by omega) (fun s hs => Nat.le_trans (h.slots.2 s hs) hb)]; rfl
end Go.Gv
