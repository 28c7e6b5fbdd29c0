/- Small memories; a memory compared with itself. -/
import Derived.Test.YtpndngnohcffnaaGreatPShow
set_option linter.unusedVariables false
set_option linter.unusedSimpArgs false
set_option linter.unusedSectionVars false
namespace Go.Gv
theorem flat_mem {l : List SList} {s : SList} (h : s ∈ l) : s.Slots.length ≤ (flatS l).length := by
  obtain ⟨k, hk, rfl⟩ := List.mem_iff_getElem.1 h
  exact flat_get l hk
theorem allS_len (l : Lists) : (allS l).length = (flatS l.Global).length + (flatS l.Own).length := by simp [allS]
def SmallM (m : Mem) : Prop := m.Heap.Bytes.length ≤ 1048576 ∧ m.Heap.Class.length ≤ 1048576 ∧ m.Lists.Global.length ≤ 1048576 ∧ m.Lists.Own.length ≤ 1048576 ∧ (allS m.Lists).length ≤ 1048576
theorem SmallM.slots {m : Mem} (h : SmallM m) : (∀ s ∈ m.Lists.Global, s.Slots.length ≤ 1048576) ∧ ∀ s ∈ m.Lists.Own, s.Slots.length ≤ 1048576 := by
  have := allS_len m.Lists
  have h5 := h.2.2.2.2
  exact ⟨fun s hm => by have := flat_mem hm; omega, fun s hm => by have := flat_mem hm; omega⟩
theorem eqIntS_self {l : List Int} (hl : l.length ≤ maxLen) : laws_eqIntS l l = some true := by
  unfold laws_eqIntS
  have key : loop (laws_eqIntS_l1 l l) 0 = some (Out.brk ()) := by
    refine enum_eq (f := laws_eqIntS_l1 l l) l.length (fun k => (k : Int)) _ (fun k hk => ?_) ?_
    · simp only [laws_eqIntS_l1]
      rw [if_pos (by simp; omega), idx_nat hk, w64_nat (lt_max hk hl)]
      simp
    · simp [laws_eqIntS_l1]
  simp [key, laws_eqIntS_m1, laws_eqIntS_j1]
theorem eqSListS_self {l : List SList} (hl : l.length ≤ maxLen) (hs : ∀ s ∈ l, s.Slots.length ≤ maxLen) : laws_eqSListS l l = some true := by
  unfold laws_eqSListS
  have key : loop (laws_eqSListS_l1 l l) 0 = some (Out.brk ()) := by
    refine enum_eq (f := laws_eqSListS_l1 l l) l.length (fun k => (k : Int)) _ (fun k hk => ?_) ?_
    · simp only [laws_eqSListS_l1]
      rw [if_pos (by simp; omega), idx_nat hk]
      simp only [Option.bind_some, laws_eqSList, eqIntS_self (hs _ (List.getElem_mem hk))]
      rw [w64_nat (lt_max hk hl)]; rfl
    · simp [laws_eqSListS_l1]
  simp [key, laws_eqSListS_m1, laws_eqSListS_j1]
theorem eqMem_self {m : Mem} (h : SmallM m) : laws_eqMem m m = some true := by
  have hb : (1048576 : Nat) ≤ maxLen := by simp [maxLen]
  have h1 := h.1; have h2 := h.2.1; have h3 := h.2.2.1; have h4 := h.2.2.2.1
  unfold laws_eqMem laws_eqHeap laws_eqLists
  rw [eqIntS_self (by omega), eqIntS_self (by omega), eqSListS_self (by omega) (fun s hs => Nat.le_trans (h.slots.1 s hs) hb), eqSListS_self (by omega) (fun s hs => Nat.le_trans (h.slots.2 s hs) hb)]; rfl
end Go.Gv
