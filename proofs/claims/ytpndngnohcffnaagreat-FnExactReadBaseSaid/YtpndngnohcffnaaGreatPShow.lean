/- How memories are shown. -/
import Derived.Test.YtpndngnohcffnaaGreatPMem2
set_option linter.unusedVariables false
set_option linter.unusedSimpArgs false
set_option linter.unusedSectionVars false
namespace Go.Gv
theorem fm_take {α β : Type} (f : α → List β) {l : List α} {k : Nat} (h : k < l.length) : (l.take (k + 1)).flatMap f = (l.take k).flatMap f ++ f l[k] := by
  rw [List.take_succ_eq_append_getElem h, List.flatMap_append]; simp
theorem fm_le {α β : Type} (f : α → List β) (l : List α) (k : Nat) : ((l.take k).flatMap f).length ≤ (l.flatMap f).length := by
  have : l.flatMap f = (l.take k).flatMap f ++ (l.drop k).flatMap f := by rw [← List.flatMap_append, List.take_append_drop]
  rw [this]; simp
theorem fm_step {α β : Type} (f : α → List β) {l : List α} {k : Nat} (h : k < l.length) : ((l.take k).flatMap f).length + (f l[k]).length ≤ (l.flatMap f).length := by
  have h1 := fm_le f l (k + 1)
  rw [fm_take f h] at h1
  simpa using h1
def showS (s : SList) : List UInt8 := varI s.Slots.length ++ s.Slots.flatMap varI
def showM (m : Mem) : List UInt8 := m.Heap.Bytes.map u8 ++ m.Heap.Class.map (fun c => u8 (c + 1)) ++ m.Lists.Global.flatMap showS ++ m.Lists.Own.flatMap showS
theorem vars_len : ∀ l : List Int, (l.flatMap varI).length ≤ 7 * l.length
  | [] => by simp
  | x :: r => by have := varI_len x; have := vars_len r; simp [-List.length_flatMap]; omega
theorem showS_len (s : SList) : (showS s).length ≤ 7 + 7 * s.Slots.length := by
  have := varI_len (s.Slots.length : Int); have := vars_len s.Slots; simp [showS, -List.length_flatMap]; omega
theorem shows_len : ∀ l : List SList, (l.flatMap showS).length ≤ 7 * l.length + 7 * (flatS l).length
  | [] => by simp
  | x :: r => by have := showS_len x; have := shows_len r; simp [flatS, -List.length_flatMap] at *; omega
theorem impl_showList_eq {s : SList} (hl : s.Slots.length ≤ 1073741824) : impl_showList s = some (showS s) := by
  unfold impl_showList
  rw [impl_Var_eq]
  simp only [Option.bind_some]
  have hv := vars_len s.Slots
  have hv0 := varI_len (s.Slots.length : Int)
  have key : loop (impl_showList_l1 s) (varI s.Slots.length, 0) = some (showS s) := by
    have := enum_eq (f := impl_showList_l1 s) s.Slots.length (fun k => (varI s.Slots.length ++ (s.Slots.take k).flatMap varI, (k : Int))) (showS s) (fun k hk => ?_) ?_
    · simpa using this
    · have h1 := fm_step varI hk
      simp only [impl_showList_l1]
      rw [if_pos (by simp [-List.length_flatMap]; omega), idx_nat hk]
      simp only [Option.bind_some, impl_Var_eq]
      rw [need_yes (by simp [-List.length_flatMap]; omega), fm_take varI hk, w64_in (by omega) (by omega), List.append_assoc]; rfl
    · simp [impl_showList_l1, showS]
  rw [key]; rfl
theorem spec_l30Slots_eq {l : List SList} (hl : l.length ≤ 1000) (hf : (flatS l).length ≤ 1073741824) : spec_l30Slots l = some (l.flatMap showS) := by
  unfold spec_l30Slots
  have hsl := shows_len l
  have key : loop (spec_l30Slots_l1 l) ([], 0) = some (l.flatMap showS) := by
    refine enum_eq (f := spec_l30Slots_l1 l) l.length (fun k => ((l.take k).flatMap showS, (k : Int))) _ (fun k hk => ?_) ?_
    · have h1 := fm_step showS hk
      have hv0 := varI_len (l[k].Slots.length : Int)
      have hlk := flat_get l hk
      have hss : (showS l[k]).length = (varI l[k].Slots.length).length + (l[k].Slots.flatMap varI).length := by simp [showS, -List.length_flatMap]
      simp only [spec_l30Slots_l1]
      rw [if_pos (by simp [-List.length_flatMap]; omega), idx_nat hk]
      simp only [Option.bind_some, spec_Var_eq]
      rw [need_yes (by omega)]
      have inner : loop (spec_l30Slots_l2 l (k : Int)) ((l.take k).flatMap showS ++ varI l[k].Slots.length, 0) = some ((l.take (k + 1)).flatMap showS) := by
        have := enum_eq (f := spec_l30Slots_l2 l (k : Int)) l[k].Slots.length (fun j => ((l.take k).flatMap showS ++ varI l[k].Slots.length ++ (l[k].Slots.take j).flatMap varI, (j : Int))) ((l.take (k + 1)).flatMap showS) (fun j hj => ?_) ?_
        · simpa using this
        · have h2 := fm_step varI hj
          simp only [spec_l30Slots_l2]
          rw [idx_nat hk]
          simp only [Option.bind_some]
          rw [if_pos (by simp [-List.length_flatMap]; omega), idx_nat hj]
          simp only [Option.bind_some, spec_Var_eq]
          rw [need_yes (by simp [-List.length_flatMap]; omega), fm_take varI hj, w64_in (by omega) (by omega), List.append_assoc, List.append_assoc]; rfl
        · simp only [spec_l30Slots_l2]
          rw [idx_nat hk]
          simp only [Option.bind_some]
          rw [if_neg (by simp), fm_take showS hk]
          simp [showS]
      rw [inner]
      simp only [Option.bind_some, spec_l30Slots_m2, spec_l30Slots_j2]
      rw [w64_in (by omega) (by omega)]; rfl
    · simp [spec_l30Slots_l1]
  rw [key]; rfl
theorem map_take {α β : Type} (f : α → β) {l : List α} {k : Nat} (h : k < l.length) : (l.take (k + 1)).map f = (l.take k).map f ++ [f l[k]] := by
  rw [List.take_succ_eq_append_getElem h, List.map_append]; rfl
section
variable {m : Mem} (h : MOk m) (hl : (allS m.Lists).length ≤ 1073741824)
include h hl
theorem spec_ShowMem_ok : spec_ShowMem m = some (showM m) := by
  have hb : m.Heap.Bytes.length = 384 := h.1.1.1.1
  have hc : m.Heap.Class.length = 6 := h.1.1.1.2.1
  have hg : m.Lists.Global.length = 3 := h.1.2.1
  have ho : m.Lists.Own.length = 9 := h.1.2.2.1
  have hsum : (flatS m.Lists.Global).length + (flatS m.Lists.Own).length ≤ 1073741824 := by simpa [allS] using hl
  have s1 := shows_len m.Lists.Global
  have s2 := shows_len m.Lists.Own
  unfold spec_ShowMem
  rw [spec_MemOk_eq (by rw [hb]; simp [maxLen]) hl, decide_eq_true h]
  simp only [Option.bind_some, Bool.not_true, Bool.false_eq_true, if_false]
  have k1 : loop (spec_ShowMem_l1 m) ([], 0) = some (m.Heap.Bytes.map u8) := by
    refine enum_eq (f := spec_ShowMem_l1 m) m.Heap.Bytes.length (fun k => ((m.Heap.Bytes.take k).map u8, (k : Int))) _ (fun k hk => ?_) ?_
    · simp only [spec_ShowMem_l1]
      rw [if_pos (by simp [-List.length_flatMap]; omega), idx_nat hk]
      simp only [Option.bind_some]
      rw [need_yes (by simp [-List.length_flatMap]; omega), map_take u8 hk, w64_in (by omega) (by omega)]; rfl
    · simp [spec_ShowMem_l1]
  have k2 : loop (spec_ShowMem_l2 m) (m.Heap.Bytes.map u8, 0) = some (m.Heap.Bytes.map u8 ++ m.Heap.Class.map (fun c => u8 (c + 1))) := by
    have := enum_eq (f := spec_ShowMem_l2 m) m.Heap.Class.length (fun k => (m.Heap.Bytes.map u8 ++ (m.Heap.Class.take k).map (fun c => u8 (c + 1)), (k : Int))) (m.Heap.Bytes.map u8 ++ m.Heap.Class.map (fun c => u8 (c + 1))) (fun k hk => ?_) ?_
    · simpa using this
    · have hr := h.1.1.1.2.2.2 _ (List.getElem_mem hk)
      simp only [spec_ShowMem_l2]
      rw [if_pos (by simp [-List.length_flatMap]; omega), idx_nat hk]
      simp only [Option.bind_some]
      rw [need_yes (by simp [-List.length_flatMap]; omega), map_take _ hk, w64_in (x := m.Heap.Class[k] + 1) (by omega) (by omega), w64_in (by omega) (by omega), List.append_assoc]; rfl
    · have e : m.Heap.Class.take 6 = m.Heap.Class := List.take_of_length_le (by omega)
      simp [spec_ShowMem_l2, hc, e]
  rw [k1]
  simp only [Option.bind_some, spec_ShowMem_m1, spec_ShowMem_j1]
  rw [k2]
  simp only [Option.bind_some, spec_ShowMem_m2, spec_ShowMem_j2]
  rw [spec_l30Slots_eq (by omega) (by omega), spec_l30Slots_eq (by omega) (by omega)]
  simp only [Option.bind_some]
  rw [need_yes (by simp [-List.length_flatMap]; omega), need_yes (by simp [-List.length_flatMap]; omega)]
  rfl
theorem impl_ShowMem_ok : impl_ShowMem m = some (showM m) := by
  have hb : m.Heap.Bytes.length = 384 := h.1.1.1.1
  have hc : m.Heap.Class.length = 6 := h.1.1.1.2.1
  have hg : m.Lists.Global.length = 3 := h.1.2.1
  have ho : m.Lists.Own.length = 9 := h.1.2.2.1
  have hsum : (flatS m.Lists.Global).length + (flatS m.Lists.Own).length ≤ 1073741824 := by simpa [allS] using hl
  have s1 := shows_len m.Lists.Global
  have s2 := shows_len m.Lists.Own
  unfold impl_ShowMem
  rw [impl_MemOk_eq (by rw [hb]; simp [maxLen]) hl, decide_eq_true h]
  simp only [Option.bind_some, Bool.not_true, Bool.false_eq_true, if_false]
  have k1 : loop (impl_ShowMem_l1 m) ([], 0) = some (m.Heap.Bytes.map u8) := by
    refine enum_eq (f := impl_ShowMem_l1 m) m.Heap.Bytes.length (fun k => ((m.Heap.Bytes.take k).map u8, (k : Int))) _ (fun k hk => ?_) ?_
    · simp only [impl_ShowMem_l1]
      rw [if_pos (by simp [-List.length_flatMap]; omega), idx_nat hk]
      simp only [Option.bind_some]
      rw [need_yes (by simp [-List.length_flatMap]; omega), map_take u8 hk, w64_in (by omega) (by omega)]; rfl
    · simp [impl_ShowMem_l1]
  have k2 : loop (impl_ShowMem_l2 m) (m.Heap.Bytes.map u8, 0) = some (m.Heap.Bytes.map u8 ++ m.Heap.Class.map (fun c => u8 (c + 1))) := by
    have := enum_eq (f := impl_ShowMem_l2 m) m.Heap.Class.length (fun k => (m.Heap.Bytes.map u8 ++ (m.Heap.Class.take k).map (fun c => u8 (c + 1)), (k : Int))) (m.Heap.Bytes.map u8 ++ m.Heap.Class.map (fun c => u8 (c + 1))) (fun k hk => ?_) ?_
    · simpa using this
    · have hr := h.1.1.1.2.2.2 _ (List.getElem_mem hk)
      simp only [impl_ShowMem_l2]
      rw [if_pos (by simp [-List.length_flatMap]; omega), idx_nat hk]
      simp only [Option.bind_some]
      rw [need_yes (by simp [-List.length_flatMap]; omega), map_take _ hk, w64_in (x := m.Heap.Class[k] + 1) (by omega) (by omega), w64_in (by omega) (by omega), List.append_assoc]; rfl
    · have e : m.Heap.Class.take m.Heap.Class.length = m.Heap.Class := List.take_of_length_le (Nat.le_refl _)
      simp only [impl_ShowMem_l2, e]
      rw [if_neg (by simp)]
  have k3 : loop (impl_ShowMem_l3 m) (m.Heap.Bytes.map u8 ++ m.Heap.Class.map (fun c => u8 (c + 1)), 0) = some (m.Heap.Bytes.map u8 ++ m.Heap.Class.map (fun c => u8 (c + 1)) ++ m.Lists.Global.flatMap showS) := by
    have := enum_eq (f := impl_ShowMem_l3 m) m.Lists.Global.length (fun k => (m.Heap.Bytes.map u8 ++ m.Heap.Class.map (fun c => u8 (c + 1)) ++ (m.Lists.Global.take k).flatMap showS, (k : Int))) (m.Heap.Bytes.map u8 ++ m.Heap.Class.map (fun c => u8 (c + 1)) ++ m.Lists.Global.flatMap showS) (fun k hk => ?_) ?_
    · simpa using this
    · have h1 := fm_step showS hk
      have hlk := flat_get _ hk
      simp only [impl_ShowMem_l3]
      rw [if_pos (by simp [-List.length_flatMap]; omega), idx_nat hk]
      simp only [Option.bind_some]
      rw [impl_showList_eq (by omega)]
      simp only [Option.bind_some]
      rw [need_yes (by simp [-List.length_flatMap]; omega), fm_take showS hk, w64_in (by omega) (by omega), List.append_assoc]; rfl
    · simp [impl_ShowMem_l3]
  have k4 : loop (impl_ShowMem_l4 m) (m.Heap.Bytes.map u8 ++ m.Heap.Class.map (fun c => u8 (c + 1)) ++ m.Lists.Global.flatMap showS, 0) = some (showM m) := by
    have := enum_eq (f := impl_ShowMem_l4 m) m.Lists.Own.length (fun k => (m.Heap.Bytes.map u8 ++ m.Heap.Class.map (fun c => u8 (c + 1)) ++ m.Lists.Global.flatMap showS ++ (m.Lists.Own.take k).flatMap showS, (k : Int))) (showM m) (fun k hk => ?_) ?_
    · simpa using this
    · have h1 := fm_step showS hk
      have hlk := flat_get _ hk
      simp only [impl_ShowMem_l4]
      rw [if_pos (by simp [-List.length_flatMap]; omega), idx_nat hk]
      simp only [Option.bind_some]
      rw [impl_showList_eq (by omega)]
      simp only [Option.bind_some]
      rw [need_yes (by simp [-List.length_flatMap]; omega), fm_take showS hk, w64_in (by omega) (by omega), List.append_assoc]; rfl
    · simp [impl_ShowMem_l4, showM]
  rw [k1]
  simp only [Option.bind_some, impl_ShowMem_m1, impl_ShowMem_j1]
  rw [k2]
  simp only [Option.bind_some, impl_ShowMem_m2, impl_ShowMem_j2]
  rw [k3]
  simp only [Option.bind_some, impl_ShowMem_m3, impl_ShowMem_j3]
  rw [k4]; rfl
end
def showM? (m : Mem) : List UInt8 := if MOk m then showM m else []
theorem spec_ShowMem_eq {m : Mem} (hb : m.Heap.Bytes.length ≤ maxLen) (hl : (allS m.Lists).length ≤ 1073741824) : spec_ShowMem m = some (showM? m) := by
  unfold showM?
  by_cases h : MOk m
  · rw [if_pos h, spec_ShowMem_ok h hl]
  · rw [if_neg h]; unfold spec_ShowMem; rw [spec_MemOk_eq hb hl, decide_eq_false h]; rfl
theorem impl_ShowMem_eq {m : Mem} (hb : m.Heap.Bytes.length ≤ maxLen) (hl : (allS m.Lists).length ≤ 1073741824) : impl_ShowMem m = some (showM? m) := by
  unfold showM?
  by_cases h : MOk m
  · rw [if_pos h, impl_ShowMem_ok h hl]
  · rw [if_neg h]; unfold impl_ShowMem; rw [impl_MemOk_eq hb hl, decide_eq_false h]; rfl
end Go.Gv
