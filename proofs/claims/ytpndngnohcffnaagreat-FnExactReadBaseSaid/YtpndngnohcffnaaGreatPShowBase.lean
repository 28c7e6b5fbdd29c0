/- How bases are shown. -/
import Derived.Test.YtpndngnohcffnaaGreatPBase
set_option linter.unusedVariables false
set_option linter.unusedSimpArgs false
set_option linter.unusedSectionVars false
namespace Go.Gv
def bi (b : Bool) : Int := if b then 1 else 0
theorem spec_l30Bool_eq (b : Bool) : spec_l30Bool b = some (bi b) := by cases b <;> rfl
theorem impl_flag_eq (b : Bool) : impl_flag b = some (bi b) := by cases b <;> rfl
def pinV (p : Pin) : List UInt8 := varI (bi p.On) ++ varI p.Epoch ++ varI (bi p.Marked) ++ varI p.Seen
def rowV (r : LRow) : List UInt8 := varI r.Handle ++ varI r.Epoch
def limV (l : LList) : List UInt8 := varI l.Rows.length ++ l.Rows.flatMap rowV
def showB (b : Base) : List UInt8 := showM b.Mem ++ varI b.Clock.Epoch ++ b.Clock.Pins.flatMap pinV ++ b.Limbo.flatMap limV ++ b.Haz.flatMap varI
theorem pinV_len (p : Pin) : (pinV p).length ≤ 28 := by
  have := varI_len (bi p.On); have := varI_len p.Epoch; have := varI_len (bi p.Marked); have := varI_len p.Seen
  simp [pinV]; omega
theorem rowV_len (r : LRow) : (rowV r).length ≤ 14 := by
  have := varI_len r.Handle; have := varI_len r.Epoch
  simp [rowV]; omega
theorem fmap_len {α : Type} (f : α → List UInt8) (c : Nat) (h : ∀ x, (f x).length ≤ c) : ∀ l : List α, (l.flatMap f).length ≤ c * l.length
  | [] => by simp
  | x :: r => by
    have := h x; have := fmap_len f c h r
    rw [List.flatMap_cons, List.length_append, List.length_cons, Nat.mul_add]; omega
theorem limV_len (l : LList) : (limV l).length ≤ 7 + 14 * l.Rows.length := by
  have := varI_len (l.Rows.length : Int); have := fmap_len rowV 14 rowV_len l.Rows
  simp only [limV, List.length_append]; omega
theorem lims_len : ∀ l : List LList, (l.flatMap limV).length ≤ 7 * l.length + 14 * (flatR l).length
  | [] => by simp
  | x :: r => by
    have := limV_len x; have := lims_len r
    have e : flatR (x :: r) = x.Rows ++ flatR r := by simp [flatR]
    rw [List.flatMap_cons, List.length_append, List.length_cons, e, List.length_append]; omega
theorem showM_len {m : Mem} (h : MOk m) (hl : (allS m.Lists).length ≤ 1073741824) : (showM m).length ≤ 10000000000 := by
  have hb : m.Heap.Bytes.length = 384 := h.1.1.1.1
  have hc : m.Heap.Class.length = 6 := h.1.1.1.2.1
  have hg : m.Lists.Global.length = 3 := h.1.2.1
  have ho : m.Lists.Own.length = 9 := h.1.2.2.1
  have hsum := allS_len m.Lists
  have s1 := shows_len m.Lists.Global
  have s2 := shows_len m.Lists.Own
  simp only [showM, List.length_append, List.length_map]; omega
section
variable {b : Base} (h : BOkB b) (hl : (allS b.Mem.Lists).length ≤ 1073741824) (hr : (flatR b.Limbo).length ≤ 1073741824)
include h hl hr
theorem base_fits : b.Mem.Heap.Bytes.length ≤ maxLen ∧ (allS b.Mem.Lists).length ≤ 1073741824 ∧ b.Clock.Pins.length ≤ maxLen ∧ b.Limbo.length ≤ maxLen ∧ (flatR b.Limbo).length ≤ 1073741824 ∧ b.Haz.length ≤ maxLen := by
  have h1 : b.Mem.Heap.Bytes.length = 384 := h.1.1.1.1.1.1
  have h2 : b.Clock.Pins.length = 3 := h.1.2.1.2.1
  have h3 : b.Limbo.length = 3 := h.1.2.2.1.1
  have h4 : b.Haz.length = 3 := h.1.2.2.2.1
  have hm : (384 : Nat) ≤ maxLen := by simp [maxLen]
  exact ⟨by omega, hl, by omega, by omega, hr, by omega⟩
theorem spec_ShowBase_ok : spec_ShowBase b = some (showB b) := by
  have h2 : b.Clock.Pins.length = 3 := h.1.2.1.2.1
  have h3 : b.Limbo.length = 3 := h.1.2.2.1.1
  have h4 : b.Haz.length = 3 := h.1.2.2.2.1
  have hsm := showM_len h.1.1 hl
  have hve := varI_len b.Clock.Epoch
  have hvp := fmap_len pinV 28 pinV_len b.Clock.Pins
  have hvl := lims_len b.Limbo
  have hvh := fmap_len varI 7 varI_len b.Haz
  unfold spec_ShowBase
  rw [spec_BaseOk_eq (base_fits h hl hr), decide_eq_true h, spec_ShowMem_ok h.1.1 hl, spec_Var_eq]
  simp only [Option.bind_some, Bool.not_true, Bool.false_eq_true, if_false]
  rw [need_yes (by omega)]
  generalize hA : showM b.Mem ++ varI b.Clock.Epoch = A
  have hAl : A.length ≤ 10000000007 := by rw [← hA, List.length_append]; omega
  have k1 : loop (spec_ShowBase_l1 b) (A, 0) = some (A ++ b.Clock.Pins.flatMap pinV) := by
    have := enum_eq (f := spec_ShowBase_l1 b) b.Clock.Pins.length (fun k => (A ++ (b.Clock.Pins.take k).flatMap pinV, (k : Int))) (A ++ b.Clock.Pins.flatMap pinV) (fun k hk => ?_) ?_
    · simpa using this
    · have h1 := fm_step pinV hk
      have hp : (pinV b.Clock.Pins[k]).length = (varI (bi b.Clock.Pins[k].On)).length + (varI b.Clock.Pins[k].Epoch).length + (varI (bi b.Clock.Pins[k].Marked)).length + (varI b.Clock.Pins[k].Seen).length := by simp [pinV]; omega
      simp only [spec_ShowBase_l1]
      rw [if_pos (by simp; omega), idx_nat hk]
      simp only [Option.bind_some, spec_l30Bool_eq, spec_Var_eq]
      rw [need_yes (by first | omega | (simp [-List.length_flatMap]; omega)), need_yes (by first | omega | (simp [-List.length_flatMap]; omega)), need_yes (by first | omega | (simp [-List.length_flatMap]; omega)), need_yes (by first | omega | (simp [-List.length_flatMap]; omega)), fm_take pinV hk, w64_in (by omega) (by omega)]
      simp only [pinV, List.append_assoc]; rfl
    · have e : b.Clock.Pins.take b.Clock.Pins.length = b.Clock.Pins := List.take_length
      simp only [spec_ShowBase_l1, e]
      rw [if_neg (by simp; omega)]
  rw [k1]
  simp only [Option.bind_some, spec_ShowBase_m1, spec_ShowBase_j1]
  generalize hB : A ++ b.Clock.Pins.flatMap pinV = B
  have hBl : B.length ≤ 10000000100 := by rw [← hB, List.length_append]; omega
  have k2 : loop (spec_ShowBase_l2 b) (B, 0) = some (B ++ b.Limbo.flatMap limV) := by
    have := enum_eq (f := spec_ShowBase_l2 b) b.Limbo.length (fun k => (B ++ (b.Limbo.take k).flatMap limV, (k : Int))) (B ++ b.Limbo.flatMap limV) (fun k hk => ?_) ?_
    · simpa using this
    · have h1 := fm_step limV hk
      have hv0 := varI_len (b.Limbo[k].Rows.length : Int)
      have hlk := flatR_get _ hk
      have hss : (limV b.Limbo[k]).length = (varI b.Limbo[k].Rows.length).length + (b.Limbo[k].Rows.flatMap rowV).length := by simp [limV, -List.length_flatMap]
      simp only [spec_ShowBase_l2]
      rw [if_pos (by simp; omega), idx_nat hk]
      simp only [Option.bind_some, spec_Var_eq]
      rw [need_yes (by first | omega | (simp [-List.length_flatMap]; omega))]
      have inner : loop (spec_ShowBase_l4 b (k : Int)) (B ++ (b.Limbo.take k).flatMap limV ++ varI b.Limbo[k].Rows.length, 0) = some (B ++ (b.Limbo.take (k + 1)).flatMap limV) := by
        have := enum_eq (f := spec_ShowBase_l4 b (k : Int)) b.Limbo[k].Rows.length (fun j => (B ++ (b.Limbo.take k).flatMap limV ++ varI b.Limbo[k].Rows.length ++ (b.Limbo[k].Rows.take j).flatMap rowV, (j : Int))) (B ++ (b.Limbo.take (k + 1)).flatMap limV) (fun j hj => ?_) ?_
        · simpa using this
        · have h5 := fm_step rowV hj
          have hrl : (rowV b.Limbo[k].Rows[j]).length = (varI b.Limbo[k].Rows[j].Handle).length + (varI b.Limbo[k].Rows[j].Epoch).length := by simp [rowV]
          simp only [spec_ShowBase_l4]
          rw [idx_nat hk]
          simp only [Option.bind_some]
          rw [if_pos (by simp; omega), idx_nat hj]
          simp only [Option.bind_some, spec_Var_eq]
          rw [need_yes (by first | omega | (simp [-List.length_flatMap]; omega)), need_yes (by first | omega | (simp [-List.length_flatMap]; omega)), fm_take rowV hj, w64_in (by omega) (by omega)]
          simp only [rowV, List.append_assoc]; rfl
        · simp only [spec_ShowBase_l4]
          rw [idx_nat hk]
          simp only [Option.bind_some]
          rw [if_neg (by simp), List.take_length, fm_take limV hk]
          simp only [limV, List.append_assoc]
      rw [inner]
      simp only [Option.bind_some, spec_ShowBase_m4, spec_ShowBase_j4]
      rw [w64_in (by omega) (by omega)]; rfl
    · simp only [spec_ShowBase_l2, List.take_length]
      rw [if_neg (by simp; omega)]
  rw [k2]
  simp only [Option.bind_some, spec_ShowBase_m2, spec_ShowBase_j2]
  generalize hC : B ++ b.Limbo.flatMap limV = C
  have hCl : C.length ≤ 100000000000 := by rw [← hC, List.length_append]; omega
  have k3 : loop (spec_ShowBase_l3 b) (C, 0) = some (C ++ b.Haz.flatMap varI) := by
    have := enum_eq (f := spec_ShowBase_l3 b) b.Haz.length (fun k => (C ++ (b.Haz.take k).flatMap varI, (k : Int))) (C ++ b.Haz.flatMap varI) (fun k hk => ?_) ?_
    · simpa using this
    · have h1 := fm_step varI hk
      simp only [spec_ShowBase_l3]
      rw [if_pos (by simp; omega), idx_nat hk]
      simp only [Option.bind_some, spec_Var_eq]
      rw [need_yes (by first | omega | (simp [-List.length_flatMap]; omega)), fm_take varI hk, w64_in (by omega) (by omega), List.append_assoc]; rfl
    · simp only [spec_ShowBase_l3, List.take_length]
      rw [if_neg (by simp; omega)]
  rw [k3]
  subst hC; subst hB; subst hA; rfl
theorem impl_ShowBase_ok : impl_ShowBase b = some (showB b) := by
  have h2 : b.Clock.Pins.length = 3 := h.1.2.1.2.1
  have h3 : b.Limbo.length = 3 := h.1.2.2.1.1
  have h4 : b.Haz.length = 3 := h.1.2.2.2.1
  have hsm := showM_len h.1.1 hl
  have hve := varI_len b.Clock.Epoch
  have hvp := fmap_len pinV 28 pinV_len b.Clock.Pins
  have hvl := lims_len b.Limbo
  have hvh := fmap_len varI 7 varI_len b.Haz
  unfold impl_ShowBase
  rw [impl_BaseOk_eq (base_fits h hl hr), decide_eq_true h, impl_ShowMem_ok h.1.1 hl, impl_Var_eq]
  simp only [Option.bind_some, Bool.not_true, Bool.false_eq_true, if_false]
  rw [need_yes (by omega)]
  generalize hA : showM b.Mem ++ varI b.Clock.Epoch = A
  have hAl : A.length ≤ 10000000007 := by rw [← hA, List.length_append]; omega
  have k1 : loop (impl_ShowBase_l1 b) (A, 0) = some (A ++ b.Clock.Pins.flatMap pinV) := by
    have := enum_eq (f := impl_ShowBase_l1 b) b.Clock.Pins.length (fun k => (A ++ (b.Clock.Pins.take k).flatMap pinV, (k : Int))) (A ++ b.Clock.Pins.flatMap pinV) (fun k hk => ?_) ?_
    · simpa using this
    · have h1 := fm_step pinV hk
      have hp : (pinV b.Clock.Pins[k]).length = (varI (bi b.Clock.Pins[k].On)).length + (varI b.Clock.Pins[k].Epoch).length + (varI (bi b.Clock.Pins[k].Marked)).length + (varI b.Clock.Pins[k].Seen).length := by simp [pinV]; omega
      simp only [impl_ShowBase_l1]
      rw [if_pos (by simp; omega), idx_nat hk]
      simp only [Option.bind_some, impl_flag_eq, impl_Var_eq]
      rw [need_yes (by first | omega | (simp [-List.length_flatMap]; omega)), need_yes (by first | omega | (simp [-List.length_flatMap]; omega)), need_yes (by first | omega | (simp [-List.length_flatMap]; omega)), need_yes (by first | omega | (simp [-List.length_flatMap]; omega)), fm_take pinV hk, w64_in (by omega) (by omega)]
      simp only [pinV, List.append_assoc]; rfl
    · simp only [impl_ShowBase_l1, List.take_length]
      rw [if_neg (by simp)]
  rw [k1]
  simp only [Option.bind_some, impl_ShowBase_m1, impl_ShowBase_j1]
  generalize hB : A ++ b.Clock.Pins.flatMap pinV = B
  have hBl : B.length ≤ 10000000100 := by rw [← hB, List.length_append]; omega
  have k2 : loop (impl_ShowBase_l2 b) (B, 0) = some (B ++ b.Limbo.flatMap limV) := by
    have := enum_eq (f := impl_ShowBase_l2 b) b.Limbo.length (fun k => (B ++ (b.Limbo.take k).flatMap limV, (k : Int))) (B ++ b.Limbo.flatMap limV) (fun k hk => ?_) ?_
    · simpa using this
    · have h1 := fm_step limV hk
      have hv0 := varI_len (b.Limbo[k].Rows.length : Int)
      have hlk := flatR_get _ hk
      have hss : (limV b.Limbo[k]).length = (varI b.Limbo[k].Rows.length).length + (b.Limbo[k].Rows.flatMap rowV).length := by simp [limV, -List.length_flatMap]
      simp only [impl_ShowBase_l2]
      rw [if_pos (by simp; omega), idx_nat hk]
      simp only [Option.bind_some, impl_Var_eq]
      rw [need_yes (by first | omega | (simp [-List.length_flatMap]; omega))]
      have inner : loop (impl_ShowBase_l4 b.Limbo[k]) (B ++ (b.Limbo.take k).flatMap limV ++ varI b.Limbo[k].Rows.length, 0) = some (B ++ (b.Limbo.take (k + 1)).flatMap limV) := by
        have := enum_eq (f := impl_ShowBase_l4 b.Limbo[k]) b.Limbo[k].Rows.length (fun j => (B ++ (b.Limbo.take k).flatMap limV ++ varI b.Limbo[k].Rows.length ++ (b.Limbo[k].Rows.take j).flatMap rowV, (j : Int))) (B ++ (b.Limbo.take (k + 1)).flatMap limV) (fun j hj => ?_) ?_
        · simpa using this
        · have h5 := fm_step rowV hj
          have hrl : (rowV b.Limbo[k].Rows[j]).length = (varI b.Limbo[k].Rows[j].Handle).length + (varI b.Limbo[k].Rows[j].Epoch).length := by simp [rowV]
          simp only [impl_ShowBase_l4]
          rw [if_pos (by simp; omega), idx_nat hj]
          simp only [Option.bind_some, impl_Var_eq]
          rw [need_yes (by omega), need_yes (by first | omega | (simp [-List.length_flatMap]; omega)), fm_take rowV hj, w64_in (by omega) (by omega)]
          simp only [rowV, List.append_assoc]; rfl
        · simp only [impl_ShowBase_l4]
          rw [if_neg (by simp), List.take_length, fm_take limV hk]
          simp only [limV, List.append_assoc]
      rw [inner]
      simp only [Option.bind_some, impl_ShowBase_m4, impl_ShowBase_j4]
      rw [w64_in (by omega) (by omega)]; rfl
    · simp only [impl_ShowBase_l2, List.take_length]
      rw [if_neg (by simp)]
  rw [k2]
  simp only [Option.bind_some, impl_ShowBase_m2, impl_ShowBase_j2]
  generalize hC : B ++ b.Limbo.flatMap limV = C
  have hCl : C.length ≤ 100000000000 := by rw [← hC, List.length_append]; omega
  have k3 : loop (impl_ShowBase_l3 b) (C, 0) = some (C ++ b.Haz.flatMap varI) := by
    have := enum_eq (f := impl_ShowBase_l3 b) b.Haz.length (fun k => (C ++ (b.Haz.take k).flatMap varI, (k : Int))) (C ++ b.Haz.flatMap varI) (fun k hk => ?_) ?_
    · simpa using this
    · have h1 := fm_step varI hk
      simp only [impl_ShowBase_l3]
      rw [if_pos (by simp; omega), idx_nat hk]
      simp only [Option.bind_some, impl_Var_eq]
      rw [need_yes (by first | omega | (simp [-List.length_flatMap]; omega)), fm_take varI hk, w64_in (by omega) (by omega), List.append_assoc]; rfl
    · simp only [impl_ShowBase_l3, List.take_length]
      rw [if_neg (by simp)]
  rw [k3]
  subst hC; subst hB; subst hA; rfl
end
def showB? (b : Base) : List UInt8 := if BOkB b then showB b else []
theorem spec_ShowBase_eq {b : Base} (hf : b.Mem.Heap.Bytes.length ≤ maxLen ∧ (allS b.Mem.Lists).length ≤ 1073741824 ∧ b.Clock.Pins.length ≤ maxLen ∧ b.Limbo.length ≤ maxLen ∧ (flatR b.Limbo).length ≤ 1073741824 ∧ b.Haz.length ≤ maxLen) : spec_ShowBase b = some (showB? b) := by
  unfold showB?
  by_cases h : BOkB b
  · rw [if_pos h, spec_ShowBase_ok h hf.2.1 hf.2.2.2.2.1]
  · rw [if_neg h]; unfold spec_ShowBase; rw [spec_BaseOk_eq hf, decide_eq_false h]; rfl
theorem impl_ShowBase_eq {b : Base} (hf : b.Mem.Heap.Bytes.length ≤ maxLen ∧ (allS b.Mem.Lists).length ≤ 1073741824 ∧ b.Clock.Pins.length ≤ maxLen ∧ b.Limbo.length ≤ maxLen ∧ (flatR b.Limbo).length ≤ 1073741824 ∧ b.Haz.length ≤ maxLen) : impl_ShowBase b = some (showB? b) := by
  unfold showB?
  by_cases h : BOkB b
  · rw [if_pos h, impl_ShowBase_ok h hf.2.1 hf.2.2.2.2.1]
  · rw [if_neg h]; unfold impl_ShowBase; rw [impl_BaseOk_eq hf, decide_eq_false h]; rfl
end Go.Gv
