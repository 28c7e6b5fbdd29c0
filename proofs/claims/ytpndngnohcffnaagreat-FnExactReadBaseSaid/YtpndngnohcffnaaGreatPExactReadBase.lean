/- laws.FnExactReadBase in plain Lean. -/
import Derived.Test.YtpndngnohcffnaaGreatPReadBase
import Derived.Test.YtpndngnohcffnaaGreatPReadMem
import Derived.Test.YtpndngnohcffnaaGreatPMarks2
import Derived.Test.YtpndngnohcffnaaGreatPBaseEq
set_option linter.unusedVariables false
set_option linter.unusedSimpArgs false
set_option linter.unusedSectionVars false
namespace Go.Gv
def noB : Base := ⟨noM, ⟨0, []⟩, [], []⟩
theorem small_noB : SmallB noB := ⟨small_no, by simp [noB], by simp [noB], by simp [noB, flatR], by simp [noB]⟩
theorem BOkB.small {b : Base} (h : BOkB b) : SmallB b := by
  have h2 : b.Clock.Pins.length = 3 := h.1.2.1.2.1
  have h3 : b.Limbo.length = 3 := h.1.2.2.1.1
  have h4 : b.Haz.length = 3 := h.1.2.2.2.1
  have h5 := h.1.2.2.1.2.1
  exact ⟨h.1.1.small, by omega, by omega, by omega, by omega⟩
theorem SmallB.fits {b : Base} (h : SmallB b) : b.Mem.Heap.Bytes.length ≤ maxLen ∧ (allS b.Mem.Lists).length ≤ 1073741824 ∧ b.Clock.Pins.length ≤ maxLen ∧ b.Limbo.length ≤ maxLen ∧ (flatR b.Limbo).length ≤ 1073741824 ∧ b.Haz.length ≤ maxLen := by
  have hb : (1048576 : Nat) ≤ maxLen := by simp [maxLen]
  have g1 := h.1.1; have g2 := h.1.2.2.2.2; have g3 := h.2.1; have g4 := h.2.2.1; have g5 := h.2.2.2.1; have g6 := h.2.2.2.2
  exact ⟨by omega, by omega, by omega, by omega, by omega, by omega⟩
theorem showB_of {b : Base} (h : BOkB b) : showB? b = showB b := by unfold showB?; rw [if_pos h]
section
variable {b : Base} (h : BOkB b)
include h
theorem epoch_ok : VarOk b.Clock.Epoch := by have := h.1.2.1.1; unfold VarOk; omega
theorem pins_ok : ∀ p ∈ b.Clock.Pins, PinV p := fun p hp => by
  have h1 := h.1.2.1.1
  have h2 := h.1.2.1.2.2 p hp
  have h3 := h2.1; have h4 := h2.2.1
  exact ⟨by unfold VarOk; omega, by unfold VarOk; omega⟩
theorem limbo_ok : ∀ l ∈ b.Limbo, LlV l := fun l hl => by
  have h2 := h.1.2.2.1
  have := flatR_mem hl
  refine ⟨by have := h2.2.1; omega, fun r hr => ?_⟩
  have h3 := h2.2.2.1 r (List.mem_flatMap.2 ⟨l, hl, hr⟩)
  have h4 := h3.1; unfold HnOk at h4
  have h5 := h3.2
  exact ⟨by unfold VarOk; omega, by unfold VarOk; omega⟩
theorem haz_ok : ∀ z ∈ b.Haz, VarOk z := fun z hz => by
  have h2 := h.1.2.2.2.2 z hz
  rcases h2 with h2 | h2
  · unfold VarOk; omega
  · unfold HnOk at h2; unfold VarOk; omega
theorem impl_read_ok : impl_ReadBase (showB b) = some (b, true) := by
  have h2 : b.Clock.Pins.length = 3 := h.1.2.1.2.1
  have h3 : b.Limbo.length = 3 := h.1.2.2.1.1
  have h4 : b.Haz.length = 3 := h.1.2.2.2.1
  have e1 := mem_back h.1.1 (varI b.Clock.Epoch ++ (b.Clock.Pins.flatMap pinV ++ (b.Limbo.flatMap limV ++ b.Haz.flatMap varI)))
  have e2 := number_back (epoch_ok h) (b.Clock.Pins.flatMap pinV ++ (b.Limbo.flatMap limV ++ b.Haz.flatMap varI))
  have e3 := iloop_back ib_l1 (by omega) h2 (fun p hp t => pinI_back (pins_ok h p hp) t) (b.Limbo.flatMap limV ++ b.Haz.flatMap varI)
  have e4 := iloop_back ib_l2 (by omega) h3 (fun l hl t => llI_back (limbo_ok h l hl) t) (b.Haz.flatMap varI)
  have e5 := iloop_back ib_l3 (by omega) h4 (fun z hz t => number_back (haz_ok h z hz) t) []
  rw [List.append_nil] at e5
  have hs : showB b = showM b.Mem ++ (varI b.Clock.Epoch ++ (b.Clock.Pins.flatMap pinV ++ (b.Limbo.flatMap limV ++ b.Haz.flatMap varI))) := by
    unfold showB; simp only [List.append_assoc]
  unfold impl_ReadBase
  rw [hs, e1]
  simp only [Option.bind_some]
  rw [e2]
  simp only [Option.bind_some]
  rw [e3]
  simp only [Option.bind_some, impl_ReadBase_m1, impl_ReadBase_j1]
  rw [e4]
  simp only [Option.bind_some, impl_ReadBase_m2, impl_ReadBase_j2]
  rw [e5]
  simp only [Option.bind_some, impl_ReadBase_m3, impl_ReadBase_j3, impl_ReadBase_j4, Bool.false_eq_true, if_false]
  have hb : (⟨b.Mem, ⟨b.Clock.Epoch, b.Clock.Pins⟩, b.Limbo, b.Haz⟩ : Base) = b := rfl
  rw [hb, impl_BaseOk_eq h.small.fits, impl_ShowBase_eq h.small.fits, decide_eq_true h, showB_of h, ← hs]
  simp
theorem spec_read_ok (hl : (showB b).length ≤ 1048576) : spec_ReadBase (showB b) = some (b, true) := by
  have h2 : b.Clock.Pins.length = 3 := h.1.2.1.2.1
  have h3 : b.Limbo.length = 3 := h.1.2.2.1.1
  have h4 : b.Haz.length = 3 := h.1.2.2.2.1
  have hs : showB b = showM b.Mem ++ (varI b.Clock.Epoch ++ (b.Clock.Pins.flatMap pinV ++ (b.Limbo.flatMap limV ++ b.Haz.flatMap varI))) := by
    unfold showB; simp only [List.append_assoc]
  generalize hS : showB b = s at hl hs ⊢
  have e1 := l30Mem_back h.1.1 (varI b.Clock.Epoch ++ (b.Clock.Pins.flatMap pinV ++ (b.Limbo.flatMap limV ++ b.Haz.flatMap varI))) (by rw [← hs]; exact hl)
  rw [← hs] at e1
  have e2 := num_at (epoch_ok h) hl hs
  have e3 := sloop_back (sb_l1 s) (by omega) h2 (fun p hp q t e => spin_back (pins_ok h p hp) hl e) (showM b.Mem ++ varI b.Clock.Epoch) (b.Limbo.flatMap limV ++ b.Haz.flatMap varI) (by rw [hs]; simp only [List.append_assoc])
  have e4 := sloop_back (sb_l2 s) (by omega) h3 (fun l hl' q t e => srows_back (limbo_ok h l hl') hl e) (showM b.Mem ++ varI b.Clock.Epoch ++ b.Clock.Pins.flatMap pinV) (b.Haz.flatMap varI) (by rw [hs]; simp only [List.append_assoc])
  have e5 := sloop_back (sb_l3 s) (by omega) h4 (fun z hz q t e => num_at (haz_ok h z hz) hl e) (showM b.Mem ++ varI b.Clock.Epoch ++ b.Clock.Pins.flatMap pinV ++ b.Limbo.flatMap limV) [] (by rw [hs]; simp only [List.append_assoc, List.append_nil])
  unfold spec_ReadBase
  rw [e1]
  simp only [Option.bind_some]
  rw [e2]
  simp only [Option.bind_some]
  rw [e3]
  simp only [Option.bind_some, spec_ReadBase_m1, spec_ReadBase_j1]
  rw [e4]
  simp only [Option.bind_some, spec_ReadBase_m2, spec_ReadBase_j2]
  rw [e5]
  have hend : showM b.Mem ++ varI b.Clock.Epoch ++ b.Clock.Pins.flatMap pinV ++ b.Limbo.flatMap limV ++ b.Haz.flatMap varI = s := by rw [hs]; simp only [List.append_assoc]
  simp only [Option.bind_some, spec_ReadBase_m3, spec_ReadBase_j3, spec_ReadBase_j4, hend, bne_self_eq_false, Bool.false_eq_true, if_false]
  have hb : (⟨b.Mem, ⟨b.Clock.Epoch, b.Clock.Pins⟩, b.Limbo, b.Haz⟩ : Base) = b := rfl
  rw [hb, spec_BaseOk_eq h.small.fits, spec_ShowBase_eq h.small.fits, decide_eq_true h, showB_of h, hS]
  simp
end
theorem l30Mem_total2 (s : List UInt8) (hs : s.length ≤ 1048576) : ∃ m a, spec_l30Mem s = some (m, a) ∧ a ≤ (s.length : Int) ∧ SmallM m := by
  unfold spec_l30Mem
  by_cases q : s.length < 390
  · rw [if_pos (by simp; omega)]
    exact ⟨_, -1, rfl, by omega, small_no⟩
  · rw [if_neg (by simp; omega), l30_l1 (by omega) hs]
    simp only [Option.bind_some, spec_l30Mem_m1, spec_l30Mem_j1]
    rw [l30_l2 (by omega) hs]
    simp only [Option.bind_some, spec_l30Mem_m2, spec_l30Mem_j2]
    obtain ⟨g, a1, e1, h1, n1, f1⟩ := l30Lists_total (s := s) (a := 390) (N := 3) (by omega) hs (by omega)
    obtain ⟨o, a2, e2, h2, n2, f2⟩ := l30Lists_total (s := s) (a := a1) (N := 9) h1 hs (by omega)
    rw [show ((3 : Nat) : Int) = 3 from rfl] at e1
    rw [show ((9 : Nat) : Int) = 9 from rfl] at e2
    rw [e1]
    simp only [Option.bind_some, e2]
    refine ⟨_, _, rfl, h2, ?_⟩
    unfold SmallM
    simp only [allS, List.length_append]
    refine ⟨by simp; omega, by simp; omega, by omega, by omega, by omega⟩
theorem flatR_sum : ∀ (l : List LList) (c : Nat), (∀ x ∈ l, x.Rows.length ≤ c) → (flatR l).length ≤ l.length * c
  | [], c, _ => by simp [flatR]
  | x :: r, c, h => by
    have := h x List.mem_cons_self
    have := flatR_sum r c (fun y hy => h y (List.mem_cons_of_mem _ hy))
    have e : flatR (x :: r) = x.Rows ++ flatR r := by simp [flatR]
    rw [e, List.length_append, List.length_cons, Nat.add_mul]; omega
theorem readBase_eq {s : List UInt8} (hs : s.length ≤ 1048576) : ∃ b ok, spec_ReadBase s = some (b, ok) ∧ impl_ReadBase s = some (b, ok) ∧ SmallB b := by
  have hmx : (1048576 : Nat) ≤ maxLen := by simp [maxLen]
  by_cases q : ∃ b, BOkB b ∧ showB b = s
  · obtain ⟨b, hb, rfl⟩ := q
    exact ⟨b, true, spec_read_ok hb hs, impl_read_ok hb, hb.small⟩
  · refine ⟨noB, false, ?_, ?_, small_noB⟩
    · obtain ⟨m, a0, e0, h0, hm⟩ := l30Mem_total2 s hs
      obtain ⟨n, a1, e1, h1⟩ := l30Num_total h0 hs
      obtain ⟨a2, ps, e2, h2, n2, _⟩ := sloop_total (T := fun _ => True) (sb_l1 s) (by omega) (M := (s.length : Int)) (fun a ha => spin_total hs ha) h1
      obtain ⟨a3, ls, e3, h3, n3, t3⟩ := sloop_total (T := fun x : LList => x.Rows.length ≤ 1048576) (sb_l2 s) (by omega) (M := (s.length : Int)) (fun a ha => srows_total hs ha) h2
      obtain ⟨a4, zs, e4, h4, n4, _⟩ := sloop_total (T := fun _ => True) (sb_l3 s) (by omega) (M := (s.length : Int)) (fun a ha => by obtain ⟨x, a', e, h⟩ := l30Num_total ha hs; exact ⟨x, a', e, h, trivial⟩) h3
      have hr := flatR_sum ls 1048576 t3
      unfold spec_ReadBase
      rw [e0]; simp only [Option.bind_some]
      rw [e1]; simp only [Option.bind_some]
      rw [e2]; simp only [Option.bind_some, spec_ReadBase_m1, spec_ReadBase_j1]
      rw [e3]; simp only [Option.bind_some, spec_ReadBase_m2, spec_ReadBase_j2]
      rw [e4]; simp only [Option.bind_some, spec_ReadBase_m3, spec_ReadBase_j3, spec_ReadBase_j4]
      by_cases c : a4 = (s.length : Int)
      · have hf : (⟨m, ⟨n, ps⟩, ls, zs⟩ : Base).Mem.Heap.Bytes.length ≤ maxLen ∧ (allS (⟨m, ⟨n, ps⟩, ls, zs⟩ : Base).Mem.Lists).length ≤ 1073741824 ∧ (⟨m, ⟨n, ps⟩, ls, zs⟩ : Base).Clock.Pins.length ≤ maxLen ∧ (⟨m, ⟨n, ps⟩, ls, zs⟩ : Base).Limbo.length ≤ maxLen ∧ (flatR (⟨m, ⟨n, ps⟩, ls, zs⟩ : Base).Limbo).length ≤ 1073741824 ∧ (⟨m, ⟨n, ps⟩, ls, zs⟩ : Base).Haz.length ≤ maxLen := by
          have g1 := hm.1; have g2 := hm.2.2.2.2
          exact ⟨by show m.Heap.Bytes.length ≤ _; omega, by show (allS m.Lists).length ≤ _; omega, by show ps.length ≤ _; omega, by show ls.length ≤ _; omega, by show (flatR ls).length ≤ _; omega, by show zs.length ≤ _; omega⟩
        rw [if_neg (by simp only [bne_iff_ne, ne_eq, Decidable.not_not]; exact c), spec_BaseOk_eq hf, spec_ShowBase_eq hf]
        by_cases hb : BOkB ⟨m, ⟨n, ps⟩, ls, zs⟩
        · have : (showB? ⟨m, ⟨n, ps⟩, ls, zs⟩ == s) = false := by rw [showB_of hb]; simp only [beq_eq_false_iff_ne]; exact fun e => q ⟨_, hb, e⟩
          simp only [Option.bind_some, decide_eq_true hb, Bool.not_true, Bool.false_eq_true, if_false, this, Bool.not_false, if_true]; rfl
        · simp only [Option.bind_some, decide_eq_false hb, Bool.not_false, if_true]; rfl
      · rw [if_pos (by simp only [bne_iff_ne]; exact c)]; rfl
    · obtain ⟨m, l0, b0, e0, h0, g1, g2, g3, g4, g5⟩ := mem_total s hs
      obtain ⟨n, l1, b1, e1, h1⟩ := number_total ⟨⟨l0⟩, b0⟩
      simp only at h1
      obtain ⟨l2, b2, ps, e2, h2, n2, _⟩ := iloop_total (T := fun _ => True) ib_l1 (by omega) (M := 1048576) (fun l b _ => pinI_total l b) l1 b1 (by omega)
      obtain ⟨l3, b3, ls, e3, h3, n3, t3⟩ := iloop_total (T := fun x : LList => x.Rows.length ≤ 1048576) ib_l2 (by omega) (M := 1048576) (fun l b hl => llI_total l b hl) l2 b2 (by omega)
      obtain ⟨l4, b4, zs, e4, h4, n4, _⟩ := iloop_total (T := fun _ => True) ib_l3 (by omega) (M := 1048576) (fun l b _ => number_total' l b) l3 b3 (by omega)
      have hr := flatR_sum ls 1048576 t3
      unfold impl_ReadBase
      rw [e0]; simp only [Option.bind_some]
      rw [e1]; simp only [Option.bind_some]
      rw [e2]; simp only [Option.bind_some, impl_ReadBase_m1, impl_ReadBase_j1]
      rw [e3]; simp only [Option.bind_some, impl_ReadBase_m2, impl_ReadBase_j2]
      rw [e4]; simp only [Option.bind_some, impl_ReadBase_m3, impl_ReadBase_j3, impl_ReadBase_j4]
      have hf : (⟨m, ⟨n, ps⟩, ls, zs⟩ : Base).Mem.Heap.Bytes.length ≤ maxLen ∧ (allS (⟨m, ⟨n, ps⟩, ls, zs⟩ : Base).Mem.Lists).length ≤ 1073741824 ∧ (⟨m, ⟨n, ps⟩, ls, zs⟩ : Base).Clock.Pins.length ≤ maxLen ∧ (⟨m, ⟨n, ps⟩, ls, zs⟩ : Base).Limbo.length ≤ maxLen ∧ (flatR (⟨m, ⟨n, ps⟩, ls, zs⟩ : Base).Limbo).length ≤ 1073741824 ∧ (⟨m, ⟨n, ps⟩, ls, zs⟩ : Base).Haz.length ≤ maxLen := by
        exact ⟨by show m.Heap.Bytes.length ≤ _; omega, by show (allS m.Lists).length ≤ _; omega, by show ps.length ≤ _; omega, by show ls.length ≤ _; omega, by show (flatR ls).length ≤ _; omega, by show zs.length ≤ _; omega⟩
      rw [impl_BaseOk_eq hf, impl_ShowBase_eq hf]
      cases b4
      · by_cases hb : BOkB ⟨m, ⟨n, ps⟩, ls, zs⟩
        · have : (showB? ⟨m, ⟨n, ps⟩, ls, zs⟩ == s) = false := by rw [showB_of hb]; simp only [beq_eq_false_iff_ne]; exact fun e => q ⟨_, hb, e⟩
          simp only [Option.bind_some, decide_eq_true hb, Bool.not_true, Bool.false_eq_true, if_false, this, Bool.not_false, if_true]; rfl
        · simp only [Option.bind_some, decide_eq_false hb, Bool.not_false, if_true, Bool.false_eq_true, if_false]; rfl
      · rfl
theorem law_FnExactReadBase {aS : List UInt8} : laws_FnExactReadBase aS = some true := by
  unfold laws_FnExactReadBase laws_FnExactReadBase_j1 laws_FnExactReadBase_j2
  by_cases h : (1048576 : Int) < aS.length
  · rw [if_pos (by simpa using h)]
  · rw [if_neg (by simpa using h)]
    obtain ⟨b, ok, e1, e2, hs⟩ := readBase_eq (s := aS) (by omega)
    obtain ⟨x, e3, e4, e5⟩ := heldB_mark hs
    simp only [e1, e2, Option.bind_some, eqBase_self hs, e3, e4]
    have e6 : ¬ x.1 < 0 := by omega
    simp [e6]
end Go.Gv
