/- A base compared with itself. -/
import Derived.Test.YtpndngnohcffnaaGreatPBase
import Derived.Test.YtpndngnohcffnaaGreatPClockEq
set_option linter.unusedVariables false
set_option linter.unusedSimpArgs false
set_option linter.unusedSectionVars false
namespace Go.Gv
theorem eqLRowS_self {l : List LRow} (hl : l.length ≤ maxLen) : laws_eqLRowS l l = some true := by
  unfold laws_eqLRowS
  have key : loop (laws_eqLRowS_l1 l l) 0 = some (Out.brk ()) := by
    refine enum_eq (f := laws_eqLRowS_l1 l l) l.length (fun k => (k : Int)) _ (fun k hk => ?_) ?_
    · simp only [laws_eqLRowS_l1]
      rw [if_pos (by simp; omega), idx_nat hk, w64_nat (lt_max hk hl)]
      simp [laws_eqLRow]
    · simp [laws_eqLRowS_l1]
  simp [key, laws_eqLRowS_m1, laws_eqLRowS_j1]
theorem eqLListS_self {l : List LList} (hl : l.length ≤ maxLen) (hs : ∀ s ∈ l, s.Rows.length ≤ maxLen) : laws_eqLListS l l = some true := by
  unfold laws_eqLListS
  have key : loop (laws_eqLListS_l1 l l) 0 = some (Out.brk ()) := by
    refine enum_eq (f := laws_eqLListS_l1 l l) l.length (fun k => (k : Int)) _ (fun k hk => ?_) ?_
    · simp only [laws_eqLListS_l1]
      rw [if_pos (by simp; omega), idx_nat hk]
      simp only [Option.bind_some, laws_eqLList, eqLRowS_self (hs _ (List.getElem_mem hk))]
      rw [w64_nat (lt_max hk hl)]; rfl
    · simp [laws_eqLListS_l1]
  simp [key, laws_eqLListS_m1, laws_eqLListS_j1]
theorem eqBase_self {b : Base} (h : SmallB b) : laws_eqBase b b = some true := by
  have hb : (1048576 : Nat) ≤ maxLen := by simp [maxLen]
  have h2 := h.2.1; have h3 := h.2.2.1; have h4 := h.2.2.2.1; have h5 := h.2.2.2.2
  unfold laws_eqBase
  rw [eqMem_self h.1, eqClock_self (by omega), eqLListS_self (by omega) (fun s hs => by have := flatR_mem hs; omega), eqIntS_self (by omega)]; rfl
end Go.Gv
