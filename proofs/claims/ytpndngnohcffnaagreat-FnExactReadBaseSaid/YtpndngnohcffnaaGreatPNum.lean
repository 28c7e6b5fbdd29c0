/- Numbers as bytes: what both sides compute. -/
import Derived.Test.YtpndngnohcffnaaGreatXFns
import Derived.Test.YtpndngnohcffnaaGreatGvPlain
set_option linter.unusedVariables false
set_option linter.unusedSimpArgs false
namespace Go.Gv

theorem within_eq (n a b : Int) : impl_within n a b = some (decide (a ≤ n ∧ n ≤ b)) := by
  unfold impl_within impl_within_j1
  by_cases h : a ≤ n <;> simp [h]
theorem l1In_eq (n a b : Int) : spec_l1In n a b = some (decide (a ≤ n ∧ n ≤ b)) := by
  unfold spec_l1In spec_l1In_j1
  by_cases h : a ≤ n <;> simp [h]

/-- A number, seven bits a byte, the lowest first. -/
def varB (n : Nat) : List UInt8 := if n < 128 then [UInt8.ofNat n] else UInt8.ofNat (n % 128 + 128) :: varB (n / 128)
termination_by n
decreasing_by omega
def varI (n : Int) : List UInt8 := if 0 ≤ n ∧ n ≤ 562949953421311 then varB n.toNat else []
theorem u8_ofNat (n : Nat) : u8 (n : Int) = UInt8.ofNat n := by
  unfold u8
  have : ((n : Int) % 256).toNat = n % 256 := by omega
  rw [this]
  apply UInt8.toNat_inj.1
  simp

theorem spec_Var_loop : ∀ (k n : Nat) (acc : List UInt8), n < 128 ^ (k + 1) → n ≤ 9223372036854775807 → acc.length + k ≤ 1000 → ∃ m pre, loop spec_Var_l1 ((n : Int), acc) = some (m, acc ++ pre) ∧ pre ++ [u8 m] = varB n ∧ pre.length ≤ k := by
  intro k
  induction k with
  | zero =>
    intro n acc hn hb ha
    refine ⟨n, [], loop_stop ?_, ?_, Nat.le_refl _⟩
    · have : ¬ (128 : Int) ≤ n := by omega
      simp [spec_Var_l1, this]
    · rw [varB, if_pos (by omega), u8_ofNat]; rfl
  | succ k ih =>
    intro n acc hn hb ha
    by_cases h : n < 128
    · refine ⟨n, [], loop_stop ?_, ?_, Nat.zero_le _⟩
      · have : ¬ (128 : Int) ≤ n := by omega
        simp [spec_Var_l1, this]
      · rw [varB, if_pos h, u8_ofNat]; rfl
    · have hp : n / 128 < 128 ^ (k + 1) := by rw [Nat.pow_succ] at hn; exact Nat.div_lt_of_lt_mul (by omega)
      obtain ⟨m, pre, h1, h2, h3⟩ := ih (n / 128) (acc ++ [UInt8.ofNat (n % 128 + 128)]) hp (by omega) (by simp; omega)
      refine ⟨m, UInt8.ofNat (n % 128 + 128) :: pre, ?_, ?_, by simp; omega⟩
      · have e1 : w64 (128 + Int.tmod (n : Int) 128) = ((n % 128 + 128 : Nat) : Int) := by rw [tmod_pos (by omega), w64_in (by omega) (by omega)]; omega
        have e2 : Int.tdiv (n : Int) 128 = ((n / 128 : Nat) : Int) := by rw [tdiv_pos (by omega)]; omega
        have e3 : w64 ((n / 128 : Nat) : Int) = ((n / 128 : Nat) : Int) := w64_in (by omega) (by omega)
        rw [loop_next (s' := (((n / 128 : Nat) : Int), acc ++ [UInt8.ofNat (n % 128 + 128)])) ?_, h1]
        · simp
        · have hge : (128 : Int) ≤ n := by omega
          simp only [spec_Var_l1, hge, decide_true, if_true, e1, e2, e3, u8_ofNat]
          rw [need_yes (by simp; omega)]
      · rw [varB, if_neg h]; simp [h2]
theorem impl_Var_loop : ∀ (k n : Nat) (acc : List UInt8), n < 128 ^ (k + 1) → n ≤ 9223372036854775807 → acc.length + k ≤ 1000 → ∃ m pre, loop impl_Var_l1 ((n : Int), acc) = some (m, acc ++ pre) ∧ pre ++ [u8 m] = varB n ∧ pre.length ≤ k := by
  intro k
  induction k with
  | zero =>
    intro n acc hn hb ha
    refine ⟨n, [], loop_stop ?_, ?_, Nat.le_refl _⟩
    · have : ¬ (127 : Int) < n := by omega
      simp [impl_Var_l1, this]
    · rw [varB, if_pos (by omega), u8_ofNat]; rfl
  | succ k ih =>
    intro n acc hn hb ha
    by_cases h : n < 128
    · refine ⟨n, [], loop_stop ?_, ?_, Nat.zero_le _⟩
      · have : ¬ (127 : Int) < n := by omega
        simp [impl_Var_l1, this]
      · rw [varB, if_pos h, u8_ofNat]; rfl
    · have hp : n / 128 < 128 ^ (k + 1) := by rw [Nat.pow_succ] at hn; exact Nat.div_lt_of_lt_mul (by omega)
      obtain ⟨m, pre, h1, h2, h3⟩ := ih (n / 128) (acc ++ [UInt8.ofNat (n % 128 + 128)]) hp (by omega) (by simp; omega)
      refine ⟨m, UInt8.ofNat (n % 128 + 128) :: pre, ?_, ?_, by simp; omega⟩
      · have e1 : bitsOp .or .i64 (bitsOp .and .i64 (n : Int) 127) 128 = ((n % 128 + 128 : Nat) : Int) := by rw [and127 (by omega) (by omega), or128 (by omega) (by omega)]; omega
        have e2 : shrOp .i64 (n : Int) 7 = ((n / 128 : Nat) : Int) := by
          have := shr_pos (x := (n : Int)) (k := 7) (by omega) (by omega)
          rw [show ((7 : Nat) : Int) = 7 from rfl] at this
          rw [this]; omega
        rw [loop_next (s' := (((n / 128 : Nat) : Int), acc ++ [UInt8.ofNat (n % 128 + 128)])) ?_, h1]
        · simp
        · have hge : (127 : Int) < n := by omega
          simp only [impl_Var_l1, hge, decide_true, if_true, e1, e2, u8_ofNat]
          rw [need_yes (by simp; omega)]
      · rw [varB, if_neg h]; simp [h2]
theorem spec_Var_eq (n : Int) : spec_Var n = some (varI n) := by
  unfold spec_Var varI
  rw [l1In_eq]
  by_cases h : 0 ≤ n ∧ n ≤ 562949953421311
  · obtain ⟨k, rfl⟩ := Int.eq_ofNat_of_zero_le h.1
    obtain ⟨m, pre, h1, h2, h3⟩ := spec_Var_loop 6 k [] (by omega) (by omega) (by simp)
    have hl : pre.length + [u8 m].length ≤ 1073741824 := by simp; omega
    simp only [Option.bind_some, h, and_self, decide_true, Bool.not_true, Bool.false_eq_true, if_false, if_true, h1, List.nil_append, spec_Var_m1, spec_Var_j1]
    rw [need_yes hl, h2]; rfl
  · simp [h]
theorem impl_Var_eq (n : Int) : impl_Var n = some (varI n) := by
  unfold impl_Var varI
  rw [within_eq]
  by_cases h : 0 ≤ n ∧ n ≤ 562949953421311
  · obtain ⟨k, rfl⟩ := Int.eq_ofNat_of_zero_le h.1
    obtain ⟨m, pre, h1, h2, h3⟩ := impl_Var_loop 6 k [] (by omega) (by omega) (by simp)
    have hl : pre.length + [u8 m].length ≤ 1073741824 := by simp; omega
    simp only [Option.bind_some, h, and_self, decide_true, Bool.not_true, Bool.false_eq_true, if_false, if_true, h1, List.nil_append, impl_Var_m1, impl_Var_j1]
    rw [need_yes hl, h2]; rfl
  · simp [h]
theorem varB_len : ∀ (k n : Nat), n < 128 ^ (k + 1) → (varB n).length ≤ k + 1 := by
  intro k
  induction k with
  | zero => intro n h; rw [varB, if_pos (by omega)]; simp
  | succ k ih =>
    intro n h
    rw [varB]
    split
    · simp
    · have := ih (n / 128) (by rw [Nat.pow_succ] at h; exact Nat.div_lt_of_lt_mul (by omega))
      simp; omega
theorem varI_len (n : Int) : (varI n).length ≤ 7 := by
  unfold varI
  split
  · exact varB_len 6 _ (by omega)
  · simp
end Go.Gv
