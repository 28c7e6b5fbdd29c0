/- How to reason over 'loop', 'idx' in plain Lean. -/
import Derived.Test.YtpndngnohcffnaaGreatGvShort
namespace Go.Gv

/-- A loop that keeps Inv and whose measure falls ends in Post. -/
theorem loop_ind {σ ρ : Type} {f : σ → Option (Step σ ρ)} (μ : σ → Nat) (Inv : σ → Prop) (Post : ρ → Prop)
    (h : ∀ s, Inv s → (∃ o, f s = some (.stop o) ∧ Post o) ∨ (∃ s', f s = some (.next s') ∧ Inv s' ∧ μ s' < μ s)) : ∀ s, Inv s → ∃ o, loop f s = some o ∧ Post o := by
  intro s
  induction hn : μ s using Nat.strongRecOn generalizing s with
  | _ n ih =>
    intro hi
    rcases h s hi with ⟨o, h1, h2⟩ | ⟨s', h1, h2, h3⟩
    · exact ⟨o, loop_stop h1, h2⟩
    · rw [loop_next h1]
      exact ih _ (hn ▸ h3) s' rfl h2
/-- The same where the outcome is a function of where it stands. -/
theorem loop_eq {σ ρ : Type} {f : σ → Option (Step σ ρ)} (μ : σ → Nat) (Inv : σ → Prop) (g : σ → ρ)
    (h : ∀ s, Inv s → f s = some (.stop (g s)) ∨ (∃ s', f s = some (.next s') ∧ Inv s' ∧ μ s' < μ s ∧ g s = g s')) : ∀ s, Inv s → loop f s = some (g s) := by
  intro s
  induction hn : μ s using Nat.strongRecOn generalizing s with
  | _ n ih =>
    intro hi
    rcases h s hi with h1 | ⟨s', h1, h2, h3, h4⟩
    · exact loop_stop h1
    · rw [loop_next h1, h4]
      exact ih _ (hn ▸ h3) s' rfl h2

theorem idx_eq {α : Type} {l : List α} {i : Int} (h0 : 0 ≤ i) (h1 : i < l.length) : idx l i = some (l[i.toNat]'(by omega)) := by
  unfold idx; rw [if_pos h0, List.getElem?_eq_getElem (by omega)]
theorem idx_nat {α : Type} {l : List α} {k : Nat} (h1 : k < l.length) : idx l (k : Int) = some l[k] := by
  unfold idx; rw [if_pos (by omega)]; simp [List.getElem?_eq_getElem h1]
theorem need_yes {α : Type} {p : Prop} [Decidable p] (h : p) (k : Option α) : need p k = k := by unfold need; rw [if_pos h]
theorem w64_id {x : Int} (h : -9223372036854775808 ≤ x ∧ x ≤ 9223372036854775807) : w64 x = x := by
  simp [w64, IntKind.wrap, IntKind.bits, IntKind.signed]; split <;> omega
theorem w64_nat {x : Nat} (h : x < maxLen) : w64 ((x : Int) + 1) = ((x + 1 : Nat) : Int) := by
  have h2 : x < 9223372036854775807 := h
  rw [w64_id (by omega)]; rfl

/-- A loop over an index that may leave early: what it says once it stands at k. -/
theorem scan_eq {ρ : Type} {f : Int → Option (Step Int ρ)} (n : Nat) (g : Nat → ρ)
    (h : ∀ k : Nat, k ≤ n → f k = some (.stop (g k)) ∨ (k < n ∧ f k = some (.next ((k + 1 : Nat) : Int)) ∧ g k = g (k + 1))) : ∀ k : Nat, k ≤ n → loop f (k : Int) = some (g k) := by
  intro k hk
  obtain ⟨d, rfl⟩ : ∃ d, n = k + d := ⟨n - k, by omega⟩
  induction d generalizing k with
  | zero =>
    rcases h k hk with h1 | ⟨h1, _⟩
    · exact loop_stop h1
    · omega
  | succ d ih =>
    rcases h k hk with h1 | ⟨h1, h2, h3⟩
    · exact loop_stop h1
    · rw [loop_next h2, h3]
      have e : k + (d + 1) = (k + 1) + d := by omega
      rw [e] at h
      exact ih (k + 1) h (by omega)

theorem idx_none {α : Type} {l : List α} {i : Int} (h : ¬ (0 ≤ i ∧ i < l.length)) : idx l i = none := by
  unfold idx; split
  · rw [List.getElem?_eq_none (by omega)]
  · rfl
theorem lt_max {α : Type} {l : List α} {k : Nat} (h : k < l.length) (hm : l.length ≤ maxLen) : k < maxLen := by omega
end Go.Gv
