/- Loops, indices and bits in plain Lean. -/
import Derived.Test.YtpndngnohcffnaaGreatGvLoop
set_option linter.unusedVariables false
set_option linter.unusedSimpArgs false
namespace Go.Gv

/-- A loop whose states are told one by one. -/
theorem enum_eq {σ ρ : Type} {f : σ → Option (Step σ ρ)} (n : Nat) (S : Nat → σ) (r : ρ) (hs : ∀ k, k < n → f (S k) = some (.next (S (k + 1)))) (he : f (S n) = some (.stop r)) : loop f (S 0) = some r := by
  have key : ∀ d k, k + d = n → loop f (S k) = some r := by
    intro d
    induction d with
    | zero => intro k hk; obtain rfl : k = n := by omega
              exact loop_stop he
    | succ d ih => intro k hk; rw [loop_next (hs k (by omega))]; exact ih (k + 1) (by omega)
  exact key n 0 (by omega)
/-- .. that may leave early. -/
theorem enum_scan {σ ρ : Type} {f : σ → Option (Step σ ρ)} (n : Nat) (S : Nat → σ) (g : Nat → ρ)
    (h : ∀ k, k ≤ n → f (S k) = some (.stop (g k)) ∨ (k < n ∧ f (S k) = some (.next (S (k + 1))) ∧ g k = g (k + 1))) : ∀ k, k ≤ n → loop f (S k) = some (g k) := by
  have key : ∀ d k, k + d = n → loop f (S k) = some (g k) := by
    intro d
    induction d with
    | zero =>
      intro k hk
      rcases h k (by omega) with h1 | ⟨h1, _⟩
      · exact loop_stop h1
      · omega
    | succ d ih =>
      intro k hk
      rcases h k (by omega) with h1 | ⟨_, h2, h3⟩
      · exact loop_stop h1
      · rw [loop_next h2, h3]; exact ih (k + 1) (by omega)
  intro k hk
  exact key (n - k) k (by omega)
/-- Do all rounds pass a test? -/
theorem scan_all {σ ρ : Type} {f : σ → Option (Step σ ρ)} (n : Nat) (S : Nat → σ) (p : Nat → Prop) [DecidablePred p] (yes no : ρ)
    (h1 : ∀ k, k < n → p k → f (S k) = some (.next (S (k + 1)))) (h2 : ∀ k, k < n → ¬ p k → f (S k) = some (.stop no)) (h3 : f (S n) = some (.stop yes)) :
    loop f (S 0) = some (if ∀ k, k < n → p k then yes else no) := by
  classical
  have key : ∀ d k, k + d = n → loop f (S k) = some (if ∀ j, k ≤ j → j < n → p j then yes else no) := by
    intro d
    induction d with
    | zero =>
      intro k hk; obtain rfl : k = n := by omega
      rw [loop_stop h3, if_pos (fun j a b => by omega)]
    | succ d ih =>
      intro k hk
      by_cases hp : p k
      · rw [loop_next (h1 k (by omega) hp), ih (k + 1) (by omega)]
        by_cases h : ∀ j, k + 1 ≤ j → j < n → p j
        · rw [if_pos h, if_pos]
          intro j a b
          by_cases e : j = k
          · subst e; exact hp
          · exact h j (by omega) b
        · rw [if_neg h, if_neg]
          exact fun q => h fun j a b => q j (by omega) b
      · rw [loop_stop (h2 k (by omega) hp), if_neg]
        exact fun q => hp (q k (Nat.le_refl _) (by omega))
  have := key n 0 (by omega)
  rw [this]
  by_cases h : ∀ k, k < n → p k
  · rw [if_pos h, if_pos (fun j _ b => h j b)]
  · rw [if_neg h, if_neg (fun q => h fun k a => q k (Nat.zero_le _) a)]
theorem scan_list {α σ ρ : Type} {f : σ → Option (Step σ ρ)} (l : List α) (S : Nat → σ) (p : α → Prop) [DecidablePred p] (yes no : ρ)
    (h1 : ∀ k (h : k < l.length), p l[k] → f (S k) = some (.next (S (k + 1)))) (h2 : ∀ k (h : k < l.length), ¬ p l[k] → f (S k) = some (.stop no)) (h3 : f (S l.length) = some (.stop yes)) :
    loop f (S 0) = some (if ∀ x ∈ l, p x then yes else no) := by
  classical
  have := scan_all (f := f) l.length S (fun k => ∀ h : k < l.length, p l[k]) yes no (fun k h hp => h1 k h (hp h)) (fun k h hp => h2 k h (fun q => hp fun _ => q)) h3
  rw [this]
  by_cases h : ∀ x ∈ l, p x
  · rw [if_pos h, if_pos (fun k hk _ => h _ (List.getElem_mem hk))]
  · rw [if_neg h, if_neg]
    intro q
    refine h fun x hx => ?_
    obtain ⟨k, hk, rfl⟩ := List.mem_iff_getElem.1 hx
    exact q k hk hk

theorem w64_in {x : Int} (h1 : -9223372036854775808 ≤ x) (h2 : x ≤ 9223372036854775807) : w64 x = x := w64_id ⟨h1, h2⟩
theorem idx_in {α : Type} {l : List α} {i : Int} (h0 : 0 ≤ i) (h1 : i < l.length) : idx l i = some (l[i.toNat]'(by omega)) := idx_eq h0 h1
theorem need_in {α : Type} {p : Prop} [Decidable p] {k : Option α} (h : p) : need p k = k := need_yes h k
theorem wrap_i64 {x : Int} (h1 : -9223372036854775808 ≤ x) (h2 : x ≤ 9223372036854775807) : IntKind.i64.wrap x = x := w64_id ⟨h1, h2⟩
theorem tdiv_pos {x y : Int} (h1 : 0 ≤ x) : x.tdiv y = x / y := Int.tdiv_eq_ediv_of_nonneg h1
theorem tmod_pos {x y : Int} (h1 : 0 ≤ x) : x.tmod y = x % y := Int.tmod_eq_emod_of_nonneg h1
theorem shr_pos {x : Int} {k : Nat} (h1 : 0 ≤ x) (hk : k ≤ 63) : shrOp .i64 x k = x / 2 ^ k := by
  unfold shrOp
  have : min ((k : Int).toNat) IntKind.i64.bits = k := by simp [IntKind.bits]; omega
  rw [this, Int.fdiv_eq_ediv_of_nonneg _ (by exact Int.le_of_lt (Int.pow_pos (by omega)))]
theorem bits_and {a b : Nat} (ha : a < 9223372036854775808) (hb : b < 9223372036854775808) : bitsOp .and .i64 (a : Int) (b : Int) = ((a &&& b : Nat) : Int) := by
  have h : a &&& b ≤ a := Nat.and_le_left
  show IntKind.i64.wrap ((BitVec.ofInt 64 (a : Int) &&& BitVec.ofInt 64 (b : Int)).toNat : Int) = _
  rw [BitVec.ofInt_natCast, BitVec.ofInt_natCast, BitVec.toNat_and, BitVec.toNat_ofNat, BitVec.toNat_ofNat, Nat.mod_eq_of_lt (by omega), Nat.mod_eq_of_lt (by omega), wrap_i64 (by omega) (by omega)]
theorem bits_or {a b : Nat} (ha : a < 9223372036854775808) (hb : b < 9223372036854775808) : bitsOp .or .i64 (a : Int) (b : Int) = ((a ||| b : Nat) : Int) := by
  have h : a ||| b < 2 ^ 63 := Nat.or_lt_two_pow (by omega) (by omega)
  show IntKind.i64.wrap ((BitVec.ofInt 64 (a : Int) ||| BitVec.ofInt 64 (b : Int)).toNat : Int) = _
  rw [BitVec.ofInt_natCast, BitVec.ofInt_natCast, BitVec.toNat_or, BitVec.toNat_ofNat, BitVec.toNat_ofNat, Nat.mod_eq_of_lt (by omega), Nat.mod_eq_of_lt (by omega), wrap_i64 (by omega) (by omega)]
theorem and_mod (n k : Nat) : n &&& (2 ^ k - 1) = n % 2 ^ k := Nat.and_two_pow_sub_one_eq_mod n k
theorem and127 {n : Int} (h0 : 0 ≤ n) (h1 : n ≤ 9223372036854775807) : bitsOp .and .i64 n 127 = n % 128 := by
  obtain ⟨m, rfl⟩ := Int.eq_ofNat_of_zero_le h0
  have := bits_and (a := m) (b := 127) (by omega) (by omega)
  rw [show ((127 : Nat) : Int) = 127 from rfl] at this
  rw [this, show (127 : Nat) = 2 ^ 7 - 1 from rfl, and_mod]
  omega
theorem or128 {n : Int} (h0 : 0 ≤ n) (h1 : n < 128) : bitsOp .or .i64 n 128 = n + 128 := by
  obtain ⟨m, rfl⟩ := Int.eq_ofNat_of_zero_le h0
  have := bits_or (a := m) (b := 128) (by omega) (by omega)
  rw [show ((128 : Nat) : Int) = 128 from rfl] at this
  have h2 := Nat.two_pow_add_eq_or_of_lt (i := 7) (b := m) (by omega) 1
  rw [this, Nat.or_comm, show (128 : Nat) = 2 ^ 7 * 1 from rfl, ← h2]
  omega
end Go.Gv
