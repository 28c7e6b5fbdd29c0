import Derived.Test.YtpkgcalilmlljaaGreatDoorXKC
import Derived.Test.YtpkgcalilmlljaaGreatDoorXKD
import Derived.Lib.ItoaNum
import Derived.Lib.AtoiAll
import Derived.Lib.Split
import Derived.Lib.Strings
import Derived.Lib.Join
set_option linter.unusedVariables false
set_option linter.unusedSimpArgs false
set_option linter.unusedSectionVars false
set_option linter.unnecessarySimpa false
set_option linter.constructorNameAsVariable false
section
/- Loops, indices and bits in plain Lean. -/
set_option linter.unusedVariables false
set_option linter.unusedSimpArgs false
namespace Go.Gv

/-- A loop whose states are told one by one. -/
theorem enum_eq {σ ρ : Type} {f : σ → Option (Step σ ρ)} (n : Nat) (S : Nat → σ) (r : ρ) (hs : ∀ k, k < n → f (S k) = some (.next (S (k + 1)))) (he : f (S n) = some (.stop r)) : loop f (S 0) = some r := by
  have key : ∀ d k, k + d = n → loop f (S k) = some r := by
    intro d
    induction d with
    | zero => intro k hk; obtain rfl : k = n := by omega
              exact loop_stop he
    | succ d ih => intro k hk; rw [loop_next (hs k (by omega))]; exact ih (k + 1) (by omega)
  exact key n 0 (by omega)
/-- .. that may leave early. -/
theorem enum_scan {σ ρ : Type} {f : σ → Option (Step σ ρ)} (n : Nat) (S : Nat → σ) (g : Nat → ρ)
    (h : ∀ k, k ≤ n → f (S k) = some (.stop (g k)) ∨ (k < n ∧ f (S k) = some (.next (S (k + 1))) ∧ g k = g (k + 1))) : ∀ k, k ≤ n → loop f (S k) = some (g k) := by
  have key : ∀ d k, k + d = n → loop f (S k) = some (g k) := by
    intro d
    induction d with
    | zero =>
      intro k hk
      rcases h k (by omega) with h1 | ⟨h1, _⟩
      · exact loop_stop h1
      · omega
    | succ d ih =>
      intro k hk
      rcases h k (by omega) with h1 | ⟨_, h2, h3⟩
      · exact loop_stop h1
      · rw [loop_next h2, h3]; exact ih (k + 1) (by omega)
  intro k hk
  exact key (n - k) k (by omega)
/-- Do all rounds pass a test? -/
theorem scan_all {σ ρ : Type} {f : σ → Option (Step σ ρ)} (n : Nat) (S : Nat → σ) (p : Nat → Prop) [DecidablePred p] (yes no : ρ)
    (h1 : ∀ k, k < n → p k → f (S k) = some (.next (S (k + 1)))) (h2 : ∀ k, k < n → ¬ p k → f (S k) = some (.stop no)) (h3 : f (S n) = some (.stop yes)) :
    loop f (S 0) = some (if ∀ k, k < n → p k then yes else no) := by
  classical
  have key : ∀ d k, k + d = n → loop f (S k) = some (if ∀ j, k ≤ j → j < n → p j then yes else no) := by
    intro d
    induction d with
    | zero =>
      intro k hk; obtain rfl : k = n := by omega
      rw [loop_stop h3, if_pos (fun j a b => by omega)]
    | succ d ih =>
      intro k hk
      by_cases hp : p k
      · rw [loop_next (h1 k (by omega) hp), ih (k + 1) (by omega)]
        by_cases h : ∀ j, k + 1 ≤ j → j < n → p j
        · rw [if_pos h, if_pos]
          intro j a b
          by_cases e : j = k
          · subst e; exact hp
          · exact h j (by omega) b
        · rw [if_neg h, if_neg]
          exact fun q => h fun j a b => q j (by omega) b
      · rw [loop_stop (h2 k (by omega) hp), if_neg]
        exact fun q => hp (q k (Nat.le_refl _) (by omega))
  have := key n 0 (by omega)
  rw [this]
  by_cases h : ∀ k, k < n → p k
  · rw [if_pos h, if_pos (fun j _ b => h j b)]
  · rw [if_neg h, if_neg (fun q => h fun k a => q k (Nat.zero_le _) a)]
theorem scan_list {α σ ρ : Type} {f : σ → Option (Step σ ρ)} (l : List α) (S : Nat → σ) (p : α → Prop) [DecidablePred p] (yes no : ρ)
    (h1 : ∀ k (h : k < l.length), p l[k] → f (S k) = some (.next (S (k + 1)))) (h2 : ∀ k (h : k < l.length), ¬ p l[k] → f (S k) = some (.stop no)) (h3 : f (S l.length) = some (.stop yes)) :
    loop f (S 0) = some (if ∀ x ∈ l, p x then yes else no) := by
  classical
  have := scan_all (f := f) l.length S (fun k => ∀ h : k < l.length, p l[k]) yes no (fun k h hp => h1 k h (hp h)) (fun k h hp => h2 k h (fun q => hp fun _ => q)) h3
  rw [this]
  by_cases h : ∀ x ∈ l, p x
  · rw [if_pos h, if_pos (fun k hk _ => h _ (List.getElem_mem hk))]
  · rw [if_neg h, if_neg]
    intro q
    refine h fun x hx => ?_
    obtain ⟨k, hk, rfl⟩ := List.mem_iff_getElem.1 hx
    exact q k hk hk

theorem w64_in {x : Int} (h1 : -9223372036854775808 ≤ x) (h2 : x ≤ 9223372036854775807) : w64 x = x := w64_id ⟨h1, h2⟩
theorem idx_in {α : Type} {l : List α} {i : Int} (h0 : 0 ≤ i) (h1 : i < l.length) : idx l i = some (l[i.toNat]'(by omega)) := idx_eq h0 h1
theorem need_in {α : Type} {p : Prop} [Decidable p] {k : Option α} (h : p) : need p k = k := need_yes h k
theorem wrap_i64 {x : Int} (h1 : -9223372036854775808 ≤ x) (h2 : x ≤ 9223372036854775807) : IntKind.i64.wrap x = x := w64_id ⟨h1, h2⟩
theorem tdiv_pos {x y : Int} (h1 : 0 ≤ x) : x.tdiv y = x / y := Int.tdiv_eq_ediv_of_nonneg h1
theorem tmod_pos {x y : Int} (h1 : 0 ≤ x) : x.tmod y = x % y := Int.tmod_eq_emod_of_nonneg h1
theorem shr_pos {x : Int} {k : Nat} (h1 : 0 ≤ x) (hk : k ≤ 63) : shrOp .i64 x k = x / 2 ^ k := by
  unfold shrOp
  have : min ((k : Int).toNat) IntKind.i64.bits = k := by simp [IntKind.bits]; omega
  rw [this, Int.fdiv_eq_ediv_of_nonneg _ (by exact Int.le_of_lt (Int.pow_pos (by omega)))]
theorem bits_and {a b : Nat} (ha : a < 9223372036854775808) (hb : b < 9223372036854775808) : bitsOp .and .i64 (a : Int) (b : Int) = ((a &&& b : Nat) : Int) := by
  have h : a &&& b ≤ a := Nat.and_le_left
  show IntKind.i64.wrap ((BitVec.ofInt 64 (a : Int) &&& BitVec.ofInt 64 (b : Int)).toNat : Int) = _
  rw [BitVec.ofInt_natCast, BitVec.ofInt_natCast, BitVec.toNat_and, BitVec.toNat_ofNat, BitVec.toNat_ofNat, Nat.mod_eq_of_lt (by omega), Nat.mod_eq_of_lt (by omega), wrap_i64 (by omega) (by omega)]
theorem bits_or {a b : Nat} (ha : a < 9223372036854775808) (hb : b < 9223372036854775808) : bitsOp .or .i64 (a : Int) (b : Int) = ((a ||| b : Nat) : Int) := by
  have h : a ||| b < 2 ^ 63 := Nat.or_lt_two_pow (by omega) (by omega)
  show IntKind.i64.wrap ((BitVec.ofInt 64 (a : Int) ||| BitVec.ofInt 64 (b : Int)).toNat : Int) = _
  rw [BitVec.ofInt_natCast, BitVec.ofInt_natCast, BitVec.toNat_or, BitVec.toNat_ofNat, BitVec.toNat_ofNat, Nat.mod_eq_of_lt (by omega), Nat.mod_eq_of_lt (by omega), wrap_i64 (by omega) (by omega)]
theorem and_mod (n k : Nat) : n &&& (2 ^ k - 1) = n % 2 ^ k := Nat.and_two_pow_sub_one_eq_mod n k
theorem and127 {n : Int} (h0 : 0 ≤ n) (h1 : n ≤ 9223372036854775807) : bitsOp .and .i64 n 127 = n % 128 := by
  obtain ⟨m, rfl⟩ := Int.eq_ofNat_of_zero_le h0
  have := bits_and (a := m) (b := 127) (by omega) (by omega)
  rw [show ((127 : Nat) : Int) = 127 from rfl] at this
  rw [this, show (127 : Nat) = 2 ^ 7 - 1 from rfl, and_mod]
  omega
theorem or128 {n : Int} (h0 : 0 ≤ n) (h1 : n < 128) : bitsOp .or .i64 n 128 = n + 128 := by
  obtain ⟨m, rfl⟩ := Int.eq_ofNat_of_zero_le h0
  have := bits_or (a := m) (b := 128) (by omega) (by omega)
  rw [show ((128 : Nat) : Int) = 128 from rfl] at this
  have h2 := Nat.two_pow_add_eq_or_of_lt (i := 7) (b := m) (by omega) 1
  rw [this, Nat.or_comm, show (128 : Nat) = 2 ^ 7 * 1 from rfl, ← h2]
  omega
end Go.Gv
end
section
namespace Go.Gv
structure L1Cur where
  b : List UInt8
  i : Int
  h : Int
  deriving DecidableEq, Inhabited

instance : Rep L1Cur := Rep.via (fun d => (d.b, d.i, d.h))
instance : Fits L1Cur := Fits.via (fun d => (d.b, d.i, d.h))

theorem rd_L1Cur {S : Foot} {w : World} {cs : List Value} {d : L1Cur} (h : Rep.rd S w cs d) : ∃ v0 : Value, cs = [v0, .int .i64 (d.i), .int .i64 (d.h)] ∧ Rep.rd S w [v0] d.b := by
  obtain ⟨c0, r0, e0, h0, n0⟩ := h
  obtain ⟨u0, q0⟩ := rd_one_cell h0
  rw [q0] at h0
  obtain ⟨c1, r1, e1, h1, n1⟩ := n0
  have q1 : c1 = [_] := h1
  have q2 : r1 = [_] := n1
  exact ⟨u0, by rw [e0, e1, q0, q1, q2]; rfl, h0⟩

theorem mk_L1Cur {S : Foot} {w : World} (d : L1Cur) {v0 : Value} (h0 : Rep.rd S w [v0] d.b) : Rep.rd S w [v0, .int .i64 (d.i), .int .i64 (d.h)] d := ⟨[v0], [.int .i64 (d.i), .int .i64 (d.h)], rfl, h0, ⟨[.int .i64 (d.i)], [.int .i64 (d.h)], rfl, rfl, rfl⟩⟩

theorem op_L1Cur (d : L1Cur) {v0 : Value} : OP [v0, .int .i64 (d.i), .int .i64 (d.h)] d [cOwn [v0] d.b] := (show OP (α := (List UInt8) × Int × Int) _ (d.b, d.i, d.h) _ from (op_pair (c1 := [v0]) (c2 := [.int .i64 (d.i), .int .i64 (d.h)]) (A := [cOwn [v0] d.b]) (B := []) op_own (op_pair (c1 := [.int .i64 (d.i)]) (c2 := [.int .i64 (d.h)]) (A := []) (B := []) (op_flat rfl) (op_flat rfl) rfl) rfl))

theorem _root_.Go.Gv.St.el_L1Cur {c : Ctx} {L : List Chunk} {R : List Fact} {w : World} {s : Value} {l : List L1Cur} {i : Nat} {x : L1Cur} (h : St c w L R) (j : Nat) (hj : R[j]? = some (fRd [s] l)) (hi : l[i]? = some x) : ∃ v0 : Value, CellsAt w (elB s) (elO 3 i s) [v0, .int .i64 (x.i), .int .i64 (x.h)] ∧ St c w L (R ++ [fRd [v0] x.b]) := by
  obtain ⟨S, hS, hk⟩ := h.factS hj
  obtain ⟨ec, h1, h2⟩ := rd_el hS hi
  obtain ⟨v0, q, q0⟩ := rd_L1Cur h2
  rw [q] at h1
  exact ⟨v0, h1, hk _ (by intro f hf; simp only [List.mem_cons, List.not_mem_nil, or_false] at hf; subst hf; exact q0)⟩
theorem _root_.Go.Gv.St.elF_L1Cur {c : Ctx} {L : List Chunk} {R : List Fact} {w : World} {s : Value} {l : List L1Cur} {i : Nat} {x : L1Cur} (h : St c w L R) (j : Nat) (hj : R[j]? = some (fRd [s] l)) (hi : l[i]? = some x) : ∃ v0 : Value, St c w L (R ++ [fAt (elB s) (elO 3 i s) [v0, .int .i64 (x.i), .int .i64 (x.h)], fRd [v0] x.b]) := by
  obtain ⟨S, hS, hk⟩ := h.factS hj
  obtain ⟨ec, h1, h2⟩ := rd_elF hS hi
  obtain ⟨v0, q, q0⟩ := rd_L1Cur h2
  rw [q] at h1
  exact ⟨v0, hk _ (by intro f hf; simp only [List.mem_cons, List.not_mem_nil, or_false] at hf; rcases hf with rfl | rfl <;> assumption)⟩

structure GOp where
  Kind : Int
  Cell : Int
  Size : Int
  Val : Int
  deriving DecidableEq, Inhabited

instance : Rep GOp := Rep.via (fun d => (d.Kind, d.Cell, d.Size, d.Val))
instance : Fits GOp := Fits.via (fun d => (d.Kind, d.Cell, d.Size, d.Val))

theorem rd_GOp {S : Foot} {w : World} {cs : List Value} {d : GOp} (h : Rep.rd S w cs d) : cs = [.int .i64 (d.Kind), .int .i64 (d.Cell), .int .i64 (d.Size), .int .i64 (d.Val)] := by
  obtain ⟨c0, r0, e0, h0, n0⟩ := h
  have q0 : c0 = [_] := h0
  obtain ⟨c1, r1, e1, h1, n1⟩ := n0
  have q1 : c1 = [_] := h1
  obtain ⟨c2, r2, e2, h2, n2⟩ := n1
  have q2 : c2 = [_] := h2
  have q3 : r2 = [_] := n2
  exact by rw [e0, e1, e2, q0, q1, q2, q3]; rfl

theorem mk_GOp {S : Foot} {w : World} (d : GOp)   : Rep.rd S w [.int .i64 (d.Kind), .int .i64 (d.Cell), .int .i64 (d.Size), .int .i64 (d.Val)] d := ⟨[.int .i64 (d.Kind)], [.int .i64 (d.Cell), .int .i64 (d.Size), .int .i64 (d.Val)], rfl, rfl, ⟨[.int .i64 (d.Cell)], [.int .i64 (d.Size), .int .i64 (d.Val)], rfl, rfl, ⟨[.int .i64 (d.Size)], [.int .i64 (d.Val)], rfl, rfl, rfl⟩⟩⟩

instance : Flat GOp := ⟨fun h => Flat.own_of (α := Int × Int × Int × Int) h, fun h => Flat.no (α := Int × Int × Int × Int) h⟩

theorem op_GOp (d : GOp)  : OP [.int .i64 (d.Kind), .int .i64 (d.Cell), .int .i64 (d.Size), .int .i64 (d.Val)] d [] := (show OP (α := Int × Int × Int × Int) _ (d.Kind, d.Cell, d.Size, d.Val) _ from (op_pair (c1 := [.int .i64 (d.Kind)]) (c2 := [.int .i64 (d.Cell), .int .i64 (d.Size), .int .i64 (d.Val)]) (A := []) (B := []) (op_flat rfl) (op_pair (c1 := [.int .i64 (d.Cell)]) (c2 := [.int .i64 (d.Size), .int .i64 (d.Val)]) (A := []) (B := []) (op_flat rfl) (op_pair (c1 := [.int .i64 (d.Size)]) (c2 := [.int .i64 (d.Val)]) (A := []) (B := []) (op_flat rfl) (op_flat rfl) rfl) rfl) rfl))

theorem el_GOp {S : Foot} {w : World} {s : Value} {l : List GOp} {i : Nat} {x : GOp} (h : Rep.rd S w [s] l) (hi : l[i]? = some x) : CellsAt w (elB s) (elO 4 i s) [.int .i64 (x.Kind), .int .i64 (x.Cell), .int .i64 (x.Size), .int .i64 (x.Val)] := by
  obtain ⟨ec, h1, h2⟩ := rd_el h hi
  rw [rd_GOp h2] at h1; exact h1

structure Cmd where
  Kind : Int
  Key : Int
  Val : Int
  deriving DecidableEq, Inhabited

instance : Rep Cmd := Rep.via (fun d => (d.Kind, d.Key, d.Val))
instance : Fits Cmd := Fits.via (fun d => (d.Kind, d.Key, d.Val))

theorem rd_Cmd {S : Foot} {w : World} {cs : List Value} {d : Cmd} (h : Rep.rd S w cs d) : cs = [.int .i64 (d.Kind), .int .i64 (d.Key), .int .i64 (d.Val)] := by
  obtain ⟨c0, r0, e0, h0, n0⟩ := h
  have q0 : c0 = [_] := h0
  obtain ⟨c1, r1, e1, h1, n1⟩ := n0
  have q1 : c1 = [_] := h1
  have q2 : r1 = [_] := n1
  exact by rw [e0, e1, q0, q1, q2]; rfl

theorem mk_Cmd {S : Foot} {w : World} (d : Cmd)   : Rep.rd S w [.int .i64 (d.Kind), .int .i64 (d.Key), .int .i64 (d.Val)] d := ⟨[.int .i64 (d.Kind)], [.int .i64 (d.Key), .int .i64 (d.Val)], rfl, rfl, ⟨[.int .i64 (d.Key)], [.int .i64 (d.Val)], rfl, rfl, rfl⟩⟩

instance : Flat Cmd := ⟨fun h => Flat.own_of (α := Int × Int × Int) h, fun h => Flat.no (α := Int × Int × Int) h⟩

theorem op_Cmd (d : Cmd)  : OP [.int .i64 (d.Kind), .int .i64 (d.Key), .int .i64 (d.Val)] d [] := (show OP (α := Int × Int × Int) _ (d.Kind, d.Key, d.Val) _ from (op_pair (c1 := [.int .i64 (d.Kind)]) (c2 := [.int .i64 (d.Key), .int .i64 (d.Val)]) (A := []) (B := []) (op_flat rfl) (op_pair (c1 := [.int .i64 (d.Key)]) (c2 := [.int .i64 (d.Val)]) (A := []) (B := []) (op_flat rfl) (op_flat rfl) rfl) rfl))

theorem el_Cmd {S : Foot} {w : World} {s : Value} {l : List Cmd} {i : Nat} {x : Cmd} (h : Rep.rd S w [s] l) (hi : l[i]? = some x) : CellsAt w (elB s) (elO 3 i s) [.int .i64 (x.Kind), .int .i64 (x.Key), .int .i64 (x.Val)] := by
  obtain ⟨ec, h1, h2⟩ := rd_el h hi
  rw [rd_Cmd h2] at h1; exact h1

structure Batch where
  Collect : Bool
  Cmds : List Cmd
  deriving DecidableEq, Inhabited

instance : Rep Batch := Rep.via (fun d => (d.Collect, d.Cmds))
instance : Fits Batch := Fits.via (fun d => (d.Collect, d.Cmds))

theorem rd_Batch {S : Foot} {w : World} {cs : List Value} {d : Batch} (h : Rep.rd S w cs d) : ∃ v0 : Value, cs = [.bool (d.Collect), v0] ∧ Rep.rd S w [v0] d.Cmds := by
  obtain ⟨c0, r0, e0, h0, n0⟩ := h
  have q0 : c0 = [_] := h0
  obtain ⟨u1, q1⟩ := rd_one_cell n0
  rw [q1] at n0
  exact ⟨u1, by rw [e0, q0, q1]; rfl, n0⟩

theorem mk_Batch {S : Foot} {w : World} (d : Batch) {v0 : Value} (h0 : Rep.rd S w [v0] d.Cmds) : Rep.rd S w [.bool (d.Collect), v0] d := ⟨[.bool (d.Collect)], [v0], rfl, rfl, h0⟩

theorem op_Batch (d : Batch) {v0 : Value} : OP [.bool (d.Collect), v0] d [cOwn [v0] d.Cmds] := (show OP (α := Bool × (List Cmd)) _ (d.Collect, d.Cmds) _ from (op_pair (c1 := [.bool (d.Collect)]) (c2 := [v0]) (A := []) (B := [cOwn [v0] d.Cmds]) (op_flat rfl) op_own rfl))

theorem _root_.Go.Gv.St.el_Batch {c : Ctx} {L : List Chunk} {R : List Fact} {w : World} {s : Value} {l : List Batch} {i : Nat} {x : Batch} (h : St c w L R) (j : Nat) (hj : R[j]? = some (fRd [s] l)) (hi : l[i]? = some x) : ∃ v0 : Value, CellsAt w (elB s) (elO 2 i s) [.bool (x.Collect), v0] ∧ St c w L (R ++ [fRd [v0] x.Cmds]) := by
  obtain ⟨S, hS, hk⟩ := h.factS hj
  obtain ⟨ec, h1, h2⟩ := rd_el hS hi
  obtain ⟨v0, q, q0⟩ := rd_Batch h2
  rw [q] at h1
  exact ⟨v0, h1, hk _ (by intro f hf; simp only [List.mem_cons, List.not_mem_nil, or_false] at hf; subst hf; exact q0)⟩
theorem _root_.Go.Gv.St.elF_Batch {c : Ctx} {L : List Chunk} {R : List Fact} {w : World} {s : Value} {l : List Batch} {i : Nat} {x : Batch} (h : St c w L R) (j : Nat) (hj : R[j]? = some (fRd [s] l)) (hi : l[i]? = some x) : ∃ v0 : Value, St c w L (R ++ [fAt (elB s) (elO 2 i s) [.bool (x.Collect), v0], fRd [v0] x.Cmds]) := by
  obtain ⟨S, hS, hk⟩ := h.factS hj
  obtain ⟨ec, h1, h2⟩ := rd_elF hS hi
  obtain ⟨v0, q, q0⟩ := rd_Batch h2
  rw [q] at h1
  exact ⟨v0, hk _ (by intro f hf; simp only [List.mem_cons, List.not_mem_nil, or_false] at hf; rcases hf with rfl | rfl <;> assumption)⟩
end Go.Gv
end
section
set_option linter.unusedVariables false
namespace Go.Gv
noncomputable section
def laws_big (code : List UInt8) : Option Bool :=
  some (decide (1048576 < (code.length : Int)))
def spec_l1New_j1 (x5 : Int) : Option (Int × Int) :=
  some (0, x5)
def spec_l1New_j2 (code : List UInt8) (x3 x4 : Int) (x6 : Bool) : Option (Step (Int × Int) Int) :=
  (if x6 then (idx code x4).bind fun x7 => some (.next (bitsOp .and .i64 (w64 ((w64 ((w64 (x3 * 131)) + (x7.toNat : Int))) + 7)) 1073741823, w64 (x4 + 1))) else some (.stop (x3)))
def spec_l1New_l1 (code : List UInt8) : (Int × Int) → Option (Step (Int × Int) Int)
  | (x3, x4) => (if decide (x4 < (code.length : Int)) then spec_l1New_j2 code x3 x4 (decide (x4 < 4000)) else spec_l1New_j2 code x3 x4 false)
def spec_l1New_m1 : Int → Option (Int × Int)
  | x5 => spec_l1New_j1 x5
def spec_l1New (code : List UInt8) : Option (Int × Int) :=
  (loop (spec_l1New_l1 code) (w64 (10101 + (code.length : Int)), 0)).bind (spec_l1New_m1)
def spec_l15Celled_j1 (x1 : Bool) : Option Bool :=
  some x1
def spec_l15Celled (kind : Int) : Option Bool :=
  (if kind == 1 then spec_l15Celled_j1 true else (if kind == 2 then spec_l15Celled_j1 true else (if kind == 3 then spec_l15Celled_j1 true else spec_l15Celled_j1 (kind == 7))))
def spec_l1Byte_j1 (c : L1Cur) (x1 x2 : Int) : Option (Int × (Int × Int)) :=
  some (x1, (x2, w64 ((w64 (c.h * 6364136223846793005)) + 1442695040888963407)))
def spec_l1Byte (c : L1Cur) : Option (Int × (Int × Int)) :=
  (if decide (c.i < (c.b.length : Int)) then (idx c.b c.i).bind fun x3 => spec_l1Byte_j1 c (bitsOp .and .i64 (w64 ((bitsOp .and .i64 (bitsOp .xor .i64 (shrOp .i64 (w64 ((w64 (c.h * 6364136223846793005)) + 1442695040888963407)) 33) (shrOp .i64 (w64 ((w64 (c.h * 6364136223846793005)) + 1442695040888963407)) 45)) 255) + (x3.toNat : Int))) 255) (w64 (c.i + 1)) else spec_l1Byte_j1 c (bitsOp .and .i64 (bitsOp .xor .i64 (shrOp .i64 (w64 ((w64 (c.h * 6364136223846793005)) + 1442695040888963407)) 33) (shrOp .i64 (w64 ((w64 (c.h * 6364136223846793005)) + 1442695040888963407)) 45)) 255) c.i)
def spec_l1Below (c : L1Cur) (n : Int) : Option (Int × (Int × Int)) :=
  (if decide (n ≤ 0) then some (0, (c.i, c.h)) else (if decide (n ≤ 256) then (spec_l1Byte c).bind fun x1 => need (n ≠ 0) (some (Int.tmod x1.1 n, (x1.2.1, x1.2.2))) else (spec_l1Byte c).bind fun x2 => (spec_l1Byte (⟨c.b, x2.2.1, x2.2.2⟩ : L1Cur)).bind fun x3 => (spec_l1Byte (⟨c.b, x3.2.1, x3.2.2⟩ : L1Cur)).bind fun x4 => (spec_l1Byte (⟨c.b, x4.2.1, x4.2.2⟩ : L1Cur)).bind fun x5 => need (n ≠ 0) (some (Int.tmod (w64 ((w64 ((w64 ((w64 (x2.1 * 16777216)) + (w64 (x3.1 * 65536)))) + (w64 (x4.1 * 256)))) + x5.1)) n, (x5.2.1, x5.2.2)))))
def spec_l1PickInt (c : L1Cur) (list : List Int) : Option (Int × (Int × Int)) :=
  (spec_l1Below c (list.length : Int)).bind fun x1 => (idx list x1.1).bind fun x2 => some (x2, (x1.2.1, x1.2.2))
def spec_l1Once (c : L1Cur) (n : Int) : Option (Bool × (Int × Int)) :=
  (spec_l1Below c n).bind fun x1 => some (x1.1 == 0, (x1.2.1, x1.2.2))
def spec_l15Op_j2 (x1 : Int × (Int × Int)) (x4 x5 x6 x7 x8 : Int) : Option (GOp × (Int × Int)) :=
  some ((⟨x1.1, x4, x7, x8⟩ : GOp), (x5, x6))
def spec_l15Op_j3 (c : L1Cur) (x1 : Int × (Int × Int)) (x4 x10 x11 x12 : Int) : Option (GOp × (Int × Int)) :=
  (spec_l1Below (⟨c.b, x10, x11⟩ : L1Cur) 60000).bind fun x13 => spec_l15Op_j2 x1 x4 x13.2.1 x13.2.2 x12 x13.1
def spec_l15Op_j1 (c : L1Cur) (x1 : Int × (Int × Int)) (x2 x3 x4 : Int) : Option (GOp × (Int × Int)) :=
  (if x1.1 == 1 then (spec_l1Below (⟨c.b, x2, x3⟩ : L1Cur) 40).bind fun x9 => (spec_l1Once (⟨c.b, x9.2.1, x9.2.2⟩ : L1Cur) 12).bind fun x14 => (if x14.1 then (spec_l1PickInt (⟨c.b, x14.2.1, x14.2.2⟩ : L1Cur) ([0, 41, 100] : List Int)).bind fun x15 => spec_l15Op_j3 c x1 x4 x15.2.1 x15.2.2 x15.1 else spec_l15Op_j3 c x1 x4 x14.2.1 x14.2.2 (w64 (1 + x9.1))) else spec_l15Op_j2 x1 x4 x2 x3 0 0)
def spec_l15Op (c : L1Cur) : Option (GOp × (Int × Int)) :=
  (spec_l1PickInt c ([1, 1, 1, 2, 2, 3, 3, 4, 4, 5, 6, 7, 7] : List Int)).bind fun x1 => (spec_l15Celled x1.1).bind fun x16 => (if x16 then (spec_l1PickInt (⟨c.b, x1.2.1, x1.2.2⟩ : L1Cur) ([0, 0, 0, 1] : List Int)).bind fun x17 => spec_l15Op_j1 c x1 x17.2.1 x17.2.2 x17.1 else spec_l15Op_j1 c x1 x1.2.1 x1.2.2 0)
def spec_DrawOpOk_j1 (x3 : GOp) : Option GOp :=
  some x3
def spec_DrawOpOk (code : List UInt8) : Option GOp :=
  (spec_l1New code).bind fun x1 => (spec_l15Op (⟨code, x1.1, x1.2⟩ : L1Cur)).bind fun x2 => (spec_l1Below (⟨code, x2.2.1, x2.2.2⟩ : L1Cur) 8).bind fun x4 => (if x4.1 == 0 then (spec_l1Below (⟨code, x4.2.1, x4.2.2⟩ : L1Cur) 10).bind fun x5 => spec_DrawOpOk_j1 (⟨w64 (x5.1 - 1), x2.1.Cell, x2.1.Size, x2.1.Val⟩ : GOp) else (if x4.1 == 1 then (spec_l1Below (⟨code, x4.2.1, x4.2.2⟩ : L1Cur) 4).bind fun x6 => spec_DrawOpOk_j1 (⟨x2.1.Kind, w64 (x6.1 - 1), x2.1.Size, x2.1.Val⟩ : GOp) else (if x4.1 == 2 then (spec_l1PickInt (⟨code, x4.2.1, x4.2.2⟩ : L1Cur) ([(-1), 0, 100, 101, 5] : List Int)).bind fun x7 => spec_DrawOpOk_j1 (⟨x2.1.Kind, x2.1.Cell, x7.1, x2.1.Val⟩ : GOp) else (if x4.1 == 3 then (spec_l1PickInt (⟨code, x4.2.1, x4.2.2⟩ : L1Cur) ([(-1), 65535, 65536, 3] : List Int)).bind fun x8 => spec_DrawOpOk_j1 (⟨x2.1.Kind, x2.1.Cell, x2.1.Size, x8.1⟩ : GOp) else spec_DrawOpOk_j1 x2.1))))
def spec_DrawShowOp (code : List UInt8) : Option GOp :=
  (spec_DrawOpOk code).bind fun x1 => some x1
def impl_within_j1 (x1 : Bool) : Option Bool :=
  some x1
def impl_within (n low high : Int) : Option Bool :=
  (if decide (low ≤ n) then impl_within_j1 (decide (n ≤ high)) else impl_within_j1 false)
def impl_OpOk_j3 (x4 : Bool) : Option Bool :=
  some x4
def impl_OpOk_j4 (x7 : Bool) : Option Bool :=
  some x7
def impl_OpOk_j2 (o_ : GOp) (x3 : Bool) : Option Bool :=
  (if x3 then some false else (if o_.Kind == 1 then (impl_within o_.Size 0 100).bind fun x5 => (if x5 then (impl_within o_.Val 0 65535).bind fun x6 => impl_OpOk_j3 x6 else impl_OpOk_j3 false) else (if o_.Size == 0 then impl_OpOk_j4 (o_.Val == 0) else impl_OpOk_j4 false)))
def impl_OpOk_j1 (o_ : GOp) (x1 : Bool) : Option Bool :=
  (impl_within o_.Kind 1 7).bind fun x2 => (if !x2 then some false else (if x1 then (impl_within o_.Cell 0 1).bind fun x8 => (if !x8 then impl_OpOk_j2 o_ true else impl_OpOk_j2 o_ false) else impl_OpOk_j2 o_ (o_.Cell != 0)))
def impl_OpOk (o_ : GOp) : Option Bool :=
  (if o_.Kind == 1 then impl_OpOk_j1 o_ true else (if o_.Kind == 2 then impl_OpOk_j1 o_ true else (if o_.Kind == 3 then impl_OpOk_j1 o_ true else impl_OpOk_j1 o_ (o_.Kind == 7))))
def impl_OpWord (kind : Int) : Option (List UInt8) :=
  (impl_within kind 1 7).bind fun x1 => (if !x1 then some ([]) else (idx ([[115, 101, 116], [103, 101, 116], [104, 97, 122], [99, 111, 108, 108, 101, 99, 116], [112, 105, 110], [117, 110, 112, 105, 110], [112, 101, 101, 107]] : List (List UInt8)) (w64 (kind - 1))).bind fun x2 => some x2)
/-! ### Texts: words, numbers, commands -/
def rdDec (l : List UInt8) : Int × Bool := match Lib.atoiAll l with
  | .ok v => if Lib.itoa v = l ∧ (Lib.trimPrefix l [45]).length ≤ 9 then (v, true) else (0, false)
  | _ => (0, false)
def numL (W : List (List UInt8)) (j : Nat) : Int := (rdDec (W.getD j [])).1
def wordsL (s : List UInt8) : List (List UInt8) := Lib.split s [32]
def decsL : List Int → List UInt8
  | [] => []
  | n :: r => 32 :: Lib.itoa n ++ decsL r
def wordC (k : Int) : List UInt8 := if k = 1 then [103, 101, 116] else if k = 2 then [112, 117, 116] else if k = 3 then [100, 101, 108] else [97, 100, 100]
def shCmd (ok : Bool) (k a b : Int) : List UInt8 := if ok then wordC k ++ decsL (if k = 2 ∨ k = 4 then [a, b] else [a]) else []
def kindC (s : List UInt8) : Int := if (wordsL s).getD 0 [] = [103, 101, 116] then 1 else if (wordsL s).getD 0 [] = [112, 117, 116] then 2 else if (wordsL s).getD 0 [] = [100, 101, 108] then 3 else if (wordsL s).getD 0 [] = [97, 100, 100] then 4 else 0
def tryOp (sh : Int → Int → Int → Int → Option (List UInt8)) (s : List UInt8) (a b c : Int) : List Int → Option (Option Int)
  | [] => some none
  | k :: r => if s = [] then tryOp sh s a b c r else (sh k a b c).bind fun t => if t = s then some (some k) else tryOp sh s a b c r
def impl_decs (l : List Int) : Option (List UInt8) :=
  need (l.length ≤ 1000 ∧ ∀ n ∈ l, -9223372036854775808 ≤ n ∧ n ≤ 9223372036854775807) (some (decsL l))
def impl_ShowOp_j1 (x2 : List UInt8) : Option (List UInt8) :=
  some x2
def impl_ShowOp_j3 (x6 : List UInt8) : Option (List UInt8) :=
  some x6
def impl_ShowOp_j2 (o_ : GOp) (x5 : Bool) : Option (List UInt8) :=
  (if x5 then (impl_OpWord o_.Kind).bind fun x7 => (impl_decs ([o_.Cell])).bind fun x8 => need (x7.length + x8.length ≤ 9223372036854775807) <| impl_ShowOp_j3 (x7 ++ x8) else (impl_OpWord o_.Kind).bind fun x9 => some x9)
def impl_ShowOp (o_ : GOp) : Option (List UInt8) :=
  (impl_OpOk o_).bind fun x1 => (if !x1 then some ([]) else (if o_.Kind == 1 then (impl_OpWord o_.Kind).bind fun x3 => (impl_decs ([o_.Cell, o_.Size, o_.Val] : List Int)).bind fun x4 => need (x3.length + x4.length ≤ 9223372036854775807) <| impl_ShowOp_j1 (x3 ++ x4) else (if o_.Kind == 2 then impl_ShowOp_j2 o_ true else (if o_.Kind == 3 then impl_ShowOp_j2 o_ true else impl_ShowOp_j2 o_ (o_.Kind == 7)))))
def impl_ReadOp (s : List UInt8) : Option (GOp × Bool) :=
  need (s.length < 4294967281) ((tryOp (fun k a b c => impl_ShowOp ⟨k, a, b, c⟩) s (numL (wordsL s) 1) (numL (wordsL s) 2) (numL (wordsL s) 3) [1, 2, 3, 4, 5, 6, 7]).bind fun o => some (match o with | some k => (⟨k, numL (wordsL s) 1, numL (wordsL s) 2, numL (wordsL s) 3⟩, true) | none => (⟨0, 0, 0, 0⟩, false)))
def spec_l21Cmd_j1 (x1 x2 : Int × (Int × Int)) (x3 x4 x5 : Int) : Option (Cmd × (Int × Int)) :=
  some ((⟨x1.1, x2.1, x5⟩ : Cmd), (x3, x4))
def spec_l21Cmd_j2 (c : L1Cur) (x1 x2 : Int × (Int × Int)) (x6 : Bool) : Option (Cmd × (Int × Int)) :=
  (if x6 then (spec_l1Below (⟨c.b, x2.2.1, x2.2.2⟩ : L1Cur) 60000).bind fun x7 => (spec_l1PickInt (⟨c.b, x7.2.1, x7.2.2⟩ : L1Cur) ([1, 65535, x7.1] : List Int)).bind fun x8 => spec_l21Cmd_j1 x1 x2 x8.2.1 x8.2.2 x8.1 else spec_l21Cmd_j1 x1 x2 x2.2.1 x2.2.2 0)
def spec_l21Cmd (c : L1Cur) : Option (Cmd × (Int × Int)) :=
  (spec_l1PickInt c ([1, 1, 2, 2, 3, 4, 4] : List Int)).bind fun x1 => (spec_l1Below (⟨c.b, x1.2.1, x1.2.2⟩ : L1Cur) 6).bind fun x2 => (if x1.1 == 2 then spec_l21Cmd_j2 c x1 x2 true else spec_l21Cmd_j2 c x1 x2 (x1.1 == 4))
def spec_l21Any_j1 (x2 x3 x4 x5 x6 : Int) : Option (Cmd × (Int × Int)) :=
  some ((⟨x4, x5, x6⟩ : Cmd), (x2, x3))
def spec_l21Any (c : L1Cur) : Option (Cmd × (Int × Int)) :=
  (spec_l21Cmd c).bind fun x1 => (spec_l1Below (⟨c.b, x1.2.1, x1.2.2⟩ : L1Cur) 14).bind fun x7 => (if x7.1 == 0 then (spec_l1PickInt (⟨c.b, x7.2.1, x7.2.2⟩ : L1Cur) ([0, 5] : List Int)).bind fun x8 => spec_l21Any_j1 x8.2.1 x8.2.2 x8.1 x1.1.Key x1.1.Val else (if x7.1 == 1 then (spec_l1PickInt (⟨c.b, x7.2.1, x7.2.2⟩ : L1Cur) ([(-1), 99, 100] : List Int)).bind fun x9 => spec_l21Any_j1 x9.2.1 x9.2.2 x1.1.Kind x9.1 x1.1.Val else (if x7.1 == 2 then (spec_l1PickInt (⟨c.b, x7.2.1, x7.2.2⟩ : L1Cur) ([(-1), 65536, 1, 0] : List Int)).bind fun x10 => spec_l21Any_j1 x10.2.1 x10.2.2 x1.1.Kind x1.1.Key x10.1 else spec_l21Any_j1 x7.2.1 x7.2.2 x1.1.Kind x1.1.Key x1.1.Val)))
def spec_DrawShowCmd (code : List UInt8) : Option Cmd :=
  (spec_l1New code).bind fun x1 => (spec_l21Any (⟨code, x1.1, x1.2⟩ : L1Cur)).bind fun x2 => some x2.1
def impl_CmdOk_j2 (x2 : Bool) : Option Bool :=
  some x2
def impl_CmdOk_j1 (c : Cmd) (x1 : Bool) : Option Bool :=
  (impl_within c.Kind 1 4).bind fun x3 => (if x3 then (impl_within c.Key 0 99).bind fun x4 => (if x4 then (if x1 then (impl_within c.Val 0 65535).bind fun x5 => (if x5 then impl_CmdOk_j2 true else impl_CmdOk_j2 (c.Val == 0)) else impl_CmdOk_j2 (c.Val == 0)) else impl_CmdOk_j2 false) else impl_CmdOk_j2 false)
def impl_CmdOk (c : Cmd) : Option Bool :=
  (if c.Kind == 2 then impl_CmdOk_j1 c true else impl_CmdOk_j1 c (c.Kind == 4))
def impl_ShowCmd (c : Cmd) : Option (List UInt8) :=
  (impl_CmdOk c).bind fun ok => need (ok = true → (1 ≤ c.Kind ∧ c.Kind ≤ 4) ∧ (-9223372036854775808 ≤ c.Key ∧ c.Key ≤ 9223372036854775807) ∧ -9223372036854775808 ≤ c.Val ∧ c.Val ≤ 9223372036854775807) (some (shCmd ok c.Kind c.Key c.Val))
def impl_ReadCmd (s : List UInt8) : Option (Cmd × Bool) :=
  need (s.length < 4294967281) ((impl_ShowCmd ⟨kindC s, numL (wordsL s) 1, numL (wordsL s) 2⟩).bind fun t => some (if s ≠ [] ∧ t = s then (⟨kindC s, numL (wordsL s) 1, numL (wordsL s) 2⟩, true) else (⟨0, 0, 0⟩, false)))
def spec_l23Draw_j1 (x11 x12 : Int) (x13 : List Cmd) : Option (Batch × (Int × Int)) :=
  some ((⟨false, x13⟩ : Batch), (x11, x12))
def spec_l23Draw_j2 (x7 x14 x15 : Int) (x16 : List Cmd) : Option (Step (Int × Int × Int × (List Cmd)) (Int × Int × (List Cmd))) :=
  some (.next (w64 (x7 - 1), x14, x15, x16))
def spec_l23Draw_l1 (c : L1Cur) : (Int × Int × Int × (List Cmd)) → Option (Step (Int × Int × Int × (List Cmd)) (Int × Int × (List Cmd)))
  | (x7, x8, x9, x10) => (if decide (0 < x7) then (spec_l21Cmd (⟨c.b, x8, x9⟩ : L1Cur)).bind fun x17 => need (x10.length + ([x17.1]).length ≤ 1073741824) <| spec_l23Draw_j2 x7 x17.2.1 x17.2.2 (x10 ++ ([x17.1])) else some (.stop ((x8, x9, x10))))
def spec_l23Draw_m1 : (Int × Int × (List Cmd)) → Option (Batch × (Int × Int))
  | (x11, x12, x13) => spec_l23Draw_j1 x11 x12 x13
def spec_l23Draw (c : L1Cur) : Option (Batch × (Int × Int)) :=
  (spec_l1Once c 4).bind fun x1 => (if x1.1 then some ((⟨true, []⟩ : Batch), (x1.2.1, x1.2.2)) else (spec_l1Below (⟨c.b, x1.2.1, x1.2.2⟩ : L1Cur) 3).bind fun x2 => (loop (spec_l23Draw_l1 c) (w64 (1 + x2.1), x2.2.1, x2.2.2, [])).bind (spec_l23Draw_m1))
def spec_DrawBatchOk_j1 (x3 : Bool) (x4 : List Cmd) : Option Batch :=
  some (⟨x3, x4⟩ : Batch)
def spec_DrawBatchOk_j2 (x2 : Batch × (Int × Int)) (x6 : List Cmd) : Option Batch :=
  spec_DrawBatchOk_j1 x2.1.Collect x6
def spec_DrawBatchOk_j3 (x2 : Batch × (Int × Int)) (x14 : List Cmd) : Option Batch :=
  spec_DrawBatchOk_j1 x2.1.Collect x14
def spec_DrawBatchOk_j4 (x16 x17 : Int) (x18 : List Cmd) : Option (Step (Int × Int × (List Cmd)) (List Cmd)) :=
  some (.next (x16, x17, x18))
def spec_DrawBatchOk_l3 (code : List UInt8) : (Int × Int × (List Cmd)) → Option (Step (Int × Int × (List Cmd)) (List Cmd))
  | (x11, x12, x13) => (spec_l1Below (⟨code, x11, x12⟩ : L1Cur) 2).bind fun x15 => (if decide ((x13.length : Int) < (w64 (6 + x15.1))) then (spec_l21Cmd (⟨code, x15.2.1, x15.2.2⟩ : L1Cur)).bind fun x19 => need (x13.length + ([x19.1]).length ≤ 1073741824) <| spec_DrawBatchOk_j4 x19.2.1 x19.2.2 (x13 ++ ([x19.1])) else some (.stop (x13)))
def spec_DrawBatchOk_m3 (x2 : Batch × (Int × Int)) : (List Cmd) → Option Batch
  | x14 => spec_DrawBatchOk_j3 x2 x14
def spec_DrawBatchOk (code : List UInt8) : Option Batch :=
  (spec_l1New code).bind fun x1 => (spec_l23Draw (⟨code, x1.1, x1.2⟩ : L1Cur)).bind fun x2 => (spec_l1Below (⟨code, x2.2.1, x2.2.2⟩ : L1Cur) 8).bind fun x5 => (if x5.1 == 0 then (spec_l21Any (⟨code, x5.2.1, x5.2.2⟩ : L1Cur)).bind fun x7 => need (x2.1.Cmds.length + ([x7.1]).length ≤ 1073741824) <| spec_DrawBatchOk_j2 x2 (x2.1.Cmds ++ ([x7.1])) else (if x5.1 == 1 then (loop (spec_DrawBatchOk_l3 code) (x5.2.1, x5.2.2, x2.1.Cmds)).bind (spec_DrawBatchOk_m3 x2) else (if x5.1 == 2 then spec_DrawBatchOk_j1 (!x2.1.Collect) x2.1.Cmds else spec_DrawBatchOk_j1 x2.1.Collect x2.1.Cmds)))
def spec_DrawShowBatch (code : List UInt8) : Option Batch :=
  (spec_DrawBatchOk code).bind fun x1 => some x1
def slices_IndexFunc_Cmd_j1 : Option Int :=
  some (-1)
def slices_IndexFunc_Cmd_l1 (s : List Cmd) (f : (Cmd → Option Bool)) : Int → Option (Step Int (Out Unit Int))
  | x2 => (if decide (x2 < (s.length : Int)) then (idx s x2).bind fun x3 => (f x3).bind fun x4 => (if x4 then some (.stop (Out.ret x2)) else some (.next (w64 (x2 + 1)))) else some (.stop (Out.brk ())))
def slices_IndexFunc_Cmd_m1 : (Out Unit Int) → Option Int
  | .brk () => slices_IndexFunc_Cmd_j1
  | .ret r => some r
def slices_IndexFunc_Cmd (s : List Cmd) (f : (Cmd → Option Bool)) : Option Int :=
  (loop (slices_IndexFunc_Cmd_l1 s f) 0).bind (slices_IndexFunc_Cmd_m1)
def slices_ContainsFunc_Cmd (s : List Cmd) (f : (Cmd → Option Bool)) : Option Bool :=
  (slices_IndexFunc_Cmd s f).bind fun x1 => some (decide (0 ≤ x1))
def impl_BatchOk_1 (c : Cmd) : Option Bool :=
  (impl_CmdOk c).bind fun x1 => some (!x1)
def impl_BatchOk_j1 (x1 : Bool) : Option Bool :=
  some x1
def impl_BatchOk (b : Batch) : Option Bool :=
  (if b.Collect then some ((b.Cmds.length : Int) == 0) else (impl_within (b.Cmds.length : Int) 1 6).bind fun x2 => (if x2 then (slices_ContainsFunc_Cmd b.Cmds (fun y0 => impl_BatchOk_1 y0 )).bind fun x3 => impl_BatchOk_j1 (!x3) else impl_BatchOk_j1 false))
def strings_Join (l : List GStr) (sep : List UInt8) : Option (List UInt8) :=
  need (l.length ≤ 1000 ∧ (Lib.join (l.map GStr.b) sep).length ≤ 140737488355328) (some (Lib.join (l.map GStr.b) sep))
def impl_ShowBatch_j1 (x6 : List GStr) : Option (List UInt8) :=
  (strings_Join x6 ([59])).bind fun x7 => some x7
def impl_ShowBatch_l1 (b : Batch) : ((List GStr) × Int) → Option (Step ((List GStr) × Int) (List GStr))
  | (x4, x5) => (if decide (x5 < (b.Cmds.length : Int)) then (idx b.Cmds x5).bind fun x8 => (impl_ShowCmd x8).bind fun x9 => need (x4.length + ([(⟨x9⟩ : GStr)]).length ≤ 1073741824) (some (.next (x4 ++ ([(⟨x9⟩ : GStr)]), w64 (x5 + 1)))) else some (.stop (x4)))
def impl_ShowBatch_m1 : (List GStr) → Option (List UInt8)
  | x6 => impl_ShowBatch_j1 x6
def impl_ShowBatch (b : Batch) : Option (List UInt8) :=
  (impl_BatchOk b).bind fun x1 => (if !x1 then some ([]) else (if b.Collect then some ([99, 111, 108, 108, 101, 99, 116]) else (loop (impl_ShowBatch_l1 b) (([] : List GStr), 0)).bind (impl_ShowBatch_m1)))
def strings_SplitN (s sep : List UInt8) (n : Int) : Option (List GStr) :=
  need (s.length < 4294967281 ∧ 1 ≤ sep.length ∧ 1 ≤ n ∧ n ≤ 1000) (some ((Lib.splitK sep 0 (min n.toNat (s.length + 1) - 1) s).map GStr.mk))
def impl_ReadBatch_j1 (x6 : List Cmd) : Option (Batch × Bool) :=
  (impl_BatchOk (⟨false, x6⟩ : Batch)).bind fun x7 => (if !x7 then some ((⟨false, []⟩ : Batch), false) else some ((⟨false, x6⟩ : Batch), true))
def impl_ReadBatch_l1 (x1 : List GStr) : (Int × (List Cmd)) → Option (Step (Int × (List Cmd)) (Out (List Cmd) (Batch × Bool)))
  | (x4, x5) => (if decide (x4 < (x1.length : Int)) then (idx x1 x4).bind fun x8 => (impl_ReadCmd x8.b).bind fun x9 => (if !x9.2 then some (.stop (Out.ret ((⟨false, []⟩ : Batch), false))) else need (x5.length + ([x9.1]).length ≤ 1073741824) (some (.next (w64 (x4 + 1), x5 ++ ([x9.1]))))) else some (.stop (Out.brk x5)))
def impl_ReadBatch_m1 : (Out (List Cmd) (Batch × Bool)) → Option (Batch × Bool)
  | .brk x6 => impl_ReadBatch_j1 x6
  | .ret r => some r
def impl_ReadBatch (s : List UInt8) : Option (Batch × Bool) :=
  (if s == ([99, 111, 108, 108, 101, 99, 116]) then some ((⟨true, []⟩ : Batch), true) else (strings_SplitN s ([59]) 7).bind fun x1 => (loop (impl_ReadBatch_l1 x1) (0, [])).bind (impl_ReadBatch_m1))
def spec_l1In_j1 (x1 : Bool) : Option Bool :=
  some x1
def spec_l1In (x low high : Int) : Option Bool :=
  (if decide (low ≤ x) then spec_l1In_j1 (decide (x ≤ high)) else spec_l1In_j1 false)
def spec_OpOk_j2 (x3 : Bool) : Option Bool :=
  some x3
def spec_OpOk_j3 (x4 : Bool) : Option Bool :=
  some x4
def spec_OpOk_j1 (o_ : GOp) (x2 : Bool) : Option Bool :=
  (if x2 then some false else (if o_.Kind != 1 then (if o_.Size == 0 then spec_OpOk_j2 (o_.Val == 0) else spec_OpOk_j2 false) else (spec_l1In o_.Size 0 100).bind fun x5 => (if x5 then (spec_l1In o_.Val 0 65535).bind fun x6 => spec_OpOk_j3 x6 else spec_OpOk_j3 false)))
def spec_OpOk (o_ : GOp) : Option Bool :=
  (spec_l1In o_.Kind 1 7).bind fun x1 => (if !x1 then some false else (spec_l15Celled o_.Kind).bind fun x7 => (if !x7 then (if o_.Cell != 0 then spec_OpOk_j1 o_ true else (spec_l1In o_.Cell 0 1).bind fun x8 => spec_OpOk_j1 o_ (!x8)) else (spec_l1In o_.Cell 0 1).bind fun x9 => spec_OpOk_j1 o_ (!x9)))
def spec_CmdOk_j2 (c : Cmd) (x2 : Bool) : Option Bool :=
  (if x2 then (spec_l1In c.Val 0 65535).bind fun x3 => some x3 else some (c.Val == 0))
def spec_CmdOk_j1 (c : Cmd) (x1 : Bool) : Option Bool :=
  (if x1 then some false else (if c.Kind == 2 then spec_CmdOk_j2 c true else spec_CmdOk_j2 c (c.Kind == 4)))
def spec_CmdOk (c : Cmd) : Option Bool :=
  (spec_l1In c.Kind 1 4).bind fun x4 => (if !x4 then spec_CmdOk_j1 c true else (spec_l1In c.Key 0 99).bind fun x5 => spec_CmdOk_j1 c (!x5))
def spec_BatchOk_j1 (b : Batch) : Option Bool :=
  (spec_l1In (b.Cmds.length : Int) 1 6).bind fun x3 => some x3
def spec_BatchOk_l1 (b : Batch) : Int → Option (Step Int (Out Unit Bool))
  | x2 => (if decide (x2 < (b.Cmds.length : Int)) then (idx b.Cmds x2).bind fun x4 => (spec_CmdOk x4).bind fun x5 => (if !x5 then some (.stop (Out.ret false)) else some (.next (w64 (x2 + 1)))) else some (.stop (Out.brk ())))
def spec_BatchOk_m1 (b : Batch) : (Out Unit Bool) → Option Bool
  | .brk () => spec_BatchOk_j1 b
  | .ret r => some r
def spec_BatchOk (b : Batch) : Option Bool :=
  (if b.Collect then some ((b.Cmds.length : Int) == 0) else (loop (spec_BatchOk_l1 b) 0).bind (spec_BatchOk_m1 b))
def spec_OpWord (kind : Int) : Option (List UInt8) :=
  (spec_l1In kind 1 7).bind fun x1 => (if !x1 then some ([]) else (idx ([(⟨[115, 101, 116]⟩ : GStr), (⟨[103, 101, 116]⟩ : GStr), (⟨[104, 97, 122]⟩ : GStr), (⟨[99, 111, 108, 108, 101, 99, 116]⟩ : GStr), (⟨[112, 105, 110]⟩ : GStr), (⟨[117, 110, 112, 105, 110]⟩ : GStr), (⟨[112, 101, 101, 107]⟩ : GStr)] : List GStr) (w64 (kind - 1))).bind fun x2 => some x2.b)
def spec_Dec_j1 (n : Int) (x5 : List UInt8) : Option (List UInt8) :=
  (if decide (n < 0) then need (([45]).length + x5.length ≤ 9223372036854775807) (some (([45]) ++ x5)) else some x5)
def spec_Dec_j2 (x3 : Int) (x4 : List UInt8) (x6 : Int) : Option (Step (Int × (List UInt8)) (List UInt8)) :=
  need (([u8 (w64 (48 + x6))]).length + x4.length ≤ 9223372036854775807) (some (.next (w64 (Int.tdiv x3 10), ([u8 (w64 (48 + x6))]) ++ x4)))
def spec_Dec_l1 : (Int × (List UInt8)) → Option (Step (Int × (List UInt8)) (List UInt8))
  | (x3, x4) => (if x3 != 0 then (if decide ((Int.tmod x3 10) < 0) then spec_Dec_j2 x3 x4 (IntKind.i64.wrap (0 - (Int.tmod x3 10))) else spec_Dec_j2 x3 x4 (Int.tmod x3 10)) else some (.stop (x4)))
def spec_Dec_m1 (n : Int) : (List UInt8) → Option (List UInt8)
  | x5 => spec_Dec_j1 n x5
def spec_Dec (n : Int) : Option (List UInt8) :=
  (if n == 0 then some ([48]) else (loop (spec_Dec_l1) (n, [])).bind (spec_Dec_m1 n))
def spec_ShowOp_j2 (x4 : List UInt8) : Option (List UInt8) :=
  some x4
def spec_ShowOp_j1 (o_ : GOp) (x3 : List UInt8) : Option (List UInt8) :=
  (if o_.Kind == 1 then need (x3.length + ([32]).length ≤ 9223372036854775807) ((spec_Dec o_.Size).bind fun x5 => need ((x3 ++ ([32])).length + x5.length ≤ 9223372036854775807) (need (((x3 ++ ([32])) ++ x5).length + ([32]).length ≤ 9223372036854775807) ((spec_Dec o_.Val).bind fun x6 => need ((((x3 ++ ([32])) ++ x5) ++ ([32])).length + x6.length ≤ 9223372036854775807) (spec_ShowOp_j2 ((((x3 ++ ([32])) ++ x5) ++ ([32])) ++ x6))))) else spec_ShowOp_j2 x3)
def spec_ShowOp (o_ : GOp) : Option (List UInt8) :=
  (spec_OpOk o_).bind fun x1 => (if !x1 then some ([]) else (spec_OpWord o_.Kind).bind fun x2 => (spec_l15Celled o_.Kind).bind fun x7 => (if x7 then need (x2.length + ([32]).length ≤ 9223372036854775807) ((spec_Dec o_.Cell).bind fun x8 => need ((x2 ++ ([32])).length + x8.length ≤ 9223372036854775807) (spec_ShowOp_j1 o_ ((x2 ++ ([32])) ++ x8))) else spec_ShowOp_j1 o_ x2))
def spec_l1Text_j1 (x11 : List UInt8) (x12 x13 : Int) : Option ((List UInt8) × (Int × Int)) :=
  some (x11, (x12, x13))
def spec_l1Text_j3 (x7 : List UInt8) (x8 : Int) (x14 : Int × (Int × Int)) (x16 : Int) : Option (Step ((List UInt8) × Int × Int × Int) ((List UInt8) × Int × Int)) :=
  need (x7.length + ([u8 x16]).length ≤ 1073741824) (some (.next (x7 ++ ([u8 x16]), w64 (x8 - 1), x14.2.1, x14.2.2)))
def spec_l1Text_j2 (x1 : Int × (Int × Int)) (x7 : List UInt8) (x8 : Int) (x14 : Int × (Int × Int)) (x15 : Int) : Option (Step ((List UInt8) × Int × Int × Int) ((List UInt8) × Int × Int)) :=
  (if x1.1 == 2 then spec_l1Text_j3 x7 x8 x14 (w64 (97 + (Int.tmod x15 4))) else spec_l1Text_j3 x7 x8 x14 x15)
def spec_l1Text_l1 (c : L1Cur) (x1 : Int × (Int × Int)) : ((List UInt8) × Int × Int × Int) → Option (Step ((List UInt8) × Int × Int × Int) ((List UInt8) × Int × Int))
  | (x7, x8, x9, x10) => (if decide (0 < x8) then (spec_l1Byte (⟨c.b, x9, x10⟩ : L1Cur)).bind fun x14 => (if x1.1 == 1 then spec_l1Text_j2 x1 x7 x8 x14 (Int.tmod x14.1 2) else spec_l1Text_j2 x1 x7 x8 x14 x14.1) else some (.stop ((x7, x9, x10))))
def spec_l1Text_m1 : ((List UInt8) × Int × Int) → Option ((List UInt8) × (Int × Int))
  | (x11, x12, x13) => spec_l1Text_j1 x11 x12 x13
def spec_l1Text (c : L1Cur) (most : Int) : Option ((List UInt8) × (Int × Int)) :=
  (spec_l1Below c 4).bind fun x1 => (spec_l1Below (⟨c.b, x1.2.1, x1.2.2⟩ : L1Cur) (w64 (most + 1))).bind fun x2 => (loop (spec_l1Text_l1 c x1) (([] : List UInt8), x2.1, x2.2.1, x2.2.2)).bind (spec_l1Text_m1)
def spec_l1Spoil (c : L1Cur) (s : List UInt8) : Option ((List UInt8) × (Int × Int)) :=
  (if (s.length : Int) == 0 then (spec_l1Text c 3).bind fun x1 => some (x1.1, (x1.2.1, x1.2.2)) else (spec_l1Below c (s.length : Int)).bind fun x2 => (spec_l1Below (⟨c.b, x2.2.1, x2.2.2⟩ : L1Cur) 4).bind fun x3 => (if x3.1 == 0 then need (0 ≤ (x2.1 : Int) ∧ (x2.1 : Int) ≤ (s.length : Int)) (need (0 ≤ (w64 (x2.1 + 1) : Int) ∧ (w64 (x2.1 + 1) : Int) ≤ (s.length : Int)) (need ((s.take (x2.1.toNat)).length + (s.drop ((w64 (x2.1 + 1)).toNat)).length ≤ 9223372036854775807) (some ((s.take (x2.1.toNat)) ++ (s.drop ((w64 (x2.1 + 1)).toNat)), (x3.2.1, x3.2.2))))) else (if x3.1 == 1 then need (0 ≤ (x2.1 : Int) ∧ (x2.1 : Int) ≤ (s.length : Int)) (need (0 ≤ (x2.1 : Int) ∧ (x2.1 : Int) ≤ (s.length : Int)) ((spec_l1Byte (⟨c.b, x3.2.1, x3.2.2⟩ : L1Cur)).bind fun x4 => need ((s.take (x2.1.toNat)).length + ([u8 x4.1]).length ≤ 9223372036854775807) (need (((s.take (x2.1.toNat)) ++ ([u8 x4.1])).length + (s.drop (x2.1.toNat)).length ≤ 9223372036854775807) (some (((s.take (x2.1.toNat)) ++ ([u8 x4.1])) ++ (s.drop (x2.1.toNat)), (x4.2.1, x4.2.2)))))) else (if x3.1 == 2 then need (0 ≤ (x2.1 : Int) ∧ (x2.1 : Int) ≤ (s.length : Int)) (some (s.take (x2.1.toNat), (x3.2.1, x3.2.2))) else need (0 ≤ (x2.1 : Int) ∧ (x2.1 : Int) ≤ (s.length : Int)) ((idx s x2.1).bind fun x5 => need (0 ≤ (w64 (x2.1 + 1) : Int) ∧ (w64 (x2.1 + 1) : Int) ≤ (s.length : Int)) ((spec_l1Below (⟨c.b, x3.2.1, x3.2.2⟩ : L1Cur) 255).bind fun x6 => need ((s.take (x2.1.toNat)).length + ([u8 (bitsOp .xor .i64 (x5.toNat : Int) (w64 (1 + x6.1)))]).length ≤ 9223372036854775807) (need (((s.take (x2.1.toNat)) ++ ([u8 (bitsOp .xor .i64 (x5.toNat : Int) (w64 (1 + x6.1)))])).length + (s.drop ((w64 (x2.1 + 1)).toNat)).length ≤ 9223372036854775807) (some (((s.take (x2.1.toNat)) ++ ([u8 (bitsOp .xor .i64 (x5.toNat : Int) (w64 (1 + x6.1)))])) ++ (s.drop ((w64 (x2.1 + 1)).toNat)), (x6.2.1, x6.2.2))))))))))
def spec_l1Pick (c : L1Cur) (list : List GStr) : Option ((List UInt8) × (Int × Int)) :=
  (spec_l1Below c (list.length : Int)).bind fun x1 => (idx list x1.1).bind fun x2 => some (x2.b, (x1.2.1, x1.2.2))
def spec_DrawReadOp (code : List UInt8) : Option (List UInt8) :=
  (spec_l1New code).bind fun x1 => (spec_l15Op (⟨code, x1.1, x1.2⟩ : L1Cur)).bind fun x2 => (spec_ShowOp x2.1).bind fun x3 => (spec_l1Below (⟨code, x2.2.1, x2.2.2⟩ : L1Cur) 5).bind fun x4 => (if x4.1 == 0 then (spec_l1Spoil (⟨code, x4.2.1, x4.2.2⟩ : L1Cur) x3).bind fun x5 => some x5.1 else (if x4.1 == 1 then (spec_l1Pick (⟨code, x4.2.1, x4.2.2⟩ : L1Cur) ([(⟨[32]⟩ : GStr), (⟨[32, 49]⟩ : GStr), (⟨[120]⟩ : GStr)] : List GStr)).bind fun x6 => need (x3.length + x6.1.length ≤ 9223372036854775807) (some (x3 ++ x6.1)) else some x3))
def spec_l29Cut_j1 (s : List UInt8) (x7 : List GStr) (x8 : Int) : Option (List GStr) :=
  need (0 ≤ (x8 : Int) ∧ (x8 : Int) ≤ (s.length : Int)) (need (x7.length + ([(⟨s.drop (x8.toNat)⟩ : GStr)]).length ≤ 1073741824) (some (x7 ++ ([(⟨s.drop (x8.toNat)⟩ : GStr)]))))
def spec_l29Cut_j2 (x6 : Int) (x9 : List GStr) (x10 : Int) : Option (Step ((List GStr) × Int × Int) ((List GStr) × Int)) :=
  some (.next (x9, x10, w64 (x6 + 1)))
def spec_l29Cut_l1 (s : List UInt8) (at_ : UInt8) : ((List GStr) × Int × Int) → Option (Step ((List GStr) × Int × Int) ((List GStr) × Int))
  | (x4, x5, x6) => (if decide (x6 < (s.length : Int)) then (idx s x6).bind fun x11 => (if (x11.toNat : Int) == (at_.toNat : Int) then need (0 ≤ (x5 : Int) ∧ (x5 : Int) ≤ (x6 : Int) ∧ (x6 : Int) ≤ (s.length : Int)) (need (x4.length + ([(⟨(s.take (x6.toNat)).drop (x5.toNat)⟩ : GStr)]).length ≤ 1073741824) (spec_l29Cut_j2 x6 (x4 ++ ([(⟨(s.take (x6.toNat)).drop (x5.toNat)⟩ : GStr)])) (w64 (x6 + 1)))) else spec_l29Cut_j2 x6 x4 x5) else some (.stop ((x4, x5))))
def spec_l29Cut_m1 (s : List UInt8) : ((List GStr) × Int) → Option (List GStr)
  | (x7, x8) => spec_l29Cut_j1 s x7 x8
def spec_l29Cut (s : List UInt8) (at_ : UInt8) : Option (List GStr) :=
  (loop (spec_l29Cut_l1 s at_) (([] : List GStr), 0, 0)).bind (spec_l29Cut_m1 s)
def spec_ReadDec_j3 (x9 : Int) (x10 : Bool) : Option (Int × Bool) :=
  (if x10 then some (0, false) else some (x9, true))
def spec_ReadDec_j2 (s : List UInt8) (x8 x9 : Int) : Option (Int × Bool) :=
  (if decide (9 < x8) then spec_ReadDec_j3 x9 true else (if decide (10 < (s.length : Int)) then spec_ReadDec_j3 x9 true else (spec_Dec x9).bind fun x11 => spec_ReadDec_j3 x9 (!(x11 == s))))
def spec_ReadDec_j4 (s : List UInt8) (x7 x8 : Int) (x12 : Bool) : Option (Int × Bool) :=
  (if x12 then spec_ReadDec_j2 s x8 (IntKind.i64.wrap (0 - x7)) else spec_ReadDec_j2 s x8 x7)
def spec_ReadDec_j1 (s : List UInt8) (x7 x8 : Int) : Option (Int × Bool) :=
  (if decide (0 < (s.length : Int)) then (idx s 0).bind fun x13 => spec_ReadDec_j4 s x7 x8 ((x13.toNat : Int) == ((45 : UInt8).toNat : Int)) else spec_ReadDec_j4 s x7 x8 false)
def spec_ReadDec_j6 (x6 x15 x16 : Int) : Option (Step (Int × Int × Int) (Int × Int)) :=
  some (.next (x15, x16, w64 (x6 + 1)))
def spec_ReadDec_j7 (s : List UInt8) (x4 x5 x6 : Int) (x17 : Bool) : Option (Step (Int × Int × Int) (Int × Int)) :=
  (if x17 then (idx s x6).bind fun x18 => spec_ReadDec_j6 x6 (w64 ((w64 (x4 * 10)) + (IntKind.i64.wrap (IntKind.u8.wrap ((x18.toNat : Int) - ((48 : UInt8).toNat : Int)))))) (w64 (x5 + 1)) else spec_ReadDec_j6 x6 x4 x5)
def spec_ReadDec_j5 (s : List UInt8) (x4 x5 x6 : Int) (x14 : Bool) : Option (Step (Int × Int × Int) (Int × Int)) :=
  (if x14 then (idx s x6).bind fun x19 => (if decide (((48 : UInt8).toNat : Int) ≤ (x19.toNat : Int)) then (idx s x6).bind fun x20 => spec_ReadDec_j7 s x4 x5 x6 (decide ((x20.toNat : Int) ≤ ((57 : UInt8).toNat : Int))) else spec_ReadDec_j7 s x4 x5 x6 false) else some (.stop ((x4, x5))))
def spec_ReadDec_l1 (s : List UInt8) : (Int × Int × Int) → Option (Step (Int × Int × Int) (Int × Int))
  | (x4, x5, x6) => (if decide (x6 < (s.length : Int)) then spec_ReadDec_j5 s x4 x5 x6 (decide (x6 < 11)) else spec_ReadDec_j5 s x4 x5 x6 false)
def spec_ReadDec_m1 (s : List UInt8) : (Int × Int) → Option (Int × Bool)
  | (x7, x8) => spec_ReadDec_j1 s x7 x8
def spec_ReadDec (s : List UInt8) : Option (Int × Bool) :=
  (loop (spec_ReadDec_l1 s) (0, 0, 0)).bind (spec_ReadDec_m1 s)
def spec_l29Num (w_ : List GStr) (i : Int) : Option Int :=
  (if decide ((w_.length : Int) ≤ i) then some 0 else (idx w_ i).bind fun x1 => (spec_ReadDec x1.b).bind fun x2 => some x2.1)
def spec_ReadOp_j2 (x2 x3 x4 x9 : Int) (x10 : Bool) : Option (GOp × Bool) :=
  (if x10 then some ((⟨0, 0, 0, 0⟩ : GOp), false) else some ((⟨x9, x2, x3, x4⟩ : GOp), true))
def spec_ReadOp_j1 (s : List UInt8) (x2 x3 x4 x9 : Int) : Option (GOp × Bool) :=
  (if s == ([]) then spec_ReadOp_j2 x2 x3 x4 x9 true else (spec_ShowOp (⟨x9, x2, x3, x4⟩ : GOp)).bind fun x11 => spec_ReadOp_j2 x2 x3 x4 x9 (!(x11 == s)))
def spec_ReadOp_j3 (x7 x12 : Int) : Option (Step (Int × Int) Int) :=
  some (.next (w64 (x7 + 1), x12))
def spec_ReadOp_j4 (x7 x8 : Int) (x13 : Bool) : Option (Step (Int × Int) Int) :=
  (if x13 then spec_ReadOp_j3 x7 x7 else spec_ReadOp_j3 x7 x8)
def spec_ReadOp_l1 (x1 : (List GStr)) : (Int × Int) → Option (Step (Int × Int) Int)
  | (x7, x8) => (if decide (x7 ≤ 7) then (idx x1 0).bind fun x14 => (spec_OpWord x7).bind fun x15 => spec_ReadOp_j4 x7 x8 (x15 == x14.b) else some (.stop (x8)))
def spec_ReadOp_m1 (s : List UInt8) (x2 x3 x4 : Int) : Int → Option (GOp × Bool)
  | x9 => spec_ReadOp_j1 s x2 x3 x4 x9
def spec_ReadOp (s : List UInt8) : Option (GOp × Bool) :=
  (spec_l29Cut s (32 : UInt8)).bind fun x1 => (spec_l29Num x1 1).bind fun x2 => (spec_l29Num x1 2).bind fun x3 => (spec_l29Num x1 3).bind fun x4 => (loop (spec_ReadOp_l1 x1) (1, 0)).bind (spec_ReadOp_m1 s x2 x3 x4)
def spec_ShowCmd_j2 (x3 : List UInt8) : Option (List UInt8) :=
  some x3
def spec_ShowCmd_j3 (c : Cmd) (x2 : List UInt8) (x4 : Bool) : Option (List UInt8) :=
  (if x4 then need (x2.length + ([32]).length ≤ 9223372036854775807) ((spec_Dec c.Val).bind fun x5 => need ((x2 ++ ([32])).length + x5.length ≤ 9223372036854775807) (spec_ShowCmd_j2 ((x2 ++ ([32])) ++ x5))) else spec_ShowCmd_j2 x2)
def spec_ShowCmd_j1 (c : Cmd) (x2 : List UInt8) : Option (List UInt8) :=
  (if c.Kind == 2 then spec_ShowCmd_j3 c x2 true else spec_ShowCmd_j3 c x2 (c.Kind == 4))
def spec_ShowCmd (c : Cmd) : Option (List UInt8) :=
  (spec_CmdOk c).bind fun x1 => (if !x1 then some ([]) else (idx ([(⟨[103, 101, 116]⟩ : GStr), (⟨[112, 117, 116]⟩ : GStr), (⟨[100, 101, 108]⟩ : GStr), (⟨[97, 100, 100]⟩ : GStr)] : List GStr) (w64 (c.Kind - 1))).bind fun x6 => need (x6.b.length + ([32]).length ≤ 9223372036854775807) <| (spec_Dec c.Key).bind fun x7 => need ((x6.b ++ ([32])).length + x7.length ≤ 9223372036854775807) <| spec_ShowCmd_j1 c ((x6.b ++ ([32])) ++ x7))
def spec_ShowBatch_j1 (x6 : List UInt8) : Option (List UInt8) :=
  some x6
def spec_ShowBatch_j2 (b : Batch) (x5 : Int) (x7 : List UInt8) : Option (Step ((List UInt8) × Int) (List UInt8)) :=
  (idx b.Cmds x5).bind fun x8 => (spec_ShowCmd x8).bind fun x9 => need (x7.length + x9.length ≤ 9223372036854775807) (some (.next (x7 ++ x9, w64 (x5 + 1))))
def spec_ShowBatch_l1 (b : Batch) : ((List UInt8) × Int) → Option (Step ((List UInt8) × Int) (List UInt8))
  | (x4, x5) => (if decide (x5 < (b.Cmds.length : Int)) then (if decide (0 < x5) then need (x4.length + ([59]).length ≤ 9223372036854775807) (spec_ShowBatch_j2 b x5 (x4 ++ ([59]))) else spec_ShowBatch_j2 b x5 x4) else some (.stop (x4)))
def spec_ShowBatch_m1 : (List UInt8) → Option (List UInt8)
  | x6 => spec_ShowBatch_j1 x6
def spec_ShowBatch (b : Batch) : Option (List UInt8) :=
  (spec_BatchOk b).bind fun x1 => (if !x1 then some ([]) else (if b.Collect then some ([99, 111, 108, 108, 101, 99, 116]) else (loop (spec_ShowBatch_l1 b) ([], 0)).bind (spec_ShowBatch_m1)))
def spec_DrawReadBatch (code : List UInt8) : Option (List UInt8) :=
  (spec_l1New code).bind fun x1 => (spec_l23Draw (⟨code, x1.1, x1.2⟩ : L1Cur)).bind fun x2 => (spec_ShowBatch x2.1).bind fun x3 => (spec_l1Below (⟨code, x2.2.1, x2.2.2⟩ : L1Cur) 5).bind fun x4 => (if x4.1 == 0 then (spec_l1Spoil (⟨code, x4.2.1, x4.2.2⟩ : L1Cur) x3).bind fun x5 => some x5.1 else (if x4.1 == 1 then (spec_l1Pick (⟨code, x4.2.1, x4.2.2⟩ : L1Cur) ([(⟨[59]⟩ : GStr), (⟨[59, 103, 101, 116, 32, 49]⟩ : GStr), (⟨[59, 103, 101, 116, 32, 49, 59, 103, 101, 116, 32, 50, 59, 103, 101, 116, 32, 51, 59, 103, 101, 116, 32, 52, 59, 103, 101, 116, 32, 53, 59, 103, 101, 116, 32, 54]⟩ : GStr), (⟨[32]⟩ : GStr)] : List GStr)).bind fun x6 => need (x3.length + x6.1.length ≤ 9223372036854775807) (some (x3 ++ x6.1)) else some x3))
def spec_ReadCmd_j1 : Option (Cmd × Bool) :=
  some ((⟨0, 0, 0⟩ : Cmd), false)
def spec_ReadCmd_j2 (x3 x4 x5 : Int) (x6 : Bool) : Option (Step Int (Out Unit (Cmd × Bool))) :=
  (if x6 then some (.stop (Out.ret ((⟨x3, x4, x5⟩ : Cmd), true))) else some (.next (w64 (x3 + 1))))
def spec_ReadCmd_l1 (s : List UInt8) (x1 : (List GStr)) : Int → Option (Step Int (Out Unit (Cmd × Bool)))
  | x3 => (if decide (x3 ≤ 4) then (spec_l29Num x1 1).bind fun x4 => (spec_l29Num x1 2).bind fun x5 => (if !(s == ([])) then (spec_ShowCmd (⟨x3, x4, x5⟩ : Cmd)).bind fun x7 => spec_ReadCmd_j2 x3 x4 x5 (x7 == s) else spec_ReadCmd_j2 x3 x4 x5 false) else some (.stop (Out.brk ())))
def spec_ReadCmd_m1 : (Out Unit (Cmd × Bool)) → Option (Cmd × Bool)
  | .brk () => spec_ReadCmd_j1
  | .ret r => some r
def spec_ReadCmd (s : List UInt8) : Option (Cmd × Bool) :=
  (spec_l29Cut s (32 : UInt8)).bind fun x1 => (loop (spec_ReadCmd_l1 s x1) 1).bind (spec_ReadCmd_m1)
def spec_ReadBatch_j1 (x6 : List Cmd) : Option (Batch × Bool) :=
  (spec_BatchOk (⟨false, x6⟩ : Batch)).bind fun x7 => (if !x7 then some ((⟨false, []⟩ : Batch), false) else some ((⟨false, x6⟩ : Batch), true))
def spec_ReadBatch_l1 (x1 : (List GStr)) : (Int × (List Cmd)) → Option (Step (Int × (List Cmd)) (Out (List Cmd) (Batch × Bool)))
  | (x4, x5) => (if decide (x4 < (x1.length : Int)) then (idx x1 x4).bind fun x8 => (spec_ReadCmd x8.b).bind fun x9 => (if !x9.2 then some (.stop (Out.ret ((⟨false, []⟩ : Batch), false))) else need (x5.length + ([x9.1]).length ≤ 1073741824) (some (.next (w64 (x4 + 1), x5 ++ ([x9.1]))))) else some (.stop (Out.brk x5)))
def spec_ReadBatch_m1 : (Out (List Cmd) (Batch × Bool)) → Option (Batch × Bool)
  | .brk x6 => spec_ReadBatch_j1 x6
  | .ret r => some r
def spec_ReadBatch (s : List UInt8) : Option (Batch × Bool) :=
  (if s == ([99, 111, 108, 108, 101, 99, 116]) then some ((⟨true, []⟩ : Batch), true) else (spec_l29Cut s (59 : UInt8)).bind fun x1 => (loop (spec_ReadBatch_l1 x1) (0, [])).bind (spec_ReadBatch_m1))
def laws_FnTexts_j2 (x18 : Bool) : Option Bool :=
  some x18
def laws_FnTexts_j1 (code : List UInt8) (x11 : Bool) : Option Bool :=
  (if x11 then some false else (spec_DrawReadOp code).bind fun x12 => (impl_ReadOp x12).bind fun x13 => (spec_ReadOp x12).bind fun x14 => (spec_DrawReadBatch code).bind fun x15 => (impl_ReadBatch x15).bind fun x16 => (spec_ReadBatch x15).bind fun x17 => (if x13.2 == x14.2 then (if !x13.2 then (if x16.2 == x17.2 then (if !x16.2 then laws_FnTexts_j2 true else (impl_ShowBatch x16.1).bind fun x19 => laws_FnTexts_j2 (x19 == x15)) else laws_FnTexts_j2 false) else (impl_ShowOp x13.1).bind fun x20 => (if x20 == x12 then (if x16.2 == x17.2 then (if !x16.2 then laws_FnTexts_j2 true else (impl_ShowBatch x16.1).bind fun x21 => laws_FnTexts_j2 (x21 == x15)) else laws_FnTexts_j2 false) else laws_FnTexts_j2 false)) else laws_FnTexts_j2 false))
def laws_FnTexts (code : List UInt8) : Option Bool :=
  (laws_big code).bind fun x1 => (if x1 then some true else (spec_DrawShowOp code).bind fun x2 => (impl_ShowOp x2).bind fun x3 => (impl_ReadOp x3).bind fun x4 => (spec_DrawShowCmd code).bind fun x5 => (impl_ShowCmd x5).bind fun x6 => (impl_ReadCmd x6).bind fun x7 => (spec_DrawShowBatch code).bind fun x8 => (impl_ShowBatch x8).bind fun x9 => (impl_ReadBatch x9).bind fun x10 => (spec_OpOk x2).bind fun x22 => (if !(x4.2 == x22) then laws_FnTexts_j1 code true else (if x4.2 then (if !(decide (x4.1 = x2)) then laws_FnTexts_j1 code true else (spec_CmdOk x5).bind fun x23 => (if !(x7.2 == x23) then laws_FnTexts_j1 code true else (if x7.2 then (if !(decide (x7.1 = x5)) then laws_FnTexts_j1 code true else (spec_BatchOk x8).bind fun x24 => (if !(x10.2 == x24) then laws_FnTexts_j1 code true else (if x10.2 then (impl_ShowBatch x10.1).bind fun x25 => (if !(x25 == x9) then laws_FnTexts_j1 code true else laws_FnTexts_j1 code ((x10.1.Cmds.length : Int) != (x8.Cmds.length : Int))) else laws_FnTexts_j1 code false))) else (spec_BatchOk x8).bind fun x26 => (if !(x10.2 == x26) then laws_FnTexts_j1 code true else (if x10.2 then (impl_ShowBatch x10.1).bind fun x27 => (if !(x27 == x9) then laws_FnTexts_j1 code true else laws_FnTexts_j1 code ((x10.1.Cmds.length : Int) != (x8.Cmds.length : Int))) else laws_FnTexts_j1 code false))))) else (spec_CmdOk x5).bind fun x28 => (if !(x7.2 == x28) then laws_FnTexts_j1 code true else (if x7.2 then (if !(decide (x7.1 = x5)) then laws_FnTexts_j1 code true else (spec_BatchOk x8).bind fun x29 => (if !(x10.2 == x29) then laws_FnTexts_j1 code true else (if x10.2 then (impl_ShowBatch x10.1).bind fun x30 => (if !(x30 == x9) then laws_FnTexts_j1 code true else laws_FnTexts_j1 code ((x10.1.Cmds.length : Int) != (x8.Cmds.length : Int))) else laws_FnTexts_j1 code false))) else (spec_BatchOk x8).bind fun x31 => (if !(x10.2 == x31) then laws_FnTexts_j1 code true else (if x10.2 then (impl_ShowBatch x10.1).bind fun x32 => (if !(x32 == x9) then laws_FnTexts_j1 code true else laws_FnTexts_j1 code ((x10.1.Cmds.length : Int) != (x8.Cmds.length : Int))) else laws_FnTexts_j1 code false)))))))
end
end Go.Gv
end
