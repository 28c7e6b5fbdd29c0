/- Marks that are laid and found again. -/
import Derived.Test.YtpndngnohcffnaaGreatPMemEq
set_option linter.unusedVariables false
set_option linter.unusedSimpArgs false
set_option linter.unusedSectionVars false
namespace Go.Gv
/-! ### Marks -/
def seqI (k : Int) (n : Nat) : List Int := (List.range n).map fun j : Nat => k + j
theorem seqI_len (k : Int) (n : Nat) : (seqI k n).length = n := by simp [seqI]
theorem seqI_succ (k : Int) (n : Nat) : seqI k (n + 1) = seqI k n ++ [k + n] := by simp [seqI, List.range_succ]
theorem markIntS_eq {l : List Int} {k : Int} (hl : l.length ≤ 1073741824) (h0 : 0 ≤ k) (h1 : k ≤ 4611686018427387904) : laws_markIntS l k = some (k + l.length, seqI k l.length) := by
  unfold laws_markIntS
  have key : loop laws_markIntS_l1 (l, k, 0) = some (seqI k l.length, k + l.length) := by
    have := enum_eq (f := laws_markIntS_l1) l.length (fun i => (seqI k i ++ l.drop i, k + i, (i : Int))) (seqI k l.length, k + l.length) (fun i hi => ?_) ?_
    · simpa [seqI] using this
    · have hlen : (seqI k i ++ l.drop i).length = l.length := by rw [List.length_append, seqI_len, List.length_drop]; omega
      have hd : l.drop i = l[i] :: l.drop (i + 1) := List.drop_eq_getElem_cons hi
      simp only [laws_markIntS_l1]
      rw [if_pos (by rw [hlen]; simp; omega), idx_nat (by omega)]
      simp only [Option.bind_some, Int.toNat_natCast]
      rw [List.set_append_right _ _ (by rw [seqI_len]; exact Nat.le_refl _), seqI_len, Nat.sub_self, hd, List.set_cons_zero, seqI_succ, w64_in (x := k + i + 1) (by omega) (by omega), w64_in (by omega) (by omega), List.append_assoc]
      have : k + (i : Int) + 1 = k + ((i + 1 : Nat) : Int) := by omega
      rw [this]; rfl
    · have hlen : (seqI k l.length ++ l.drop l.length).length = l.length := by rw [List.length_append, seqI_len, List.length_drop]; omega
      simp only [laws_markIntS_l1]
      rw [if_neg (by rw [hlen]; simp), List.drop_length, List.append_nil]
  rw [key]; rfl
theorem heldIntS_eq {k : Int} {n : Nat} (hn : n ≤ 1073741824) (h0 : 0 ≤ k) (h1 : k ≤ 4611686018427387904) : laws_heldIntS (seqI k n) k = some (k + n) := by
  unfold laws_heldIntS
  have key : loop (laws_heldIntS_l1 (seqI k n)) (k, 0) = some (.brk (k + n)) := by
    have := enum_eq (f := laws_heldIntS_l1 (seqI k n)) n (fun i => (k + i, (i : Int))) (.brk (k + n)) (fun i hi => ?_) ?_
    · simpa using this
    · have hi' : i < (seqI k n).length := by rw [seqI_len]; exact hi
      have hg : (seqI k n)[i] = k + i := by simp [seqI]
      simp only [laws_heldIntS_l1]
      rw [if_pos (by rw [seqI_len]; simp; omega), idx_nat hi', hg]
      simp only [Option.bind_some, bne_self_eq_false, Bool.false_eq_true, if_false]
      rw [w64_in (x := k + i + 1) (by omega) (by omega), w64_in (by omega) (by omega)]
      have : k + (i : Int) + 1 = k + ((i + 1 : Nat) : Int) := by omega
      rw [this]; rfl
    · simp only [laws_heldIntS_l1]
      rw [if_neg (by rw [seqI_len]; simp)]
  rw [key]; rfl
def seqL : Int → List SList → List SList
  | _, [] => []
  | k, s :: r => ⟨seqI k s.Slots.length⟩ :: seqL (k + s.Slots.length) r
theorem seqL_len : ∀ (k : Int) (l : List SList), (seqL k l).length = l.length
  | _, [] => rfl
  | k, s :: r => by simp [seqL, seqL_len]
theorem seqL_append : ∀ (k : Int) (a b : List SList), seqL k (a ++ b) = seqL k a ++ seqL (k + (flatS a).length) b
  | k, [], b => by simp [seqL, flatS]
  | k, s :: r, b => by
    simp only [List.cons_append, seqL, seqL_append _ r b]
    congr 3
    have : flatS (s :: r) = s.Slots ++ flatS r := by simp [flatS]
    rw [this, List.length_append]; omega
theorem seqL_take {k : Int} {l : List SList} {i : Nat} (hi : i < l.length) : seqL k (l.take (i + 1)) = seqL k (l.take i) ++ [⟨seqI (k + (flatS (l.take i)).length) l[i].Slots.length⟩] := by
  rw [List.take_succ_eq_append_getElem hi, seqL_append]; rfl
theorem markSListS_eq {l : List SList} {k : Int} (hl : l.length ≤ 1073741824) (hf : (flatS l).length ≤ 1073741824) (h0 : 0 ≤ k) (h1 : k ≤ 1000000000000) : laws_markSListS l k = some (k + (flatS l).length, seqL k l) := by
  unfold laws_markSListS
  have key : loop laws_markSListS_l1 (l, k, 0) = some (seqL k l, k + (flatS l).length) := by
    have := enum_eq (f := laws_markSListS_l1) l.length (fun i => (seqL k (l.take i) ++ l.drop i, k + (flatS (l.take i)).length, (i : Int))) (seqL k l, k + (flatS l).length) (fun i hi => ?_) ?_
    · simpa [seqL, flatS, -List.length_flatMap] using this
    · have hll : (seqL k (l.take i)).length = i := by rw [seqL_len, List.length_take]; omega
      have hlen : (seqL k (l.take i) ++ l.drop i).length = l.length := by rw [List.length_append, hll, List.length_drop]; omega
      have hd : l.drop i = l[i] :: l.drop (i + 1) := List.drop_eq_getElem_cons hi
      have hgi := flat_get l hi
      have hfi := flat_le l i
      have hft : (flatS (l.take (i + 1))).length = (flatS (l.take i)).length + l[i].Slots.length := by rw [flat_take hi, List.length_append]
      have hget : (seqL k (l.take i) ++ l.drop i)[i]'(by omega) = l[i] := by
        rw [List.getElem_append_right (by omega)]; simp [hll]
      simp only [laws_markSListS_l1]
      rw [if_pos (by rw [hlen]; simp; omega), idx_nat (by omega), hget]
      simp only [Option.bind_some, Int.toNat_natCast]
      rw [markIntS_eq (by omega) (by omega) (by omega)]
      simp only [Option.bind_some]
      rw [List.set_append_right _ _ (by omega), hll, Nat.sub_self, hd, List.set_cons_zero, seqL_take hi, w64_in (by omega) (by omega), List.append_assoc]
      have : k + ((flatS (l.take i)).length : Int) + (l[i].Slots.length : Int) = k + ((flatS (l.take (i + 1))).length : Int) := by omega
      rw [this]; rfl
    · have hlen : (seqL k (l.take l.length) ++ l.drop l.length).length = l.length := by rw [List.length_append, seqL_len, List.length_take, List.length_drop]; omega
      simp only [laws_markSListS_l1]
      rw [if_neg (by rw [hlen]; simp), List.drop_length, List.append_nil, List.take_length]
  rw [key]; rfl
theorem heldSListS_eq {l : List SList} {k : Int} (hl : l.length ≤ 1073741824) (hf : (flatS l).length ≤ 1073741824) (h0 : 0 ≤ k) (h1 : k ≤ 1000000000000) : laws_heldSListS (seqL k l) k = some (k + (flatS l).length) := by
  unfold laws_heldSListS
  have key : loop (laws_heldSListS_l1 (seqL k l)) (k, 0) = some (.brk (k + (flatS l).length)) := by
    have := enum_eq (f := laws_heldSListS_l1 (seqL k l)) l.length (fun i => (k + (flatS (l.take i)).length, (i : Int))) (.brk (k + (flatS l).length)) (fun i hi => ?_) ?_
    · simpa [flatS, -List.length_flatMap] using this
    · have hgi := flat_get l hi
      have hfi := flat_le l i
      have hft : (flatS (l.take (i + 1))).length = (flatS (l.take i)).length + l[i].Slots.length := by rw [flat_take hi, List.length_append]
      have hi' : i < (seqL k l).length := by rw [seqL_len]; exact hi
      have hget : (seqL k l)[i] = ⟨seqI (k + (flatS (l.take i)).length) l[i].Slots.length⟩ := by
        have hsp : l = l.take i ++ l[i] :: l.drop (i + 1) := by rw [← List.drop_eq_getElem_cons hi, List.take_append_drop]
        have e : seqL k l = seqL k (l.take i) ++ (⟨seqI (k + (flatS (l.take i)).length) l[i].Slots.length⟩ :: seqL (k + (flatS (l.take i)).length + l[i].Slots.length) (l.drop (i + 1))) := by
          conv => lhs; rw [hsp]
          rw [seqL_append]; rfl
        have hll : (seqL k (l.take i)).length = i := by rw [seqL_len, List.length_take]; omega
        have : (seqL k l)[i]? = some ⟨seqI (k + (flatS (l.take i)).length) l[i].Slots.length⟩ := by
          rw [e, List.getElem?_append_right (by omega), hll, Nat.sub_self]; rfl
        rw [List.getElem?_eq_getElem hi'] at this
        exact Option.some.inj this
      simp only [laws_heldSListS_l1]
      rw [if_pos (by rw [seqL_len]; simp; omega), idx_nat hi', hget]
      simp only [Option.bind_some]
      rw [heldIntS_eq (by omega) (by omega) (by omega)]
      simp only [Option.bind_some]
      rw [if_neg (by simp only [decide_eq_true_eq]; omega), w64_in (by omega) (by omega)]
      have : k + ((flatS (l.take i)).length : Int) + (l[i].Slots.length : Int) = k + ((flatS (l.take (i + 1))).length : Int) := by omega
      rw [this]; rfl
    · simp only [laws_heldSListS_l1]
      rw [if_neg (by rw [seqL_len]; simp), List.take_length]
  rw [key]; rfl
theorem held_mark {m : Mem} (h : SmallM m) : ∃ n a b c d, laws_markMem m 1 = some (n, a, b, c, d) ∧ laws_heldMem ⟨⟨a, b⟩, ⟨c, d⟩⟩ 1 = some n ∧ 0 ≤ n := by
  have h1 := h.1; have h2 := h.2.1; have h3 := h.2.2.1; have h4 := h.2.2.2.1; have h5 := h.2.2.2.2
  have h6 := allS_len m.Lists
  unfold laws_markMem laws_markHeap laws_markLists laws_heldMem laws_heldHeap laws_heldLists
  rw [markIntS_eq (by omega) (by omega) (by omega)]
  simp only [Option.bind_some]
  rw [markIntS_eq (by omega) (by omega) (by omega)]
  simp only [Option.bind_some]
  rw [markSListS_eq (by omega) (by omega) (by omega) (by omega)]
  simp only [Option.bind_some]
  rw [markSListS_eq (by omega) (by omega) (by omega) (by omega)]
  simp only [Option.bind_some]
  refine ⟨_, _, _, _, _, rfl, ?_, ?_⟩
  · rw [heldIntS_eq (by omega) (by omega) (by omega)]
    simp only [Option.bind_some]
    rw [if_neg (by simp only [decide_eq_true_eq]; omega), heldIntS_eq (by omega) (by omega) (by omega)]
    simp only [Option.bind_some]
    rw [if_neg (by simp only [decide_eq_true_eq]; omega)]
    simp only [Option.bind_some]
    rw [if_neg (by simp only [decide_eq_true_eq]; omega), heldSListS_eq (by omega) (by omega) (by omega) (by omega)]
    simp only [Option.bind_some]
    rw [if_neg (by simp only [decide_eq_true_eq]; omega), heldSListS_eq (by omega) (by omega) (by omega) (by omega)]
    simp only [Option.bind_some]
    rw [if_neg (by simp only [decide_eq_true_eq]; omega)]
    simp only [Option.bind_some]
    rw [if_neg (by simp only [decide_eq_true_eq]; omega)]
  · omega
end Go.Gv
