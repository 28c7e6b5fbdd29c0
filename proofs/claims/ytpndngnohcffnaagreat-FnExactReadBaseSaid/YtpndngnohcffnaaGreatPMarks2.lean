/- Marks that are laid in bases and found again. -/
import Derived.Test.YtpndngnohcffnaaGreatPMarks
import Derived.Test.YtpndngnohcffnaaGreatPBase
set_option linter.unusedVariables false
set_option linter.unusedSimpArgs false
set_option linter.unusedSectionVars false
namespace Go.Gv
def seqG {α : Type} (mk : Int → α) (c : Nat) (k : Int) (n : Nat) : List α := (List.range n).map fun j : Nat => mk (k + ((c * j : Nat) : Int))
section
variable {α : Type} {mk : Int → α} {c : Nat}
theorem seqG_len (k : Int) (n : Nat) : (seqG mk c k n).length = n := by simp [seqG]
theorem seqG_succ (k : Int) (n : Nat) : seqG mk c k (n + 1) = seqG mk c k n ++ [mk (k + ((c * n : Nat) : Int))] := by simp [seqG, List.range_succ]
theorem mark_loop {f : (List α × Int × Int) → Option (Step (List α × Int × Int) (List α × Int))} {l : List α} {k : Int} (hc : c ≤ 4) (hl : l.length ≤ 1073741824) (h0 : 0 ≤ k) (h1 : k ≤ 1000000000000)
    (hb : ∀ (l : List α) (k : Int) (i : Nat), i < l.length → l.length ≤ 1073741824 → 0 ≤ k → k ≤ 2000000000000 → f (l, k, (i : Int)) = some (.next (l.set i (mk k), k + c, ((i + 1 : Nat) : Int)))) (he : ∀ (l : List α) (k : Int), f (l, k, (l.length : Int)) = some (.stop (l, k))) :
    loop f (l, k, 0) = some (seqG mk c k l.length, k + ((c * l.length : Nat) : Int)) := by
  have hcm : ∀ i, i ≤ l.length → c * i ≤ 4 * 1073741824 := fun i hi => Nat.mul_le_mul hc (by omega)
  have := enum_eq (f := f) l.length (fun i => (seqG mk c k i ++ l.drop i, k + ((c * i : Nat) : Int), (i : Int))) (seqG mk c k l.length, k + ((c * l.length : Nat) : Int)) (fun i hi => ?_) ?_
  · simpa [seqG] using this
  · have hlen : (seqG mk c k i ++ l.drop i).length = l.length := by rw [List.length_append, seqG_len, List.length_drop]; omega
    have hd : l.drop i = l[i] :: l.drop (i + 1) := List.drop_eq_getElem_cons hi
    have hci := hcm i (by omega)
    rw [hb _ _ i (by omega) (by omega) (by omega) (by omega)]
    rw [List.set_append_right _ _ (by rw [seqG_len]; exact Nat.le_refl _), seqG_len, Nat.sub_self, hd, List.set_cons_zero, seqG_succ, List.append_assoc]
    have : k + ((c * i : Nat) : Int) + (c : Int) = k + ((c * (i + 1) : Nat) : Int) := by rw [Nat.mul_add]; omega
    rw [this]; rfl
  · have hlen : (seqG mk c k l.length ++ l.drop l.length).length = l.length := by rw [List.length_append, seqG_len, List.length_drop]; omega
    have := he (seqG mk c k l.length ++ l.drop l.length) (k + ((c * l.length : Nat) : Int))
    rw [hlen] at this
    rw [this, List.drop_length, List.append_nil]
theorem held_loop {f : (Int × Int) → Option (Step (Int × Int) (Out Int Int))} {k : Int} {n : Nat} (hc : c ≤ 4) (hn : n ≤ 1073741824) (h0 : 0 ≤ k) (h1 : k ≤ 1000000000000)
    (hb : ∀ (q : Int) (i : Nat) (hi : i < (seqG mk c k n).length), (seqG mk c k n)[i] = mk q → 0 ≤ q → q ≤ 2000000000000 → f (q, (i : Int)) = some (.next (q + c, ((i + 1 : Nat) : Int)))) (he : ∀ q : Int, f (q, (n : Int)) = some (.stop (.brk q))) :
    loop f (k, 0) = some (.brk (k + ((c * n : Nat) : Int))) := by
  have hcm : ∀ i, i ≤ n → c * i ≤ 4 * 1073741824 := fun i hi => Nat.mul_le_mul hc (by omega)
  have := enum_eq (f := f) n (fun i => (k + ((c * i : Nat) : Int), (i : Int))) (.brk (k + ((c * n : Nat) : Int))) (fun i hi => ?_) (he _)
  · simpa using this
  · have hci := hcm i (by omega)
    rw [hb (k + ((c * i : Nat) : Int)) i (by rw [seqG_len]; exact hi) (by simp [seqG]) (by omega) (by omega)]
    have : k + ((c * i : Nat) : Int) + (c : Int) = k + ((c * (i + 1) : Nat) : Int) := by rw [Nat.mul_add]; omega
    rw [this]
end
def mkPin (k : Int) : Pin := ⟨Int.tmod k 3 == 0, k + 1, Int.tmod (k + 2) 3 == 0, k + 3⟩
def mkRow (k : Int) : LRow := ⟨k, k + 1⟩
theorem markPinS_eq {l : List Pin} {k : Int} (hl : l.length ≤ 1073741824) (h0 : 0 ≤ k) (h1 : k ≤ 1000000000000) : laws_markPinS l k = some (k + ((4 * l.length : Nat) : Int), seqG mkPin 4 k l.length) := by
  unfold laws_markPinS
  rw [mark_loop (mk := mkPin) (c := 4) (by omega) hl h0 h1 ?_ ?_]
  · rfl
  · intro l k i hi hl h0 h1
    have e1 : w64 (k + 1) = k + 1 := w64_in (by omega) (by omega)
    have e2 : w64 (k + 1 + 1) = k + 2 := by rw [w64_in (by omega) (by omega)]; omega
    have e3 : w64 (k + 2 + 1) = k + 3 := by rw [w64_in (by omega) (by omega)]; omega
    have e4 : w64 (k + 3 + 1) = k + (4 : Nat) := by rw [w64_in (by omega) (by omega)]; omega
    simp only [laws_markPinS_l1, e1, e2, e3, e4, Int.toNat_natCast]
    rw [if_pos (by simp; omega), idx_nat hi]
    simp only [Option.bind_some]
    rw [idx_nat (by simpa using hi)]
    simp only [Option.bind_some]
    rw [idx_nat (by simpa using hi)]
    simp only [Option.bind_some]
    rw [idx_nat (by simpa using hi)]
    simp only [Option.bind_some, List.set_set, List.getElem_set_self]
    rw [w64_in (x := (i : Int) + 1) (by omega) (by omega)]; rfl
  · intro l k
    simp [laws_markPinS_l1]
theorem heldPinS_eq {k : Int} {n : Nat} (hn : n ≤ 1073741824) (h0 : 0 ≤ k) (h1 : k ≤ 1000000000000) : laws_heldPinS (seqG mkPin 4 k n) k = some (k + ((4 * n : Nat) : Int)) := by
  unfold laws_heldPinS
  rw [held_loop (mk := mkPin) (c := 4) (by omega) hn h0 h1 ?_ ?_]
  · rfl
  · intro q i hi hg hq0 hq1
    have hin : i < n := by rw [seqG_len] at hi; exact hi
    have e1 : w64 (q + 1) = q + 1 := w64_in (by omega) (by omega)
    have e2 : w64 (q + 1 + 1) = q + 2 := by rw [w64_in (by omega) (by omega)]; omega
    have e3 : w64 (q + 2 + 1) = q + 3 := by rw [w64_in (by omega) (by omega)]; omega
    have e4 : w64 (q + 3 + 1) = q + (4 : Nat) := by rw [w64_in (by omega) (by omega)]; omega
    simp only [laws_heldPinS_l1, e1, e2, e3, e4]
    rw [if_pos (by rw [seqG_len]; simp; omega), idx_nat hi, hg]
    simp only [Option.bind_some, mkPin, beq_self_eq_true, Bool.not_true, Bool.false_eq_true, if_false, bne_self_eq_false]
    rw [w64_in (by omega) (by omega)]; rfl
  · intro q
    simp only [laws_heldPinS_l1]
    rw [if_neg (by rw [seqG_len]; simp)]
theorem markLRowS_eq {l : List LRow} {k : Int} (hl : l.length ≤ 1073741824) (h0 : 0 ≤ k) (h1 : k ≤ 1000000000000) : laws_markLRowS l k = some (k + ((2 * l.length : Nat) : Int), seqG mkRow 2 k l.length) := by
  unfold laws_markLRowS
  rw [mark_loop (mk := mkRow) (c := 2) (by omega) hl h0 h1 ?_ ?_]
  · rfl
  · intro l k i hi hl h0 h1
    have e1 : w64 (k + 1) = k + 1 := w64_in (by omega) (by omega)
    have e2 : w64 (k + 1 + 1) = k + (2 : Nat) := by rw [w64_in (by omega) (by omega)]; omega
    simp only [laws_markLRowS_l1, e1, e2, Int.toNat_natCast]
    rw [if_pos (by simp; omega), idx_nat hi]
    simp only [Option.bind_some]
    rw [idx_nat (by simpa using hi)]
    simp only [Option.bind_some, List.set_set, List.getElem_set_self]
    rw [w64_in (x := (i : Int) + 1) (by omega) (by omega)]; rfl
  · intro l k
    simp [laws_markLRowS_l1]
theorem heldLRowS_eq {k : Int} {n : Nat} (hn : n ≤ 1073741824) (h0 : 0 ≤ k) (h1 : k ≤ 1000000000000) : laws_heldLRowS (seqG mkRow 2 k n) k = some (k + ((2 * n : Nat) : Int)) := by
  unfold laws_heldLRowS
  rw [held_loop (mk := mkRow) (c := 2) (by omega) hn h0 h1 ?_ ?_]
  · rfl
  · intro q i hi hg hq0 hq1
    have hin : i < n := by rw [seqG_len] at hi; exact hi
    have e1 : w64 (q + 1) = q + 1 := w64_in (by omega) (by omega)
    have e2 : w64 (q + 1 + 1) = q + (2 : Nat) := by rw [w64_in (by omega) (by omega)]; omega
    simp only [laws_heldLRowS_l1, e1, e2]
    rw [if_pos (by rw [seqG_len]; simp; omega), idx_nat hi, hg]
    simp only [Option.bind_some, mkRow, Bool.false_eq_true, if_false, bne_self_eq_false]
    rw [w64_in (by omega) (by omega)]; rfl
  · intro q
    simp only [laws_heldLRowS_l1]
    rw [if_neg (by rw [seqG_len]; simp)]
def seqR : Int → List LList → List LList
  | _, [] => []
  | k, s :: r => ⟨seqG mkRow 2 k s.Rows.length⟩ :: seqR (k + ((2 * s.Rows.length : Nat) : Int)) r
theorem seqR_len : ∀ (k : Int) (l : List LList), (seqR k l).length = l.length
  | _, [] => rfl
  | k, s :: r => by simp [seqR, seqR_len]
theorem seqR_append : ∀ (k : Int) (a b : List LList), seqR k (a ++ b) = seqR k a ++ seqR (k + ((2 * (flatR a).length : Nat) : Int)) b
  | k, [], b => by simp [seqR, flatR]
  | k, s :: r, b => by
    simp only [List.cons_append, seqR, seqR_append _ r b]
    congr 3
    have : flatR (s :: r) = s.Rows ++ flatR r := by simp [flatR]
    rw [this, List.length_append]; omega
theorem seqR_take {k : Int} {l : List LList} {i : Nat} (hi : i < l.length) : seqR k (l.take (i + 1)) = seqR k (l.take i) ++ [⟨seqG mkRow 2 (k + ((2 * (flatR (l.take i)).length : Nat) : Int)) l[i].Rows.length⟩] := by
  rw [List.take_succ_eq_append_getElem hi, seqR_append]; rfl
theorem markLListS_eq {l : List LList} {k : Int} (hl : l.length ≤ 1073741824) (hf : (flatR l).length ≤ 1073741824) (h0 : 0 ≤ k) (h1 : k ≤ 100000000000) : laws_markLListS l k = some (k + ((2 * (flatR l).length : Nat) : Int), seqR k l) := by
  unfold laws_markLListS
  have key : loop laws_markLListS_l1 (l, k, 0) = some (seqR k l, k + ((2 * (flatR l).length : Nat) : Int)) := by
    have := enum_eq (f := laws_markLListS_l1) l.length (fun i => (seqR k (l.take i) ++ l.drop i, k + ((2 * (flatR (l.take i)).length : Nat) : Int), (i : Int))) (seqR k l, k + ((2 * (flatR l).length : Nat) : Int)) (fun i hi => ?_) ?_
    · simpa [seqR, flatR, -List.length_flatMap] using this
    · have hll : (seqR k (l.take i)).length = i := by rw [seqR_len, List.length_take]; omega
      have hlen : (seqR k (l.take i) ++ l.drop i).length = l.length := by rw [List.length_append, hll, List.length_drop]; omega
      have hd : l.drop i = l[i] :: l.drop (i + 1) := List.drop_eq_getElem_cons hi
      have hgi := flatR_get l hi
      have hfi := flatR_le l i
      have hft : (flatR (l.take (i + 1))).length = (flatR (l.take i)).length + l[i].Rows.length := by rw [flatR_take hi, List.length_append]
      have hget : (seqR k (l.take i) ++ l.drop i)[i]'(by omega) = l[i] := by
        rw [List.getElem_append_right (by omega)]; simp [hll]
      simp only [laws_markLListS_l1]
      rw [if_pos (by rw [hlen]; simp; omega), idx_nat (by omega), hget]
      simp only [Option.bind_some, Int.toNat_natCast]
      rw [markLRowS_eq (by omega) (by omega) (by omega)]
      simp only [Option.bind_some]
      rw [List.set_append_right _ _ (by omega), hll, Nat.sub_self, hd, List.set_cons_zero, seqR_take hi, w64_in (by omega) (by omega), List.append_assoc]
      have : k + ((2 * (flatR (l.take i)).length : Nat) : Int) + ((2 * l[i].Rows.length : Nat) : Int) = k + ((2 * (flatR (l.take (i + 1))).length : Nat) : Int) := by omega
      rw [this]; rfl
    · have hlen : (seqR k (l.take l.length) ++ l.drop l.length).length = l.length := by rw [List.length_append, seqR_len, List.length_take, List.length_drop]; omega
      simp only [laws_markLListS_l1]
      rw [if_neg (by rw [hlen]; simp), List.drop_length, List.append_nil, List.take_length]
  rw [key]; rfl
theorem heldLListS_eq {l : List LList} {k : Int} (hl : l.length ≤ 1073741824) (hf : (flatR l).length ≤ 1073741824) (h0 : 0 ≤ k) (h1 : k ≤ 100000000000) : laws_heldLListS (seqR k l) k = some (k + ((2 * (flatR l).length : Nat) : Int)) := by
  unfold laws_heldLListS
  have key : loop (laws_heldLListS_l1 (seqR k l)) (k, 0) = some (.brk (k + ((2 * (flatR l).length : Nat) : Int))) := by
    have := enum_eq (f := laws_heldLListS_l1 (seqR k l)) l.length (fun i => (k + ((2 * (flatR (l.take i)).length : Nat) : Int), (i : Int))) (.brk (k + ((2 * (flatR l).length : Nat) : Int))) (fun i hi => ?_) ?_
    · simpa [flatR, -List.length_flatMap] using this
    · have hgi := flatR_get l hi
      have hfi := flatR_le l i
      have hft : (flatR (l.take (i + 1))).length = (flatR (l.take i)).length + l[i].Rows.length := by rw [flatR_take hi, List.length_append]
      have hi' : i < (seqR k l).length := by rw [seqR_len]; exact hi
      have hget : (seqR k l)[i] = ⟨seqG mkRow 2 (k + ((2 * (flatR (l.take i)).length : Nat) : Int)) l[i].Rows.length⟩ := by
        have hsp : l = l.take i ++ l[i] :: l.drop (i + 1) := by rw [← List.drop_eq_getElem_cons hi, List.take_append_drop]
        have e : seqR k l = seqR k (l.take i) ++ (⟨seqG mkRow 2 (k + ((2 * (flatR (l.take i)).length : Nat) : Int)) l[i].Rows.length⟩ :: seqR (k + ((2 * (flatR (l.take i)).length : Nat) : Int) + ((2 * l[i].Rows.length : Nat) : Int)) (l.drop (i + 1))) := by
          conv => lhs; rw [hsp]
          rw [seqR_append]; rfl
        have hll : (seqR k (l.take i)).length = i := by rw [seqR_len, List.length_take]; omega
        have : (seqR k l)[i]? = some ⟨seqG mkRow 2 (k + ((2 * (flatR (l.take i)).length : Nat) : Int)) l[i].Rows.length⟩ := by
          rw [e, List.getElem?_append_right (by omega), hll, Nat.sub_self]; rfl
        rw [List.getElem?_eq_getElem hi'] at this
        exact Option.some.inj this
      simp only [laws_heldLListS_l1]
      rw [if_pos (by rw [seqR_len]; simp; omega), idx_nat hi', hget]
      simp only [Option.bind_some]
      rw [heldLRowS_eq (by omega) (by omega) (by omega)]
      simp only [Option.bind_some]
      rw [if_neg (by simp only [decide_eq_true_eq]; omega), w64_in (by omega) (by omega)]
      have : k + ((2 * (flatR (l.take i)).length : Nat) : Int) + ((2 * l[i].Rows.length : Nat) : Int) = k + ((2 * (flatR (l.take (i + 1))).length : Nat) : Int) := by omega
      rw [this]; rfl
    · simp only [laws_heldLListS_l1]
      rw [if_neg (by rw [seqR_len]; simp), List.take_length]
  rw [key]; rfl
theorem held_mark_b {m : Mem} (h : SmallM m) : ∃ n a b c d, laws_markMem m 1 = some (n, a, b, c, d) ∧ laws_heldMem ⟨⟨a, b⟩, ⟨c, d⟩⟩ 1 = some n ∧ 0 ≤ n ∧ n ≤ 10000000 := by
  have h1 := h.1; have h2 := h.2.1; have h3 := h.2.2.1; have h4 := h.2.2.2.1; have h5 := h.2.2.2.2
  have h6 := allS_len m.Lists
  obtain ⟨n, a, b, c, d, e1, e2, e3⟩ := held_mark h
  refine ⟨n, a, b, c, d, e1, e2, e3, ?_⟩
  unfold laws_markMem laws_markHeap laws_markLists at e1
  rw [markIntS_eq (by omega) (by omega) (by omega)] at e1
  simp only [Option.bind_some] at e1
  rw [markIntS_eq (by omega) (by omega) (by omega)] at e1
  simp only [Option.bind_some] at e1
  rw [markSListS_eq (by omega) (by omega) (by omega) (by omega)] at e1
  simp only [Option.bind_some] at e1
  rw [markSListS_eq (by omega) (by omega) (by omega) (by omega)] at e1
  simp only [Option.bind_some, Option.some.injEq, Prod.mk.injEq] at e1
  omega
theorem heldB_mark {b : Base} (h : SmallB b) : ∃ x, laws_markBase b 1 = some x ∧ laws_heldBase ⟨⟨⟨x.2.1, x.2.2.1⟩, ⟨x.2.2.2.1, x.2.2.2.2.1⟩⟩, ⟨b.Clock.Epoch, x.2.2.2.2.2.1⟩, x.2.2.2.2.2.2.1, x.2.2.2.2.2.2.2⟩ 1 = some x.1 ∧ 0 ≤ x.1 := by
  have h2 := h.2.1; have h3 := h.2.2.1; have h4 := h.2.2.2.1; have h5 := h.2.2.2.2
  obtain ⟨n, p, q, c, d, e1, e2, e3, e4⟩ := held_mark_b h.1
  unfold laws_markBase laws_markClock laws_heldBase laws_heldClock
  rw [e1]
  simp only [Option.bind_some]
  rw [markPinS_eq (by omega) (by omega) (by omega)]
  simp only [Option.bind_some]
  rw [markLListS_eq (by omega) (by omega) (by omega) (by omega)]
  simp only [Option.bind_some]
  rw [markIntS_eq (by omega) (by omega) (by omega)]
  simp only [Option.bind_some]
  refine ⟨_, rfl, ?_, ?_⟩
  · simp only
    rw [e2]
    simp only [Option.bind_some]
    rw [if_neg (by simp only [decide_eq_true_eq]; omega), heldPinS_eq (by omega) (by omega) (by omega)]
    simp only [Option.bind_some]
    rw [if_neg (by simp only [decide_eq_true_eq]; omega)]
    simp only [Option.bind_some]
    rw [if_neg (by simp only [decide_eq_true_eq]; omega), heldLListS_eq (by omega) (by omega) (by omega) (by omega)]
    simp only [Option.bind_some]
    rw [if_neg (by simp only [decide_eq_true_eq]; omega), heldIntS_eq (by omega) (by omega) (by omega)]
    simp only [Option.bind_some]
    rw [if_neg (by simp only [decide_eq_true_eq]; omega)]
  · simp only; omega
end Go.Gv
