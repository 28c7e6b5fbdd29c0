import Derived.Test.YtpkgcalilmlljaaGreatDoorXMA
import Derived.Lib.AtoiTie
import Derived.Lib.SplitLaws
import Derived.Lib.Join
set_option linter.unusedVariables false
set_option linter.unusedSimpArgs false
set_option linter.unusedSectionVars false
set_option linter.unnecessarySimpa false
set_option linter.constructorNameAsVariable false
section
/- Texts, plain: what is right; what is drawn is short. -/
set_option linter.unusedVariables false
set_option linter.unusedSimpArgs false
set_option linter.unusedSectionVars false
namespace Go.Gv
theorem within_eq (n a b : Int) : impl_within n a b = some (decide (a ≤ n ∧ n ≤ b)) := by
  unfold impl_within impl_within_j1
  by_cases h : a ≤ n <;> simp [h]
theorem l1In_eq (n a b : Int) : spec_l1In n a b = some (decide (a ≤ n ∧ n ≤ b)) := by
  unfold spec_l1In spec_l1In_j1
  by_cases h : a ≤ n <;> simp [h]

section
variable {α : Type} {p : α → Bool}
/-- A loop that looks for the first one. -/
theorem find_gen {f : Int → Option (Step Int (Out Unit Int))} {s : List α} (hl : s.length ≤ 4611686018427387904)
    (hf : ∀ k : Nat, f (k : Int) = if h : k < s.length then (if p s[k] then some (.stop (Out.ret (k : Int))) else some (.next ((k + 1 : Nat) : Int))) else some (.stop (Out.brk ()))) :
    ∀ d k, k + d = s.length → (∃ j, ∃ h : j < s.length, k ≤ j ∧ (∀ i (h : i < s.length), k ≤ i → i < j → p s[i] = false) ∧ p s[j] = true ∧ loop f (k : Int) = some (Out.ret (j : Int))) ∨ ((∀ i (h : i < s.length), k ≤ i → p s[i] = false) ∧ loop f (k : Int) = some (Out.brk ()))
  | 0, k, hk => .inr ⟨fun i h h2 => by omega, loop_stop (by rw [hf k, dif_neg (by omega)])⟩
  | d + 1, k, hk => by
    have hks : k < s.length := by omega
    by_cases hp : p s[k] = true
    · exact .inl ⟨k, hks, Nat.le_refl _, fun i h h1 h2 => by omega, hp, loop_stop (by rw [hf k, dif_pos hks, if_pos hp])⟩
    · have hp : p s[k] = false := by simpa using hp
      have hn : f (k : Int) = some (.next ((k + 1 : Nat) : Int)) := by rw [hf k, dif_pos hks, if_neg (by simp [hp])]
      rcases find_gen hl hf d (k + 1) (by omega) with ⟨j, h, h1, h2, h3, h4⟩ | ⟨h1, h2⟩
      · refine .inl ⟨j, h, by omega, fun i hi a b => ?_, h3, by rw [loop_next hn]; exact h4⟩
        by_cases e : i = k
        · subst e; exact hp
        · exact h2 i hi (by omega) b
      · refine .inr ⟨fun i hi a => ?_, by rw [loop_next hn]; exact h2⟩
        by_cases e : i = k
        · subst e; exact hp
        · exact h1 i hi (by omega)
end
def CmdV (c : Cmd) : Prop := (1 ≤ c.Kind ∧ c.Kind ≤ 4) ∧ (0 ≤ c.Key ∧ c.Key ≤ 99) ∧ (0 ≤ c.Val ∧ c.Val ≤ 65535) ∧ (c.Kind = 2 ∨ c.Kind = 4 ∨ c.Val = 0)
instance (c : Cmd) : Decidable (CmdV c) := by unfold CmdV; infer_instance
def BatV (b : Batch) : Prop := (b.Collect = true → b.Cmds = []) ∧ b.Cmds.length ≤ 6 ∧ (∀ c ∈ b.Cmds, CmdV c) ∧ (b.Collect = false → 1 ≤ b.Cmds.length)
instance (b : Batch) : Decidable (BatV b) := by unfold BatV; infer_instance
theorem specCmd_eq (c : Cmd) : spec_CmdOk c = some (decide (CmdV c)) := by
  unfold spec_CmdOk spec_CmdOk_j1 spec_CmdOk_j2
  simp only [l1In_eq, Option.bind_some]
  by_cases h1 : 1 ≤ c.Kind ∧ c.Kind ≤ 4
  · by_cases h2 : 0 ≤ c.Key ∧ c.Key ≤ 99
    · simp only [decide_eq_true h1, decide_eq_true h2, Bool.not_true, Bool.false_eq_true, if_false]
      have dv : (c.Kind = 2 ∨ c.Kind = 4) → decide (0 ≤ c.Val ∧ c.Val ≤ 65535) = decide (CmdV c) := fun k => by
        rw [Bool.eq_iff_iff, decide_eq_true_eq, decide_eq_true_eq]
        exact ⟨fun h => ⟨h1, h2, h, by omega⟩, fun h => h.2.2.1⟩
      by_cases k2 : c.Kind = 2
      · have e : (c.Kind == 2) = true := by simpa using k2
        simp only [e, if_true]
        rw [dv (.inl k2)]
      · have e : (c.Kind == 2) = false := by simpa using k2
        by_cases k4 : c.Kind = 4
        · have e4 : (c.Kind == 4) = true := by simpa using k4
          simp only [e, e4, Bool.false_eq_true, if_false, if_true]
          rw [dv (.inr k4)]
        · have e4 : (c.Kind == 4) = false := by simpa using k4
          simp only [e, e4, Bool.false_eq_true, if_false]
          congr 1
          rw [Bool.eq_iff_iff, beq_iff_eq, decide_eq_true_eq]
          constructor
          · intro h; exact ⟨h1, h2, by omega, .inr (.inr h)⟩
          · rintro ⟨_, _, _, h | h | h⟩ <;> omega
    · simp only [decide_eq_true h1, decide_eq_false h2, Bool.not_true, Bool.not_false, Bool.false_eq_true, if_false, if_true]
      rw [decide_eq_false (show ¬ CmdV c from fun q => h2 q.2.1)]
  · simp only [decide_eq_false h1, Bool.not_false, if_true]
    rw [decide_eq_false (show ¬ CmdV c from fun q => h1 q.1)]
theorem implCmd_eq (c : Cmd) : impl_CmdOk c = some (decide (CmdV c)) := by
  have key : ∀ B : Bool, impl_CmdOk_j1 c B = some (decide ((1 ≤ c.Kind ∧ c.Kind ≤ 4) ∧ (0 ≤ c.Key ∧ c.Key ≤ 99) ∧ ((B = true ∧ (0 ≤ c.Val ∧ c.Val ≤ 65535)) ∨ c.Val = 0))) := fun B => by
    unfold impl_CmdOk_j1 impl_CmdOk_j2
    simp only [within_eq, Option.bind_some]
    by_cases h1 : 1 ≤ c.Kind ∧ c.Kind ≤ 4
    · by_cases h2 : 0 ≤ c.Key ∧ c.Key ≤ 99
      · cases B
        · simp [h1, h2]; rw [Bool.eq_iff_iff]; simp
        · by_cases h3 : 0 ≤ c.Val ∧ c.Val ≤ 65535
          · simp [h1, h2, h3]
          · simp only [decide_eq_true h1, decide_eq_true h2, decide_eq_false h3, if_true, Bool.false_eq_true, if_false]
            congr 1
            rw [Bool.eq_iff_iff, beq_iff_eq, decide_eq_true_eq]
            exact ⟨fun h => ⟨h1, h2, .inr h⟩, fun h => h.2.2.elim (fun q => absurd q.2 h3) id⟩
      · simp only [decide_eq_true h1, decide_eq_false h2, if_true, Bool.false_eq_true, if_false]
        rw [decide_eq_false (fun q => h2 q.2.1)]
    · simp only [decide_eq_false h1, Bool.false_eq_true, if_false]
      rw [decide_eq_false (fun q => h1 q.1)]
  unfold impl_CmdOk
  have fin : ∀ B : Bool, (B = true ↔ c.Kind = 2 ∨ c.Kind = 4) → impl_CmdOk_j1 c B = some (decide (CmdV c)) := fun B hB => by
    rw [key]
    congr 1
    rw [Bool.eq_iff_iff, decide_eq_true_eq, decide_eq_true_eq]
    constructor
    · rintro ⟨a, b, q | q⟩
      · exact show CmdV c from ⟨a, b, q.2, by have := hB.1 q.1; omega⟩
      · exact show CmdV c from ⟨a, b, by omega, .inr (.inr q)⟩
    · rintro ⟨a, b, d, q⟩
      refine ⟨a, b, ?_⟩
      rcases q with q | q | q
      · exact .inl ⟨hB.2 (.inl q), d⟩
      · exact .inl ⟨hB.2 (.inr q), d⟩
      · exact .inr q
  by_cases k2 : c.Kind = 2
  · rw [if_pos (by simpa using k2)]; exact fin true (by simp [k2])
  · rw [if_neg (by simpa using k2)]; exact fin _ (by simp [k2])
theorem specBat_eq {b : Batch} (hl : b.Cmds.length ≤ 1000000) : spec_BatchOk b = some (decide (BatV b)) := by
  unfold spec_BatchOk
  cases hc : b.Collect
  · rw [if_neg (by simp)]
    have hs : ∀ k (hk : k < b.Cmds.length), spec_BatchOk_l1 b (k : Int) = if CmdV b.Cmds[k] then some (.next ((k + 1 : Nat) : Int)) else some (.stop (Out.ret false)) := fun k hk => by
      simp only [spec_BatchOk_l1]
      rw [if_pos (by simp; omega), idx_nat hk, Option.bind_some, specCmd_eq, Option.bind_some, w64_in (by omega) (by omega)]
      by_cases q : CmdV b.Cmds[k] <;> simp [q]
    have key : loop (spec_BatchOk_l1 b) 0 = _ := scan_list (f := spec_BatchOk_l1 b) b.Cmds (fun k => (k : Int)) CmdV (Out.brk ()) (Out.ret false) (fun k hk hp => by rw [hs k hk, if_pos hp]) (fun k hk hp => by rw [hs k hk, if_neg hp]) (by simp [spec_BatchOk_l1])
    rw [key]
    by_cases q : ∀ x ∈ b.Cmds, CmdV x
    · rw [if_pos q]
      simp only [Option.bind_some, spec_BatchOk_m1, spec_BatchOk_j1, l1In_eq]
      congr 1; rw [Bool.eq_iff_iff, decide_eq_true_eq, decide_eq_true_eq]
      exact ⟨fun a => ⟨fun h => (by rw [hc] at h; cases h), by omega, q, fun _ => by omega⟩, fun a => by have := a.2.2.2 hc; have := a.2.1; omega⟩
    · rw [if_neg q, decide_eq_false (show ¬ BatV b from fun a => q a.2.2.1)]; rfl
  · rw [if_pos rfl]
    congr 1; rw [Bool.eq_iff_iff, beq_iff_eq, decide_eq_true_eq]
    constructor
    · intro h
      have h0 : b.Cmds = [] := List.eq_nil_of_length_eq_zero (by omega)
      exact ⟨fun _ => h0, by rw [h0]; simp, by rw [h0]; simp, fun h => by rw [hc] at h; cases h⟩
    · intro h
      rw [h.1 hc]; rfl
/-- slices.ContainsFunc's loop. -/
theorem cont_loop {α : Type} {l : List α} {f : Int → Option (Step Int (Out Unit Int))} {p : α → Bool} {m : (Out Unit Int) → Option Int} (hl : l.length ≤ 4611686018427387904)
    (hf : ∀ k : Nat, f (k : Int) = if h : k < l.length then (if p l[k] then some (.stop (Out.ret (k : Int))) else some (.next ((k + 1 : Nat) : Int))) else some (.stop (Out.brk ()))) (m1 : ∀ r, m (.ret r) = some r) (m2 : m (.brk ()) = some (-1)) :
    ((loop f 0).bind m).bind (fun x1 => some (decide (0 ≤ x1))) = some (l.any p) := by
  rcases find_gen (f := f) (p := p) hl hf l.length 0 (by omega) with ⟨j, h, _, h2, h3, h4⟩ | ⟨h1, h2⟩
  · rw [show (0 : Int) = ((0 : Nat) : Int) from rfl, h4, Option.bind_some, m1, Option.bind_some, decide_eq_true (by omega)]
    congr 1
    exact (List.any_eq_true.2 ⟨l[j], List.getElem_mem h, h3⟩).symm
  · rw [show (0 : Int) = ((0 : Nat) : Int) from rfl, h2, Option.bind_some, m2, Option.bind_some, decide_eq_false (by omega)]
    congr 1
    refine (List.any_eq_false.2 fun x hx => ?_).symm
    obtain ⟨i, hi, rfl⟩ := List.getElem_of_mem hx
    simp [h1 i hi (Nat.zero_le _)]
theorem contains_Cmd {l : List Cmd} (hl : l.length ≤ 1000) {f : Cmd → Bool} {g : Cmd → Option Bool} (hg : ∀ x ∈ l, g x = some (f x)) : slices_ContainsFunc_Cmd l g = some (l.any f) :=
  cont_loop (f := slices_IndexFunc_Cmd_l1 l g) (m := slices_IndexFunc_Cmd_m1) (by omega) (fun k => by
    simp only [slices_IndexFunc_Cmd_l1]
    by_cases h : k < l.length
    · rw [dif_pos h, if_pos (by simp; omega), idx_nat h, Option.bind_some, hg _ (List.getElem_mem h), Option.bind_some, w64_in (by omega) (by omega)]; rfl
    · rw [dif_neg h, if_neg (by simpa using h)]) (fun _ => rfl) rfl
theorem all_not {α : Type} {l : List α} {P : α → Prop} [DecidablePred P] : (!(l.any fun x => !decide (P x))) = decide (∀ x ∈ l, P x) := by
  rw [Bool.eq_iff_iff]
  simp
theorem implBat_eq {b : Batch} (hl : b.Cmds.length ≤ 1000) : impl_BatchOk b = some (decide (BatV b)) := by
  unfold impl_BatchOk
  cases hc : b.Collect
  · rw [if_neg (by simp), within_eq, Option.bind_some]
    by_cases h : 1 ≤ (b.Cmds.length : Int) ∧ (b.Cmds.length : Int) ≤ 6
    · rw [decide_eq_true h, if_pos rfl, contains_Cmd hl (f := fun x => !decide (CmdV x)) (fun x _ => by unfold impl_BatchOk_1; rw [implCmd_eq]; rfl), Option.bind_some, all_not]
      unfold impl_BatchOk_j1
      congr 1; rw [Bool.eq_iff_iff, decide_eq_true_eq, decide_eq_true_eq]
      exact ⟨fun a => ⟨fun h => (by rw [hc] at h; cases h), by omega, a, fun _ => by omega⟩, fun a => a.2.2.1⟩
    · rw [decide_eq_false h, if_neg (by simp)]
      unfold impl_BatchOk_j1
      rw [decide_eq_false (show ¬ BatV b from fun a => h (by have := a.2.2.2 hc; have := a.2.1; omega))]
  · rw [if_pos rfl]
    congr 1; rw [Bool.eq_iff_iff, beq_iff_eq, decide_eq_true_eq]
    constructor
    · intro h
      have h0 : b.Cmds = [] := List.eq_nil_of_length_eq_zero (by omega)
      exact ⟨fun _ => h0, by rw [h0]; simp, by rw [h0]; simp, fun h => by rw [hc] at h; cases h⟩
    · intro h
      rw [h.1 hc]; rfl
def CelledK (k : Int) : Prop := k = 1 ∨ k = 2 ∨ k = 3 ∨ k = 7
instance (k : Int) : Decidable (CelledK k) := by unfold CelledK; infer_instance
def OpOkP (o : GOp) : Prop := (1 ≤ o.Kind ∧ o.Kind ≤ 7) ∧ (CelledK o.Kind ∨ o.Cell = 0) ∧ (0 ≤ o.Cell ∧ o.Cell ≤ 1) ∧ if o.Kind = 1 then (0 ≤ o.Size ∧ o.Size ≤ 100) ∧ 0 ≤ o.Val ∧ o.Val ≤ 65535 else o.Size = 0 ∧ o.Val = 0
instance (o : GOp) : Decidable (OpOkP o) := by unfold OpOkP; infer_instance
theorem hb0 (x : Int) : (x == 0) = decide (x = 0) := by rw [Bool.eq_iff_iff]; simp
theorem cel1 : CelledK 1 := .inl rfl
theorem celled_eq (k : Int) : spec_l15Celled k = some (decide (CelledK k)) := by
  unfold spec_l15Celled spec_l15Celled_j1 CelledK
  by_cases h1 : k = 1
  · simp [h1]
  · by_cases h2 : k = 2
    · simp [h2]
    · by_cases h3 : k = 3
      · simp [h3]
      · by_cases h7 : k = 7
        · simp [h7]
        · simp [h1, h2, h3, h7]
theorem spec_OpOk_eq (o : GOp) : spec_OpOk o = some (decide (OpOkP o)) := by
  unfold spec_OpOk spec_OpOk_j1 spec_OpOk_j2 spec_OpOk_j3 OpOkP
  rw [l1In_eq, celled_eq, l1In_eq, l1In_eq, l1In_eq]
  by_cases h1 : 1 ≤ o.Kind ∧ o.Kind ≤ 7
  · by_cases h2 : CelledK o.Kind
    · by_cases h3 : 0 ≤ o.Cell ∧ o.Cell ≤ 1
      · by_cases h4 : o.Kind = 1
        · by_cases h5 : 0 ≤ o.Size ∧ o.Size ≤ 100 <;> simp [h1, h2, h3, h4, h5, cel1] <;> exact hb0 _
        · by_cases h5 : o.Size = 0 <;> simp [h1, h2, h3, h4, h5, cel1] <;> exact hb0 _
      · simp [h1, h2, h3]
    · by_cases h0 : o.Cell = 0
      · by_cases h4 : o.Kind = 1
        · exact absurd (.inl h4) h2
        · by_cases h5 : o.Size = 0 <;> simp [h1, h2, h0, h4, h5, cel1] <;> exact hb0 _
      · simp [h1, h2, h0]
  · simp [h1]
theorem impl_OpOk_eq (o : GOp) : impl_OpOk o = some (decide (OpOkP o)) := by
  have key : ∀ x, impl_OpOk_j1 o x = if 1 ≤ o.Kind ∧ o.Kind ≤ 7 then (if x then some (decide ((0 ≤ o.Cell ∧ o.Cell ≤ 1) ∧ if o.Kind = 1 then (0 ≤ o.Size ∧ o.Size ≤ 100) ∧ 0 ≤ o.Val ∧ o.Val ≤ 65535 else o.Size = 0 ∧ o.Val = 0) : Bool) else some (decide (o.Cell = 0 ∧ if o.Kind = 1 then (0 ≤ o.Size ∧ o.Size ≤ 100) ∧ 0 ≤ o.Val ∧ o.Val ≤ 65535 else o.Size = 0 ∧ o.Val = 0))) else some false := fun x => by
    unfold impl_OpOk_j1 impl_OpOk_j2 impl_OpOk_j3 impl_OpOk_j4
    rw [within_eq, within_eq, within_eq, within_eq]
    by_cases h1 : 1 ≤ o.Kind ∧ o.Kind ≤ 7
    · cases x
      · by_cases h0 : o.Cell = 0
        · by_cases h4 : o.Kind = 1
          · by_cases h5 : 0 ≤ o.Size ∧ o.Size ≤ 100 <;> simp [h1, h0, h4, h5, cel1] <;> exact hb0 _
          · by_cases h5 : o.Size = 0 <;> simp [h1, h0, h4, h5, cel1] <;> exact hb0 _
        · simp [h1, h0]
      · by_cases h3 : 0 ≤ o.Cell ∧ o.Cell ≤ 1
        · by_cases h4 : o.Kind = 1
          · by_cases h5 : 0 ≤ o.Size ∧ o.Size ≤ 100 <;> simp [h1, h3, h4, h5, cel1] <;> exact hb0 _
          · by_cases h5 : o.Size = 0 <;> simp [h1, h3, h4, h5, cel1] <;> exact hb0 _
        · simp [h1, h3]
    · simp [h1]
  have key2 : impl_OpOk o = impl_OpOk_j1 o (decide (CelledK o.Kind)) := by
    unfold impl_OpOk CelledK
    by_cases h1 : o.Kind = 1
    · simp [h1]
    · by_cases h2 : o.Kind = 2
      · simp [h2]
      · by_cases h3 : o.Kind = 3
        · simp [h3]
        · have h7 : (o.Kind == 7) = decide (o.Kind = 1 ∨ o.Kind = 2 ∨ o.Kind = 3 ∨ o.Kind = 7) := by rw [Bool.eq_iff_iff]; simp [h1, h2, h3]
          rw [if_neg (by simpa using h1), if_neg (by simpa using h2), if_neg (by simpa using h3), h7]
  rw [key2, key]
  unfold OpOkP
  by_cases h1 : 1 ≤ o.Kind ∧ o.Kind ≤ 7
  · by_cases h2 : CelledK o.Kind
    · simp only [h1, h2, and_self, decide_true, if_true, true_or, true_and]
    · by_cases h0 : o.Cell = 0
      · simp [h1, h2, h0]
      · simp [h1, h2, h0]
  · simp [h1]
def Post {α : Type} (o : Option α) (Q : α → Prop) : Prop := ∃ x, o = some x ∧ Q x
/-- What a step of a loop has to give. -/
abbrev StepP {σ ρ : Type} (I : σ → Prop) (Q : ρ → Prop) : Step σ ρ → Prop
  | .next s => I s
  | .stop r => Q r
namespace Post
variable {α β σ ρ : Type} {Q : α → Prop}
theorem ret {x : α} (h : Q x) : Post (some x) Q := ⟨x, rfl, h⟩
theorem bind {P : β → Prop} {o : Option β} {f : β → Option α} (h : Post o P) (hf : ∀ x, P x → Post (f x) Q) : Post (o.bind f) Q := by
  obtain ⟨x, e, hx⟩ := h
  rw [e]; exact hf x hx
theorem need {p : Prop} [Decidable p] {k : Option α} (h : p) (hk : Post k Q) : Post (Gv.need p k) Q := by rw [need_yes h]; exact hk
theorem ite {c : Prop} [Decidable c] {a b : Option α} (h1 : c → Post a Q) (h2 : ¬ c → Post b Q) : Post (if c then a else b) Q := by
  by_cases h : c
  · rw [if_pos h]; exact h1 h
  · rw [if_neg h]; exact h2 h
theorem mono {P : α → Prop} {o : Option α} (h : Post o P) (hf : ∀ x, P x → Q x) : Post o Q := by obtain ⟨x, e, hx⟩ := h; exact ⟨x, e, hf x hx⟩
theorem idx {l : List β} {i : Int} (h : 0 ≤ i ∧ i < l.length) : Post (Gv.idx l i) (fun x => x ∈ l) := ⟨_, idx_in h.1 h.2, List.getElem_mem _⟩
theorem loop {Q : ρ → Prop} {f : σ → Option (Step σ ρ)} {s : σ} (μ : σ → Nat) (Inv : σ → Prop) (h0 : Inv s) (hb : ∀ s, Inv s → Post (f s) (StepP (fun s' => Inv s' ∧ μ s' < μ s) (fun r => Q r))) : Post (Gv.loop f s) Q := by
  have key : ∀ n s, μ s < n → Inv s → Post (Gv.loop f s) Q := by
    intro n
    induction n with
    | zero => intro s h; omega
    | succ n ih =>
      intro s h hs
      obtain ⟨q, e, hq⟩ := hb s hs
      cases q with
      | next s' => rw [loop_next e]; exact ih s' (by have := hq.2; omega) hq.1
      | stop r => rw [loop_stop e]; exact ⟨r, rfl, hq⟩
  exact key _ s (Nat.lt_succ_self _) h0
theorem of {o : Option α} {x : α} (h : o = some x) : Post o (fun y => y = x) := ⟨x, h, rfl⟩
end Post
/-! ### The cursor -/
def Cu (b : List UInt8) (i : Int) : Prop := (0 ≤ i ∧ i ≤ b.length) ∧ b.length ≤ 1048576
theorem and255 (x : Int) : 0 ≤ bitsOp .and .i64 x 255 ∧ bitsOp .and .i64 x 255 ≤ 255 := by
  have e : bitsOp .and .i64 x 255 = IntKind.i64.wrap ((BitVec.ofInt 64 x &&& BitVec.ofInt 64 255).toNat : Int) := rfl
  have h : (BitVec.ofInt 64 x &&& BitVec.ofInt 64 255).toNat ≤ 255 := by
    rw [BitVec.toNat_and]; exact Nat.le_trans Nat.and_le_right (by decide)
  rw [e, wrap_i64 (by omega) (by omega)]; omega
section
variable {b : List UInt8} {i h : Int} (hc : Cu b i)
include hc
theorem byteD : Post (spec_l1Byte ⟨b, i, h⟩) (fun x => (0 ≤ x.1 ∧ x.1 ≤ 255) ∧ Cu b x.2.1) := by
  unfold spec_l1Byte spec_l1Byte_j1
  obtain ⟨⟨a1, a2⟩, a3⟩ := hc
  refine .ite (fun q => ?_) (fun q => ?_)
  · have q' := of_decide_eq_true q
    simp only at q'
    refine .bind (.idx ⟨a1, q'⟩) fun x _ => .ret ⟨and255 _, ?_⟩
    show Cu b (w64 (i + 1))
    rw [w64_in (by omega) (by omega)]
    exact ⟨by omega, a3⟩
  · exact .ret ⟨and255 _, ⟨a1, a2⟩, a3⟩
theorem below {n : Int} (hn : n ≤ 1000000) : Post (spec_l1Below ⟨b, i, h⟩ n) (fun x => (0 ≤ x.1 ∧ (x.1 < n ∨ n ≤ 0 ∧ x.1 = 0)) ∧ Cu b x.2.1) := by
  unfold spec_l1Below
  refine .ite (fun q => ?_) (fun q => ?_)
  · have q' := of_decide_eq_true q
    exact .ret ⟨by simp; omega, hc⟩
  · have q0 : 0 < n := by simpa using q
    refine .ite (fun q => ?_) (fun q => ?_)
    · refine .bind (byteD hc) fun x ⟨hx, h1⟩ => .need (by omega) (.ret ⟨?_, h1⟩)
      simp only [tmod_pos hx.1]
      exact ⟨Int.emod_nonneg _ (by omega), .inl (Int.emod_lt_of_pos _ q0)⟩
    · refine .bind (byteD hc) fun x ⟨hx, h1⟩ => .bind (byteD h1) fun y ⟨hy, h2⟩ => .bind (byteD h2) fun z ⟨hz, h3⟩ => .bind (byteD h3) fun w ⟨hw, h4⟩ => .need (by omega) (.ret ⟨?_, h4⟩)
      have e : w64 (w64 (w64 (w64 (x.1 * 16777216) + w64 (y.1 * 65536)) + w64 (z.1 * 256)) + w.1) = x.1 * 16777216 + y.1 * 65536 + z.1 * 256 + w.1 := by
        rw [w64_in (x := x.1 * 16777216) (by omega) (by omega), w64_in (x := y.1 * 65536) (by omega) (by omega), w64_in (x := z.1 * 256) (by omega) (by omega), w64_in (x := x.1 * 16777216 + y.1 * 65536) (by omega) (by omega), w64_in (x := x.1 * 16777216 + y.1 * 65536 + z.1 * 256) (by omega) (by omega), w64_in (by omega) (by omega)]
      simp only [e]
      rw [tmod_pos (by omega)]
      exact ⟨Int.emod_nonneg _ (by omega), .inl (Int.emod_lt_of_pos _ q0)⟩
theorem onceD {n : Int} (hn : n ≤ 1000000) : Post (spec_l1Once ⟨b, i, h⟩ n) (fun x => Cu b x.2.1) :=
  .bind (below hc hn) fun _ ⟨_, h1⟩ => .ret h1
theorem pickD {l : List Int} (hl : 0 < l.length) (hl2 : l.length ≤ 1000) : Post (spec_l1PickInt ⟨b, i, h⟩ l) (fun x => x.1 ∈ l ∧ Cu b x.2.1) :=
  .bind (below hc (by omega)) fun x ⟨hx, h1⟩ => .bind (.idx (by omega)) fun y hy => .ret ⟨hy, h1⟩
end
theorem newD {code : List UInt8} (hl : code.length ≤ 1048576) : Post (spec_l1New code) (fun x => Cu code x.1) := by
  unfold spec_l1New
  refine .bind (P := fun _ => True) (.loop (fun s => code.length - s.2.toNat) (fun s => 0 ≤ s.2 ∧ s.2 ≤ code.length) ⟨by simp, by simp⟩ ?_) fun x _ => .ret ⟨⟨by simp, by simp⟩, hl⟩
  rintro ⟨a, k⟩ ⟨h1, h2⟩
  simp only [spec_l1New_l1, spec_l1New_j2]
  simp only at h1 h2
  have nx : k < code.length → Post ((idx code k).bind fun x7 => some (Step.next (bitsOp .and .i64 (w64 ((w64 ((w64 (a * 131)) + (x7.toNat : Int))) + 7)) 1073741823, w64 (k + 1)))) (StepP (ρ := Int) (fun s' => (0 ≤ s'.2 ∧ s'.2 ≤ code.length) ∧ code.length - s'.2.toNat < code.length - k.toNat) (fun r => True)) := fun hk => by
    refine .bind (.idx ⟨h1, hk⟩) fun x _ => .ret ?_
    rw [w64_in (x := k + 1) (by omega) (by omega)]
    refine ⟨⟨?_, ?_⟩, ?_⟩ <;> (try simp only) <;> omega
  refine .ite (fun q => ?_) (fun q => ?_)
  · have q' := of_decide_eq_true q
    exact .ite (fun _ => nx q') (fun _ => .ret trivial)
  · rw [if_neg (by simp)]; exact .ret trivial
section
variable {b : List UInt8} {i h : Int} (hc : Cu b i)
include hc
theorem opD : Post (spec_l15Op ⟨b, i, h⟩) (fun x => OpOkP x.1 ∧ Cu b x.2.1) := by
  unfold spec_l15Op
  refine .bind (pickD hc (by decide) (by decide)) fun x1 ⟨hk, h1⟩ => ?_
  have hk7 : 1 ≤ x1.1 ∧ x1.1 ≤ 7 := by simp at hk; omega
  rw [celled_eq, Option.bind_some]
  have key : ∀ (i' h' cell : Int), Cu b i' → (CelledK x1.1 ∨ cell = 0) → (0 ≤ cell ∧ cell ≤ 1) → Post (spec_l15Op_j1 ⟨b, i, h⟩ x1 i' h' cell) (fun x => OpOkP x.1 ∧ Cu b x.2.1) := by
    intro i' h' cell hc' h2 h3
    unfold spec_l15Op_j1 spec_l15Op_j3 spec_l15Op_j2
    refine .ite (fun q => ?_) (fun q => ?_)
    · have q1 : x1.1 = 1 := by simpa using q
      have fin : ∀ (i h size : Int), Cu b i → (0 ≤ size ∧ size ≤ 100) → Post ((spec_l1Below ⟨b, i, h⟩ 60000).bind fun x13 => some ((⟨x1.1, cell, size, x13.1⟩ : GOp), (x13.2.1, x13.2.2))) (fun x => OpOkP x.1 ∧ Cu b x.2.1) := fun i h size hi hs =>
        .bind (below hi (by omega)) fun v ⟨hv, h4⟩ => .ret ⟨⟨hk7, h2, h3, by rw [if_pos q1]; exact ⟨hs, by (try simp only); omega⟩⟩, h4⟩
      refine .bind (below hc' (by omega)) fun s ⟨hs, h4⟩ => .bind (onceD h4 (by omega)) fun o h5 => .ite (fun _ => .bind (pickD h5 (by decide) (by decide)) fun p ⟨hp, h6⟩ => fin _ _ _ h6 (by simp at hp; omega)) (fun _ => fin _ _ _ h5 (by rw [w64_in (by omega) (by omega)]; omega))
    · have q1 : ¬ x1.1 = 1 := by simpa using q
      exact .ret ⟨⟨hk7, h2, h3, by rw [if_neg q1]; exact ⟨rfl, rfl⟩⟩, hc'⟩
  refine .ite (fun q => ?_) (fun q => ?_)
  · refine .bind (pickD h1 (by decide) (by decide)) fun x ⟨hx, h2⟩ => key _ _ _ h2 (.inl (of_decide_eq_true q)) (by simp at hx; omega)
  · exact key _ _ _ h1 (.inr rfl) (by omega)
theorem cmdD : Post (spec_l21Cmd ⟨b, i, h⟩) (fun x => Cu b x.2.1) := by
  unfold spec_l21Cmd spec_l21Cmd_j2 spec_l21Cmd_j1
  refine .bind (pickD hc (by decide) (by decide)) fun x1 ⟨_, h1⟩ => .bind (below h1 (by omega)) fun x2 ⟨_, h2⟩ => .ite (fun _ => .ite (fun _ => ?_) fun _ => .ret h2) fun _ => .ite (fun _ => ?_) fun _ => .ret h2
  · exact .bind (below h2 (by omega)) fun x7 ⟨_, h7⟩ => .bind (pickD h7 (by simp) (by simp)) fun x8 ⟨_, h8⟩ => .ret h8
  · exact .bind (below h2 (by omega)) fun x7 ⟨_, h7⟩ => .bind (pickD h7 (by simp) (by simp)) fun x8 ⟨_, h8⟩ => .ret h8
theorem cmdAnyD : Post (spec_l21Any ⟨b, i, h⟩) (fun x => Cu b x.2.1) := by
  unfold spec_l21Any spec_l21Any_j1
  refine .bind (cmdD hc) fun x1 h1 => .bind (below h1 (by omega)) fun x7 ⟨_, h7⟩ => .ite (fun _ => ?_) fun _ => .ite (fun _ => ?_) fun _ => .ite (fun _ => ?_) fun _ => .ret h7
  · exact .bind (pickD h7 (by decide) (by decide)) fun x8 ⟨_, h8⟩ => .ret h8
  · exact .bind (pickD h7 (by decide) (by decide)) fun x8 ⟨_, h8⟩ => .ret h8
  · exact .bind (pickD h7 (by decide) (by decide)) fun x8 ⟨_, h8⟩ => .ret h8
theorem batchD : Post (spec_l23Draw ⟨b, i, h⟩) (fun x => x.1.Cmds.length ≤ 100 ∧ Cu b x.2.1) := by
  unfold spec_l23Draw
  refine .bind (onceD hc (by omega)) fun x1 h1 => .ite (fun _ => .ret ⟨by simp, h1⟩) fun _ => .bind (below h1 (by omega)) fun x2 ⟨hx, h2⟩ => ?_
  rw [w64_in (by omega) (by omega)]
  refine .bind (P := fun x => x.2.2.length ≤ 100 ∧ Cu b x.1) (.loop (fun s => s.1.toNat) (fun s => (0 ≤ s.1 ∧ s.1 + s.2.2.2.length ≤ 10) ∧ Cu b s.2.1) ⟨⟨by (try simp only); omega, by simp; omega⟩, h2⟩ ?_) fun x hx => .ret hx
  rintro ⟨n, i1, h1, l⟩ ⟨⟨n0, n1⟩, hi1⟩
  simp only at n0 n1 hi1
  simp only [spec_l23Draw_l1, spec_l23Draw_j2]
  refine .ite (fun q => ?_) (fun q => .ret ⟨by (try simp only); omega, hi1⟩)
  have q1 := of_decide_eq_true q
  refine .bind (cmdD hi1) fun o h3 => .need (by simp; omega) (.ret ?_)
  rw [w64_in (by omega) (by omega)]
  exact ⟨⟨⟨by (try simp only); omega, by simp; omega⟩, h3⟩, by (try simp only); omega⟩
theorem textD {m : Int} (hm : 0 ≤ m ∧ m ≤ 1000) : Post (spec_l1Text ⟨b, i, h⟩ m) (fun x => x.1.length ≤ 1000 ∧ Cu b x.2.1) := by
  unfold spec_l1Text
  refine .bind (below hc (by omega)) fun x1 ⟨_, h1⟩ => .bind (below h1 (by rw [w64_in (by omega) (by omega)]; omega)) fun x2 ⟨hx2, h2⟩ => ?_
  rw [w64_in (by omega) (by omega)] at hx2
  refine .bind (P := fun x => x.1.length ≤ 1000 ∧ Cu b x.2.1) (.loop (fun s => s.2.1.toNat) (fun s => (0 ≤ s.2.1 ∧ (s.1.length : Int) + s.2.1 ≤ m) ∧ Cu b s.2.2.1) ⟨⟨hx2.1, by simp; omega⟩, h2⟩ ?_) fun x hx => .ret hx
  rintro ⟨l, n, i1, h1⟩ ⟨⟨n0, n1⟩, hi1⟩
  simp only at n0 n1 hi1
  simp only [spec_l1Text_l1]
  refine .ite (fun q => ?_) (fun q => .ret ⟨by (try simp only); omega, hi1⟩)
  have q' := of_decide_eq_true q
  refine .bind (byteD hi1) fun x14 ⟨_, h14⟩ => ?_
  have fin : ∀ z, Post (spec_l1Text_j3 l n x14 z) (StepP (fun s' => ((0 ≤ s'.2.1 ∧ (s'.1.length : Int) + s'.2.1 ≤ m) ∧ Cu b s'.2.2.1) ∧ s'.2.1.toNat < n.toNat) (fun x => x.1.length ≤ 1000 ∧ Cu b x.2.1)) := fun z => by
    unfold spec_l1Text_j3
    rw [w64_in (by omega) (by omega)]
    have e : (l ++ [u8 z]).length = l.length + 1 := by simp
    exact .need (by simp; omega) (.ret ⟨⟨⟨by (try simp only); omega, by (try simp only); omega⟩, h14⟩, by (try simp only); omega⟩)
  unfold spec_l1Text_j2
  exact .ite (fun _ => .ite (fun _ => fin _) fun _ => fin _) fun _ => .ite (fun _ => fin _) fun _ => fin _
theorem spoil1D {s : List UInt8} (hs : s.length ≤ 90000) : Post (spec_l1Spoil ⟨b, i, h⟩ s) (fun x => x.1.length ≤ 200000 ∧ Cu b x.2.1) := by
  unfold spec_l1Spoil
  refine .ite (fun _ => .bind (textD hc (by omega)) fun x ⟨hx, h1⟩ => .ret ⟨by (try simp only); omega, h1⟩) fun q0 => ?_
  have q0' : ¬ (s.length : Int) = 0 := by simpa using q0
  refine .bind (below hc (by omega)) fun x2 ⟨hx2, h2⟩ => .bind (below h2 (by omega)) fun x3 ⟨_, h3⟩ => ?_
  have hk : 0 ≤ x2.1 ∧ x2.1 < s.length := by omega
  have ew : w64 (x2.1 + 1) = x2.1 + 1 := w64_in (by omega) (by omega)
  have l1 : (s.take x2.1.toNat).length ≤ s.length := List.length_take_le' ..
  have l2 : ∀ k, (s.drop k).length ≤ s.length := fun k => by simp
  refine .ite (fun _ => ?_) fun _ => .ite (fun _ => ?_) fun _ => .ite (fun _ => ?_) fun _ => ?_
  · rw [ew]
    have := l2 (x2.1 + 1).toNat
    exact .need (by omega) (.need (by omega) (.need (by omega) (.ret ⟨by simp only [List.length_append]; omega, h3⟩)))
  · have := l2 x2.1.toNat
    exact .need (by omega) (.need (by omega) (.bind (byteD h3) fun x4 ⟨_, h4⟩ => .need (by simp; omega) (.need (by simp; omega) (.ret ⟨by simp only [List.length_append, List.length_cons, List.length_nil]; omega, h4⟩))))
  · exact .need (by omega) (.ret ⟨by (try simp only); omega, h3⟩)
  · refine .need (by omega) (.bind (.idx hk) fun x5 _ => ?_)
    rw [ew]
    have := l2 (x2.1 + 1).toNat
    exact .need (by omega) (.bind (below h3 (by omega)) fun x6 ⟨_, h6⟩ => .need (by simp; omega) (.need (by simp; omega) (.ret ⟨by simp only [List.length_append, List.length_cons, List.length_nil]; omega, h6⟩)))
end
end Go.Gv
end
section
/- Texts, plain: numbers. -/
set_option linter.unusedVariables false
set_option linter.unusedSimpArgs false
set_option linter.unusedSectionVars false
namespace Go.Gv
theorem wrapR (x : Int) : -9223372036854775808 ≤ IntKind.i64.wrap x ∧ IntKind.i64.wrap x ≤ 9223372036854775807 := by
  grind [IntKind.wrap, IntKind.bits, IntKind.signed]
theorem w64R (x : Int) : -9223372036854775808 ≤ w64 x ∧ w64 x ≤ 9223372036854775807 := wrapR x
/-! ### The digits of a number -/
open Lib (decDigits itoa decFrom digitVal)
theorem dd_small {u : Nat} (h : u < 10) : decDigits u = [UInt8.ofNat (48 + u)] := by rw [decDigits, dif_pos h]
theorem dd_big {u : Nat} (h : ¬ u < 10) : decDigits u = decDigits (u / 10) ++ [UInt8.ofNat (48 + u % 10)] := by rw [decDigits, dif_neg h]
theorem dig_toNat {d : Nat} (h : d < 10) : (UInt8.ofNat (48 + d)).toNat = 48 + d := by
  rw [UInt8.toNat_ofNat']; omega
theorem dig_val {d : Nat} (h : d < 10) : digitVal (UInt8.ofNat (48 + d)) = some d := by
  unfold digitVal
  rw [dig_toNat h, if_pos (by omega)]; congr 1; omega
theorem dd_dig (u : Nat) : ∀ x ∈ decDigits u, 48 ≤ x.toNat ∧ x.toNat ≤ 57 := by
  induction u using Nat.strongRecOn with
  | _ u ih =>
    intro x hx
    by_cases h : u < 10
    · rw [dd_small h, List.mem_singleton] at hx
      rw [hx, dig_toNat h]; omega
    · rw [dd_big h, List.mem_append, List.mem_singleton] at hx
      rcases hx with hx | rfl
      · exact ih (u / 10) (by omega) x hx
      · rw [dig_toNat (by omega)]; omega
theorem dd_ne (u : Nat) : decDigits u ≠ [] := by
  by_cases h : u < 10
  · rw [dd_small h]; simp
  · rw [dd_big h]; simp
theorem decFrom_app (c : UInt8) : ∀ (l : List UInt8) (acc : Nat), decFrom acc (l ++ [c]) = (decFrom acc l).bind fun n => (digitVal c).map fun d => n * 10 + d
  | [], acc => by
    simp only [List.nil_append, decFrom, Option.bind_some]
    cases digitVal c <;> rfl
  | b :: r, acc => by
    simp only [List.cons_append, decFrom]
    cases digitVal b with
    | none => rfl
    | some d => exact decFrom_app c r _
theorem dd_val (u : Nat) : decFrom 0 (decDigits u) = some u := by
  induction u using Nat.strongRecOn with
  | _ u ih =>
    by_cases h : u < 10
    · rw [dd_small h]
      simp only [decFrom, dig_val h]; congr 1; omega
    · rw [dd_big h, decFrom_app, ih (u / 10) (by omega), Option.bind_some, dig_val (by omega)]
      simp only [Option.map_some]; congr 1; omega
theorem dd_len {u k : Nat} (h : u < 10 ^ k) (hk : 1 ≤ k) : (decDigits u).length ≤ k := by
  rw [Lib.decDigits_length]
  rcases Nat.lt_or_ge k (Lib.nDigits u) with q | q
  · exfalso
    have := Lib.nDigits_pos u
    obtain ⟨n, hn⟩ : ∃ n, Lib.nDigits u = n + 1 := ⟨Lib.nDigits u - 1, by omega⟩
    have key : ∀ n u, Lib.nDigits u = n + 1 → 1 ≤ n → 10 ^ n ≤ u := by
      intro n
      induction n with
      | zero => intro u _ h; omega
      | succ n ih =>
        intro u hu _
        by_cases hs : u < 10
        · rw [Lib.nDigits_small hs] at hu; omega
        · rw [Lib.nDigits_big hs] at hu
          rcases Nat.eq_zero_or_pos n with rfl | hp
          · simp; omega
          · have := ih (u / 10) (by omega) hp
            rw [Nat.pow_succ]; omega
    have h1 := key n u hn (by omega)
    have h2 : 10 ^ k ≤ 10 ^ n := Nat.pow_le_pow_right (by decide) (by omega)
    omega
  · exact q
theorem itoa_pos {n : Int} (h : 0 ≤ n) : itoa n = decDigits n.toNat := by unfold itoa; rw [if_neg (by omega)]
theorem dd_head (u : Nat) : ∃ c r, decDigits u = c :: r ∧ 48 ≤ c.toNat ∧ c.toNat ≤ 57 := by
  cases h : decDigits u with
  | nil => exact absurd h (dd_ne u)
  | cons c r => exact ⟨c, r, rfl, dd_dig u c (by rw [h]; simp)⟩
theorem itoa_len {n : Int} (h : 0 ≤ n ∧ n ≤ 65535) : (itoa n).length ≤ 5 := by
  rw [itoa_pos h.1]; exact dd_len (k := 5) (by omega) (by omega)
theorem itoa_dig {n : Int} (h : 0 ≤ n) : ∀ x ∈ itoa n, 48 ≤ x.toNat ∧ x.toNat ≤ 57 := by rw [itoa_pos h]; exact dd_dig _
theorem itoa_ne {n : Int} (h : 0 ≤ n) : itoa n ≠ [] := by rw [itoa_pos h]; exact dd_ne _
theorem rdDec_itoa {n : Int} (h : 0 ≤ n ∧ n ≤ 65535) : rdDec (itoa n) = (n, true) := by
  have hl := itoa_len h
  obtain ⟨c, r, e, c1, c2⟩ := dd_head n.toNat
  have hA : Lib.atoiAll (itoa n) = .ok n := by
    rw [itoa_pos h.1] at hl ⊢
    have hv := dd_val n.toNat
    rw [e] at hl hv ⊢
    rw [Lib.atoiAll_plain c r (by omega) (by omega), Lib.signless_short (by omega)]
    unfold Lib.decNat
    rw [if_neg (by simp), hv]
    simp only [Option.map_some, Lib.NumEnd.ofOption]
    rw [Int.toNat_of_nonneg h.1]
  have hT : (Lib.trimPrefix (itoa n) [45]).length ≤ 9 := by
    unfold Lib.trimPrefix
    split
    · rw [List.length_drop]; omega
    · omega
  unfold rdDec
  rw [hA]
  simp only
  rw [if_pos ⟨trivial, hT⟩]
theorem rdDec_nil : rdDec [] = (0, false) := rfl
/-! ### Dec -/
theorem decLoop : ∀ (u : Nat) (acc : List UInt8), u ≠ 0 → u < 9000000000000000000 → acc.length + u ≤ 9000000000000000000 → loop spec_Dec_l1 ((u : Int), acc) = some (decDigits u ++ acc) := by
  intro u
  induction u using Nat.strongRecOn with
  | _ u ih =>
    intro acc hu h1 h2
    have hm : Int.tmod (u : Int) 10 = ((u % 10 : Nat) : Int) := by rw [tmod_pos (by omega)]; omega
    have hd : Int.tdiv (u : Int) 10 = ((u / 10 : Nat) : Int) := by rw [tdiv_pos (by omega)]; omega
    have e : spec_Dec_l1 ((u : Int), acc) = some (.next (((u / 10 : Nat) : Int), UInt8.ofNat (48 + u % 10) :: acc)) := by
      simp only [spec_Dec_l1, spec_Dec_j2, hm, hd]
      rw [if_pos (by simpa using hu), if_neg (by simp; omega), need_yes (by simp; omega), w64_in (x := 48 + ((u % 10 : Nat) : Int)) (by omega) (by omega), w64_in (x := ((u / 10 : Nat) : Int)) (by omega) (by omega)]
      have : u8 (48 + ((u % 10 : Nat) : Int)) = UInt8.ofNat (48 + u % 10) := by
        unfold u8
        congr 1
        omega
      rw [this]; rfl
    rw [loop_next e]
    by_cases q : u < 10
    · rw [show u / 10 = 0 by omega, dd_small q, loop_stop (r := UInt8.ofNat (48 + u % 10) :: acc) (by simp [spec_Dec_l1]), show u % 10 = u by omega]; rfl
    · rw [ih (u / 10) (by omega) _ (by omega) (by omega) (by simp; omega), dd_big q, List.append_assoc]; rfl
theorem dec_eq {n : Int} (h : 0 ≤ n ∧ n ≤ 1000000000000) : spec_Dec n = some (itoa n) := by
  unfold spec_Dec
  rw [itoa_pos h.1]
  by_cases q : n = 0
  · rw [if_pos (by simpa using q), q, dd_small (by simp)]; rfl
  · rw [if_neg (by simpa using q)]
    have := decLoop n.toNat [] (by omega) (by omega) (by simp; omega)
    rw [Int.toNat_of_nonneg h.1] at this
    rw [this, Option.bind_some]
    simp only [spec_Dec_m1, spec_Dec_j1]
    rw [if_neg (by simp; omega), List.append_nil]
theorem decT {n : Int} (h : -9223372036854775808 ≤ n ∧ n ≤ 9223372036854775807) : Post (spec_Dec n) (fun _ => True) := by
  unfold spec_Dec
  refine .ite (fun _ => .ret trivial) fun _ => .bind (P := fun x => x.length ≤ 100) (.loop (fun s => s.1.natAbs) (fun s => (-9223372036854775808 ≤ s.1 ∧ s.1 ≤ 9223372036854775807) ∧ ∃ k, s.1.natAbs < 10 ^ k ∧ s.2.length + k ≤ 100) ⟨h, 20, by show n.natAbs < 10 ^ 20; omega, by simp⟩ ?_) fun x hx => ?_
  · rintro ⟨a, l⟩ ⟨hr, k, h1, h2⟩
    simp only at hr h1 h2
    simp only [spec_Dec_l1]
    refine .ite (fun q => ?_) fun _ => .ret (show l.length ≤ 100 by omega)
    have q : a ≠ 0 := by simpa using q
    have fin : ∀ x, Post (spec_Dec_j2 a l x) (StepP (fun s' => ((-9223372036854775808 ≤ s'.1 ∧ s'.1 ≤ 9223372036854775807) ∧ ∃ k, s'.1.natAbs < 10 ^ k ∧ s'.2.length + k ≤ 100) ∧ s'.1.natAbs < a.natAbs) fun r => r.length ≤ 100) := fun x => by
      have hk : k ≠ 0 := by rintro rfl; simp at h1; omega
      obtain ⟨k, rfl⟩ := Nat.exists_eq_succ_of_ne_zero hk
      rw [Nat.pow_succ] at h1
      have ha : (Int.tdiv a 10).natAbs = a.natAbs / 10 := by rw [Int.natAbs_tdiv]; rfl
      have hw : (w64 (Int.tdiv a 10)).natAbs = a.natAbs / 10 := by rw [w64_in (by omega) (by omega), ha]
      unfold spec_Dec_j2
      refine .need (by simp; omega) (.ret ⟨⟨w64R _, k, ?_, ?_⟩, ?_⟩)
      · show (w64 (Int.tdiv a 10)).natAbs < _
        rw [hw]; omega
      · simp; omega
      · show (w64 (Int.tdiv a 10)).natAbs < _
        rw [hw]; omega
    exact .ite (fun _ => fin _) fun _ => fin _
  · simp only [spec_Dec_m1, spec_Dec_j1]
    exact .ite (fun _ => .need (by simp; omega) (.ret trivial)) fun _ => .ret trivial
end Go.Gv
end
section
/- Texts, plain: the reading of a number on the other side; cutting. -/
set_option linter.unusedVariables false
set_option linter.unusedSimpArgs false
set_option linter.unusedSectionVars false
namespace Go.Gv
open Lib (decDigits itoa decFrom digitVal)
theorem dig_u8 (c : UInt8) (h : 48 ≤ c.toNat) : IntKind.i64.wrap (IntKind.u8.wrap ((c.toNat : Int) - ((48 : UInt8).toNat : Int))) = (c.toNat : Int) - 48 := by
  have := c.toNat_lt
  have e : ((48 : UInt8).toNat : Int) = 48 := rfl
  rw [e]
  have : IntKind.u8.wrap ((c.toNat : Int) - 48) = (c.toNat : Int) - 48 := by
    grind [IntKind.wrap, IntKind.bits, IntKind.signed]
  rw [this, wrap_i64 (by omega) (by omega)]
theorem readDec_itoa {n : Int} (h : 0 ≤ n ∧ n ≤ 65535) : spec_ReadDec (itoa n) = some (n, true) := by
  have hl := itoa_len h
  have hd := itoa_dig h.1
  have hv : decFrom 0 (itoa n) = some n.toNat := by rw [itoa_pos h.1]; exact dd_val _
  have hn := itoa_ne h.1
  have hdec := dec_eq (n := n) (by omega)
  generalize itoa n = s at *
  have hp : ∀ k, ∃ m, decFrom 0 (s.take k) = some m := Lib.decFrom_prefix s 0 n.toNat hv
  have key : loop (spec_ReadDec_l1 s) (0, 0, 0) = some ((n, (s.length : Int)) : Int × Int) := by
    have := enum_eq (f := spec_ReadDec_l1 s) s.length (fun k => ((((decFrom 0 (s.take k)).getD 0 : Nat) : Int), (k : Int), (k : Int))) (n, (s.length : Int)) (fun k hk => by
      obtain ⟨m, hm⟩ := hp k
      obtain ⟨d1, d2⟩ := hd s[k] (List.getElem_mem hk)
      have hdv : digitVal s[k] = some (s[k].toNat - 48) := by unfold digitVal; rw [if_pos ⟨d1, d2⟩]
      have hs := Lib.decFrom_take s k 0 m s[k] _ hm (List.getElem?_eq_getElem hk) hdv
      have hm17 := Lib.decFrom_take_lt hm (by omega)
      simp only [spec_ReadDec_l1, spec_ReadDec_j5, spec_ReadDec_j7, spec_ReadDec_j6]
      rw [hm, hs, if_pos (by simp; omega), decide_eq_true (show (k : Int) < 11 by omega), if_pos rfl, idx_nat hk, Option.bind_some]
      have e48 : ((48 : UInt8).toNat : Int) = 48 := rfl
      have e57 : ((57 : UInt8).toNat : Int) = 57 := rfl
      rw [if_pos (by rw [e48]; simp; omega), Option.bind_some, decide_eq_true (by rw [e57]; omega), if_pos rfl, Option.bind_some, dig_u8 _ d1]
      simp only [Option.getD_some]
      rw [w64_in (x := (m : Int) * 10) (by omega) (by omega), w64_in (x := (m : Int) * 10 + ((s[k].toNat : Int) - 48)) (by omega) (by omega), w64_in (x := (k : Int) + 1) (by omega) (by omega)]
      congr 3
      omega) (by
      simp only [spec_ReadDec_l1, spec_ReadDec_j5]
      rw [if_neg (by simp), if_neg (by simp), List.take_length, hv]
      simp only [Option.getD_some]
      rw [Int.toNat_of_nonneg h.1])
    exact this
  unfold spec_ReadDec
  rw [key, Option.bind_some]
  obtain ⟨c, r, rfl⟩ : ∃ c r, s = c :: r := by
    cases s with
    | nil => exact absurd rfl hn
    | cons c r => exact ⟨c, r, rfl⟩
  have hc := hd c (by simp)
  simp only [spec_ReadDec_m1, spec_ReadDec_j1, spec_ReadDec_j4, spec_ReadDec_j2, spec_ReadDec_j3]
  have e45 : ((45 : UInt8).toNat : Int) = 45 := rfl
  rw [if_pos (by simp <;> omega), show idx (c :: r) 0 = some c from idx_nat (l := c :: r) (k := 0) (by simp), Option.bind_some, if_neg (by rw [e45]; simp; omega), if_neg (by simp at hl ⊢; omega), if_neg (by simp at hl ⊢; omega), hdec, Option.bind_some]
  simp
theorem readDecT (s : List UInt8) : Post (spec_ReadDec s) (fun _ => True) := by
  unfold spec_ReadDec
  refine .bind (P := fun x => -9223372036854775808 ≤ x.1 ∧ x.1 ≤ 9223372036854775807) (.loop (fun x => 11 - x.2.2.toNat) (fun x => (-9223372036854775808 ≤ x.1 ∧ x.1 ≤ 9223372036854775807) ∧ 0 ≤ x.2.2 ∧ x.2.2 ≤ 11) ⟨by simp, by simp⟩ ?_) ?_
  · rintro ⟨a, m, k⟩ ⟨h1, h2, h3⟩
    simp only at h1 h2 h3
    simp only [spec_ReadDec_l1]
    have fin : ∀ b c, (-9223372036854775808 ≤ b ∧ b ≤ 9223372036854775807) → k < 11 → Post (spec_ReadDec_j6 k b c) (StepP (fun s' => ((-9223372036854775808 ≤ s'.1 ∧ s'.1 ≤ 9223372036854775807) ∧ 0 ≤ s'.2.2 ∧ s'.2.2 ≤ 11) ∧ 11 - s'.2.2.toNat < 11 - k.toNat) fun r => -9223372036854775808 ≤ r.1 ∧ r.1 ≤ 9223372036854775807) := fun b c hb hk => by
      unfold spec_ReadDec_j6
      rw [w64_in (x := k + 1) (by omega) (by omega)]
      exact .ret ⟨⟨hb, by simp only; omega⟩, by simp only; omega⟩
    have stop : Post (spec_ReadDec_j5 s a m k false) (StepP (fun s' => ((-9223372036854775808 ≤ s'.1 ∧ s'.1 ≤ 9223372036854775807) ∧ 0 ≤ s'.2.2 ∧ s'.2.2 ≤ 11) ∧ 11 - s'.2.2.toNat < 11 - k.toNat) fun r => -9223372036854775808 ≤ r.1 ∧ r.1 ≤ 9223372036854775807) := by
      unfold spec_ReadDec_j5
      rw [if_neg (by simp)]
      exact .ret h1
    refine .ite (fun q => ?_) fun _ => stop
    have q : k < s.length := by simpa using q
    by_cases hk : k < 11
    · rw [decide_eq_true hk]
      unfold spec_ReadDec_j5 spec_ReadDec_j7
      rw [if_pos rfl]
      have ix : Post (idx s k) (fun _ => True) := (Post.idx ⟨h2, q⟩).mono fun _ _ => trivial
      refine .bind ix fun x _ => .ite (fun _ => .bind ix fun y _ => .ite (fun _ => .bind ix fun z _ => fin _ _ (w64R _) hk) fun _ => fin _ _ h1 hk) fun _ => .ite (fun _ => .bind ix fun z _ => fin _ _ (w64R _) hk) fun _ => fin _ _ h1 hk
    · rw [decide_eq_false hk]; exact stop
  · rintro ⟨a, m⟩ ha
    simp only at ha
    simp only [spec_ReadDec_m1]
    have j3 : ∀ x b, Post (spec_ReadDec_j3 x b) (fun _ => True) := fun x b => by
      unfold spec_ReadDec_j3
      exact .ite (fun _ => .ret trivial) fun _ => .ret trivial
    have j2 : ∀ x, (-9223372036854775808 ≤ x ∧ x ≤ 9223372036854775807) → Post (spec_ReadDec_j2 s m x) (fun _ => True) := fun x hx => by
      unfold spec_ReadDec_j2
      exact .ite (fun _ => j3 _ _) fun _ => .ite (fun _ => j3 _ _) fun _ => .bind (decT hx) fun _ _ => j3 _ _
    have j4 : ∀ b, Post (spec_ReadDec_j4 s a m b) (fun _ => True) := fun b => by
      unfold spec_ReadDec_j4
      exact .ite (fun _ => j2 _ (wrapR _)) fun _ => j2 _ ha
    unfold spec_ReadDec_j1
    exact .ite (fun q => .bind ((Post.idx ⟨by omega, by simpa using q⟩).mono fun _ _ => trivial) fun _ _ => j4 _) fun _ => j4 _
/-! ### Cutting -/
def cutL (c : UInt8) : List UInt8 → List (List UInt8)
  | [] => [[]]
  | x :: r => if x = c then [] :: cutL c r else match cutL c r with
    | [] => [[x]]
    | p :: q => (x :: p) :: q
theorem cutL_ne (c : UInt8) : ∀ s, cutL c s ≠ []
  | [] => by simp [cutL]
  | x :: r => by
    unfold cutL
    split
    · simp
    · split <;> simp
theorem cutL_len (c : UInt8) : ∀ s, (cutL c s).length ≤ s.length + 1
  | [] => by simp [cutL]
  | x :: r => by
    have := cutL_len c r
    unfold cutL
    split
    · simp; omega
    · split
      · simp
      · rename_i p q e
        rw [e] at this
        simp at this ⊢; omega
theorem cutL_hit (c : UInt8) : ∀ (p r : List UInt8), (∀ x ∈ p, x ≠ c) → cutL c (p ++ c :: r) = p :: cutL c r
  | [], r, _ => by simp [cutL]
  | x :: p, r, h => by
    have ih := cutL_hit c p r fun y hy => h y (by simp [hy])
    show (if x = c then [] :: cutL c (p ++ c :: r) else match cutL c (p ++ c :: r) with | [] => [[x]] | p :: q => (x :: p) :: q) = _
    rw [if_neg (h x (by simp)), ih]
theorem cutL_miss (c : UInt8) : ∀ (p : List UInt8), (∀ x ∈ p, x ≠ c) → cutL c p = [p]
  | [], _ => by simp [cutL]
  | x :: p, h => by
    have ih := cutL_miss c p fun y hy => h y (by simp [hy])
    unfold cutL
    rw [if_neg (h x (by simp)), ih]
theorem cut_cases (c : UInt8) : ∀ s : List UInt8, (∀ x ∈ s, x ≠ c) ∨ ∃ p r, s = p ++ c :: r ∧ ∀ x ∈ p, x ≠ c
  | [] => .inl (by simp)
  | x :: s => by
    by_cases h : x = c
    · subst h; exact .inr ⟨[], s, rfl, by simp⟩
    · rcases cut_cases c s with q | ⟨p, r, rfl, q⟩
      · exact .inl fun y hy => (List.mem_cons.1 hy).elim (fun e => e ▸ h) (q y)
      · exact .inr ⟨x :: p, r, rfl, fun y hy => (List.mem_cons.1 hy).elim (fun e => e ▸ h) (q y)⟩
theorem index_hit (c : UInt8) : ∀ (p r : List UInt8), (∀ x ∈ p, x ≠ c) → Lib.index (p ++ c :: r) [c] = (p.length : Int)
  | [], r, _ => by simp [Lib.index, List.isPrefixOf]
  | x :: p, r, h => by
    have ih := index_hit c p r fun y hy => h y (by simp [hy])
    show Lib.index (x :: (p ++ c :: r)) [c] = _
    have hx : ¬ c = x := fun e => h x (by simp) e.symm
    rw [Lib.index, ih, if_neg (by simp [List.isPrefixOf, hx]), if_neg (by simp)]
    simp
theorem index_miss (c : UInt8) : ∀ (p : List UInt8), (∀ x ∈ p, x ≠ c) → Lib.index p [c] = -1
  | [], _ => by simp [Lib.index]
  | x :: p, h => by
    have ih := index_miss c p fun y hy => h y (by simp [hy])
    have hx : ¬ c = x := fun e => h x (by simp) e.symm
    rw [Lib.index, ih, if_neg (by simp [List.isPrefixOf, hx]), if_pos (by simp)]
/-- The cut at no more than k places. -/
theorem splitK_cut (c : UInt8) : ∀ (k : Nat) (s : List UInt8), (Lib.splitK [c] 0 k s).length = min (k + 1) (cutL c s).length ∧ ((cutL c s).length ≤ k + 1 → Lib.splitK [c] 0 k s = cutL c s)
  | 0, s => by
    have : (cutL c s).length ≠ 0 := fun e => cutL_ne c s (List.eq_nil_of_length_eq_zero e)
    refine ⟨by simp [Lib.splitK]; omega, fun h => ?_⟩
    rcases cut_cases c s with q | ⟨p, r, rfl, q⟩
    · rw [cutL_miss c s q]; rfl
    · rw [cutL_hit c p r q] at h
      have : (cutL c r).length ≠ 0 := fun e => cutL_ne c r (List.eq_nil_of_length_eq_zero e)
      rw [List.length_cons] at h; omega
  | k + 1, s => by
    rcases cut_cases c s with q | ⟨p, r, rfl, q⟩
    · rw [cutL_miss c s q]
      unfold Lib.splitK
      rw [index_miss c s q, if_pos (by simp)]
      exact ⟨by simp, fun _ => rfl⟩
    · have e : Lib.splitK [c] 0 (k + 1) (p ++ c :: r) = p :: Lib.splitK [c] 0 k r := by
        rw [Lib.splitK, index_hit c p r q, if_neg (by simp)]
        simp
      obtain ⟨h1, h2⟩ := splitK_cut c k r
      rw [e, cutL_hit c p r q]
      refine ⟨by rw [List.length_cons, List.length_cons, h1]; omega, fun h => ?_⟩
      rw [h2 (by simp at h; omega)]
theorem cutL_count (c : UInt8) : ∀ s, (cutL c s).length = Lib.count s [c] + 1
  | [] => by rw [Lib.count_one]; rfl
  | x :: r => by
    have ih := cutL_count c r
    rw [Lib.count_one] at ih ⊢
    unfold cutL
    split
    · rename_i h; subst h; simp [ih]
    · rename_i h
      have : (x == c) = false := by simpa using h
      split
      · rename_i e; exact absurd e (cutL_ne c r)
      · rename_i p q e
        rw [e] at ih
        rw [List.count_cons, this]; simpa using ih
theorem split_cut (c : UInt8) (s : List UInt8) : Lib.split s [c] = cutL c s := (splitK_cut c _ s).2 (by rw [cutL_count]; omega)
theorem join_cut (c : UInt8) : ∀ s, Lib.join (cutL c s) [c] = s := by
  have key : ∀ n s, s.length ≤ n → Lib.join (cutL c s) [c] = s := by
    intro n
    induction n with
    | zero =>
      intro s hs
      obtain rfl := List.eq_nil_of_length_eq_zero (show s.length = 0 by omega)
      simp [cutL, Lib.join_one]
    | succ n ih =>
      intro s hs
      rcases cut_cases c s with q | ⟨p, r, rfl, q⟩
      · rw [cutL_miss c s q, Lib.join_one]
      · have := ih r (by simp at hs; omega)
        rw [cutL_hit c p r q, Lib.join_cons]
        cases e : cutL c r with
        | nil => exact absurd e (cutL_ne c r)
        | cons y ys =>
          rw [e, Lib.join_cons] at this
          simp only [Lib.joinTail, List.map_cons, List.flatten_cons] at this ⊢
          rw [List.append_assoc, this]; rfl
  exact fun s => key s.length s (Nat.le_refl _)
theorem cut_join (c : UInt8) : ∀ (l : List (List UInt8)), l ≠ [] → (∀ p ∈ l, ∀ x ∈ p, x ≠ c) → cutL c (Lib.join l [c]) = l
  | [], h, _ => absurd rfl h
  | [p], _, h => by rw [Lib.join_one, cutL_miss c p (h p (by simp))]
  | p :: y :: ys, _, h => by
    have ih := cut_join c (y :: ys) (by simp) fun q hq => h q (by simp [List.mem_cons.1 hq])
    rw [Lib.join_cons] at ih
    have e : Lib.join (p :: y :: ys) [c] = p ++ c :: (y ++ Lib.joinTail [c] ys) := by
      rw [Lib.join_cons]; simp [Lib.joinTail]
    rw [e, cutL_hit c p _ (h p (by simp)), ih]
end Go.Gv
end
section
/- Texts, plain: the words of a text; operations shown and read. -/
set_option linter.unusedVariables false
set_option linter.unusedSimpArgs false
set_option linter.unusedSectionVars false
namespace Go.Gv
open Lib (itoa)
theorem cut_eq {s : List UInt8} {c : UInt8} (hl : s.length ≤ 1000000) : spec_l29Cut s c = some ((cutL c s).map GStr.mk) := by
  have key : Post (loop (spec_l29Cut_l1 s c) (([] : List GStr), 0, 0)) (fun r => (0 ≤ r.2 ∧ r.2 ≤ s.length) ∧ (r.1.length : Int) ≤ r.2 ∧ r.1 ++ [⟨s.drop r.2.toNat⟩] = (cutL c s).map GStr.mk) := by
    refine .loop (fun x => s.length - x.2.2.toNat) (fun x => (0 ≤ x.2.1 ∧ x.2.1 ≤ x.2.2 ∧ x.2.2 ≤ s.length) ∧ (x.1.length : Int) ≤ x.2.1 ∧ (∀ i (h : i < s.length), x.2.1 ≤ i → (i : Int) < x.2.2 → s[i] ≠ c) ∧ x.1 ++ (cutL c (s.drop x.2.1.toNat)).map GStr.mk = (cutL c s).map GStr.mk) ⟨⟨by simp, by simp, by simp⟩, by simp, fun i _ _ h => by simp at h; omega, by simp⟩ ?_
    rintro ⟨P, j, k⟩ ⟨⟨j0, jk, kl⟩, hP, hf, he⟩
    simp only at j0 jk kl hP hf he
    obtain ⟨j, rfl⟩ : ∃ n : Nat, j = n := ⟨j.toNat, by omega⟩
    obtain ⟨k, rfl⟩ : ∃ n : Nat, k = n := ⟨k.toNat, by omega⟩
    have ej : ((j : Int)).toNat = j := rfl
    have ek : ((k : Int)).toNat = k := rfl
    simp only [ej] at he
    have hfree : ∀ x ∈ (s.take k).drop j, x ≠ c := fun x hx => by
      obtain ⟨i, hi, rfl⟩ := List.mem_iff_getElem.1 hx
      rw [List.length_drop, List.length_take] at hi
      rw [List.getElem_drop, List.getElem_take]
      exact hf (j + i) (by omega) (by omega) (by omega)
    have hsplit : s.drop j = (s.take k).drop j ++ s.drop k := by
      conv => lhs; rw [← List.take_append_drop k s]
      rw [List.drop_append_of_le_length (by rw [List.length_take]; omega)]
    simp only [spec_l29Cut_l1, spec_l29Cut_j2]
    refine .ite (fun q => ?_) (fun q => ?_)
    · have q : k < s.length := by simpa using q
      rw [idx_nat q, Option.bind_some, w64_in (x := (k : Int) + 1) (by omega) (by omega)]
      refine .ite (fun hh => ?_) (fun hh => ?_)
      · have hh : s[k] = c := by
          have : (s[k].toNat : Int) = (c.toNat : Int) := by simpa using hh
          exact UInt8.toNat_inj.1 (by omega)
        refine .need (by omega) (.need (by simp; omega) (.ret ⟨⟨⟨by simp only; omega, by simp only; omega, by simp only; omega⟩, by simp; omega, fun i _ a b => by simp only at a b; omega, ?_⟩, by simp only; omega⟩))
        have e1 : ((k : Int) + 1).toNat = k + 1 := by omega
        simp only [e1, ej, ek]
        rw [← he, hsplit, List.drop_eq_getElem_cons q, hh, cutL_hit c _ _ hfree, List.append_assoc]
        rfl
      · have hh : s[k] ≠ c := fun e => hh (by rw [e]; simp)
        refine .ret ⟨⟨⟨j0, by simp only; omega, by simp only; omega⟩, hP, fun i hi a b => ?_, he⟩, by simp only; omega⟩
        simp only at a b
        by_cases e : i = k
        · subst e; exact hh
        · exact hf i hi a (by omega)
    · have q : k = s.length := by
        have : ¬ (k : Int) < s.length := by simpa using q
        omega
      refine .ret ⟨⟨j0, by simp only; omega⟩, hP, ?_⟩
      simp only [ej]
      rw [← he]
      rw [q, List.take_length] at hfree
      rw [cutL_miss c _ hfree]; rfl
  obtain ⟨⟨P, j⟩, e, ⟨j0, j1⟩, h1, h2⟩ := key
  simp only at j0 j1 h1 h2
  unfold spec_l29Cut
  rw [e, Option.bind_some]
  simp only [spec_l29Cut_m1, spec_l29Cut_j1]
  rw [need_yes (by omega), need_yes (by simp; omega), h2]
/-! ### Words -/
theorem decs_tail : ∀ L : List Int, decsL L = Lib.joinTail [32] (L.map itoa)
  | [] => rfl
  | n :: r => by
    rw [decsL, decs_tail r]; simp [Lib.joinTail]
theorem cut_words {w : List UInt8} {L : List Int} (hw : ∀ x ∈ w, x ≠ 32) (hL : ∀ n ∈ L, 0 ≤ n) : cutL 32 (w ++ decsL L) = w :: L.map itoa := by
  have := cut_join 32 (w :: L.map itoa) (by simp) fun p hp x hx => by
    rcases List.mem_cons.1 hp with rfl | hp
    · exact hw x hx
    · obtain ⟨n, hn, rfl⟩ := List.mem_map.1 hp
      have := itoa_dig (hL n hn) x hx
      rintro rfl
      exact absurd this.1 (by decide)
  rw [Lib.join_cons, ← decs_tail] at this
  exact this
theorem num_words {w : List UInt8} {L : List Int} (hL : ∀ n ∈ L, 0 ≤ n ∧ n ≤ 65535) (j : Nat) : numL (w :: L.map itoa) (j + 1) = L.getD j 0 := by
  unfold numL
  rw [List.getD_cons_succ, List.getD_eq_getElem?_getD, List.getD_eq_getElem?_getD, List.getElem?_map]
  cases h : L[j]? with
  | none => rfl
  | some n =>
    simp only [Option.map_some, Option.getD_some]
    rw [rdDec_itoa (hL n (List.mem_of_getElem? h))]
theorem numS_words {w : List UInt8} {L : List Int} (hL : ∀ n ∈ L, 0 ≤ n ∧ n ≤ 65535) (j : Nat) : spec_l29Num ((w :: L.map itoa).map GStr.mk) ((j + 1 : Nat) : Int) = some (L.getD j 0) := by
  unfold spec_l29Num
  by_cases h : j < L.length
  · rw [if_neg (by simp; omega), idx_nat (by simp; omega), Option.bind_some]
    simp only [List.map_cons, List.getElem_cons_succ, List.getElem_map]
    rw [readDec_itoa (hL _ (List.getElem_mem h)), Option.bind_some, List.getD_eq_getElem?_getD, List.getElem?_eq_getElem h]; rfl
  · rw [if_pos (by simp; omega), List.getD_eq_getElem?_getD, List.getElem?_eq_none (by omega)]; rfl
theorem numST (l : List GStr) {i : Int} (h0 : 0 ≤ i) : Post (spec_l29Num l i) (fun _ => True) := by
  unfold spec_l29Num
  exact .ite (fun _ => .ret trivial) fun q => .bind (.idx ⟨h0, by simpa using q⟩) fun x _ => .bind (readDecT _) fun _ _ => .ret trivial
theorem decs_len : ∀ {L : List Int}, (∀ n ∈ L, 0 ≤ n ∧ n ≤ 65535) → (decsL L).length ≤ 6 * L.length
  | [], _ => by simp [decsL]
  | n :: r, h => by
    have h1 := itoa_len (h n (by simp))
    have h2 := decs_len (L := r) fun m hm => h m (by simp [hm])
    rw [decsL]; simp; omega
/-! ### Operations -/
def ws7 : List (List UInt8) := [[115, 101, 116], [103, 101, 116], [104, 97, 122], [99, 111, 108, 108, 101, 99, 116], [112, 105, 110], [117, 110, 112, 105, 110], [112, 101, 101, 107]]
def wordO (k : Int) : List UInt8 := ws7.getD (k - 1).toNat []
def argsO (o : GOp) : List Int := if o.Kind = 1 then [o.Cell, o.Size, o.Val] else if CelledK o.Kind then [o.Cell] else []
def showO (o : GOp) : List UInt8 := if OpOkP o then wordO o.Kind ++ decsL (argsO o) else []
theorem wordO_fin : (∀ i j : _root_.Fin 7, ws7[i.val]! = ws7[j.val]! → i = j) ∧ ∀ i : _root_.Fin 7, (∀ x ∈ ws7[i.val]!, x ≠ 32) ∧ ws7[i.val]! ≠ [] ∧ ws7[i.val]!.length ≤ 7 := by decide
theorem wordO_at {k : Int} (h : 1 ≤ k ∧ k ≤ 7) : ∃ i : _root_.Fin 7, k = i.val + 1 ∧ wordO k = ws7[i.val]! := by
  refine ⟨⟨(k - 1).toNat, by omega⟩, by simp only; omega, ?_⟩
  unfold wordO
  rw [List.getD_eq_getElem?_getD, List.getElem!_eq_getElem?_getD]; rfl
theorem wordO_inj {k l : Int} (h1 : 1 ≤ k ∧ k ≤ 7) (h2 : 1 ≤ l ∧ l ≤ 7) (h : wordO k = wordO l) : k = l := by
  obtain ⟨i, rfl, e1⟩ := wordO_at h1
  obtain ⟨j, rfl, e2⟩ := wordO_at h2
  rw [e1, e2] at h
  rw [wordO_fin.1 i j h]
theorem wordO_free {k : Int} (h1 : 1 ≤ k ∧ k ≤ 7) : (∀ x ∈ wordO k, x ≠ 32) ∧ wordO k ≠ [] ∧ (wordO k).length ≤ 7 := by
  obtain ⟨i, rfl, e1⟩ := wordO_at h1
  rw [e1]; exact wordO_fin.2 i
theorem argsO_rng {o : GOp} (h : OpOkP o) : (∀ n ∈ argsO o, 0 ≤ n ∧ n ≤ 65535) ∧ (argsO o).length ≤ 3 := by
  obtain ⟨h1, h2, h3, h4⟩ := h
  unfold argsO
  by_cases k1 : o.Kind = 1
  · rw [if_pos k1] at h4 ⊢
    refine ⟨fun n hn => ?_, by simp⟩
    simp only [List.mem_cons, List.not_mem_nil, or_false] at hn
    omega
  · rw [if_neg k1]
    split
    · refine ⟨fun n hn => ?_, by simp⟩
      simp only [List.mem_cons, List.not_mem_nil, or_false] at hn
      omega
    · exact ⟨by simp, by simp⟩
theorem argsO_get {o : GOp} (h : OpOkP o) : (argsO o).getD 0 0 = o.Cell ∧ (argsO o).getD 1 0 = o.Size ∧ (argsO o).getD 2 0 = o.Val := by
  obtain ⟨h1, h2, h3, h4⟩ := h
  unfold argsO
  by_cases k1 : o.Kind = 1
  · rw [if_pos k1]; simp
  · rw [if_neg k1] at h4 ⊢
    by_cases hc : CelledK o.Kind
    · rw [if_pos hc, h4.1, h4.2]; simp
    · rw [if_neg hc, h4.1, h4.2, h2.resolve_left hc]; simp
theorem showO_cut {o : GOp} (h : OpOkP o) : cutL 32 (showO o) = wordO o.Kind :: (argsO o).map itoa := by
  unfold showO
  rw [if_pos h]
  exact cut_words (wordO_free h.1).1 fun n hn => ((argsO_rng h).1 n hn).1
theorem showO_len (o : GOp) : (showO o).length ≤ 25 := by
  unfold showO
  split
  · rename_i h
    have h1 := (wordO_free h.1).2.2
    have h2 := decs_len (argsO_rng h).1
    have h3 := (argsO_rng h).2
    simp; omega
  · simp
theorem showO_ne {o : GOp} (h : OpOkP o) : showO o ≠ [] := fun e => by
  unfold showO at e
  rw [if_pos h] at e
  exact (wordO_free h.1).2.1 (List.append_eq_nil_iff.1 e).1
theorem showO_ok {o : GOp} (h : showO o ≠ []) : OpOkP o := by
  unfold showO at h
  by_cases q : OpOkP o
  · exact q
  · rw [if_neg q] at h; exact absurd rfl h
theorem showO_num {o : GOp} (h : OpOkP o) : numL (wordsL (showO o)) 1 = o.Cell ∧ numL (wordsL (showO o)) 2 = o.Size ∧ numL (wordsL (showO o)) 3 = o.Val := by
  unfold wordsL
  rw [split_cut, showO_cut h, num_words (argsO_rng h).1, num_words (argsO_rng h).1, num_words (argsO_rng h).1]
  exact argsO_get h
theorem showO_inj {o p : GOp} (ho : OpOkP o) (hp : OpOkP p) (h : showO o = showO p) : o = p := by
  have a := showO_num ho
  have b := showO_num hp
  rw [h] at a
  have c := showO_cut ho
  rw [h, showO_cut hp] at c
  have k := wordO_inj hp.1 ho.1 (List.cons.inj c).1
  obtain ⟨a1, a2, a3⟩ := a
  obtain ⟨b1, b2, b3⟩ := b
  cases o; cases p
  simp_all
theorem implWord_eq {k : Int} (h : 1 ≤ k ∧ k ≤ 7) : impl_OpWord k = some (wordO k) := by
  unfold impl_OpWord
  rw [within_eq, Option.bind_some, decide_eq_true h, Bool.not_true, if_neg (by simp), w64_in (by omega) (by omega), idx_in (by omega) (by simp; omega)]
  unfold wordO ws7
  rw [List.getD_eq_getElem?_getD, List.getElem?_eq_getElem (by simp; omega)]; rfl
theorem specWord_eq {k : Int} (h : 1 ≤ k ∧ k ≤ 7) : spec_OpWord k = some (wordO k) := by
  unfold spec_OpWord
  rw [l1In_eq, Option.bind_some, decide_eq_true h, Bool.not_true, if_neg (by simp), w64_in (by omega) (by omega)]
  rcases (by omega : k = 1 ∨ k = 2 ∨ k = 3 ∨ k = 4 ∨ k = 5 ∨ k = 6 ∨ k = 7) with rfl | rfl | rfl | rfl | rfl | rfl | rfl <;> rfl
theorem implDecs_eq {L : List Int} (h : ∀ n ∈ L, 0 ≤ n ∧ n ≤ 65535) (hl : L.length ≤ 1000) : impl_decs L = some (decsL L) := by
  unfold impl_decs
  rw [need_yes ⟨hl, fun n hn => by have := h n hn; omega⟩]
theorem implShow_eq (o : GOp) : impl_ShowOp o = some (showO o) := by
  unfold impl_ShowOp showO
  rw [impl_OpOk_eq, Option.bind_some]
  by_cases h : OpOkP o
  · rw [decide_eq_true h, Bool.not_true, if_neg (by simp), if_pos h, implWord_eq h.1, Option.bind_some]
    have hr := argsO_rng h
    have hw := (wordO_free h.1).2.2
    have hd := decs_len hr.1
    unfold impl_ShowOp_j2
    rw [implWord_eq h.1, Option.bind_some, Option.bind_some]
    have hk := h.1
    unfold argsO at *
    by_cases k1 : o.Kind = 1
    · rw [if_pos k1] at hr hd ⊢
      rw [if_pos (by simpa using k1), implDecs_eq hr.1 (by simp), Option.bind_some, need_yes (by simp at hd; omega)]; rfl
    · rw [if_neg k1] at hr hd ⊢
      rw [if_neg (by simpa using k1)]
      have cel : CelledK o.Kind → ((impl_decs ([o.Cell])).bind fun x8 => need ((wordO o.Kind).length + x8.length ≤ 9223372036854775807) <| impl_ShowOp_j3 (wordO o.Kind ++ x8)) = some (wordO o.Kind ++ decsL (if CelledK o.Kind then [o.Cell] else [])) := fun hc => by
        rw [if_pos hc] at hr hd ⊢
        rw [implDecs_eq hr.1 (by simp), Option.bind_some, need_yes (by simp at hd; omega)]; rfl
      have non : ¬ CelledK o.Kind → some (wordO o.Kind) = some (wordO o.Kind ++ decsL (if CelledK o.Kind then [o.Cell] else [])) := fun hc => by
        rw [if_neg hc]; simp [decsL]
      by_cases q2 : o.Kind = 2
      · rw [if_pos (by simpa using q2), if_pos rfl]; exact cel (.inr (.inl q2))
      · rw [if_neg (by simpa using q2)]
        by_cases q3 : o.Kind = 3
        · rw [if_pos (by simpa using q3), if_pos rfl]; exact cel (.inr (.inr (.inl q3)))
        · rw [if_neg (by simpa using q3)]
          by_cases q7 : o.Kind = 7
          · rw [if_pos (by simpa using q7)]; exact cel (.inr (.inr (.inr q7)))
          · rw [if_neg (by simpa using q7)]; exact non fun q => by rcases q with q | q | q | q <;> contradiction
  · rw [decide_eq_false h, Bool.not_false, if_pos rfl, if_neg h]
theorem specShow_eq (o : GOp) : spec_ShowOp o = some (showO o) := by
  unfold spec_ShowOp showO
  rw [spec_OpOk_eq, Option.bind_some]
  by_cases h : OpOkP o
  · rw [decide_eq_true h, Bool.not_true, if_neg (by simp), if_pos h, specWord_eq h.1, Option.bind_some, celled_eq, Option.bind_some]
    obtain ⟨hk, h2, h3, h4⟩ := id h
    have hw := (wordO_free h.1).2.2
    have hc := dec_eq (n := o.Cell) (by omega)
    have lc := itoa_len (n := o.Cell) (by omega)
    unfold argsO spec_ShowOp_j1 spec_ShowOp_j2
    by_cases k1 : o.Kind = 1
    · rw [if_pos k1] at h4
      have ls := itoa_len (n := o.Size) (by omega)
      have lv := itoa_len (n := o.Val) (by omega)
      have cel : CelledK o.Kind := .inl k1
      rw [decide_eq_true cel, if_pos rfl, hc, Option.bind_some, dec_eq (n := o.Size) (by omega), Option.bind_some, dec_eq (n := o.Val) (by omega), Option.bind_some, if_pos (by simpa using k1), if_pos k1]
      rw [need_yes (by simp; omega), need_yes (by simp; omega), need_yes (by simp; omega), need_yes (by simp; omega), need_yes (by simp; omega), need_yes (by simp; omega)]
      simp [decsL]
    · rw [if_neg k1]
      have nk : ¬ (o.Kind == 1) = true := by simpa using k1
      by_cases cel : CelledK o.Kind
      · rw [decide_eq_true cel, if_pos rfl, hc, Option.bind_some, if_neg nk, if_pos cel]
        rw [need_yes (by simp; omega), need_yes (by simp; omega)]
        simp [decsL]
      · rw [decide_eq_false cel, if_neg (by simp), if_neg nk, if_neg cel]
        simp [decsL]
  · rw [decide_eq_false h, Bool.not_false, if_pos rfl, if_neg h]
/-! ### .. read -/
def TO (s : List UInt8) : Prop := ∃ o, OpOkP o ∧ showO o = s
theorem try_eq (s : List UInt8) (a b c : Int) : ∀ ks : List Int, tryOp (fun k a b c => impl_ShowOp ⟨k, a, b, c⟩) s a b c ks = some (if s = [] then none else ks.find? fun k => decide (showO ⟨k, a, b, c⟩ = s))
  | [] => by simp [tryOp]
  | k :: r => by
    have ih := try_eq s a b c r
    unfold tryOp
    by_cases hs : s = []
    · rw [if_pos hs, ih, if_pos hs, if_pos hs]
    · rw [if_neg hs] at ih ⊢
      rw [if_neg hs, implShow_eq, Option.bind_some]
      by_cases h : showO ⟨k, a, b, c⟩ = s
      · rw [if_pos h, List.find?_cons_of_pos (by simpa using h)]
      · rw [if_neg h, ih, List.find?_cons_of_neg (by simpa using h)]
theorem readO {s : List UInt8} (hl : s.length ≤ 1000000) : ∃ r, impl_ReadOp s = some r ∧ (r.2 = true → OpOkP r.1 ∧ showO r.1 = s) ∧ (TO s → r.2 = true) := by
  unfold impl_ReadOp
  rw [need_yes (by omega), try_eq, Option.bind_some]
  refine ⟨_, rfl, ?_⟩
  by_cases hs : s = []
  · rw [if_pos hs]
    refine ⟨fun h => (by simp at h), ?_⟩
    rintro ⟨o, ho, e⟩
    exact absurd (e.trans hs) (showO_ne ho)
  · rw [if_neg hs]
    cases hf : ([1, 2, 3, 4, 5, 6, 7] : List Int).find? (fun k => decide (showO ⟨k, numL (wordsL s) 1, numL (wordsL s) 2, numL (wordsL s) 3⟩ = s)) with
    | some k =>
      have h : showO ⟨k, numL (wordsL s) 1, numL (wordsL s) 2, numL (wordsL s) 3⟩ = s := by simpa using List.find?_some hf
      exact ⟨fun _ => ⟨showO_ok (by rw [h]; exact hs), h⟩, fun _ => rfl⟩
    | none =>
      refine ⟨fun h => (by simp at h), ?_⟩
      rintro ⟨o, ho, e⟩
      have h := List.find?_eq_none.1 hf o.Kind (by have := ho.1; simp; omega)
      obtain ⟨n1, n2, n3⟩ := showO_num ho
      rw [← e, n1, n2, n3] at h
      simp at h
theorem readOS {s : List UInt8} (hl : s.length ≤ 1000000) : ∃ r, spec_ReadOp s = some r ∧ (r.2 = true ↔ TO s) := by
  unfold spec_ReadOp
  rw [cut_eq hl, Option.bind_some]
  obtain ⟨a, ea, _⟩ := numST ((cutL 32 s).map GStr.mk) (i := 1) (by omega)
  obtain ⟨b, eb, _⟩ := numST ((cutL 32 s).map GStr.mk) (i := 2) (by omega)
  obtain ⟨c, ec, _⟩ := numST ((cutL 32 s).map GStr.mk) (i := 3) (by omega)
  rw [ea, Option.bind_some, eb, Option.bind_some, ec, Option.bind_some]
  obtain ⟨w0, W, hW⟩ : ∃ w0 W, cutL 32 s = w0 :: W := by
    cases e : cutL 32 s with
    | nil => exact absurd e (cutL_ne 32 s)
    | cons x y => exact ⟨x, y, rfl⟩
  have key : Post (loop (spec_ReadOp_l1 ((cutL 32 s).map GStr.mk)) (1, 0)) (fun r => ∀ k, 1 ≤ k ∧ k ≤ 7 → w0 = wordO k → r = k) := by
    refine .loop (fun x => 8 - x.1.toNat) (fun x => (1 ≤ x.1 ∧ x.1 ≤ 8) ∧ ∀ k, 1 ≤ k → k < x.1 → w0 = wordO k → x.2 = k) ⟨by simp, fun k h1 h2 => by simp only at h2; omega⟩ ?_
    rintro ⟨x, y⟩ ⟨⟨x1, x8⟩, hI⟩
    simp only at x1 x8 hI
    simp only [spec_ReadOp_l1, spec_ReadOp_j4, spec_ReadOp_j3]
    refine .ite (fun q => ?_) fun q => .ret fun k hk => hI k hk.1 (by have : ¬ x ≤ 7 := (by simpa using q); omega)
    have q : x ≤ 7 := by simpa using q
    have e0 : idx ((cutL 32 s).map GStr.mk) 0 = some ⟨w0⟩ := by rw [hW]; exact idx_nat (l := (w0 :: W).map GStr.mk) (k := 0) (by simp)
    rw [e0, Option.bind_some, specWord_eq ⟨x1, q⟩, Option.bind_some, w64_in (by omega) (by omega)]
    refine .ite (fun hh => .ret ⟨⟨by simp only; omega, fun k k1 k2 hk => ?_⟩, by simp only; omega⟩) fun hh => .ret ⟨⟨by simp only; omega, fun k k1 k2 hk => ?_⟩, by simp only; omega⟩
    · have hh : wordO x = w0 := by simpa using hh
      simp only at k2 ⊢
      exact wordO_inj ⟨x1, q⟩ (by omega) (hh.trans hk)
    · have hh : wordO x ≠ w0 := by simpa using hh
      simp only at k2 ⊢
      by_cases e : k = x
      · subst e; exact absurd hk.symm hh
      · exact hI k k1 (by omega) hk
  obtain ⟨x9, e9, h9⟩ := key
  rw [e9, Option.bind_some]
  simp only [spec_ReadOp_m1, spec_ReadOp_j1, spec_ReadOp_j2]
  by_cases hs : s = []
  · rw [if_pos (by simpa using hs), if_pos trivial]
    refine ⟨_, rfl, fun h => (by simp at h), ?_⟩
    rintro ⟨o, ho, e⟩
    exact absurd (e.trans hs) (showO_ne ho)
  · rw [if_neg (by simpa using hs), specShow_eq, Option.bind_some]
    by_cases h : showO ⟨x9, a, b, c⟩ = s
    · rw [if_neg (by simpa using h)]
      exact ⟨_, rfl, fun _ => ⟨_, showO_ok (by rw [h]; exact hs), h⟩, fun _ => rfl⟩
    · rw [if_pos (by simpa using h)]
      refine ⟨_, rfl, fun q => (by simp at q), ?_⟩
      rintro ⟨o, ho, e⟩
      have hc := showO_cut ho
      obtain ⟨g1, g2, g3⟩ := argsO_get ho
      have hr := (argsO_rng ho).1
      rw [e] at hc
      rw [hc] at ea eb ec hW
      have n1 := numS_words (w := wordO o.Kind) hr 0
      have n2 := numS_words (w := wordO o.Kind) hr 1
      have n3 := numS_words (w := wordO o.Kind) hr 2
      have ea := Option.some.inj (n1.symm.trans ea)
      have eb := Option.some.inj (n2.symm.trans eb)
      have ec := Option.some.inj (n3.symm.trans ec)
      rw [g1] at ea; rw [g2] at eb; rw [g3] at ec
      have k9 := h9 o.Kind ho.1 (List.cons.inj hW).1.symm
      subst ea eb ec k9
      exact absurd e h
end Go.Gv
end
section
/- Texts, plain: commands and batches shown and read. -/
set_option linter.unusedVariables false
set_option linter.unusedSimpArgs false
set_option linter.unusedSectionVars false
namespace Go.Gv
open Lib (itoa)
def argsC (c : Cmd) : List Int := if c.Kind = 2 ∨ c.Kind = 4 then [c.Key, c.Val] else [c.Key]
def showC (c : Cmd) : List UInt8 := if CmdV c then wordC c.Kind ++ decsL (argsC c) else []
theorem wordC_cases {k : Int} (h : 1 ≤ k ∧ k ≤ 4) : k = 1 ∧ wordC k = [103, 101, 116] ∨ k = 2 ∧ wordC k = [112, 117, 116] ∨ k = 3 ∧ wordC k = [100, 101, 108] ∨ k = 4 ∧ wordC k = [97, 100, 100] := by
  rcases (by omega : k = 1 ∨ k = 2 ∨ k = 3 ∨ k = 4) with rfl | rfl | rfl | rfl
  · exact .inl ⟨rfl, rfl⟩
  · exact .inr (.inl ⟨rfl, rfl⟩)
  · exact .inr (.inr (.inl ⟨rfl, rfl⟩))
  · exact .inr (.inr (.inr ⟨rfl, rfl⟩))
theorem wordC_free {k : Int} (h : 1 ≤ k ∧ k ≤ 4) : (∀ x ∈ wordC k, x ≠ 32 ∧ x ≠ 59) ∧ (wordC k).length = 3 := by
  rcases wordC_cases h with ⟨_, e⟩ | ⟨_, e⟩ | ⟨_, e⟩ | ⟨_, e⟩ <;> rw [e] <;> decide
theorem argsC_rng {c : Cmd} (h : CmdV c) : (∀ n ∈ argsC c, 0 ≤ n ∧ n ≤ 65535) ∧ (argsC c).length ≤ 2 ∧ 1 ≤ (argsC c).length := by
  obtain ⟨h1, h2, h3, h4⟩ := h
  unfold argsC
  split
  · refine ⟨fun n hn => ?_, by simp⟩
    simp only [List.mem_cons, List.not_mem_nil, or_false] at hn
    omega
  · refine ⟨fun n hn => ?_, by simp⟩
    simp only [List.mem_cons, List.not_mem_nil, or_false] at hn
    omega
theorem argsC_get {c : Cmd} (h : CmdV c) : (argsC c).getD 0 0 = c.Key ∧ (argsC c).getD 1 0 = c.Val := by
  obtain ⟨h1, h2, h3, h4⟩ := h
  unfold argsC
  split
  · simp
  · simp; omega
theorem showC_cut {c : Cmd} (h : CmdV c) : cutL 32 (showC c) = wordC c.Kind :: (argsC c).map itoa := by
  unfold showC
  rw [if_pos h]
  exact cut_words (fun x hx => ((wordC_free h.1).1 x hx).1) fun n hn => ((argsC_rng h).1 n hn).1
theorem decs_free : ∀ {L : List Int}, (∀ n ∈ L, 0 ≤ n) → ∀ x ∈ decsL L, x ≠ 59
  | [], _, x, hx => by simp [decsL] at hx
  | n :: r, h, x, hx => by
    rw [decsL, List.mem_append, List.mem_cons] at hx
    rcases hx with (rfl | hx) | hx
    · decide
    · rintro rfl
      exact absurd (itoa_dig (h n (by simp)) _ hx).2 (by decide)
    · exact decs_free (fun m hm => h m (by simp [hm])) x hx
theorem showC_free (c : Cmd) : ∀ x ∈ showC c, x ≠ 59 := by
  unfold showC
  split
  · rename_i h
    intro x hx
    rcases List.mem_append.1 hx with hx | hx
    · exact ((wordC_free h.1).1 x hx).2
    · exact decs_free (fun n hn => ((argsC_rng h).1 n hn).1) x hx
  · simp
theorem showC_len (c : Cmd) : (showC c).length ≤ 15 := by
  unfold showC
  split
  · rename_i h
    have h1 := (wordC_free h.1).2
    have h2 := decs_len (argsC_rng h).1
    have h3 := (argsC_rng h).2.1
    simp; omega
  · simp
theorem showC_ne {c : Cmd} (h : CmdV c) : showC c ≠ [] := fun e => by
  unfold showC at e
  rw [if_pos h] at e
  have := (wordC_free h.1).2
  rw [(List.append_eq_nil_iff.1 e).1] at this
  cases this
theorem showC_ok {c : Cmd} (h : showC c ≠ []) : CmdV c := by
  unfold showC at h
  by_cases q : CmdV c
  · exact q
  · rw [if_neg q] at h; exact absurd rfl h
/-- There is a space in it. -/
theorem showC_space {c : Cmd} (h : CmdV c) : (32 : UInt8) ∈ showC c := by
  unfold showC
  rw [if_pos h]
  have := (argsC_rng h).2.2
  cases e : argsC c with
  | nil => rw [e] at this; simp at this
  | cons n r => rw [decsL]; simp
theorem showC_num {c : Cmd} (h : CmdV c) : numL (wordsL (showC c)) 1 = c.Key ∧ numL (wordsL (showC c)) 2 = c.Val := by
  unfold wordsL
  rw [split_cut, showC_cut h, num_words (argsC_rng h).1, num_words (argsC_rng h).1]
  exact argsC_get h
theorem showC_kind {c : Cmd} (h : CmdV c) : kindC (showC c) = c.Kind := by
  unfold kindC wordsL
  rw [split_cut, showC_cut h]
  simp only [List.getD_cons_zero]
  rcases wordC_cases h.1 with ⟨k, e⟩ | ⟨k, e⟩ | ⟨k, e⟩ | ⟨k, e⟩ <;> rw [e, k] <;> rfl
theorem showC_inj {c d : Cmd} (hc : CmdV c) (hd : CmdV d) (h : showC c = showC d) : c = d := by
  have a := showC_num hc
  have k := showC_kind hc
  rw [h, showC_kind hd] at k
  rw [h, (showC_num hd).1, (showC_num hd).2] at a
  cases c; cases d
  simp_all
theorem implShowC_eq (c : Cmd) : impl_ShowCmd c = some (showC c) := by
  unfold impl_ShowCmd
  rw [implCmd_eq, Option.bind_some, need_yes (fun q => by have q := of_decide_eq_true q; have := q.1; have := q.2.1; have := q.2.2.1; omega)]
  unfold shCmd showC argsC
  by_cases h : CmdV c
  · rw [decide_eq_true h, if_pos rfl, if_pos h]
  · rw [decide_eq_false h, if_neg (by simp), if_neg h]
theorem specShowC_eq (c : Cmd) : spec_ShowCmd c = some (showC c) := by
  unfold spec_ShowCmd showC
  rw [specCmd_eq, Option.bind_some]
  by_cases h : CmdV c
  · obtain ⟨h1, h2, h3, h4⟩ := id h
    have lk := itoa_len (n := c.Key) (by omega)
    have lv := itoa_len (n := c.Val) (by omega)
    have hw : idx ([(⟨[103, 101, 116]⟩ : GStr), (⟨[112, 117, 116]⟩ : GStr), (⟨[100, 101, 108]⟩ : GStr), (⟨[97, 100, 100]⟩ : GStr)] : List GStr) (w64 (c.Kind - 1)) = some ⟨wordC c.Kind⟩ := by
      rw [w64_in (by omega) (by omega)]
      rcases wordC_cases h1 with ⟨k, e⟩ | ⟨k, e⟩ | ⟨k, e⟩ | ⟨k, e⟩ <;> rw [e, k] <;> rfl
    have lw := (wordC_free h1).2
    rw [decide_eq_true h, Bool.not_true, if_neg (by simp), if_pos h, hw, Option.bind_some]
    simp only
    rw [need_yes (by simp; omega), dec_eq (n := c.Key) (by omega), Option.bind_some, need_yes (by simp; omega)]
    unfold spec_ShowCmd_j1 argsC
    have two : spec_ShowCmd_j3 c (wordC c.Kind ++ [32] ++ itoa c.Key) true = some (wordC c.Kind ++ decsL [c.Key, c.Val]) := by
      unfold spec_ShowCmd_j3 spec_ShowCmd_j2
      rw [if_pos rfl, need_yes (by simp; omega), dec_eq (n := c.Val) (by omega), Option.bind_some, need_yes (by simp; omega)]
      simp [decsL]
    by_cases k2 : c.Kind = 2
    · rw [if_pos (by simpa using k2), if_pos (.inl k2)]; exact two
    · rw [if_neg (by simpa using k2)]
      by_cases k4 : c.Kind = 4
      · rw [show (c.Kind == 4) = true by simpa using k4, if_pos (.inr k4)]; exact two
      · rw [show (c.Kind == 4) = false by simpa using k4, if_neg (by omega)]
        unfold spec_ShowCmd_j3 spec_ShowCmd_j2
        simp [decsL]
  · rw [decide_eq_false h, Bool.not_false, if_pos rfl, if_neg h]
/-! ### .. read -/
def TC (s : List UInt8) : Prop := ∃ c, CmdV c ∧ showC c = s
theorem readC {s : List UInt8} (hl : s.length ≤ 1000000) : ∃ r, impl_ReadCmd s = some r ∧ (r.2 = true → CmdV r.1 ∧ showC r.1 = s) ∧ (TC s → r.2 = true) := by
  unfold impl_ReadCmd
  rw [need_yes (by omega), implShowC_eq, Option.bind_some]
  refine ⟨_, rfl, ?_⟩
  by_cases h : s ≠ [] ∧ showC ⟨kindC s, numL (wordsL s) 1, numL (wordsL s) 2⟩ = s
  · rw [if_pos h]
    exact ⟨fun _ => ⟨showC_ok (by rw [h.2]; exact h.1), h.2⟩, fun _ => rfl⟩
  · rw [if_neg h]
    refine ⟨fun q => (by simp at q), ?_⟩
    rintro ⟨c, hc, e⟩
    refine absurd ⟨fun q => showC_ne hc (e.trans q), ?_⟩ h
    rw [← e, showC_kind hc, (showC_num hc).1, (showC_num hc).2]
theorem readCS {s : List UInt8} (hl : s.length ≤ 1000000) : ∃ r, spec_ReadCmd s = some r ∧ (r.2 = true → CmdV r.1) ∧ (r.2 = true ↔ TC s) := by
  unfold spec_ReadCmd
  rw [cut_eq hl, Option.bind_some]
  obtain ⟨a, ea, _⟩ := numST ((cutL 32 s).map GStr.mk) (i := 1) (by omega)
  obtain ⟨b, eb, _⟩ := numST ((cutL 32 s).map GStr.mk) (i := 2) (by omega)
  have key : Post (loop (spec_ReadCmd_l1 s ((cutL 32 s).map GStr.mk)) 1) (fun r => match r with | .ret r => r.2 = true ∧ CmdV r.1 ∧ TC s | .brk () => s = [] ∨ ∀ k, 1 ≤ k ∧ k ≤ 4 → showC ⟨k, a, b⟩ ≠ s) := by
    refine .loop (fun x => 5 - x.toNat) (fun x => (1 ≤ x ∧ x ≤ 5) ∧ (s = [] ∨ ∀ k, 1 ≤ k → k < x → showC ⟨k, a, b⟩ ≠ s)) ⟨by simp, .inr fun k h1 h2 => by omega⟩ ?_
    rintro x ⟨⟨x1, x5⟩, hI⟩
    simp only [spec_ReadCmd_l1, spec_ReadCmd_j2]
    refine .ite (fun q => ?_) fun q => .ret (hI.imp id fun h k hk => h k hk.1 (by have : ¬ x ≤ 4 := (by simpa using q); omega))
    have q : x ≤ 4 := by simpa using q
    rw [ea, Option.bind_some, eb, Option.bind_some, w64_in (by omega) (by omega)]
    refine .ite (fun hs => ?_) fun hs => ?_
    · have hs : s ≠ [] := by simpa using hs
      rw [specShowC_eq, Option.bind_some]
      refine .ite (fun h => ?_) fun h => ?_
      · have h : showC ⟨x, a, b⟩ = s := by simpa using h
        have hv : CmdV ⟨x, a, b⟩ := showC_ok (by rw [h]; exact hs)
        exact .ret ⟨rfl, hv, _, hv, h⟩
      · have h : showC ⟨x, a, b⟩ ≠ s := by simpa using h
        refine .ret ⟨⟨by omega, .inr fun k k1 k2 => ?_⟩, by omega⟩
        by_cases e : k = x
        · subst e; exact h
        · exact hI.resolve_left hs k k1 (by omega)
    · have hs : s = [] := by simpa using hs
      rw [if_neg (by simp)]
      exact .ret ⟨⟨by omega, .inl hs⟩, by omega⟩
  obtain ⟨r, er, hr⟩ := key
  rw [er, Option.bind_some]
  match r, hr with
  | .ret r, hr => exact ⟨_, rfl, fun _ => hr.2.1, fun _ => hr.2.2, fun _ => hr.1⟩
  | .brk (), hr =>
    refine ⟨_, rfl, fun q => (by simp at q), fun q => (by simp at q), ?_⟩
    rintro ⟨c, hc, e⟩
    rcases hr with hr | hr
    · exact absurd (e.trans hr) (showC_ne hc)
    · have h := showC_cut hc
      rw [e] at h
      rw [h] at ea eb
      have ea := Option.some.inj ((numS_words (w := wordC c.Kind) (argsC_rng hc).1 0).symm.trans ea)
      have eb := Option.some.inj ((numS_words (w := wordC c.Kind) (argsC_rng hc).1 1).symm.trans eb)
      rw [(argsC_get hc).1] at ea; rw [(argsC_get hc).2] at eb
      subst ea eb
      exact absurd e (hr c.Kind hc.1)
/-! ### Batches -/
def colT : List UInt8 := [99, 111, 108, 108, 101, 99, 116]
def joinC (l : List Cmd) : List UInt8 := Lib.join (l.map showC) [59]
def showBt (b : Batch) : List UInt8 := if BatV b then (if b.Collect then colT else joinC b.Cmds) else []
theorem joinC_app {l : List Cmd} (c : Cmd) (hl : l ≠ []) : joinC (l ++ [c]) = joinC l ++ 59 :: showC c := by
  unfold joinC
  cases l with
  | nil => exact absurd rfl hl
  | cons x y => simp [Lib.join_cons, Lib.joinTail]
theorem joinC_len : ∀ l : List Cmd, (joinC l).length ≤ 16 * l.length := by
  intro l
  cases l with
  | nil => simp [joinC, Lib.join_nil]
  | cons x y =>
    have hx := showC_len x
    have key : ∀ y : List Cmd, (Lib.joinTail [59] (y.map showC)).length ≤ 16 * y.length := by
      intro y
      induction y with
      | nil => simp [Lib.joinTail]
      | cons z y ih =>
        have := showC_len z
        simp only [Lib.joinTail, List.map_cons, List.flatten_cons] at ih ⊢
        simp only [List.length_append, List.length_cons, List.length_nil] at ih ⊢
        omega
    have := key y
    unfold joinC
    rw [List.map_cons, Lib.join_cons]
    simp only [List.length_append, List.length_cons] at this ⊢
    omega
theorem showBt_len (b : Batch) : (showBt b).length ≤ 200 := by
  unfold showBt
  split
  · rename_i h
    split
    · simp [colT]
    · have := joinC_len b.Cmds
      have := h.2.1
      omega
  · simp
theorem specShowB_eq {b : Batch} (hl : b.Cmds.length ≤ 1000) : spec_ShowBatch b = some (showBt b) := by
  unfold spec_ShowBatch showBt
  rw [specBat_eq (by omega), Option.bind_some]
  by_cases h : BatV b
  · rw [decide_eq_true h, Bool.not_true, if_neg (by simp), if_pos h]
    cases hc : b.Collect
    · rw [if_neg (by simp), if_neg (by simp)]
      have h6 := h.2.1
      have := enum_eq (f := spec_ShowBatch_l1 b) b.Cmds.length (fun k => (joinC (b.Cmds.take k), (k : Int))) (joinC b.Cmds) (fun k hk => by
        have hj := joinC_len (b.Cmds.take k)
        have hlt : (b.Cmds.take k).length = k := by rw [List.length_take]; omega
        have hlk : (b.Cmds.take k).length ≤ 6 := by omega
        have hs := showC_len b.Cmds[k]
        simp only [spec_ShowBatch_l1, spec_ShowBatch_j2]
        rw [if_pos (by simp; omega), idx_nat hk, Option.bind_some, Option.bind_some, specShowC_eq, Option.bind_some, Option.bind_some, w64_in (by omega) (by omega), List.take_succ_eq_append_getElem hk]
        by_cases k0 : k = 0
        · subst k0
          rw [if_neg (by simp), need_yes (by omega)]
          simp [joinC, Lib.join_nil, Lib.join_one]
        · rw [if_pos (by simp; omega), need_yes (by simp; omega), need_yes (by simp; omega), joinC_app _ (fun e => k0 (by rw [e] at hlt; exact hlt.symm))]
          simp) (by simp [spec_ShowBatch_l1])
      rw [show loop (spec_ShowBatch_l1 b) ([], 0) = some (joinC b.Cmds) from this]; rfl
    · rw [if_pos rfl, if_pos rfl]; rfl
  · rw [decide_eq_false h, Bool.not_false, if_pos rfl, if_neg h]
theorem implShowB_eq {b : Batch} (hl : b.Cmds.length ≤ 1000) : impl_ShowBatch b = some (showBt b) := by
  unfold impl_ShowBatch showBt
  rw [implBat_eq hl, Option.bind_some]
  by_cases h : BatV b
  · rw [decide_eq_true h, Bool.not_true, if_neg (by simp), if_pos h]
    cases hc : b.Collect
    · rw [if_neg (by simp), if_neg (by simp)]
      have h6 := h.2.1
      have := enum_eq (f := impl_ShowBatch_l1 b) b.Cmds.length (fun k => ((b.Cmds.take k).map fun c => (⟨showC c⟩ : GStr), (k : Int))) (b.Cmds.map fun c => (⟨showC c⟩ : GStr)) (fun k hk => by
        simp only [impl_ShowBatch_l1]
        rw [if_pos (by simp; omega), idx_nat hk, Option.bind_some, implShowC_eq, Option.bind_some, need_yes (by simp; omega), w64_in (by omega) (by omega), List.take_succ_eq_append_getElem hk, List.map_append]
        rfl) (by simp [impl_ShowBatch_l1])
      rw [show loop (impl_ShowBatch_l1 b) ([], 0) = some (b.Cmds.map fun c => (⟨showC c⟩ : GStr)) from this, Option.bind_some]
      simp only [impl_ShowBatch_m1, impl_ShowBatch_j1]
      unfold strings_Join
      have e : (b.Cmds.map fun c => (⟨showC c⟩ : GStr)).map GStr.b = b.Cmds.map showC := by rw [List.map_map]; rfl
      have hj := joinC_len b.Cmds
      rw [e, need_yes ⟨by simp; omega, by unfold joinC at hj; omega⟩]; rfl
    · rw [if_pos rfl, if_pos rfl]; rfl
  · rw [decide_eq_false h, Bool.not_false, if_pos rfl, if_neg h]
end Go.Gv
end
section
/- laws.FnTexts in plain Lean. -/
set_option linter.unusedVariables false
set_option linter.unusedSimpArgs false
set_option linter.unusedSectionVars false
namespace Go.Gv
open Lib (itoa)
/-! ### Batches read -/
def TB (s : List UInt8) : Prop := s = colT ∨ (cutL 59 s).length ≤ 6 ∧ ∀ p ∈ cutL 59 s, TC p
theorem bat_col : BatV ⟨true, []⟩ := ⟨fun _ => rfl, by simp, by simp, fun h => by cases h⟩
theorem bat_cs {cs : List Cmd} (h : ∀ c ∈ cs, CmdV c) : BatV ⟨false, cs⟩ ↔ 1 ≤ cs.length ∧ cs.length ≤ 6 :=
  ⟨fun q => ⟨q.2.2.2 rfl, q.2.1⟩, fun q => ⟨fun e => (by cases e), q.2, h, fun _ => q.1⟩⟩
theorem cut_len1 (s : List UInt8) : 1 ≤ (cutL 59 s).length := by
  rcases Nat.eq_zero_or_pos (cutL 59 s).length with h | h
  · exact absurd (List.eq_nil_of_length_eq_zero h) (cutL_ne 59 s)
  · exact h
theorem piece_len {s p : List UInt8} : ∀ {k : Nat}, p ∈ Lib.splitK [59] 0 k s → p.length ≤ s.length := by
  intro k
  induction k generalizing s with
  | zero => intro h; rw [Lib.splitK, List.mem_singleton] at h; rw [h]; exact Nat.le_refl _
  | succ k ih =>
    intro h
    rw [Lib.splitK] at h
    split at h
    · rw [List.mem_singleton] at h; rw [h]; exact Nat.le_refl _
    · rcases List.mem_cons.1 h with rfl | h
      · rw [List.length_take]; omega
      · have := ih h
        rw [List.length_drop] at this; omega
theorem piece_len' {s p : List UInt8} (h : p ∈ cutL 59 s) : p.length ≤ s.length := by
  rw [← split_cut] at h; exact piece_len h
theorem readB {s : List UInt8} (hl : s.length ≤ 1000000) : ∃ r, impl_ReadBatch s = some r ∧ r.1.Cmds.length ≤ 1000 ∧ (r.2 = true → BatV r.1 ∧ showBt r.1 = s) ∧ (TB s → r.2 = true) := by
  unfold impl_ReadBatch
  by_cases hc : s = colT
  · rw [if_pos (by rw [hc]; rfl)]
    refine ⟨_, rfl, by simp, fun _ => ⟨bat_col, ?_⟩, fun _ => rfl⟩
    unfold showBt
    rw [if_pos bat_col, if_pos rfl, hc]
  · rw [if_neg (by simpa [colT] using hc)]
    unfold strings_SplitN
    rw [need_yes ⟨by omega, by simp, by omega, by omega⟩, Option.bind_some]
    obtain ⟨k1, k2⟩ := splitK_cut 59 (min (7 : Int).toNat (s.length + 1) - 1) s
    have hpl : ∀ p ∈ Lib.splitK [59] 0 (min (7 : Int).toNat (s.length + 1) - 1) s, p.length ≤ 1000000 := fun p hp => Nat.le_trans (piece_len hp) hl
    have hcl := cutL_len 59 s
    have h7 : (7 : Int).toNat = 7 := rfl
    rw [h7] at k1 k2 hpl ⊢
    generalize Lib.splitK [59] 0 (min 7 (s.length + 1) - 1) s = l at *
    have l7 : l.length ≤ 7 := by omega
    have key : Post (loop (impl_ReadBatch_l1 (l.map GStr.mk)) (0, [])) (fun r => match r with | .ret r => r.2 = false ∧ r.1.Cmds.length ≤ 1000 ∧ ¬ ∀ p ∈ l, TC p | .brk cs => cs.map showC = l ∧ ∀ c ∈ cs, CmdV c) := by
      refine .loop (fun x => 10 - x.1.toNat) (fun x => (0 ≤ x.1 ∧ x.1 ≤ l.length) ∧ x.2.map showC = l.take x.1.toNat ∧ ∀ c ∈ x.2, CmdV c) ⟨by simp, by simp, by simp⟩ ?_
      rintro ⟨k, cs⟩ ⟨⟨a0, a1⟩, hm, hv⟩
      simp only at a0 a1 hm hv
      obtain ⟨k, rfl⟩ : ∃ n : Nat, k = n := ⟨k.toNat, by omega⟩
      simp only [Int.toNat_natCast] at hm
      simp only [impl_ReadBatch_l1]
      refine .ite (fun q => ?_) fun q => .ret ⟨?_, hv⟩
      · have q : k < l.length := by simpa using q
        have hcs : cs.length = k := by have := congrArg List.length hm; rw [List.length_map, List.length_take] at this; omega
        rw [idx_nat (by simpa using q), Option.bind_some]
        simp only [List.getElem_map]
        obtain ⟨r, er, r1, r2⟩ := readC (s := l[k]) (hpl _ (List.getElem_mem q))
        rw [er, Option.bind_some]
        refine .ite (fun hh => .ret ⟨rfl, by simp, fun h => ?_⟩) fun hh => ?_
        · rw [r2 (h _ (List.getElem_mem q))] at hh
          simp at hh
        · have hh : r.2 = true := by simpa using hh
          obtain ⟨c1, c2⟩ := r1 hh
          rw [w64_in (by omega) (by omega)]
          refine .need (by simp; omega) (.ret ⟨⟨by simp only; omega, ?_, fun c hcm => ?_⟩, by simp only; omega⟩)
          · have e1 : ((k : Int) + 1).toNat = k + 1 := by omega
            simp only [e1]
            rw [List.map_append, hm, List.take_succ_eq_append_getElem q, ← c2]; rfl
          · rcases List.mem_append.1 hcm with h | h
            · exact hv c h
            · rw [List.mem_singleton.1 h]; exact c1
      · have q : ¬ k < l.length := by simpa using q
        rw [hm, List.take_of_length_le (by omega)]
    obtain ⟨r, er, hr⟩ := key
    rw [er, Option.bind_some]
    match r, hr with
    | .ret r, ⟨h1, h0, h2⟩ =>
      refine ⟨r, rfl, h0, fun q => (by rw [h1] at q; cases q), ?_⟩
      rintro (h | ⟨h3, h4⟩)
      · exact absurd h hc
      · rw [k2 (by omega)] at h2
        exact absurd h4 h2
    | .brk cs, ⟨h1, h2⟩ =>
      have hcs : cs.length = l.length := by have := congrArg List.length h1; rwa [List.length_map] at this
      simp only [impl_ReadBatch_m1, impl_ReadBatch_j1]
      rw [implBat_eq (by simp only; omega), Option.bind_some]
      by_cases hB : BatV ⟨false, cs⟩
      · rw [decide_eq_true hB, Bool.not_true, if_neg (by simp)]
        refine ⟨_, rfl, by simp only; omega, fun _ => ⟨hB, ?_⟩, fun _ => rfl⟩
        have h6 := hB.2.1
        simp only at h6
        unfold showBt
        rw [if_pos hB, if_neg (by simp)]
        unfold joinC
        simp only
        rw [h1, k2 (by omega), join_cut]
      · rw [decide_eq_false hB, Bool.not_false, if_pos rfl]
        refine ⟨_, rfl, by simp, fun q => (by simp at q), ?_⟩
        rintro (h | ⟨h3, h4⟩)
        · exact absurd h hc
        · have := cut_len1 s
          exact absurd ((bat_cs h2).2 (by omega)) hB
theorem readBS {s : List UInt8} (hl : s.length ≤ 900000) : ∃ r, spec_ReadBatch s = some r ∧ (r.2 = true ↔ TB s) := by
  unfold spec_ReadBatch
  by_cases hc : s = colT
  · rw [if_pos (by rw [hc]; rfl)]
    exact ⟨_, rfl, fun _ => .inl hc, fun _ => rfl⟩
  · rw [if_neg (by simpa [colT] using hc), cut_eq (by omega), Option.bind_some]
    have hpl : ∀ p ∈ cutL 59 s, p.length ≤ 1000000 := fun p hp => by have := piece_len' hp; omega
    have hcl := cutL_len 59 s
    have hl1 := cut_len1 s
    obtain ⟨l, hL⟩ : ∃ l, cutL 59 s = l := ⟨_, rfl⟩
    unfold TB
    rw [hL] at hpl hcl hl1 ⊢
    have key : Post (loop (spec_ReadBatch_l1 (l.map GStr.mk)) (0, [])) (fun r => match r with | .ret r => r.2 = false ∧ ¬ ∀ p ∈ l, TC p | .brk cs => cs.length = l.length ∧ (∀ c ∈ cs, CmdV c) ∧ ∀ p ∈ l, TC p) := by
      refine .loop (fun x => l.length - x.1.toNat) (fun x => (0 ≤ x.1 ∧ x.1 ≤ l.length) ∧ (x.2.length : Int) = x.1 ∧ (∀ c ∈ x.2, CmdV c) ∧ ∀ p ∈ l.take x.1.toNat, TC p) ⟨by simp, by simp, by simp, by simp⟩ ?_
      rintro ⟨k, cs⟩ ⟨⟨a0, a1⟩, hm, hv, ht⟩
      simp only at a0 a1 hm hv ht
      obtain ⟨k, rfl⟩ : ∃ n : Nat, k = n := ⟨k.toNat, by omega⟩
      simp only [Int.toNat_natCast] at ht
      simp only [spec_ReadBatch_l1]
      refine .ite (fun q => ?_) fun q => .ret ⟨?_, hv, ?_⟩
      · have q : k < l.length := by simpa using q
        rw [idx_nat (by simpa using q), Option.bind_some]
        simp only [List.getElem_map]
        obtain ⟨r, er, r1, r2⟩ := readCS (s := l[k]) (hpl _ (List.getElem_mem q))
        rw [er, Option.bind_some]
        refine .ite (fun hh => .ret ⟨rfl, fun h => ?_⟩) fun hh => ?_
        · rw [r2.2 (h _ (List.getElem_mem q))] at hh
          simp at hh
        · have hh : r.2 = true := by simpa using hh
          rw [w64_in (by omega) (by omega)]
          refine .need (by simp; omega) (.ret ⟨⟨by simp only; omega, by simp; omega, fun c hcm => ?_, ?_⟩, by simp only; omega⟩)
          · rcases List.mem_append.1 hcm with h | h
            · exact hv c h
            · rw [List.mem_singleton.1 h]; exact r1 hh
          · have e1 : ((k : Int) + 1).toNat = k + 1 := by omega
            simp only [e1]
            rw [List.take_succ_eq_append_getElem q]
            intro p hp
            rcases List.mem_append.1 hp with h | h
            · exact ht p h
            · rw [List.mem_singleton.1 h]; exact r2.1 hh
      · have q : ¬ k < l.length := by simpa using q
        omega
      · have q : ¬ k < l.length := by simpa using q
        rwa [List.take_of_length_le (by omega)] at ht
    obtain ⟨r, er, hr⟩ := key
    rw [er, Option.bind_some]
    match r, hr with
    | .ret r, ⟨h1, h2⟩ =>
      refine ⟨r, rfl, fun q => (by rw [h1] at q; cases q), ?_⟩
      rintro (h | ⟨h3, h4⟩)
      · exact absurd h hc
      · exact absurd h4 h2
    | .brk cs, ⟨h1, h2, h3⟩ =>
      simp only [spec_ReadBatch_m1, spec_ReadBatch_j1]
      rw [specBat_eq (by simp only; omega), Option.bind_some]
      by_cases hB : BatV ⟨false, cs⟩
      · rw [decide_eq_true hB, Bool.not_true, if_neg (by simp)]
        have h6 := hB.2.1
        simp only at h6
        exact ⟨_, rfl, fun _ => .inr ⟨by omega, h3⟩, fun _ => rfl⟩
      · rw [decide_eq_false hB, Bool.not_false, if_pos rfl]
        refine ⟨_, rfl, fun q => (by simp at q), ?_⟩
        rintro (h | ⟨h4, h5⟩)
        · exact absurd h hc
        · exact absurd ((bat_cs h2).2 (by omega)) hB
theorem joinC_space {l : List Cmd} (hl : 1 ≤ l.length) (hv : ∀ c ∈ l, CmdV c) : (32 : UInt8) ∈ joinC l := by
  cases l with
  | nil => simp at hl
  | cons c r =>
    unfold joinC
    rw [List.map_cons, Lib.join_cons]
    exact List.mem_append_left _ (showC_space (hv c (by simp)))
theorem joinC_cut {l : List Cmd} (hl : 1 ≤ l.length) : cutL 59 (joinC l) = l.map showC :=
  cut_join 59 _ (fun e => by rw [List.map_eq_nil_iff] at e; rw [e] at hl; simp at hl) fun p hp x hx => by
    obtain ⟨c, _, rfl⟩ := List.mem_map.1 hp
    exact showC_free c x hx
theorem joinC_col {l : List Cmd} (hl : 1 ≤ l.length) (hv : ∀ c ∈ l, CmdV c) : joinC l ≠ colT := fun e => by
  have := joinC_space hl hv
  rw [e] at this
  exact absurd this (by decide)
theorem TB_show {b : Batch} (h : BatV b) : TB (showBt b) := by
  unfold showBt
  rw [if_pos h]
  cases hc : b.Collect
  · rw [if_neg (by simp)]
    have h1 := h.2.2.2 hc
    refine .inr ?_
    rw [joinC_cut h1]
    refine ⟨by rw [List.length_map]; exact h.2.1, fun p hp => ?_⟩
    obtain ⟨c, hm, rfl⟩ := List.mem_map.1 hp
    exact ⟨c, h.2.2.1 c hm, rfl⟩
  · rw [if_pos rfl]; exact .inl rfl
theorem showBt_ne {b : Batch} (h : BatV b) : showBt b ≠ [] := by
  unfold showBt
  rw [if_pos h]
  cases hc : b.Collect
  · rw [if_neg (by simp)]
    intro e
    have := joinC_space (h.2.2.2 hc) h.2.2.1
    rw [e] at this; simp at this
  · rw [if_pos rfl]; decide
theorem showBt_len_eq {b d : Batch} (hb : BatV b) (hd : BatV d) (h : showBt b = showBt d) : b.Cmds.length = d.Cmds.length := by
  unfold showBt at h
  rw [if_pos hb, if_pos hd] at h
  cases cb : b.Collect <;> cases cd : d.Collect <;> rw [cb, cd] at h
  · have h : joinC b.Cmds = joinC d.Cmds := h
    have := congrArg (cutL 59) h
    rw [joinC_cut (hb.2.2.2 cb), joinC_cut (hd.2.2.2 cd)] at this
    simpa using congrArg List.length this
  · exact absurd (show joinC b.Cmds = colT from h) (joinC_col (hb.2.2.2 cb) hb.2.2.1)
  · exact absurd (show joinC d.Cmds = colT from h.symm) (joinC_col (hd.2.2.2 cd) hd.2.2.1)
  · rw [hb.1 cb, hd.1 cd]
/-! ### What is drawn -/
section
variable {b : List UInt8} {i h : Int} (hc : Cu b i)
include hc
theorem pickGD {l : List GStr} (hl : 0 < l.length) (hl2 : l.length ≤ 1000) : Post (spec_l1Pick ⟨b, i, h⟩ l) (fun x => (∃ y ∈ l, x.1 = y.b) ∧ Cu b x.2.1) :=
  .bind (below hc (by omega)) fun x ⟨hx, h1⟩ => .bind (.idx (by omega)) fun y hy => .ret ⟨⟨y, hy, rfl⟩, h1⟩
end
theorem showOpD {code : List UInt8} (hl : code.length ≤ 1048576) : Post (spec_DrawShowOp code) (fun _ => True) := by
  unfold spec_DrawShowOp spec_DrawOpOk spec_DrawOpOk_j1
  refine .bind (.bind (newD hl) fun x1 h1 => .bind (opD h1) fun x2 ⟨_, h2⟩ => .bind (below h2 (by omega)) fun x4 ⟨_, h4⟩ => .ite (fun _ => ?_) fun _ => .ite (fun _ => ?_) fun _ => .ite (fun _ => ?_) fun _ => .ite (fun _ => ?_) fun _ => .ret trivial) fun _ (_ : True) => .ret trivial
  · exact .bind (below h4 (by omega)) fun _ _ => .ret trivial
  · exact .bind (below h4 (by omega)) fun _ _ => .ret trivial
  · exact .bind (pickD h4 (by decide) (by decide)) fun _ _ => .ret trivial
  · exact .bind (pickD h4 (by decide) (by decide)) fun _ _ => .ret trivial
theorem showCmdD {code : List UInt8} (hl : code.length ≤ 1048576) : Post (spec_DrawShowCmd code) (fun _ => True) := by
  unfold spec_DrawShowCmd
  exact .bind (newD hl) fun x1 h1 => .bind (cmdAnyD h1) fun _ _ => .ret trivial
theorem showBatchD {code : List UInt8} (hl : code.length ≤ 1048576) : Post (spec_DrawShowBatch code) (fun x => x.Cmds.length ≤ 1000) := by
  unfold spec_DrawShowBatch spec_DrawBatchOk spec_DrawBatchOk_j2 spec_DrawBatchOk_j1
  refine .bind (.bind (newD hl) fun x1 h1 => .bind (batchD h1) fun x2 ⟨n2, h2⟩ => .bind (below h2 (by omega)) fun x5 ⟨_, h5⟩ => .ite (fun _ => ?_) fun _ => .ite (fun _ => ?_) fun _ => .ite (fun _ => ?_) fun _ => ?_) fun x hx => .ret hx
  · exact .bind (cmdAnyD h5) fun x7 _ => .need (by simp; omega) (.ret (by simp; omega))
  · refine .bind (P := fun x => x.length ≤ 1000) (.loop (fun s => 1000 - s.2.2.length) (fun s => s.2.2.length ≤ 107 ∧ Cu code s.1) ⟨show x2.1.Cmds.length ≤ 107 by omega, h5⟩ ?_) fun x hx => .ret hx
    rintro ⟨i1, h1, l⟩ ⟨hn, hi⟩
    simp only at hn hi
    simp only [spec_DrawBatchOk_l3, spec_DrawBatchOk_j4]
    refine .bind (below hi (by omega)) fun x15 ⟨hx, h15⟩ => ?_
    rw [w64_in (by omega) (by omega)]
    refine .ite (fun q => ?_) fun _ => .ret (show l.length ≤ 1000 by omega)
    have q : (l.length : Int) < 6 + x15.1 := by simpa using q
    exact .bind (cmdD h15) fun x19 h19 => .need (by simp; omega) (.ret ⟨⟨by simp; omega, h19⟩, by simp; omega⟩)
  · exact .ret (by simp only; omega)
  · exact .ret (by simp only; omega)
theorem readOpD {code : List UInt8} (hl : code.length ≤ 1048576) : Post (spec_DrawReadOp code) (fun s => s.length ≤ 900000) := by
  unfold spec_DrawReadOp
  refine .bind (newD hl) fun x1 h1 => .bind (opD h1) fun x2 ⟨_, h2⟩ => ?_
  have hs := showO_len x2.1
  rw [specShow_eq, Option.bind_some]
  refine .bind (below h2 (by omega)) fun x4 ⟨_, h4⟩ => .ite (fun _ => ?_) fun _ => .ite (fun _ => ?_) fun _ => .ret (by omega)
  · exact .bind (spoil1D h4 (by omega)) fun x ⟨hx, _⟩ => .ret (by omega)
  · refine .bind (pickGD h4 (by simp) (by simp)) fun x6 ⟨⟨y, hy, e⟩, _⟩ => ?_
    have : x6.1.length ≤ 100 := by
      rw [e]
      simp only [List.mem_cons, List.not_mem_nil, or_false] at hy
      rcases hy with rfl | rfl | rfl <;> simp
    exact .need (by omega) (.ret (by simp; omega))
theorem readBatchD {code : List UInt8} (hl : code.length ≤ 1048576) : Post (spec_DrawReadBatch code) (fun s => s.length ≤ 900000) := by
  unfold spec_DrawReadBatch
  refine .bind (newD hl) fun x1 h1 => .bind (batchD h1) fun x2 ⟨n2, h2⟩ => ?_
  have hs := showBt_len x2.1
  rw [specShowB_eq (by omega), Option.bind_some]
  refine .bind (below h2 (by omega)) fun x4 ⟨_, h4⟩ => .ite (fun _ => ?_) fun _ => .ite (fun _ => ?_) fun _ => .ret (by omega)
  · exact .bind (spoil1D h4 (by omega)) fun x ⟨hx, _⟩ => .ret (by omega)
  · refine .bind (pickGD h4 (by simp) (by simp)) fun x6 ⟨⟨y, hy, e⟩, _⟩ => ?_
    have : x6.1.length ≤ 100 := by
      rw [e]
      simp only [List.mem_cons, List.not_mem_nil, or_false] at hy
      rcases hy with rfl | rfl | rfl | rfl <;> simp
    exact .need (by omega) (.ret (by simp; omega))
/-! ### The law -/
theorem bool_eq {p : Prop} [Decidable p] {b : Bool} (h : b = true ↔ p) : b = decide p := by
  rw [Bool.eq_iff_iff, decide_eq_true_eq]; exact h
theorem law_FnTexts {code : List UInt8} (_ : fit code) : laws_FnTexts code = some true := by
  unfold laws_FnTexts laws_big
  rw [Option.bind_some]
  by_cases hcl : 1048576 < (code.length : Int)
  · rw [if_pos (by simpa using hcl)]
  rw [if_neg (by simpa using hcl)]
  obtain ⟨o, eo, _⟩ := showOpD (code := code) (by omega)
  obtain ⟨c, ec, _⟩ := showCmdD (code := code) (by omega)
  obtain ⟨b, eb, hb⟩ := showBatchD (code := code) (by omega)
  obtain ⟨s, es, hs⟩ := readOpD (code := code) (by omega)
  obtain ⟨t, et, ht⟩ := readBatchD (code := code) (by omega)
  obtain ⟨ro, e1, p1, q1⟩ := readO (s := showO o) (by have := showO_len o; omega)
  obtain ⟨rc, e2, p2, q2⟩ := readC (s := showC c) (by have := showC_len c; omega)
  obtain ⟨rb, e3, l3, p3, q3⟩ := readB (s := showBt b) (by have := showBt_len b; omega)
  have d1 : ro.2 = decide (OpOkP o) := bool_eq ⟨fun h => by
    obtain ⟨a1, a2⟩ := p1 h
    exact showO_ok (by rw [← a2]; exact showO_ne a1), fun h => q1 ⟨o, h, rfl⟩⟩
  have d2 : rc.2 = decide (CmdV c) := bool_eq ⟨fun h => by
    obtain ⟨a1, a2⟩ := p2 h
    exact showC_ok (by rw [← a2]; exact showC_ne a1), fun h => q2 ⟨c, h, rfl⟩⟩
  have d3 : rb.2 = decide (BatV b) := bool_eq ⟨fun h => by
    obtain ⟨a1, a2⟩ := p3 h
    by_cases q : BatV b
    · exact q
    · have : showBt b = [] := by unfold showBt; rw [if_neg q]
      exact absurd (a2.trans this) (showBt_ne a1), fun h => q3 (TB_show h)⟩
  have j1 : laws_FnTexts_j1 code false = some true := by
    unfold laws_FnTexts_j1
    obtain ⟨x, ex, px, qx⟩ := readO (s := s) (by omega)
    obtain ⟨x', ex', qx'⟩ := readOS (s := s) (by omega)
    obtain ⟨y, ey, ly, py, qy⟩ := readB (s := t) (by omega)
    obtain ⟨y', ey', qy'⟩ := readBS (s := t) (by omega)
    rw [if_neg (by simp), es, Option.bind_some, ex, Option.bind_some, ex', Option.bind_some, et, Option.bind_some, ey, Option.bind_some, ey', Option.bind_some]
    have hx : x.2 = x'.2 := by
      rw [Bool.eq_iff_iff, qx']
      exact ⟨fun h => ⟨x.1, px h⟩, qx⟩
    have hy : y.2 = y'.2 := by
      rw [Bool.eq_iff_iff, qy']
      refine ⟨fun h => ?_, qy⟩
      obtain ⟨a1, a2⟩ := py h
      rw [← a2]; exact TB_show a1
    have last : (if y.2 == y'.2 then (if !y.2 then laws_FnTexts_j2 true else (impl_ShowBatch y.1).bind fun x19 => laws_FnTexts_j2 (x19 == t)) else laws_FnTexts_j2 false) = some true := by
      rw [if_pos (by simpa using hy)]
      cases h : y.2
      · rw [if_pos (by simp)]; rfl
      · rw [if_neg (by simp), implShowB_eq ly, Option.bind_some, (py h).2]
        simp [laws_FnTexts_j2]
    rw [if_pos (by simpa using hx)]
    cases h : x.2
    · rw [if_pos (by simp)]; exact last
    · rw [if_neg (by simp), implShow_eq, Option.bind_some, (px h).2, if_pos (by simp)]; exact last
  have j3 : (if !(rb.2 == decide (BatV b)) then laws_FnTexts_j1 code true else (if rb.2 then (impl_ShowBatch rb.1).bind fun x25 => (if !(x25 == showBt b) then laws_FnTexts_j1 code true else laws_FnTexts_j1 code ((rb.1.Cmds.length : Int) != (b.Cmds.length : Int))) else laws_FnTexts_j1 code false)) = some true := by
    rw [d3, if_neg (by simp)]
    by_cases h : BatV b
    · have hr := q3 (TB_show h)
      obtain ⟨a1, a2⟩ := p3 hr
      rw [decide_eq_true h, if_pos rfl, implShowB_eq l3, Option.bind_some, a2, if_neg (by simp), showBt_len_eq a1 h a2]
      simpa using j1
    · rw [decide_eq_false h, if_neg (by simp)]; exact j1
  have j2 : (if !(rc.2 == decide (CmdV c)) then laws_FnTexts_j1 code true else (if rc.2 then (if !(decide (rc.1 = c)) then laws_FnTexts_j1 code true else (spec_BatchOk b).bind fun x24 => (if !(rb.2 == x24) then laws_FnTexts_j1 code true else (if rb.2 then (impl_ShowBatch rb.1).bind fun x25 => (if !(x25 == showBt b) then laws_FnTexts_j1 code true else laws_FnTexts_j1 code ((rb.1.Cmds.length : Int) != (b.Cmds.length : Int))) else laws_FnTexts_j1 code false))) else (spec_BatchOk b).bind fun x26 => (if !(rb.2 == x26) then laws_FnTexts_j1 code true else (if rb.2 then (impl_ShowBatch rb.1).bind fun x27 => (if !(x27 == showBt b) then laws_FnTexts_j1 code true else laws_FnTexts_j1 code ((rb.1.Cmds.length : Int) != (b.Cmds.length : Int))) else laws_FnTexts_j1 code false)))) = some true := by
    rw [specBat_eq (by omega), Option.bind_some, d2, if_neg (by simp)]
    by_cases h : CmdV c
    · obtain ⟨a1, a2⟩ := p2 (q2 ⟨c, h, rfl⟩)
      rw [decide_eq_true h, if_pos rfl, if_neg (by simp [showC_inj a1 h a2])]; exact j3
    · rw [decide_eq_false h, if_neg (by simp)]; exact j3
  rw [eo, Option.bind_some, implShow_eq, Option.bind_some, e1, Option.bind_some, ec, Option.bind_some, implShowC_eq, Option.bind_some, e2, Option.bind_some, eb, Option.bind_some, implShowB_eq hb, Option.bind_some, e3, Option.bind_some, spec_OpOk_eq, Option.bind_some, specCmd_eq, Option.bind_some, d1, if_neg (by simp)]
  by_cases h : OpOkP o
  · obtain ⟨a1, a2⟩ := p1 (q1 ⟨o, h, rfl⟩)
    rw [decide_eq_true h, if_pos rfl, if_neg (by simp [showO_inj a1 h a2])]; exact j2
  · rw [decide_eq_false h, if_neg (by simp)]; exact j2
end Go.Gv
end
