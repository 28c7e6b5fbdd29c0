/- The state of slots; bases: both sides agree. -/
import Derived.Test.YtpndngnohcffnaaGreatPLimbo
set_option linter.unusedVariables false
set_option linter.unusedSimpArgs false
set_option linter.unusedSectionVars false
namespace Go.Gv
/-- A loop that looks for the first that passes a test. -/
theorem any_loop {α : Type} (l : List α) (f : α → Bool) {body : Int → Option (Step Int (Out Unit Int))} (hb : ∀ k (hk : k < l.length), body (k : Int) = if f l[k] then some (.stop (.ret (k : Int))) else some (.next ((k + 1 : Nat) : Int))) (he : body (l.length : Int) = some (.stop (.brk ()))) :
    ∃ o, loop body 0 = some o ∧ match o with | .brk _ => l.any f = false | .ret r => 0 ≤ r ∧ l.any f = true := by
  have key := enum_scan (f := body) l.length (fun k => (k : Int)) (fun k => if (l.drop k).any f then Out.ret ((k + (l.drop k).findIdx f : Nat) : Int) else Out.brk ()) (fun k hk => by
    by_cases h : k < l.length
    · have hd : l.drop k = l[k] :: l.drop (k + 1) := List.drop_eq_getElem_cons h
      rw [hb k h, hd]
      simp only [List.any_cons, List.findIdx_cons]
      by_cases h4 : f l[k] = true
      · left; simp [h4]
      · right
        have h4 : f l[k] = false := by simpa using h4
        refine ⟨h, by simp [h4], ?_⟩
        simp only [h4, Bool.false_or, cond_false]
        congr 2; omega
    · left
      obtain rfl : k = l.length := by omega
      rw [he]; simp) 0 (Nat.zero_le _)
  rw [show ((0 : Nat) : Int) = 0 from rfl, List.drop_zero] at key
  refine ⟨_, key, ?_⟩
  by_cases h : l.any f = true
  · rw [if_pos h]; exact ⟨by omega, h⟩
  · rw [if_neg h]; simpa using h
theorem contains_LRow {l : List LRow} (hl : l.length ≤ maxLen) (f : LRow → Bool) : slices_ContainsFunc_LRow l (fun x => some (f x)) = some (l.any f) := by
  obtain ⟨o, e, h⟩ := any_loop l f (body := slices_IndexFunc_LRow_l1 l (fun x => some (f x))) (fun k hk => by
    simp only [slices_IndexFunc_LRow_l1]
    rw [if_pos (by simp; omega), idx_nat hk, w64_nat (lt_max hk hl)]; rfl) (by simp [slices_IndexFunc_LRow_l1])
  unfold slices_ContainsFunc_LRow slices_IndexFunc_LRow
  rw [e]
  cases o with
  | brk u => simp only at h; simp [slices_IndexFunc_LRow_m1, slices_IndexFunc_LRow_j1, h]
  | ret r => simp only at h; simp [slices_IndexFunc_LRow_m1, h]
theorem contains_LList {l : List LList} (hl : l.length ≤ maxLen) (f : LList → Bool) (g : LList → Option Bool) (hg : ∀ x ∈ l, g x = some (f x)) : slices_ContainsFunc_LList l g = some (l.any f) := by
  obtain ⟨o, e, h⟩ := any_loop l f (body := slices_IndexFunc_LList_l1 l g) (fun k hk => by
    simp only [slices_IndexFunc_LList_l1]
    rw [if_pos (by simp; omega), idx_nat hk, w64_nat (lt_max hk hl)]
    simp only [Option.bind_some, hg _ (List.getElem_mem hk)]) (by simp [slices_IndexFunc_LList_l1])
  unfold slices_ContainsFunc_LList slices_IndexFunc_LList
  rw [e]
  cases o with
  | brk u => simp only at h; simp [slices_IndexFunc_LList_m1, slices_IndexFunc_LList_j1, h]
  | ret r => simp only at h; simp [slices_IndexFunc_LList_m1, h]
theorem contains_SList {l : List SList} (hl : l.length ≤ maxLen) (f : SList → Bool) (g : SList → Option Bool) (hg : ∀ x ∈ l, g x = some (f x)) : slices_ContainsFunc_SList l g = some (l.any f) := by
  obtain ⟨o, e, h⟩ := any_loop l f (body := slices_IndexFunc_SList_l1 l g) (fun k hk => by
    simp only [slices_IndexFunc_SList_l1]
    rw [if_pos (by simp; omega), idx_nat hk, w64_nat (lt_max hk hl)]
    simp only [Option.bind_some, hg _ (List.getElem_mem hk)]) (by simp [slices_IndexFunc_SList_l1])
  unfold slices_ContainsFunc_SList slices_IndexFunc_SList
  rw [e]
  cases o with
  | brk u => simp only at h; simp [slices_IndexFunc_SList_m1, slices_IndexFunc_SList_j1, h]
  | ret r => simp only at h; simp [slices_IndexFunc_SList_m1, h]
theorem contains_eq {l : List Int} (hl : l.length ≤ maxLen) (v : Int) : slices_Contains_int l v = some (decide (v ∈ l)) := by
  obtain ⟨o, e, h⟩ := any_loop l (fun x => v == x) (body := slices_Index_int_l1 l v) (fun k hk => by
    simp only [slices_Index_int_l1]
    rw [if_pos (by simp; omega), idx_nat hk, w64_nat (lt_max hk hl)]; rfl) (by simp [slices_Index_int_l1])
  have ha : l.any (fun x => v == x) = decide (v ∈ l) := by
    rw [Bool.eq_iff_iff]; simp
  rw [ha] at h
  unfold slices_Contains_int slices_Index_int
  rw [e]
  cases o with
  | brk u => simp only at h; simp [slices_Index_int_m1, slices_Index_int_j1, h]
  | ret r => simp only at h; simp [slices_Index_int_m1, h]
theorem mem_flatS {l : List SList} {x : Int} : x ∈ flatS l ↔ ∃ s ∈ l, x ∈ s.Slots := List.mem_flatMap
section
variable {m : Mem} (hsh : HShape m.Heap) (hl : (allS m.Lists).length ≤ 1073741824) (hg : m.Lists.Global.length ≤ maxLen) (ho : m.Lists.Own.length ≤ maxLen)
include hl hg ho
theorem spec_OnList_eq (s : Int) : spec_OnList m.Lists s = some (decide (s ∈ allS m.Lists)) := by
  have hb : (1073741824 : Nat) ≤ maxLen := by simp [maxLen]
  unfold spec_OnList
  rw [spec_l8All_eq hl hg ho]
  simp only [Option.bind_some]
  rw [spec_l8Has_eq (by omega)]; rfl
theorem impl_OnList_eq (s : Int) : impl_OnList m.Lists s = some (decide (s ∈ allS m.Lists)) := by
  have hb : (1073741824 : Nat) ≤ maxLen := by simp [maxLen]
  have hal := allS_len m.Lists
  have e1 : ∀ x ∈ m.Lists.Global, impl_OnList_1 x s = some (decide (s ∈ x.Slots)) := fun x hx => by
    have := flat_mem hx
    unfold impl_OnList_1; rw [contains_eq (by omega)]; rfl
  have e2 : ∀ x ∈ m.Lists.Own, impl_OnList_1 x s = some (decide (s ∈ x.Slots)) := fun x hx => by
    have := flat_mem hx
    unfold impl_OnList_1; rw [contains_eq (by omega)]; rfl
  unfold impl_OnList impl_OnList_j1
  rw [contains_SList hg (fun x => decide (s ∈ x.Slots)) _ e1, contains_SList ho (fun x => decide (s ∈ x.Slots)) _ e2]
  have a1 : (m.Lists.Global.any fun x => decide (s ∈ x.Slots)) = decide (s ∈ flatS m.Lists.Global) := by
    rw [Bool.eq_iff_iff]; simp [mem_flatS]
  have a2 : (m.Lists.Own.any fun x => decide (s ∈ x.Slots)) = decide (s ∈ flatS m.Lists.Own) := by
    rw [Bool.eq_iff_iff]; simp [mem_flatS]
  rw [a1, a2]
  simp only [Option.bind_some, allS, List.mem_append]
  by_cases q : s ∈ flatS m.Lists.Global <;> simp [q]
def stateS (m : Mem) (s : Int) : Int := if clsS m.Heap s < 0 then 0 else if s ∈ allS m.Lists then 1 else if 6 < genS m.Heap s then 2 else 3
include hsh
theorem spec_l9State_eq (s : Int) : spec_l9State m s = some (stateS m s) := by
  unfold spec_l9State stateS
  rw [spec_l7Class_eq hsh, spec_OnList_eq hl hg ho]
  simp only [Option.bind_some]
  by_cases q : clsS m.Heap s < 0
  · simp [q]
  · rw [spec_l7Gen_eq hsh (by omega)]
    by_cases q2 : s ∈ allS m.Lists
    · simp [q, q2]
    · by_cases q3 : 6 < genS m.Heap s <;> simp [q, q2, q3]
theorem impl_stateOf_eq (s : Int) : impl_stateOf m s = some (stateS m s) := by
  unfold impl_stateOf stateS
  rw [impl_classIn_eq hsh, impl_OnList_eq hl hg ho]
  simp only [Option.bind_some]
  by_cases q : clsS m.Heap s < 0
  · simp [q]
  · rw [impl_GenIn_eq hsh (by omega)]
    by_cases q2 : s ∈ allS m.Lists
    · simp [q, q2]
    · by_cases q3 : 6 < genS m.Heap s <;> simp [q, q2, q3]
def LiveS (m : Mem) (h : Int) : Prop := HnOk h ∧ stateS m (h % 32) = 3 ∧ genS m.Heap (h % 32) = h / 32
instance (m : Mem) (h : Int) : Decidable (LiveS m h) := by unfold LiveS; infer_instance
omit hl hg ho hsh in
theorem cls_of_used {m : Mem} {s : Int} (h : stateS m s = 3) : 0 ≤ clsS m.Heap s := by
  unfold stateS at h
  split at h
  · omega
  · omega
theorem spec_l9Valid_eq (h : Int) : spec_l9Valid m h = some (decide (LiveS m h)) := by
  unfold spec_l9Valid spec_l9Valid_j1
  rw [spec_HandleOk_eq, spec_HandleSlot_eq]
  by_cases q : HnOk h
  · have hm := q.mod
    rw [decide_eq_true q, if_pos q]
    simp only [Option.bind_some, if_true, spec_l9State_eq hsh hl hg ho]
    by_cases q2 : stateS m (h % 32) = 3
    · have n : (stateS m (h % 32) == 3) = true := by simpa using q2
      have eg : spec_HandleGen h = some (h / 32) := by
        unfold spec_HandleGen
        unfold HnOk at q
        rw [spec_HandleOk_eq, decide_eq_true (show HnOk h from q), tdiv_pos (by omega), w64_in (by omega) (by omega)]; rfl
      rw [n, spec_l7Gen_eq hsh (cls_of_used q2), eg]
      simp only [if_true, Option.bind_some]
      congr 1; rw [Bool.eq_iff_iff]; simp only [beq_iff_eq, decide_eq_true_eq]
      exact ⟨fun a => ⟨q, q2, a⟩, fun a => a.2.2⟩
    · have n : (stateS m (h % 32) == 3) = false := by simpa using q2
      rw [n, decide_eq_false (fun a : LiveS m h => q2 a.2.1)]; rfl
  · rw [decide_eq_false q, decide_eq_false (fun a : LiveS m h => q a.1)]; rfl
theorem impl_isLive_eq (h : Int) : impl_isLive m h = some (decide (LiveS m h)) := by
  unfold impl_isLive impl_isLive_j1
  rw [impl_HandleOk_eq]
  by_cases q : HnOk h
  · have hm := q.mod
    rw [decide_eq_true q, hm.1]
    simp only [Option.bind_some, if_true, impl_stateOf_eq hsh hl hg ho]
    by_cases q2 : stateS m (h % 32) = 3
    · have n : (stateS m (h % 32) == 3) = true := by simpa using q2
      have eg : w64 (Int.tdiv h 32) = h / 32 := by
        unfold HnOk at q
        rw [tdiv_pos (by omega), w64_in (by omega) (by omega)]
      rw [n, impl_GenIn_eq hsh (cls_of_used q2), eg]
      simp only [if_true, Option.bind_some]
      congr 1; rw [Bool.eq_iff_iff]; simp only [beq_iff_eq, decide_eq_true_eq]
      exact ⟨fun a => ⟨q, q2, a⟩, fun a => a.2.2⟩
    · have n : (stateS m (h % 32) == 3) = false := by simpa using q2
      rw [n, decide_eq_false (fun a : LiveS m h => q2 a.2.1)]; rfl
  · rw [decide_eq_false q, decide_eq_false (fun a : LiveS m h => q a.1)]; rfl
end

/-! ### Bases -/
def RowLive (b : Base) (r : LRow) : Prop := LiveS b.Mem r.Handle ∧ r.Epoch ≤ b.Clock.Epoch
instance (b : Base) (r : LRow) : Decidable (RowLive b r) := by unfold RowLive; infer_instance
def BOkB (b : Base) : Prop := (MOk b.Mem ∧ COk b.Clock ∧ LimOk b.Limbo ∧ HzOk b.Haz) ∧ ∀ r ∈ flatR b.Limbo, RowLive b r
instance (b : Base) : Decidable (BOkB b) := by unfold BOkB; infer_instance
def SmallB (b : Base) : Prop := SmallM b.Mem ∧ b.Clock.Pins.length ≤ 1048576 ∧ b.Limbo.length ≤ 1048576 ∧ (flatR b.Limbo).length ≤ 1048576 ∧ b.Haz.length ≤ 1048576
section
variable {b : Base} (hf : b.Mem.Heap.Bytes.length ≤ maxLen ∧ (allS b.Mem.Lists).length ≤ 1073741824 ∧ b.Clock.Pins.length ≤ maxLen ∧ b.Limbo.length ≤ maxLen ∧ (flatR b.Limbo).length ≤ 1073741824 ∧ b.Haz.length ≤ maxLen)
include hf
theorem spec_BaseOk_eq : spec_BaseOk b = some (decide (BOkB b)) := by
  obtain ⟨f1, f2, f3, f4, f5, f6⟩ := hf
  unfold spec_BaseOk spec_BaseOk_j1
  rw [spec_MemOk_eq f1 f2, spec_ClockOk_eq, spec_LimboOk_eq f5 f4, spec_HazOk_eq f6]
  by_cases q1 : MOk b.Mem
  · by_cases q2 : COk b.Clock
    · by_cases q3 : LimOk b.Limbo
      · by_cases q4 : HzOk b.Haz
        · have hg : b.Mem.Lists.Global.length ≤ maxLen := by rw [q1.1.2.1]; simp [maxLen]
          have ho : b.Mem.Lists.Own.length ≤ maxLen := by rw [q1.1.2.2.1]; simp [maxLen]
          have hmx : (1073741824 : Nat) ≤ maxLen := by simp [maxLen]
          simp only [decide_eq_true q1, decide_eq_true q2, decide_eq_true q3, decide_eq_true q4, Option.bind_some, Bool.not_true, Bool.false_eq_true, if_false]
          rw [spec_l11All_eq f5 f4]
          simp only [Option.bind_some]
          have hst : ∀ k (hk : k < (flatR b.Limbo).length), spec_BaseOk_l2 b (flatR b.Limbo) (k : Int) = if RowLive b (flatR b.Limbo)[k] then some (.next ((k + 1 : Nat) : Int)) else some (.stop (Out.ret false)) := by
            intro k hk
            simp only [spec_BaseOk_l2, spec_BaseOk_j3]
            rw [if_pos (by simp; omega), idx_nat hk, w64_nat (show k < maxLen by omega)]
            generalize (flatR b.Limbo)[k] = r
            simp only [Option.bind_some, spec_l9Valid_eq q1.1.1.1 f2 hg ho]
            by_cases a1 : LiveS b.Mem r.Handle
            · rw [decide_eq_true a1]
              simp only [Bool.not_true, Bool.false_eq_true, if_false]
              by_cases a2 : r.Epoch ≤ b.Clock.Epoch
              · rw [if_neg (by simp; omega), if_pos ⟨a1, a2⟩]
              · rw [if_pos (by simp; omega), if_neg (fun x => a2 x.2)]
            · rw [decide_eq_false a1]
              simp only [Bool.not_false, if_true]
              rw [if_neg (fun x => a1 x.1)]
          have key := scan_list (f := spec_BaseOk_l2 b (flatR b.Limbo)) (flatR b.Limbo) (fun k => (k : Int)) (RowLive b) (Out.brk ()) (Out.ret false) (fun k hk hx => by rw [hst k hk, if_pos hx]) (fun k hk hx => by rw [hst k hk, if_neg hx]) (by simp [spec_BaseOk_l2])
          rw [show ((0 : Nat) : Int) = 0 from rfl] at key
          rw [key]
          by_cases q : ∀ r ∈ flatR b.Limbo, RowLive b r
          · rw [if_pos q, decide_eq_true (show BOkB b from ⟨⟨q1, q2, q3, q4⟩, q⟩)]; rfl
          · rw [if_neg q, decide_eq_false (fun x : BOkB b => q x.2)]; rfl
        · rw [decide_eq_false (fun x : BOkB b => q4 x.1.2.2.2), decide_eq_true q1, decide_eq_true q2, decide_eq_true q3, decide_eq_false q4]; rfl
      · rw [decide_eq_false (fun x : BOkB b => q3 x.1.2.2.1), decide_eq_true q1, decide_eq_true q2, decide_eq_false q3]; rfl
    · rw [decide_eq_false (fun x : BOkB b => q2 x.1.2.1), decide_eq_true q1, decide_eq_false q2]; rfl
  · rw [decide_eq_false (fun x : BOkB b => q1 x.1.1), decide_eq_false q1]; rfl
theorem impl_BaseOk_eq : impl_BaseOk b = some (decide (BOkB b)) := by
  obtain ⟨f1, f2, f3, f4, f5, f6⟩ := hf
  unfold impl_BaseOk impl_BaseOk_j1
  rw [impl_MemOk_eq f1 f2, impl_ClockOk_eq f3, impl_LimboOk_eq f5, impl_HazOk_eq f6]
  by_cases q1 : MOk b.Mem
  · by_cases q2 : COk b.Clock
    · by_cases q3 : LimOk b.Limbo
      · by_cases q4 : HzOk b.Haz
        · have hg : b.Mem.Lists.Global.length ≤ maxLen := by rw [q1.1.2.1]; simp [maxLen]
          have ho : b.Mem.Lists.Own.length ≤ maxLen := by rw [q1.1.2.2.1]; simp [maxLen]
          have hmx : (1073741824 : Nat) ≤ maxLen := by simp [maxLen]
          simp only [decide_eq_true q1, decide_eq_true q2, decide_eq_true q3, decide_eq_true q4, Option.bind_some, Bool.not_true, Bool.false_eq_true, if_false]
          have e1 : (fun y0 => impl_BaseOk_1_1 y0 b) = fun r : LRow => some (!decide (RowLive b r)) := by
            funext r
            unfold impl_BaseOk_1_1 impl_BaseOk_1_1_j1
            rw [impl_isLive_eq q1.1.1.1 f2 hg ho]
            by_cases a1 : LiveS b.Mem r.Handle
            · by_cases a2 : r.Epoch ≤ b.Clock.Epoch
              · rw [decide_eq_true a1, decide_eq_true (show RowLive b r from ⟨a1, a2⟩), decide_eq_false (show ¬ b.Clock.Epoch < r.Epoch by omega)]; rfl
              · rw [decide_eq_true a1, decide_eq_false (fun x : RowLive b r => a2 x.2), decide_eq_true (show b.Clock.Epoch < r.Epoch by omega)]; rfl
            · rw [decide_eq_false a1, decide_eq_false (fun x : RowLive b r => a1 x.1)]; rfl
          have e2 : ∀ l ∈ b.Limbo, (fun y0 => impl_BaseOk_1 y0 b) l = some (!decide (∀ r ∈ l.Rows, RowLive b r)) := fun l hl => by
            have := flatR_mem hl
            simp only [impl_BaseOk_1]
            rw [e1, contains_LRow (by omega), any_not]; rfl
          rw [contains_LList f4 _ _ e2, any_not]
          have hiff : BOkB b ↔ ∀ l ∈ b.Limbo, ∀ r ∈ l.Rows, RowLive b r := by
            constructor
            · intro x l hl r hr
              exact x.2 r (List.mem_flatMap.2 ⟨l, hl, hr⟩)
            · intro x
              refine ⟨⟨q1, q2, q3, q4⟩, fun r hr => ?_⟩
              obtain ⟨l, hl, hr⟩ := List.mem_flatMap.1 hr
              exact x l hl r hr
          simp only [Option.bind_some, Bool.not_not, hiff]
        · rw [decide_eq_false (fun x : BOkB b => q4 x.1.2.2.2), decide_eq_true q1, decide_eq_true q2, decide_eq_true q3, decide_eq_false q4]; rfl
      · rw [decide_eq_false (fun x : BOkB b => q3 x.1.2.2.1), decide_eq_true q1, decide_eq_true q2, decide_eq_false q3]; rfl
    · rw [decide_eq_false (fun x : BOkB b => q2 x.1.2.1), decide_eq_true q1, decide_eq_false q2]; rfl
  · rw [decide_eq_false (fun x : BOkB b => q1 x.1.1), decide_eq_false q1]; rfl
end
end Go.Gv
