/- Lists of slots, memories. -/
import Derived.Test.YtpndngnohcffnaaGreatPHeap4
set_option linter.unusedVariables false
set_option linter.unusedSimpArgs false
set_option linter.unusedSectionVars false
namespace Go.Gv
def flatS (l : List SList) : List Int := l.flatMap SList.Slots
def allS (l : Lists) : List Int := flatS l.Global ++ flatS l.Own
def LOk (l : Lists) : Prop := l.Global.length = 3 ∧ l.Own.length = 9 ∧ (∀ s ∈ l.Own, s.Slots.length ≤ 2) ∧ (∀ x ∈ allS l, 0 ≤ x ∧ x ≤ 23) ∧ (allS l).Nodup
instance (l : Lists) : Decidable (LOk l) := by unfold LOk; infer_instance
theorem flat_take {l : List SList} {k : Nat} (h : k < l.length) : flatS (l.take (k + 1)) = flatS (l.take k) ++ l[k].Slots := by
  unfold flatS
  rw [List.take_succ_eq_append_getElem h, List.flatMap_append]; simp
theorem flat_le (l : List SList) (k : Nat) : (flatS (l.take k)).length ≤ (flatS l).length := by
  have : flatS l = flatS (l.take k) ++ flatS (l.drop k) := by
    unfold flatS; rw [← List.flatMap_append, List.take_append_drop]
  rw [this]; simp
theorem flat_get (l : List SList) {k : Nat} (h : k < l.length) : l[k].Slots.length ≤ (flatS l).length := by
  have h1 := flat_le l (k + 1)
  rw [flat_take h] at h1
  simp at h1; omega
theorem spec_l8All_eq {l : Lists} (h : (allS l).length ≤ 1073741824) (hg : l.Global.length ≤ maxLen) (ho : l.Own.length ≤ maxLen) : spec_l8All l = some (allS l) := by
  have hsum : (flatS l.Global).length + (flatS l.Own).length ≤ 1073741824 := by simpa [allS] using h
  unfold spec_l8All
  have k1 : loop (spec_l8All_l1 l) ([], 0) = some (flatS l.Global) := by
    refine enum_eq (f := spec_l8All_l1 l) l.Global.length (fun k => (flatS (l.Global.take k), (k : Int))) _ (fun k hk => ?_) ?_
    · have h1 := flat_le l.Global (k + 1)
      rw [flat_take hk] at h1
      simp only [spec_l8All_l1]
      rw [if_pos (by simp; omega), idx_nat hk]
      simp only [Option.bind_some]
      rw [need_yes (by simp at h1; omega), flat_take hk, w64_nat (lt_max hk hg)]
    · simp [spec_l8All_l1]
  rw [k1]
  simp only [Option.bind_some, spec_l8All_m1, spec_l8All_j1]
  have k2 : loop (spec_l8All_l2 l) (flatS l.Global, 0) = some (allS l) := by
    have := enum_eq (f := spec_l8All_l2 l) l.Own.length (fun k => (flatS l.Global ++ flatS (l.Own.take k), (k : Int))) (allS l) (fun k hk => ?_) ?_
    · simpa [flatS] using this
    · have h1 := flat_le l.Own (k + 1)
      rw [flat_take hk] at h1
      simp only [spec_l8All_l2]
      rw [if_pos (by simp; omega), idx_nat hk]
      simp only [Option.bind_some]
      rw [need_yes (by simp at h1 ⊢; omega), flat_take hk, w64_nat (lt_max hk ho), List.append_assoc]
    · simp [spec_l8All_l2, allS]
  rw [k2]; rfl
theorem spec_l8Has_eq {l : List Int} (hl : l.length ≤ maxLen) (x : Int) : spec_l8Has l x = some (decide (x ∈ l)) := by
  unfold spec_l8Has
  have key : loop (spec_l8Has_l1 l x) 0 = some (if ∀ y ∈ l, y ≠ x then Out.brk () else Out.ret true) := by
    refine scan_list (f := spec_l8Has_l1 l x) l (fun k => (k : Int)) (fun y => y ≠ x) _ _ (fun k h hp => ?_) (fun k h hp => ?_) ?_
    · simp only [spec_l8Has_l1]
      rw [if_pos (by simp; omega), idx_nat h, w64_nat (lt_max h hl)]
      have : (l[k] == x) = false := by simpa using hp
      simp only [Option.bind_some, this, Bool.false_eq_true, if_false]
    · simp only [spec_l8Has_l1]
      rw [if_pos (by simp; omega), idx_nat h]
      have : (l[k] == x) = true := by simpa using hp
      simp only [Option.bind_some, this, if_true]
    · simp [spec_l8Has_l1]
  rw [key]
  by_cases h : x ∈ l
  · rw [if_neg (fun q => q x h rfl), decide_eq_true h]; rfl
  · rw [if_pos (fun y hy (e : y = x) => h (e ▸ hy)), decide_eq_false h]; rfl
theorem nodup_take (l : List Int) : l.Nodup ↔ ∀ k (h : k < l.length), l[k] ∉ l.take k := by
  unfold List.Nodup
  rw [List.pairwise_iff_getElem]
  constructor
  · intro h k hk hm
    obtain ⟨i, hi, he⟩ := List.mem_take_iff_getElem.1 hm
    exact h i k (by omega) hk (by omega) he
  · intro h i j hi hj hij he
    exact h j hj (List.mem_take_iff_getElem.2 ⟨i, by omega, he⟩)
theorem spec_ListsOk_eq {l : Lists} (h : (allS l).length ≤ 1073741824) : spec_ListsOk l = some (decide (LOk l)) := by
  unfold spec_ListsOk spec_ListsOk_j1
  by_cases hg : l.Global.length = 3
  · by_cases ho : l.Own.length = 9
    · have n1 : ((l.Global.length : Int) != 3) = false := by simp; omega
      have n2 : ((l.Own.length : Int) != 9) = false := by simp; omega
      simp only [n1, n2, Bool.false_eq_true, if_false]
      have k1 : loop (spec_ListsOk_l2 l) 0 = some (if ∀ s ∈ l.Own, s.Slots.length ≤ 2 then Out.brk () else Out.ret false) := by
        refine scan_list (f := spec_ListsOk_l2 l) l.Own (fun k => (k : Int)) (fun s => s.Slots.length ≤ 2) _ _ (fun k hk hp => ?_) (fun k hk hp => ?_) ?_
        · simp only [spec_ListsOk_l2]
          rw [if_pos (by simp; omega), idx_nat hk, w64_in (by omega) (by omega)]
          simp only [Option.bind_some]
          rw [if_neg (by simp; omega)]; rfl
        · simp only [spec_ListsOk_l2]
          rw [if_pos (by simp; omega), idx_nat hk]
          simp only [Option.bind_some]
          rw [if_pos (by simp; omega)]
        · simp [spec_ListsOk_l2]
      rw [k1]
      by_cases h2 : ∀ s ∈ l.Own, s.Slots.length ≤ 2
      · rw [if_pos h2]
        simp only [Option.bind_some, spec_ListsOk_m2, spec_ListsOk_j2]
        rw [spec_l8All_eq h (by rw [hg]; simp [maxLen]) (by rw [ho]; simp [maxLen])]
        simp only [Option.bind_some]
        have k2 : loop (spec_ListsOk_l3 (allS l)) 0 = some (if ∀ k, k < (allS l).length → (0 ≤ (allS l).getD k 0 ∧ (allS l).getD k 0 ≤ 23) ∧ (allS l).getD k 0 ∉ (allS l).take k then Out.brk () else Out.ret false) := by
          have hst : ∀ k, k < (allS l).length → spec_ListsOk_l3 (allS l) (k : Int) = if (0 ≤ (allS l).getD k 0 ∧ (allS l).getD k 0 ≤ 23) ∧ (allS l).getD k 0 ∉ (allS l).take k then some (.next ((k + 1 : Nat) : Int)) else some (.stop (Out.ret false)) := by
            intro k hk
            have e : (allS l).getD k 0 = (allS l)[k] := by rw [List.getD_eq_getElem?_getD, List.getElem?_eq_getElem hk]; rfl
            rw [e]
            simp only [spec_ListsOk_l3]
            rw [if_pos (by simp; omega), idx_nat hk]
            simp only [Option.bind_some, l1In_eq, spec_ListsOk_j4]
            by_cases q : 0 ≤ (allS l)[k] ∧ (allS l)[k] ≤ 23
            · rw [decide_eq_true q]
              simp only [Bool.not_true, Bool.false_eq_true, if_false, Int.toNat_natCast, List.drop_zero]
              rw [need_yes (by omega), spec_l8Has_eq (by simp [maxLen]; omega), w64_in (by omega) (by omega)]
              by_cases q2 : (allS l)[k] ∈ (allS l).take k
              · rw [if_neg (fun x => x.2 q2), decide_eq_true q2]; rfl
              · rw [if_pos ⟨q, q2⟩, decide_eq_false q2]; rfl
            · rw [decide_eq_false q]; simp only [Bool.not_false, if_true]; rw [if_neg (fun x => q x.1)]
          refine scan_all (f := spec_ListsOk_l3 (allS l)) (allS l).length (fun k => (k : Int)) (fun k => (0 ≤ (allS l).getD k 0 ∧ (allS l).getD k 0 ≤ 23) ∧ (allS l).getD k 0 ∉ (allS l).take k) _ _ (fun k hk hx => ?_) (fun k hk hx => ?_) ?_
          · rw [hst k hk, if_pos hx]
          · rw [hst k hk, if_neg hx]
          · simp [spec_ListsOk_l3]
        rw [k2]
        have hiff : LOk l ↔ ∀ k, k < (allS l).length → (0 ≤ (allS l).getD k 0 ∧ (allS l).getD k 0 ≤ 23) ∧ (allS l).getD k 0 ∉ (allS l).take k := by
          have e : ∀ k (hk : k < (allS l).length), (allS l).getD k 0 = (allS l)[k] := fun k hk => by rw [List.getD_eq_getElem?_getD, List.getElem?_eq_getElem hk]; rfl
          constructor
          · rintro ⟨_, _, _, q1, q2⟩ k hk
            rw [e k hk]
            exact ⟨q1 _ (List.getElem_mem hk), (nodup_take _).1 q2 k hk⟩
          · intro q
            refine ⟨hg, ho, h2, fun x hx => ?_, (nodup_take _).2 fun k hk => ?_⟩
            · obtain ⟨k, hk, rfl⟩ := List.mem_iff_getElem.1 hx
              have := (q k hk).1; rw [e k hk] at this; exact this
            · have := (q k hk).2; rw [e k hk] at this; exact this
        by_cases q : LOk l
        · rw [if_pos (hiff.1 q), decide_eq_true q]; rfl
        · rw [if_neg (fun x => q (hiff.2 x)), decide_eq_false q]; rfl
      · rw [if_neg h2, decide_eq_false (fun q : LOk l => h2 q.2.2.1)]; rfl
    · have n1 : ((l.Global.length : Int) != 3) = false := by simp; omega
      have n2 : ((l.Own.length : Int) != 9) = true := by simp; omega
      simp only [n1, n2, Bool.false_eq_true, if_false, if_true]
      rw [decide_eq_false (fun q : LOk l => ho q.2.1)]
  · have n1 : ((l.Global.length : Int) != 3) = true := by simp; omega
    simp only [n1, if_true]
    rw [decide_eq_false (fun q : LOk l => hg q.1)]

/-! ### The program's way: slots are ticked off -/
def goMet : List Bool → List Int → Option (List Bool)
  | met, [] => some met
  | met, x :: r => if (0 ≤ x ∧ x ≤ 23) ∧ met.getD x.toNat true = false then goMet (met.set x.toNat true) r else none
theorem goMet_len : ∀ {xs : List Int} {met m : List Bool}, goMet met xs = some m → m.length = met.length
  | [], met, m, h => by simp [goMet] at h; rw [h]
  | x :: r, met, m, h => by
    simp only [goMet] at h
    split at h
    · have := goMet_len h; simpa using this
    · cases h
theorem goMet_append : ∀ (a b : List Int) (met : List Bool), goMet met (a ++ b) = (goMet met a).bind fun m => goMet m b
  | [], b, met => rfl
  | x :: r, b, met => by
    simp only [List.cons_append, goMet]
    split
    · exact goMet_append r b _
    · rfl
theorem goMet_some : ∀ (xs : List Int) (met : List Bool), met.length = 24 → ((goMet met xs).isSome = true ↔ (∀ x ∈ xs, 0 ≤ x ∧ x ≤ 23) ∧ xs.Nodup ∧ ∀ x ∈ xs, met.getD x.toNat true = false)
  | [], met, hm => by simp [goMet]
  | x :: r, met, hm => by
    simp only [goMet]
    by_cases h : (0 ≤ x ∧ x ≤ 23) ∧ met.getD x.toNat true = false
    · rw [if_pos h, goMet_some r _ (by simpa using hm)]
      have hset : ∀ y, 0 ≤ y ∧ y ≤ 23 → (((met.set x.toNat true).getD y.toNat true = false) ↔ (y ≠ x ∧ met.getD y.toNat true = false)) := by
        intro y hy
        rw [List.getD_eq_getElem?_getD, List.getD_eq_getElem?_getD]
        by_cases e : y = x
        · subst e; rw [List.getElem?_set_self (by omega)]; simp
        · rw [List.getElem?_set_ne (by omega)]; simp [e]
      constructor
      · rintro ⟨q1, q2, q3⟩
        refine ⟨fun y hy => ?_, List.nodup_cons.2 ⟨fun hx => ?_, q2⟩, fun y hy => ?_⟩
        · rcases List.mem_cons.1 hy with rfl | hy
          · exact h.1
          · exact q1 y hy
        · exact ((hset x h.1).1 (q3 x hx)).1 rfl
        · rcases List.mem_cons.1 hy with rfl | hy
          · exact h.2
          · exact ((hset y (q1 y hy)).1 (q3 y hy)).2
      · rintro ⟨q1, q2, q3⟩
        have q2 := List.nodup_cons.1 q2
        refine ⟨fun y hy => q1 y (List.mem_cons_of_mem _ hy), q2.2, fun y hy => (hset y (q1 y (List.mem_cons_of_mem _ hy))).2 ⟨fun e => q2.1 (e ▸ hy), q3 y (List.mem_cons_of_mem _ hy)⟩⟩
    · rw [if_neg h]
      constructor
      · intro q; cases q
      · rintro ⟨q1, q2, q3⟩
        exact (h ⟨q1 x List.mem_cons_self, q3 x List.mem_cons_self⟩).elim
def endMet : Option (List Bool) → Out (List Bool) Bool
  | some m => .brk m
  | none => .ret false
theorem l4_eq {s : SList} (hl : s.Slots.length ≤ maxLen) : ∀ d k (met : List Bool), k + d = s.Slots.length → met.length = 24 → loop (impl_ListsOk_l4 s) ((k : Int), met) = some (endMet (goMet met (s.Slots.drop k))) := by
  intro d
  induction d with
  | zero =>
    intro k met hk hm
    rw [loop_stop (r := Out.brk met) (by simp [impl_ListsOk_l4]; omega), List.drop_eq_nil_of_le (by omega)]; rfl
  | succ d ih =>
    intro k met hk hm
    have hk' : k < s.Slots.length := by omega
    have hd : s.Slots.drop k = s.Slots[k] :: s.Slots.drop (k + 1) := List.drop_eq_getElem_cons hk'
    have hst : impl_ListsOk_l4 s ((k : Int), met) = if (0 ≤ s.Slots[k] ∧ s.Slots[k] ≤ 23) ∧ met.getD s.Slots[k].toNat true = false then some (.next (((k + 1 : Nat) : Int), met.set s.Slots[k].toNat true)) else some (.stop (Out.ret false)) := by
      simp only [impl_ListsOk_l4]
      rw [if_pos (by simp; omega), idx_nat hk']
      simp only [Option.bind_some, impl_isSlot_eq]
      generalize s.Slots[k] = x
      by_cases q : 0 ≤ x ∧ x ≤ 23
      · obtain ⟨j, rfl⟩ := Int.eq_ofNat_of_zero_le q.1
        have hj : j < met.length := by omega
        have e : met.getD j true = met[j] := by rw [List.getD_eq_getElem?_getD, List.getElem?_eq_getElem hj]; rfl
        simp only [q, and_self, decide_true, Bool.not_true, Bool.false_eq_true, if_false, impl_ListsOk_j5, Int.toNat_natCast, true_and, e]
        rw [need_yes (by omega), idx_nat hj]
        simp only [Option.bind_some]
        cases met[j]
        · simp only [Bool.false_eq_true, if_false, if_true]
          rw [need_yes (by omega), w64_nat (lt_max hk' hl)]
        · simp
      · rw [decide_eq_false q]; simp only [Bool.not_false, if_true, impl_ListsOk_j5]; rw [if_neg (fun x => q x.1)]
    rw [hd, goMet]
    by_cases q : (0 ≤ s.Slots[k] ∧ s.Slots[k] ≤ 23) ∧ met.getD s.Slots[k].toNat true = false
    · rw [if_pos q] at hst ⊢
      rw [loop_next hst, ih (k + 1) _ (by omega) (by simpa using hm)]
    · rw [if_neg q] at hst ⊢
      rw [loop_stop hst]; rfl
def LeTwo (l : List SList) : Prop := ∀ s ∈ l, s.Slots.length ≤ 2
instance (l : List SList) : Decidable (LeTwo l) := by unfold LeTwo; infer_instance
theorem l2_eq {l : Lists} (ho : l.Own.length = 9) (hn : (l.Own ++ l.Global).length ≤ 1000) (hs : ∀ s ∈ l.Own ++ l.Global, s.Slots.length ≤ maxLen) : ∀ d k (met : List Bool), k + d = (l.Own ++ l.Global).length → met.length = 24 →
    loop (impl_ListsOk_l2 l) ((k : Int), met) = some (if LeTwo (((l.Own ++ l.Global).drop k).take (9 - k)) ∧ (goMet met (flatS ((l.Own ++ l.Global).drop k))).isSome = true then Out.brk () else Out.ret false) := by
  intro d
  induction d with
  | zero =>
    intro k met hk hm
    rw [List.drop_eq_nil_of_le (by omega), if_pos ⟨by simp [LeTwo], rfl⟩]
    refine loop_stop ?_
    simp only [impl_ListsOk_l2]
    rw [if_neg (by simp; simp at hk; omega)]
  | succ d ih =>
    intro k met hk hm
    have hk' : k < (l.Own ++ l.Global).length := by omega
    have hd : (l.Own ++ l.Global).drop k = (l.Own ++ l.Global)[k] :: (l.Own ++ l.Global).drop (k + 1) := List.drop_eq_getElem_cons hk'
    have hsk := hs _ (List.getElem_mem hk')
    have hf : flatS ((l.Own ++ l.Global).drop k) = (l.Own ++ l.Global)[k].Slots ++ flatS ((l.Own ++ l.Global).drop (k + 1)) := by unfold flatS; rw [hd, List.flatMap_cons]
    have hin : ∀ b : Bool, impl_ListsOk_j3 (k : Int) met (l.Own ++ l.Global)[k] b = if b then some (.stop (Out.ret false)) else (match goMet met (l.Own ++ l.Global)[k].Slots with | some m => some (.next (((k + 1 : Nat) : Int), m)) | none => some (.stop (Out.ret false))) := by
      intro b
      have h4 := l4_eq hsk _ 0 met (Nat.zero_add _) hm
      rw [show ((0 : Nat) : Int) = 0 from rfl, List.drop_zero] at h4
      unfold impl_ListsOk_j3
      rw [h4]
      cases b
      · simp only [Bool.false_eq_true, if_false, Option.bind_some]
        cases goMet met (l.Own ++ l.Global)[k].Slots with
        | none => rfl
        | some m => simp only [endMet, impl_ListsOk_m4, impl_ListsOk_j4]; rw [w64_in (by omega) (by omega)]; rfl
      · rfl
    have hst : impl_ListsOk_l2 l ((k : Int), met) = impl_ListsOk_j3 (k : Int) met (l.Own ++ l.Global)[k] (decide (k < 9 ∧ 2 < (l.Own ++ l.Global)[k].Slots.length)) := by
      simp only [impl_ListsOk_l2]
      rw [if_pos (by simp; simp at hk'; omega), idx_nat hk']
      simp only [Option.bind_some]
      by_cases h9 : k < 9
      · rw [if_pos (by simp; omega)]
        congr 1
        rw [Bool.eq_iff_iff]; simp only [decide_eq_true_eq]; omega
      · rw [if_neg (by simp; omega), decide_eq_false (by omega)]
    rw [hin] at hst
    by_cases h2 : k < 9 ∧ 2 < (l.Own ++ l.Global)[k].Slots.length
    · rw [decide_eq_true h2] at hst
      simp only [if_true] at hst
      rw [loop_stop hst, if_neg]
      rintro ⟨q, _⟩
      have e : 9 - k = (9 - (k + 1)) + 1 := by omega
      rw [hd, e, List.take_succ_cons] at q
      have := q _ List.mem_cons_self
      omega
    · rw [decide_eq_false h2] at hst
      simp only [Bool.false_eq_true, if_false] at hst
      have hcond : LeTwo (((l.Own ++ l.Global).drop k).take (9 - k)) ↔ LeTwo (((l.Own ++ l.Global).drop (k + 1)).take (9 - (k + 1))) := by
        unfold LeTwo
        by_cases h9 : k < 9
        · have e : 9 - k = (9 - (k + 1)) + 1 := by omega
          rw [hd, e, List.take_succ_cons, List.forall_mem_cons]
          exact ⟨fun q => q.2, fun q => ⟨by omega, q⟩⟩
        · have e : 9 - k = 0 := by omega
          have e' : 9 - (k + 1) = 0 := by omega
          rw [e, e']; simp
      rw [hf, goMet_append]
      cases hg : goMet met (l.Own ++ l.Global)[k].Slots with
      | none =>
        rw [hg] at hst
        rw [loop_stop hst, if_neg (by simp)]
      | some m =>
        rw [hg] at hst
        rw [loop_next hst, ih (k + 1) m (by omega) (by rw [goMet_len hg]; exact hm)]
        simp only [Option.bind_some, hcond]
theorem impl_ListsOk_eq {l : Lists} (h : (allS l).length ≤ 1073741824) : impl_ListsOk l = some (decide (LOk l)) := by
  unfold impl_ListsOk impl_ListsOk_j1
  by_cases hg : l.Global.length = 3
  · by_cases ho : l.Own.length = 9
    · have n1 : ((l.Global.length : Int) != 3) = false := by simp; omega
      have n2 : ((l.Own.length : Int) != 9) = false := by simp; omega
      simp only [n1, n2, Bool.false_eq_true, if_false]
      rw [need_yes (by omega)]
      have hsl : ∀ s ∈ l.Own ++ l.Global, s.Slots.length ≤ maxLen := by
        intro s hm
        have hsum : (flatS l.Global).length + (flatS l.Own).length ≤ 1073741824 := by simpa [allS] using h
        have hb : (1073741824 : Nat) ≤ maxLen := by simp [maxLen]
        rcases List.mem_append.1 hm with hm | hm
        · obtain ⟨k, hk, rfl⟩ := List.mem_iff_getElem.1 hm
          have := flat_get l.Own hk; omega
        · obtain ⟨k, hk, rfl⟩ := List.mem_iff_getElem.1 hm
          have := flat_get l.Global hk; omega
      have key := l2_eq ho (by simp; omega) hsl (l.Own ++ l.Global).length 0 [false, false, false, false, false, false, false, false, false, false, false, false, false, false, false, false, false, false, false, false, false, false, false, false] (by omega) rfl
      rw [show ((0 : Nat) : Int) = 0 from rfl, List.drop_zero, Nat.sub_zero] at key
      rw [key]
      have et : (l.Own ++ l.Global).take 9 = l.Own := by rw [← ho]; simp
      have ef : flatS (l.Own ++ l.Global) = flatS l.Own ++ flatS l.Global := by simp [flatS]
      have hm0 : ∀ j : Nat, j < 24 → [false, false, false, false, false, false, false, false, false, false, false, false, false, false, false, false, false, false, false, false, false, false, false, false].getD j true = false := by decide
      have hiff : LOk l ↔ LeTwo ((l.Own ++ l.Global).take 9) ∧ (goMet [false, false, false, false, false, false, false, false, false, false, false, false, false, false, false, false, false, false, false, false, false, false, false, false] (flatS (l.Own ++ l.Global))).isSome = true := by
        rw [goMet_some _ _ rfl, et, ef]
        have hp : (flatS l.Own ++ flatS l.Global).Perm (allS l) := List.perm_append_comm
        constructor
        · rintro ⟨_, _, q1, q2, q3⟩
          exact ⟨q1, fun x hx => q2 x (hp.mem_iff.1 hx), hp.nodup_iff.2 q3, fun x hx => hm0 _ (by have := q2 x (hp.mem_iff.1 hx); omega)⟩
        · rintro ⟨q1, q2, q3, _⟩
          exact ⟨hg, ho, q1, fun x hx => q2 x (hp.mem_iff.2 hx), hp.nodup_iff.1 q3⟩
      by_cases q : LOk l
      · rw [if_pos (hiff.1 q), decide_eq_true q]; rfl
      · rw [if_neg (fun x => q (hiff.2 x)), decide_eq_false q]; rfl
    · have n1 : ((l.Global.length : Int) != 3) = false := by simp; omega
      have n2 : ((l.Own.length : Int) != 9) = true := by simp; omega
      simp only [n1, n2, Bool.false_eq_true, if_false, if_true]
      rw [decide_eq_false (fun q : LOk l => ho q.2.1)]
  · have n1 : ((l.Global.length : Int) != 3) = true := by simp; omega
    simp only [n1, if_true]
    rw [decide_eq_false (fun q : LOk l => hg q.1)]
end Go.Gv
