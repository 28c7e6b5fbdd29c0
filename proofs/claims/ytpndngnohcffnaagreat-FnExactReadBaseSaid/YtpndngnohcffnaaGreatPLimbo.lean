/- Limbo lists and hazard pointers: both sides agree. -/
import Derived.Test.YtpndngnohcffnaaGreatPClock
set_option linter.unusedVariables false
set_option linter.unusedSimpArgs false
set_option linter.unusedSectionVars false
namespace Go.Gv
def flatR (l : List LList) : List LRow := l.flatMap LList.Rows
theorem flatR_take {l : List LList} {k : Nat} (h : k < l.length) : flatR (l.take (k + 1)) = flatR (l.take k) ++ l[k].Rows := by
  unfold flatR
  rw [List.take_succ_eq_append_getElem h, List.flatMap_append]; simp
theorem flatR_le (l : List LList) (k : Nat) : (flatR (l.take k)).length ≤ (flatR l).length := by
  have : flatR l = flatR (l.take k) ++ flatR (l.drop k) := by
    unfold flatR; rw [← List.flatMap_append, List.take_append_drop]
  rw [this]; simp
theorem flatR_get (l : List LList) {k : Nat} (h : k < l.length) : l[k].Rows.length ≤ (flatR l).length := by
  have h1 := flatR_le l (k + 1)
  rw [flatR_take h] at h1
  simp at h1; omega
theorem flatR_mem {l : List LList} {s : LList} (h : s ∈ l) : s.Rows.length ≤ (flatR l).length := by
  obtain ⟨k, hk, rfl⟩ := List.mem_iff_getElem.1 h
  exact flatR_get l hk
theorem spec_l11All_eq {l : List LList} (h : (flatR l).length ≤ 1073741824) (hl : l.length ≤ maxLen) : spec_l11All l = some (flatR l) := by
  unfold spec_l11All
  have k1 : loop (spec_l11All_l1 l) ([], 0) = some (flatR l) := by
    refine enum_eq (f := spec_l11All_l1 l) l.length (fun k => (flatR (l.take k), (k : Int))) _ (fun k hk => ?_) ?_
    · have h1 := flatR_le l (k + 1)
      rw [flatR_take hk] at h1
      simp only [spec_l11All_l1]
      rw [if_pos (by simp; omega), idx_nat hk]
      simp only [Option.bind_some]
      rw [need_yes (by simp at h1; omega), flatR_take hk, w64_nat (lt_max hk hl)]
    · simp [spec_l11All_l1]
  rw [k1]; rfl
def HnOk (h : Int) : Prop := (32 ≤ h ∧ h ≤ 223) ∧ h % 32 < 24
instance (h : Int) : Decidable (HnOk h) := by unfold HnOk; infer_instance
theorem spec_HandleOk_eq (h : Int) : spec_HandleOk h = some (decide (HnOk h)) := by
  unfold spec_HandleOk spec_HandleOk_j1 HnOk
  rw [l1In_eq]
  by_cases q : 32 ≤ h ∧ h ≤ 223
  · simp [q, tmod_pos (show 0 ≤ h by omega)]
  · simp [q]
theorem impl_HandleOk_eq (h : Int) : impl_HandleOk h = some (decide (HnOk h)) := by
  unfold impl_HandleOk impl_HandleOk_j1 HnOk
  rw [within_eq]
  by_cases q : 32 ≤ h ∧ h ≤ 223
  · simp [q, tmod_pos (show 0 ≤ h by omega)]
  · simp [q]
theorem HnOk.mod {h : Int} (q : HnOk h) : Int.tmod h 32 = h % 32 ∧ 0 ≤ h % 32 ∧ h % 32 ≤ 23 := by
  unfold HnOk at q
  exact ⟨tmod_pos (by omega), by omega, by omega⟩
theorem spec_HandleSlot_eq (h : Int) : spec_HandleSlot h = some (if HnOk h then h % 32 else -1) := by
  unfold spec_HandleSlot
  rw [spec_HandleOk_eq]
  by_cases q : HnOk h
  · simp [q, q.mod.1]
  · simp [q]
def RowOk (r : LRow) : Prop := HnOk r.Handle ∧ 0 ≤ r.Epoch ∧ r.Epoch ≤ 100000
instance (r : LRow) : Decidable (RowOk r) := by unfold RowOk; infer_instance
def slotR (r : LRow) : Int := r.Handle % 32
def LimOk (l : List LList) : Prop := l.length = 3 ∧ (flatR l).length ≤ 24 ∧ (∀ r ∈ flatR l, RowOk r) ∧ ((flatR l).map slotR).Nodup
instance (l : List LList) : Decidable (LimOk l) := by unfold LimOk; infer_instance
def rowAt (l : List LRow) (k : Nat) : LRow := l.getD k ⟨0, 0⟩
theorem rowAt_get {l : List LRow} {k : Nat} (h : k < l.length) : rowAt l k = l[k] := by
  unfold rowAt; rw [List.getD_eq_getElem?_getD, List.getElem?_eq_getElem h]; rfl
theorem spec_LimboOk_eq {l : List LList} (h : (flatR l).length ≤ 1073741824) (hl : l.length ≤ maxLen) : spec_LimboOk l = some (decide (LimOk l)) := by
  unfold spec_LimboOk spec_LimboOk_j1
  rw [spec_l11All_eq h hl]
  simp only [Option.bind_some]
  by_cases h3 : l.length = 3
  · have n1 : ((l.length : Int) != 3) = false := by simp; omega
    simp only [n1, Bool.false_eq_true, if_false]
    by_cases h24 : (flatR l).length ≤ 24
    · rw [if_neg (by simp; omega)]
      have hst : ∀ k, k < (flatR l).length → spec_LimboOk_l2 (flatR l) (((flatR l).take k).map slotR, (k : Int)) = if RowOk (rowAt (flatR l) k) ∧ slotR (rowAt (flatR l) k) ∉ ((flatR l).take k).map slotR then some (.next (((flatR l).take (k + 1)).map slotR, ((k + 1 : Nat) : Int))) else some (.stop (Out.ret false)) := by
        intro k hk
        simp only [spec_LimboOk_l2, spec_LimboOk_j3]
        rw [if_pos (by simp; omega), idx_nat hk, rowAt_get hk]
        simp only [Option.bind_some, spec_HandleSlot_eq, l1In_eq]
        by_cases q : HnOk (flatR l)[k].Handle
        · have hm := q.mod
          rw [if_pos q, if_neg (by simp; omega)]
          by_cases q2 : 0 ≤ (flatR l)[k].Epoch ∧ (flatR l)[k].Epoch ≤ 100000
          · rw [decide_eq_true q2]
            simp only [Bool.not_true, Bool.false_eq_true, if_false]
            rw [spec_l8Has_eq (by simp [maxLen]; omega)]
            simp only [Option.bind_some]
            by_cases q3 : (flatR l)[k].Handle % 32 ∈ ((flatR l).take k).map slotR
            · rw [decide_eq_true q3]; simp only [if_true]; rw [if_neg (show ¬ (RowOk (flatR l)[k] ∧ slotR (flatR l)[k] ∉ ((flatR l).take k).map slotR) from fun x => x.2 q3)]
            · rw [decide_eq_false q3]
              simp only [Bool.false_eq_true, if_false]
              rw [if_pos (show RowOk (flatR l)[k] ∧ slotR (flatR l)[k] ∉ ((flatR l).take k).map slotR from ⟨⟨q, q2⟩, q3⟩), need_yes (by simp; omega), w64_in (by omega) (by omega), map_take _ hk]; rfl
          · rw [decide_eq_false q2]
            simp only [Bool.not_false, if_true]
            rw [if_neg (fun x : RowOk _ ∧ _ => q2 x.1.2)]
        · rw [if_neg q, if_pos (by simp), if_neg (fun x : RowOk _ ∧ _ => q x.1.1)]; rfl
      have key := scan_all (f := spec_LimboOk_l2 (flatR l)) (flatR l).length (fun k => (((flatR l).take k).map slotR, (k : Int))) (fun k => RowOk (rowAt (flatR l) k) ∧ slotR (rowAt (flatR l) k) ∉ ((flatR l).take k).map slotR) (Out.brk ()) (Out.ret false) (fun k hk hx => by rw [hst k hk, if_pos hx]) (fun k hk hx => by rw [hst k hk, if_neg hx]) (by simp [spec_LimboOk_l2])
      rw [List.take_zero, List.map_nil, show ((0 : Nat) : Int) = 0 from rfl] at key
      rw [key]
      have hiff : LimOk l ↔ ∀ k, k < (flatR l).length → RowOk (rowAt (flatR l) k) ∧ slotR (rowAt (flatR l) k) ∉ ((flatR l).take k).map slotR := by
        constructor
        · rintro ⟨_, _, q1, q2⟩ k hk
          rw [rowAt_get hk]
          refine ⟨q1 _ (List.getElem_mem hk), ?_⟩
          have := (nodup_take _).1 q2 k (by simpa using hk)
          rw [List.getElem_map, ← List.map_take] at this
          exact this
        · intro q
          refine ⟨h3, h24, fun x hx => ?_, (nodup_take _).2 fun k hk => ?_⟩
          · obtain ⟨k, hk, rfl⟩ := List.mem_iff_getElem.1 hx
            have := (q k hk).1; rw [rowAt_get hk] at this; exact this
          · have hk' : k < (flatR l).length := by simpa using hk
            have := (q k hk').2; rw [rowAt_get hk'] at this
            rw [List.getElem_map, ← List.map_take]; exact this
      by_cases q : LimOk l
      · rw [if_pos (hiff.1 q), decide_eq_true q]; rfl
      · rw [if_neg (fun x => q (hiff.2 x)), decide_eq_false q]; rfl
    · rw [if_pos (by simp; omega), decide_eq_false (fun q : LimOk l => h24 q.2.1)]
  · have n1 : ((l.length : Int) != 3) = true := by simp; omega
    simp only [n1, if_true]
    rw [decide_eq_false (fun q : LimOk l => h3 q.1)]

/-! ### Ticked off -/
def goR : List Bool → List LRow → Option (List Bool)
  | met, [] => some met
  | met, r :: t => if RowOk r ∧ met.getD (slotR r).toNat true = false then goR (met.set (slotR r).toNat true) t else none
theorem goR_len : ∀ {xs : List LRow} {met m : List Bool}, goR met xs = some m → m.length = met.length
  | [], met, m, h => by simp [goR] at h; rw [h]
  | x :: r, met, m, h => by
    simp only [goR] at h
    split at h
    · have := goR_len h; simpa using this
    · cases h
theorem goR_append : ∀ (a b : List LRow) (met : List Bool), goR met (a ++ b) = (goR met a).bind fun m => goR m b
  | [], b, met => rfl
  | x :: r, b, met => by
    simp only [List.cons_append, goR]
    split
    · exact goR_append r b _
    · rfl
theorem goR_some : ∀ (xs : List LRow) (met : List Bool), (goR met xs).isSome = true ↔ (∀ r ∈ xs, RowOk r) ∧ (goMet met (xs.map slotR)).isSome = true
  | [], met => by simp [goR, goMet]
  | x :: r, met => by
    simp only [goR, List.map_cons, goMet]
    by_cases h : RowOk x
    · have hm := h.1.mod
      have hs : 0 ≤ slotR x ∧ slotR x ≤ 23 := hm.2
      by_cases h2 : met.getD (slotR x).toNat true = false
      · rw [if_pos ⟨h, h2⟩, if_pos ⟨hs, h2⟩, goR_some r _]
        simp [h]
      · rw [if_neg (fun q => h2 q.2), if_neg (fun q => h2 q.2)]; simp
    · rw [if_neg (fun q => h q.1)]
      constructor
      · intro q; cases q
      · rintro ⟨q, _⟩; exact (h (q x List.mem_cons_self)).elim
theorem lim_l2_eq {s : LList} (hl : s.Rows.length ≤ maxLen) : ∀ d k (met : List Bool), k + d = s.Rows.length → met.length = 24 → loop (impl_LimboOk_l2 s) ((k : Int), met) = some (endMet (goR met (s.Rows.drop k))) := by
  intro d
  induction d with
  | zero =>
    intro k met hk hm
    rw [loop_stop (r := Out.brk met) (by simp [impl_LimboOk_l2]; omega), List.drop_eq_nil_of_le (by omega)]; rfl
  | succ d ih =>
    intro k met hk hm
    have hk' : k < s.Rows.length := by omega
    have hd : s.Rows.drop k = s.Rows[k] :: s.Rows.drop (k + 1) := List.drop_eq_getElem_cons hk'
    have hst : impl_LimboOk_l2 s ((k : Int), met) = if RowOk s.Rows[k] ∧ met.getD (slotR s.Rows[k]).toNat true = false then some (.next (((k + 1 : Nat) : Int), met.set (slotR s.Rows[k]).toNat true)) else some (.stop (Out.ret false)) := by
      simp only [impl_LimboOk_l2]
      rw [if_pos (by simp; omega), idx_nat hk']
      simp only [Option.bind_some, impl_HandleOk_eq, within_eq]
      generalize s.Rows[k] = x
      by_cases q : HnOk x.Handle
      · by_cases q2 : 0 ≤ x.Epoch ∧ x.Epoch ≤ 100000
        · have hm2 := q.mod
          obtain ⟨j, hj0⟩ := Int.eq_ofNat_of_zero_le hm2.2.1
          have hj : j < met.length := by omega
          have e : met.getD j true = met[j] := by rw [List.getD_eq_getElem?_getD, List.getElem?_eq_getElem hj]; rfl
          have hr : RowOk x := ⟨q, q2⟩
          simp only [q, q2, and_self, decide_true, Bool.not_true, Bool.false_eq_true, if_false, impl_LimboOk_j3, hm2.1, hj0, Int.toNat_natCast, hr, true_and, slotR, e]
          rw [need_yes (by omega), idx_nat hj]
          simp only [Option.bind_some]
          cases met[j]
          · simp only [Bool.false_eq_true, if_false, if_true]
            rw [need_yes (by omega), w64_nat (lt_max hk' hl)]
          · simp
        · rw [decide_eq_true q, decide_eq_false q2]; simp only [Bool.not_true, Bool.not_false, Bool.false_eq_true, if_false, if_true, impl_LimboOk_j3]; rw [if_neg (fun y : RowOk x ∧ _ => q2 y.1.2)]
      · rw [decide_eq_false q]; simp only [Bool.not_false, if_true, impl_LimboOk_j3]; rw [if_neg (fun y : RowOk x ∧ _ => q y.1.1)]
    rw [hd, goR]
    by_cases q : RowOk s.Rows[k] ∧ met.getD (slotR s.Rows[k]).toNat true = false
    · rw [if_pos q] at hst ⊢
      rw [loop_next hst, ih (k + 1) _ (by omega) (by simpa using hm)]
    · rw [if_neg q] at hst ⊢
      rw [loop_stop hst]; rfl
theorem lim_l1_eq {l : List LList} (hn : l.length ≤ 1000) (hs : ∀ s ∈ l, s.Rows.length ≤ maxLen) : ∀ d k (met : List Bool), k + d = l.length → met.length = 24 →
    loop (impl_LimboOk_l1 l) ((k : Int), met) = some (if (goR met (flatR (l.drop k))).isSome = true then Out.brk () else Out.ret false) := by
  intro d
  induction d with
  | zero =>
    intro k met hk hm
    rw [List.drop_eq_nil_of_le (by omega), if_pos (show (goR met (flatR [])).isSome = true from rfl)]
    refine loop_stop ?_
    simp only [impl_LimboOk_l1]
    rw [if_neg (by simp; omega)]
  | succ d ih =>
    intro k met hk hm
    have hk' : k < l.length := by omega
    have hd : l.drop k = l[k] :: l.drop (k + 1) := List.drop_eq_getElem_cons hk'
    have hsk := hs _ (List.getElem_mem hk')
    have hf : flatR (l.drop k) = l[k].Rows ++ flatR (l.drop (k + 1)) := by unfold flatR; rw [hd, List.flatMap_cons]
    have h4 := lim_l2_eq hsk _ 0 met (Nat.zero_add _) hm
    rw [show ((0 : Nat) : Int) = 0 from rfl, List.drop_zero] at h4
    have hst : impl_LimboOk_l1 l ((k : Int), met) = (match goR met l[k].Rows with | some m => some (.next (((k + 1 : Nat) : Int), m)) | none => some (.stop (Out.ret false))) := by
      simp only [impl_LimboOk_l1]
      rw [if_pos (by simp; omega), idx_nat hk']
      simp only [Option.bind_some]
      rw [h4]
      cases goR met l[k].Rows with
      | none => rfl
      | some m => simp only [Option.bind_some, endMet, impl_LimboOk_m2, impl_LimboOk_j2]; rw [w64_in (by omega) (by omega)]; rfl
    rw [hf, goR_append]
    cases hg : goR met l[k].Rows with
    | none =>
      rw [hg] at hst
      rw [loop_stop hst, if_neg (by simp)]
    | some m =>
      rw [hg] at hst
      rw [loop_next hst, ih (k + 1) m (by omega) (by rw [goR_len hg]; exact hm)]
      simp only [Option.bind_some]
theorem impl_LimboSize_eq {l : List LList} (hn : l.length ≤ 1000) (h : (flatR l).length ≤ 1073741824) : impl_LimboSize l = some ((flatR l).length : Int) := by
  unfold impl_LimboSize
  have key : loop (impl_LimboSize_l1 l) (0, 0) = some ((flatR l).length : Int) := by
    refine enum_eq (f := impl_LimboSize_l1 l) l.length (fun k => (((flatR (l.take k)).length : Int), (k : Int))) _ (fun k hk => ?_) ?_
    · have h1 := flatR_le l (k + 1)
      rw [flatR_take hk, List.length_append] at h1
      simp only [impl_LimboSize_l1]
      rw [if_pos (by simp; omega), idx_nat hk]
      simp only [Option.bind_some]
      rw [w64_in (by omega) (by omega), w64_in (by omega) (by omega), flatR_take hk, List.length_append]
      simp
    · simp [impl_LimboSize_l1]
  rw [key]; rfl
theorem impl_LimboOk_eq {l : List LList} (h : (flatR l).length ≤ 1073741824) : impl_LimboOk l = some (decide (LimOk l)) := by
  unfold impl_LimboOk
  by_cases h3 : l.length = 3
  · have n1 : ((l.length : Int) != 3) = false := by simp; omega
    have hb : (1073741824 : Nat) ≤ maxLen := by simp [maxLen]
    simp only [n1, Bool.false_eq_true, if_false]
    have key := lim_l1_eq (l := l) (by omega) (fun s hs => by have := flatR_mem hs; omega) l.length 0 [false, false, false, false, false, false, false, false, false, false, false, false, false, false, false, false, false, false, false, false, false, false, false, false] (by omega) rfl
    rw [show ((0 : Nat) : Int) = 0 from rfl, List.drop_zero] at key
    rw [key]
    have hm0 : ∀ j : Nat, j < 24 → [false, false, false, false, false, false, false, false, false, false, false, false, false, false, false, false, false, false, false, false, false, false, false, false].getD j true = false := by decide
    have hiff : LimOk l ↔ (flatR l).length ≤ 24 ∧ (goR [false, false, false, false, false, false, false, false, false, false, false, false, false, false, false, false, false, false, false, false, false, false, false, false] (flatR l)).isSome = true := by
      rw [goR_some, goMet_some _ _ rfl]
      have hr : (∀ r ∈ flatR l, RowOk r) → ∀ x ∈ (flatR l).map slotR, 0 ≤ x ∧ x ≤ 23 := by
        intro q x hx
        obtain ⟨r, hr, rfl⟩ := List.mem_map.1 hx
        exact (q r hr).1.mod.2
      constructor
      · rintro ⟨_, q1, q2, q3⟩
        exact ⟨q1, q2, hr q2, q3, fun x hx => hm0 _ (by have := hr q2 x hx; omega)⟩
      · rintro ⟨q1, q2, _, q3, _⟩
        exact ⟨h3, q1, q2, q3⟩
    by_cases q : (goR [false, false, false, false, false, false, false, false, false, false, false, false, false, false, false, false, false, false, false, false, false, false, false, false] (flatR l)).isSome = true
    · rw [if_pos q]
      simp only [Option.bind_some, impl_LimboOk_m1, impl_LimboOk_j1]
      rw [impl_LimboSize_eq (by omega) h]
      simp only [Option.bind_some]
      congr 1
      rw [Bool.eq_iff_iff]; simp only [decide_eq_true_eq]
      rw [hiff]
      exact ⟨fun a => ⟨by omega, q⟩, fun a => by omega⟩
    · rw [if_neg q, decide_eq_false (fun x => q (hiff.1 x).2)]; rfl
  · have n1 : ((l.length : Int) != 3) = true := by simp; omega
    simp only [n1, if_true]
    rw [decide_eq_false (fun q : LimOk l => h3 q.1)]

/-! ### Hazard pointers -/
def LinkOk (h : Int) : Prop := h = 0 ∨ HnOk h
instance (h : Int) : Decidable (LinkOk h) := by unfold LinkOk; infer_instance
def HzOk (z : List Int) : Prop := z.length = 3 ∧ ∀ h ∈ z, LinkOk h
instance (z : List Int) : Decidable (HzOk z) := by unfold HzOk; infer_instance
theorem spec_HazOk_eq {z : List Int} (hl : z.length ≤ maxLen) : spec_HazOk z = some (decide (HzOk z)) := by
  unfold spec_HazOk
  have hst : ∀ k (hk : k < z.length), spec_HazOk_l1 z (k : Int) = if LinkOk z[k] then some (.next ((k + 1 : Nat) : Int)) else some (.stop (Out.ret false)) := by
    intro k hk
    simp only [spec_HazOk_l1, spec_HazOk_j2]
    rw [if_pos (by simp; omega), idx_nat hk, w64_nat (lt_max hk hl)]
    simp only [Option.bind_some, spec_HandleOk_eq]
    generalize z[k] = x
    by_cases q : x = 0
    · have n : (x != 0) = false := by simp only [bne_eq_false_iff_eq]; exact q
      rw [n, if_pos (show LinkOk x from .inl q)]; rfl
    · have n : (x != 0) = true := by simp only [bne_iff_ne]; exact q
      by_cases q2 : HnOk x
      · rw [n, decide_eq_true q2, if_pos (show LinkOk x from .inr q2)]; rfl
      · rw [n, decide_eq_false q2, if_neg (fun a : LinkOk x => a.elim q q2)]; rfl
  have key := scan_list (f := spec_HazOk_l1 z) z (fun k => (k : Int)) LinkOk (Out.brk ()) (Out.ret false) (fun k hk hx => by rw [hst k hk, if_pos hx]) (fun k hk hx => by rw [hst k hk, if_neg hx]) (by simp [spec_HazOk_l1])
  rw [show ((0 : Nat) : Int) = 0 from rfl] at key
  rw [key]
  by_cases q : ∀ x ∈ z, LinkOk x
  · rw [if_pos q]
    have : HzOk z ↔ z.length = 3 := ⟨fun a => a.1, fun a => ⟨a, q⟩⟩
    simp only [Option.bind_some, spec_HazOk_m1, spec_HazOk_j1, this]
    congr 1; rw [Bool.eq_iff_iff]; simp only [beq_iff_eq, decide_eq_true_eq]; omega
  · rw [if_neg q, decide_eq_false (fun a : HzOk z => q a.2)]; rfl
theorem impl_HazOk_eq {z : List Int} (hl : z.length ≤ maxLen) : impl_HazOk z = some (decide (HzOk z)) := by
  unfold impl_HazOk impl_HazOk_j1
  have e : (fun y0 => impl_HazOk_1 y0) = fun y : Int => some (!decide (LinkOk y)) := by
    funext y
    unfold impl_HazOk_1 impl_isLink impl_isLink_j1
    rw [impl_HandleOk_eq]
    by_cases q : y = 0
    · have n : (y == 0) = true := by simp only [beq_iff_eq]; exact q
      rw [n, decide_eq_true (show LinkOk y from .inl q)]; rfl
    · have n : (y == 0) = false := by simp only [beq_eq_false_iff_ne]; exact q
      by_cases q2 : HnOk y
      · rw [n, decide_eq_true q2, decide_eq_true (show LinkOk y from .inr q2)]; rfl
      · rw [n, decide_eq_false q2, decide_eq_false (fun a : LinkOk y => a.elim q q2)]; rfl
  rw [e, contains_int hl, any_not]
  by_cases h3 : z.length = 3
  · have n : ((z.length : Int) == 3) = true := by simp; omega
    have : HzOk z ↔ ∀ h ∈ z, LinkOk h := ⟨fun a => a.2, fun a => ⟨h3, a⟩⟩
    simp only [n, if_true, Option.bind_some, Bool.not_not, this]
  · have n : ((z.length : Int) == 3) = false := by simp; omega
    simp only [n, Bool.false_eq_true, if_false]
    rw [decide_eq_false (fun a : HzOk z => h3 a.1)]
end Go.Gv
