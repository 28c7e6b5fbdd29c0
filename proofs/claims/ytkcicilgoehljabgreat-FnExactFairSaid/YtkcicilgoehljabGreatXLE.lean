import Derived.Test.YtkcicilgoehljabGreatXLD
set_option linter.unusedVariables false
set_option linter.unusedSimpArgs false
set_option linter.unusedSectionVars false
set_option linter.constructorNameAsVariable false
set_option linter.unnecessarySimpa false
section
set_option linter.unusedVariables false
set_option linter.unusedSimpArgs false
set_option linter.unusedSectionVars false
namespace Go.Gv
def flatR (l : List LList) : List LRow := l.flatMap LList.Rows
theorem flatR_take {l : List LList} {k : Nat} (h : k < l.length) : flatR (l.take (k + 1)) = flatR (l.take k) ++ l[k].Rows := by
  unfold flatR
  rw [List.take_succ_eq_append_getElem h, List.flatMap_append]; simp
theorem flatR_le (l : List LList) (k : Nat) : (flatR (l.take k)).length ≤ (flatR l).length := by
  have : flatR l = flatR (l.take k) ++ flatR (l.drop k) := by
    unfold flatR; rw [← List.flatMap_append, List.take_append_drop]
  rw [this]; simp
theorem flatR_get (l : List LList) {k : Nat} (h : k < l.length) : l[k].Rows.length ≤ (flatR l).length := by
  have h1 := flatR_le l (k + 1)
  rw [flatR_take h] at h1
  simp at h1; omega
theorem flatR_mem {l : List LList} {s : LList} (h : s ∈ l) : s.Rows.length ≤ (flatR l).length := by
  obtain ⟨k, hk, rfl⟩ := List.mem_iff_getElem.1 h
  exact flatR_get l hk
theorem spec_l11All_eq {l : List LList} (h : (flatR l).length ≤ 1073741824) (hl : l.length ≤ maxLen) : spec_l11All l = some (flatR l) := by
  unfold spec_l11All
  have k1 : loop (spec_l11All_l1 l) ([], 0) = some (flatR l) := by
    refine enum_eq (f := spec_l11All_l1 l) l.length (fun k => (flatR (l.take k), (k : Int))) _ (fun k hk => ?_) ?_
    · have h1 := flatR_le l (k + 1)
      rw [flatR_take hk] at h1
      simp only [spec_l11All_l1]
      rw [if_pos (by simp; omega), idx_nat hk]
      simp only [Option.bind_some]
      rw [need_yes (by simp at h1; omega), flatR_take hk, w64_nat (lt_max hk hl)]
    · simp [spec_l11All_l1]
  rw [k1]; rfl
def HnOk (h : Int) : Prop := (32 ≤ h ∧ h ≤ 223) ∧ h % 32 < 24
instance (h : Int) : Decidable (HnOk h) := by unfold HnOk; infer_instance
theorem spec_HandleOk_eq (h : Int) : spec_HandleOk h = some (decide (HnOk h)) := by
  unfold spec_HandleOk spec_HandleOk_j1 HnOk
  rw [l1In_eq]
  by_cases q : 32 ≤ h ∧ h ≤ 223
  · simp [q, tmod_pos (show 0 ≤ h by omega)]
  · simp [q]
theorem impl_HandleOk_eq (h : Int) : impl_HandleOk h = some (decide (HnOk h)) := by
  unfold impl_HandleOk impl_HandleOk_j1 HnOk
  rw [within_eq]
  by_cases q : 32 ≤ h ∧ h ≤ 223
  · simp [q, tmod_pos (show 0 ≤ h by omega)]
  · simp [q]
theorem HnOk.mod {h : Int} (q : HnOk h) : Int.tmod h 32 = h % 32 ∧ 0 ≤ h % 32 ∧ h % 32 ≤ 23 := by
  unfold HnOk at q
  exact ⟨tmod_pos (by omega), by omega, by omega⟩
theorem spec_HandleSlot_eq (h : Int) : spec_HandleSlot h = some (if HnOk h then h % 32 else -1) := by
  unfold spec_HandleSlot
  rw [spec_HandleOk_eq]
  by_cases q : HnOk h
  · simp [q, q.mod.1]
  · simp [q]
def RowOk (r : LRow) : Prop := HnOk r.Handle ∧ 0 ≤ r.Epoch ∧ r.Epoch ≤ 100000
instance (r : LRow) : Decidable (RowOk r) := by unfold RowOk; infer_instance
def slotR (r : LRow) : Int := r.Handle % 32
def LimOk (l : List LList) : Prop := l.length = 3 ∧ (flatR l).length ≤ 24 ∧ (∀ r ∈ flatR l, RowOk r) ∧ ((flatR l).map slotR).Nodup
instance (l : List LList) : Decidable (LimOk l) := by unfold LimOk; infer_instance
def rowAt (l : List LRow) (k : Nat) : LRow := l.getD k ⟨0, 0⟩
theorem rowAt_get {l : List LRow} {k : Nat} (h : k < l.length) : rowAt l k = l[k] := by
  unfold rowAt; rw [List.getD_eq_getElem?_getD, List.getElem?_eq_getElem h]; rfl
theorem spec_LimboOk_eq {l : List LList} (h : (flatR l).length ≤ 1073741824) (hl : l.length ≤ maxLen) : spec_LimboOk l = some (decide (LimOk l)) := by
  unfold spec_LimboOk spec_LimboOk_j1
  rw [spec_l11All_eq h hl]
  simp only [Option.bind_some]
  by_cases h3 : l.length = 3
  · have n1 : ((l.length : Int) != 3) = false := by simp; omega
    simp only [n1, Bool.false_eq_true, if_false]
    by_cases h24 : (flatR l).length ≤ 24
    · rw [if_neg (by simp; omega)]
      have hst : ∀ k, k < (flatR l).length → spec_LimboOk_l2 (flatR l) (((flatR l).take k).map slotR, (k : Int)) = if RowOk (rowAt (flatR l) k) ∧ slotR (rowAt (flatR l) k) ∉ ((flatR l).take k).map slotR then some (.next (((flatR l).take (k + 1)).map slotR, ((k + 1 : Nat) : Int))) else some (.stop (Out.ret false)) := by
        intro k hk
        simp only [spec_LimboOk_l2, spec_LimboOk_j3]
        rw [if_pos (by simp; omega), idx_nat hk, rowAt_get hk]
        simp only [Option.bind_some, spec_HandleSlot_eq, l1In_eq]
        by_cases q : HnOk (flatR l)[k].Handle
        · have hm := q.mod
          rw [if_pos q, if_neg (by simp; omega)]
          by_cases q2 : 0 ≤ (flatR l)[k].Epoch ∧ (flatR l)[k].Epoch ≤ 100000
          · rw [decide_eq_true q2]
            simp only [Bool.not_true, Bool.false_eq_true, if_false]
            rw [spec_l8Has_eq (by simp [maxLen]; omega)]
            simp only [Option.bind_some]
            by_cases q3 : (flatR l)[k].Handle % 32 ∈ ((flatR l).take k).map slotR
            · rw [decide_eq_true q3]; simp only [if_true]; rw [if_neg (show ¬ (RowOk (flatR l)[k] ∧ slotR (flatR l)[k] ∉ ((flatR l).take k).map slotR) from fun x => x.2 q3)]
            · rw [decide_eq_false q3]
              simp only [Bool.false_eq_true, if_false]
              rw [if_pos (show RowOk (flatR l)[k] ∧ slotR (flatR l)[k] ∉ ((flatR l).take k).map slotR from ⟨⟨q, q2⟩, q3⟩), need_yes (by simp; omega), w64_in (by omega) (by omega), map_take _ hk]; rfl
          · rw [decide_eq_false q2]
            simp only [Bool.not_false, if_true]
            rw [if_neg (fun x : RowOk _ ∧ _ => q2 x.1.2)]
        · rw [if_neg q, if_pos (by simp), if_neg (fun x : RowOk _ ∧ _ => q x.1.1)]; rfl
      have key := scan_all (f := spec_LimboOk_l2 (flatR l)) (flatR l).length (fun k => (((flatR l).take k).map slotR, (k : Int))) (fun k => RowOk (rowAt (flatR l) k) ∧ slotR (rowAt (flatR l) k) ∉ ((flatR l).take k).map slotR) (Out.brk ()) (Out.ret false) (fun k hk hx => by rw [hst k hk, if_pos hx]) (fun k hk hx => by rw [hst k hk, if_neg hx]) (by simp [spec_LimboOk_l2])
      rw [List.take_zero, List.map_nil, show ((0 : Nat) : Int) = 0 from rfl] at key
      rw [key]
      have hiff : LimOk l ↔ ∀ k, k < (flatR l).length → RowOk (rowAt (flatR l) k) ∧ slotR (rowAt (flatR l) k) ∉ ((flatR l).take k).map slotR := by
        constructor
        · rintro ⟨_, _, q1, q2⟩ k hk
          rw [rowAt_get hk]
          refine ⟨q1 _ (List.getElem_mem hk), ?_⟩
          have := (nodup_take _).1 q2 k (by simpa using hk)
          rw [List.getElem_map, ← List.map_take] at this
          exact this
        · intro q
          refine ⟨h3, h24, fun x hx => ?_, (nodup_take _).2 fun k hk => ?_⟩
          · obtain ⟨k, hk, rfl⟩ := List.mem_iff_getElem.1 hx
            have := (q k hk).1; rw [rowAt_get hk] at this; exact this
          · have hk' : k < (flatR l).length := by simpa using hk
            have := (q k hk').2; rw [rowAt_get hk'] at this
            rw [List.getElem_map, ← List.map_take]; exact this
      by_cases q : LimOk l
      · rw [if_pos (hiff.1 q), decide_eq_true q]; rfl
      · rw [if_neg (fun x => q (hiff.2 x)), decide_eq_false q]; rfl
    · rw [if_pos (by simp; omega), decide_eq_false (fun q : LimOk l => h24 q.2.1)]
  · have n1 : ((l.length : Int) != 3) = true := by simp; omega
    simp only [n1, if_true]
    rw [decide_eq_false (fun q : LimOk l => h3 q.1)]
def goR : List Bool → List LRow → Option (List Bool)
  | met, [] => some met
  | met, r :: t => if RowOk r ∧ met.getD (slotR r).toNat true = false then goR (met.set (slotR r).toNat true) t else none
theorem goR_len : ∀ {xs : List LRow} {met m : List Bool}, goR met xs = some m → m.length = met.length
  | [], met, m, h => by simp [goR] at h; rw [h]
  | x :: r, met, m, h => by
    simp only [goR] at h
    split at h
    · have := goR_len h; simpa using this
    · cases h
theorem goR_append : ∀ (a b : List LRow) (met : List Bool), goR met (a ++ b) = (goR met a).bind fun m => goR m b
  | [], b, met => rfl
  | x :: r, b, met => by
    simp only [List.cons_append, goR]
    split
    · exact goR_append r b _
    · rfl
theorem goR_some : ∀ (xs : List LRow) (met : List Bool), (goR met xs).isSome = true ↔ (∀ r ∈ xs, RowOk r) ∧ (goMet met (xs.map slotR)).isSome = true
  | [], met => by simp [goR, goMet]
  | x :: r, met => by
    simp only [goR, List.map_cons, goMet]
    by_cases h : RowOk x
    · have hm := h.1.mod
      have hs : 0 ≤ slotR x ∧ slotR x ≤ 23 := hm.2
      by_cases h2 : met.getD (slotR x).toNat true = false
      · rw [if_pos ⟨h, h2⟩, if_pos ⟨hs, h2⟩, goR_some r _]
        simp [h]
      · rw [if_neg (fun q => h2 q.2), if_neg (fun q => h2 q.2)]; simp
    · rw [if_neg (fun q => h q.1)]
      constructor
      · intro q; cases q
      · rintro ⟨q, _⟩; exact (h (q x List.mem_cons_self)).elim
theorem lim_l2_eq {s : LList} (hl : s.Rows.length ≤ maxLen) : ∀ d k (met : List Bool), k + d = s.Rows.length → met.length = 24 → loop (impl_LimboOk_l2 s) ((k : Int), met) = some (endMet (goR met (s.Rows.drop k))) := by
  intro d
  induction d with
  | zero =>
    intro k met hk hm
    rw [loop_stop (r := Out.brk met) (by simp [impl_LimboOk_l2]; omega), List.drop_eq_nil_of_le (by omega)]; rfl
  | succ d ih =>
    intro k met hk hm
    have hk' : k < s.Rows.length := by omega
    have hd : s.Rows.drop k = s.Rows[k] :: s.Rows.drop (k + 1) := List.drop_eq_getElem_cons hk'
    have hst : impl_LimboOk_l2 s ((k : Int), met) = if RowOk s.Rows[k] ∧ met.getD (slotR s.Rows[k]).toNat true = false then some (.next (((k + 1 : Nat) : Int), met.set (slotR s.Rows[k]).toNat true)) else some (.stop (Out.ret false)) := by
      simp only [impl_LimboOk_l2]
      rw [if_pos (by simp; omega), idx_nat hk']
      simp only [Option.bind_some, impl_HandleOk_eq, within_eq]
      generalize s.Rows[k] = x
      by_cases q : HnOk x.Handle
      · by_cases q2 : 0 ≤ x.Epoch ∧ x.Epoch ≤ 100000
        · have hm2 := q.mod
          obtain ⟨j, hj0⟩ := Int.eq_ofNat_of_zero_le hm2.2.1
          have hj : j < met.length := by omega
          have e : met.getD j true = met[j] := by rw [List.getD_eq_getElem?_getD, List.getElem?_eq_getElem hj]; rfl
          have hr : RowOk x := ⟨q, q2⟩
          simp only [q, q2, and_self, decide_true, Bool.not_true, Bool.false_eq_true, if_false, impl_LimboOk_j3, hm2.1, hj0, Int.toNat_natCast, hr, true_and, slotR, e]
          rw [need_yes (by omega), idx_nat hj]
          simp only [Option.bind_some]
          cases met[j]
          · simp only [Bool.false_eq_true, if_false, if_true]
            rw [need_yes (by omega), w64_nat (lt_max hk' hl)]
          · simp
        · rw [decide_eq_true q, decide_eq_false q2]; simp only [Bool.not_true, Bool.not_false, Bool.false_eq_true, if_false, if_true, impl_LimboOk_j3]; rw [if_neg (fun y : RowOk x ∧ _ => q2 y.1.2)]
      · rw [decide_eq_false q]; simp only [Bool.not_false, if_true, impl_LimboOk_j3]; rw [if_neg (fun y : RowOk x ∧ _ => q y.1.1)]
    rw [hd, goR]
    by_cases q : RowOk s.Rows[k] ∧ met.getD (slotR s.Rows[k]).toNat true = false
    · rw [if_pos q] at hst ⊢
      rw [loop_next hst, ih (k + 1) _ (by omega) (by simpa using hm)]
    · rw [if_neg q] at hst ⊢
      rw [loop_stop hst]; rfl
theorem lim_l1_eq {l : List LList} (hn : l.length ≤ 1000) (hs : ∀ s ∈ l, s.Rows.length ≤ maxLen) : ∀ d k (met : List Bool), k + d = l.length → met.length = 24 →
    loop (impl_LimboOk_l1 l) ((k : Int), met) = some (if (goR met (flatR (l.drop k))).isSome = true then Out.brk () else Out.ret false) := by
  intro d
  induction d with
  | zero =>
    intro k met hk hm
    rw [List.drop_eq_nil_of_le (by omega), if_pos (show (goR met (flatR [])).isSome = true from rfl)]
    refine loop_stop ?_
    simp only [impl_LimboOk_l1]
    rw [if_neg (by simp; omega)]
  | succ d ih =>
    intro k met hk hm
    have hk' : k < l.length := by omega
    have hd : l.drop k = l[k] :: l.drop (k + 1) := List.drop_eq_getElem_cons hk'
    have hsk := hs _ (List.getElem_mem hk')
    have hf : flatR (l.drop k) = l[k].Rows ++ flatR (l.drop (k + 1)) := by unfold flatR; rw [hd, List.flatMap_cons]
    have h4 := lim_l2_eq hsk _ 0 met (Nat.zero_add _) hm
    rw [show ((0 : Nat) : Int) = 0 from rfl, List.drop_zero] at h4
    have hst : impl_LimboOk_l1 l ((k : Int), met) = (match goR met l[k].Rows with | some m => some (.next (((k + 1 : Nat) : Int), m)) | none => some (.stop (Out.ret false))) := by
      simp only [impl_LimboOk_l1]
      rw [if_pos (by simp; omega), idx_nat hk']
      simp only [Option.bind_some]
      rw [h4]
      cases goR met l[k].Rows with
      | none => rfl
      | some m => simp only [Option.bind_some, endMet, impl_LimboOk_m2, impl_LimboOk_j2]; rw [w64_in (by omega) (by omega)]; rfl
    rw [hf, goR_append]
    cases hg : goR met l[k].Rows with
    | none =>
      rw [hg] at hst
      rw [loop_stop hst, if_neg (by simp)]
    | some m =>
      rw [hg] at hst
      rw [loop_next hst, ih (k + 1) m (by omega) (by rw [goR_len hg]; exact hm)]
      simp only [Option.bind_some]
theorem impl_LimboSize_eq {l : List LList} (hn : l.length ≤ 1000) (h : (flatR l).length ≤ 1073741824) : impl_LimboSize l = some ((flatR l).length : Int) := by
  unfold impl_LimboSize
  have key : loop (impl_LimboSize_l1 l) (0, 0) = some ((flatR l).length : Int) := by
    refine enum_eq (f := impl_LimboSize_l1 l) l.length (fun k => (((flatR (l.take k)).length : Int), (k : Int))) _ (fun k hk => ?_) ?_
    · have h1 := flatR_le l (k + 1)
      rw [flatR_take hk, List.length_append] at h1
      simp only [impl_LimboSize_l1]
      rw [if_pos (by simp; omega), idx_nat hk]
      simp only [Option.bind_some]
      rw [w64_in (by omega) (by omega), w64_in (by omega) (by omega), flatR_take hk, List.length_append]
      simp
    · simp [impl_LimboSize_l1]
  rw [key]; rfl
theorem impl_LimboOk_eq {l : List LList} (h : (flatR l).length ≤ 1073741824) : impl_LimboOk l = some (decide (LimOk l)) := by
  unfold impl_LimboOk
  by_cases h3 : l.length = 3
  · have n1 : ((l.length : Int) != 3) = false := by simp; omega
    have hb : (1073741824 : Nat) ≤ maxLen := by simp [maxLen]
    simp only [n1, Bool.false_eq_true, if_false]
    have key := lim_l1_eq (l := l) (by omega) (fun s hs => by have := flatR_mem hs; omega) l.length 0 [false, false, false, false, false, false, false, false, false, false, false, false, false, false, false, false, false, false, false, false, false, false, false, false] (by omega) rfl
    rw [show ((0 : Nat) : Int) = 0 from rfl, List.drop_zero] at key
    rw [key]
    have hm0 : ∀ j : Nat, j < 24 → [false, false, false, false, false, false, false, false, false, false, false, false, false, false, false, false, false, false, false, false, false, false, false, false].getD j true = false := by decide
    have hiff : LimOk l ↔ (flatR l).length ≤ 24 ∧ (goR [false, false, false, false, false, false, false, false, false, false, false, false, false, false, false, false, false, false, false, false, false, false, false, false] (flatR l)).isSome = true := by
      rw [goR_some, goMet_some _ _ rfl]
      have hr : (∀ r ∈ flatR l, RowOk r) → ∀ x ∈ (flatR l).map slotR, 0 ≤ x ∧ x ≤ 23 := by
        intro q x hx
        obtain ⟨r, hr, rfl⟩ := List.mem_map.1 hx
        exact (q r hr).1.mod.2
      constructor
      · rintro ⟨_, q1, q2, q3⟩
        exact ⟨q1, q2, hr q2, q3, fun x hx => hm0 _ (by have := hr q2 x hx; omega)⟩
      · rintro ⟨q1, q2, _, q3, _⟩
        exact ⟨h3, q1, q2, q3⟩
    by_cases q : (goR [false, false, false, false, false, false, false, false, false, false, false, false, false, false, false, false, false, false, false, false, false, false, false, false] (flatR l)).isSome = true
    · rw [if_pos q]
      simp only [Option.bind_some, impl_LimboOk_m1, impl_LimboOk_j1]
      rw [impl_LimboSize_eq (by omega) h]
      simp only [Option.bind_some]
      congr 1
      rw [Bool.eq_iff_iff]; simp only [decide_eq_true_eq]
      rw [hiff]
      exact ⟨fun a => ⟨by omega, q⟩, fun a => by omega⟩
    · rw [if_neg q, decide_eq_false (fun x => q (hiff.1 x).2)]; rfl
  · have n1 : ((l.length : Int) != 3) = true := by simp; omega
    simp only [n1, if_true]
    rw [decide_eq_false (fun q : LimOk l => h3 q.1)]
def LinkOk (h : Int) : Prop := h = 0 ∨ HnOk h
instance (h : Int) : Decidable (LinkOk h) := by unfold LinkOk; infer_instance
def HzOk (z : List Int) : Prop := z.length = 3 ∧ ∀ h ∈ z, LinkOk h
instance (z : List Int) : Decidable (HzOk z) := by unfold HzOk; infer_instance
theorem spec_HazOk_eq {z : List Int} (hl : z.length ≤ maxLen) : spec_HazOk z = some (decide (HzOk z)) := by
  unfold spec_HazOk
  have hst : ∀ k (hk : k < z.length), spec_HazOk_l1 z (k : Int) = if LinkOk z[k] then some (.next ((k + 1 : Nat) : Int)) else some (.stop (Out.ret false)) := by
    intro k hk
    simp only [spec_HazOk_l1, spec_HazOk_j2]
    rw [if_pos (by simp; omega), idx_nat hk, w64_nat (lt_max hk hl)]
    simp only [Option.bind_some, spec_HandleOk_eq]
    generalize z[k] = x
    by_cases q : x = 0
    · have n : (x != 0) = false := by simp only [bne_eq_false_iff_eq]; exact q
      rw [n, if_pos (show LinkOk x from .inl q)]; rfl
    · have n : (x != 0) = true := by simp only [bne_iff_ne]; exact q
      by_cases q2 : HnOk x
      · rw [n, decide_eq_true q2, if_pos (show LinkOk x from .inr q2)]; rfl
      · rw [n, decide_eq_false q2, if_neg (fun a : LinkOk x => a.elim q q2)]; rfl
  have key := scan_list (f := spec_HazOk_l1 z) z (fun k => (k : Int)) LinkOk (Out.brk ()) (Out.ret false) (fun k hk hx => by rw [hst k hk, if_pos hx]) (fun k hk hx => by rw [hst k hk, if_neg hx]) (by simp [spec_HazOk_l1])
  rw [show ((0 : Nat) : Int) = 0 from rfl] at key
  rw [key]
  by_cases q : ∀ x ∈ z, LinkOk x
  · rw [if_pos q]
    have : HzOk z ↔ z.length = 3 := ⟨fun a => a.1, fun a => ⟨a, q⟩⟩
    simp only [Option.bind_some, spec_HazOk_m1, spec_HazOk_j1, this]
    congr 1; rw [Bool.eq_iff_iff]; simp only [beq_iff_eq, decide_eq_true_eq]; omega
  · rw [if_neg q, decide_eq_false (fun a : HzOk z => q a.2)]; rfl
theorem impl_HazOk_eq {z : List Int} (hl : z.length ≤ maxLen) : impl_HazOk z = some (decide (HzOk z)) := by
  unfold impl_HazOk impl_HazOk_j1
  have e : (fun y0 => impl_HazOk_1 y0) = fun y : Int => some (!decide (LinkOk y)) := by
    funext y
    unfold impl_HazOk_1 impl_isLink impl_isLink_j1
    rw [impl_HandleOk_eq]
    by_cases q : y = 0
    · have n : (y == 0) = true := by simp only [beq_iff_eq]; exact q
      rw [n, decide_eq_true (show LinkOk y from .inl q)]; rfl
    · have n : (y == 0) = false := by simp only [beq_eq_false_iff_ne]; exact q
      by_cases q2 : HnOk y
      · rw [n, decide_eq_true q2, decide_eq_true (show LinkOk y from .inr q2)]; rfl
      · rw [n, decide_eq_false q2, decide_eq_false (fun a : LinkOk y => a.elim q q2)]; rfl
  rw [e, contains_int hl, any_not]
  by_cases h3 : z.length = 3
  · have n : ((z.length : Int) == 3) = true := by simp; omega
    have : HzOk z ↔ ∀ h ∈ z, LinkOk h := ⟨fun a => a.2, fun a => ⟨h3, a⟩⟩
    simp only [n, if_true, Option.bind_some, Bool.not_not, this]
  · have n : ((z.length : Int) == 3) = false := by simp; omega
    simp only [n, Bool.false_eq_true, if_false]
    rw [decide_eq_false (fun a : HzOk z => h3 a.1)]
end Go.Gv
end
section
set_option linter.unusedVariables false
set_option linter.unusedSimpArgs false
set_option linter.unusedSectionVars false
namespace Go.Gv
theorem any_loop {α : Type} (l : List α) (f : α → Bool) {body : Int → Option (Step Int (Out Unit Int))} (hb : ∀ k (hk : k < l.length), body (k : Int) = if f l[k] then some (.stop (.ret (k : Int))) else some (.next ((k + 1 : Nat) : Int))) (he : body (l.length : Int) = some (.stop (.brk ()))) :
    ∃ o, loop body 0 = some o ∧ match o with | .brk _ => l.any f = false | .ret r => 0 ≤ r ∧ l.any f = true := by
  have key := enum_scan (f := body) l.length (fun k => (k : Int)) (fun k => if (l.drop k).any f then Out.ret ((k + (l.drop k).findIdx f : Nat) : Int) else Out.brk ()) (fun k hk => by
    by_cases h : k < l.length
    · have hd : l.drop k = l[k] :: l.drop (k + 1) := List.drop_eq_getElem_cons h
      rw [hb k h, hd]
      simp only [List.any_cons, List.findIdx_cons]
      by_cases h4 : f l[k] = true
      · left; simp [h4]
      · right
        have h4 : f l[k] = false := by simpa using h4
        refine ⟨h, by simp [h4], ?_⟩
        simp only [h4, Bool.false_or, cond_false]
        congr 2; omega
    · left
      obtain rfl : k = l.length := by omega
      rw [he]; simp) 0 (Nat.zero_le _)
  rw [show ((0 : Nat) : Int) = 0 from rfl, List.drop_zero] at key
  refine ⟨_, key, ?_⟩
  by_cases h : l.any f = true
  · rw [if_pos h]; exact ⟨by omega, h⟩
  · rw [if_neg h]; simpa using h
theorem contains_LRow {l : List LRow} (hl : l.length ≤ maxLen) (f : LRow → Bool) : slices_ContainsFunc_LRow l (fun x => some (f x)) = some (l.any f) := by
  obtain ⟨o, e, h⟩ := any_loop l f (body := slices_IndexFunc_LRow_l1 l (fun x => some (f x))) (fun k hk => by
    simp only [slices_IndexFunc_LRow_l1]
    rw [if_pos (by simp; omega), idx_nat hk, w64_nat (lt_max hk hl)]; rfl) (by simp [slices_IndexFunc_LRow_l1])
  unfold slices_ContainsFunc_LRow slices_IndexFunc_LRow
  rw [e]
  cases o with
  | brk u => simp only at h; simp [slices_IndexFunc_LRow_m1, slices_IndexFunc_LRow_j1, h]
  | ret r => simp only at h; simp [slices_IndexFunc_LRow_m1, h]
theorem contains_LList {l : List LList} (hl : l.length ≤ maxLen) (f : LList → Bool) (g : LList → Option Bool) (hg : ∀ x ∈ l, g x = some (f x)) : slices_ContainsFunc_LList l g = some (l.any f) := by
  obtain ⟨o, e, h⟩ := any_loop l f (body := slices_IndexFunc_LList_l1 l g) (fun k hk => by
    simp only [slices_IndexFunc_LList_l1]
    rw [if_pos (by simp; omega), idx_nat hk, w64_nat (lt_max hk hl)]
    simp only [Option.bind_some, hg _ (List.getElem_mem hk)]) (by simp [slices_IndexFunc_LList_l1])
  unfold slices_ContainsFunc_LList slices_IndexFunc_LList
  rw [e]
  cases o with
  | brk u => simp only at h; simp [slices_IndexFunc_LList_m1, slices_IndexFunc_LList_j1, h]
  | ret r => simp only at h; simp [slices_IndexFunc_LList_m1, h]
theorem contains_SList {l : List SList} (hl : l.length ≤ maxLen) (f : SList → Bool) (g : SList → Option Bool) (hg : ∀ x ∈ l, g x = some (f x)) : slices_ContainsFunc_SList l g = some (l.any f) := by
  obtain ⟨o, e, h⟩ := any_loop l f (body := slices_IndexFunc_SList_l1 l g) (fun k hk => by
    simp only [slices_IndexFunc_SList_l1]
    rw [if_pos (by simp; omega), idx_nat hk, w64_nat (lt_max hk hl)]
    simp only [Option.bind_some, hg _ (List.getElem_mem hk)]) (by simp [slices_IndexFunc_SList_l1])
  unfold slices_ContainsFunc_SList slices_IndexFunc_SList
  rw [e]
  cases o with
  | brk u => simp only at h; simp [slices_IndexFunc_SList_m1, slices_IndexFunc_SList_j1, h]
  | ret r => simp only at h; simp [slices_IndexFunc_SList_m1, h]
theorem contains_eq {l : List Int} (hl : l.length ≤ maxLen) (v : Int) : slices_Contains_int l v = some (decide (v ∈ l)) := by
  obtain ⟨o, e, h⟩ := any_loop l (fun x => v == x) (body := slices_Index_int_l1 l v) (fun k hk => by
    simp only [slices_Index_int_l1]
    rw [if_pos (by simp; omega), idx_nat hk, w64_nat (lt_max hk hl)]; rfl) (by simp [slices_Index_int_l1])
  have ha : l.any (fun x => v == x) = decide (v ∈ l) := by
    rw [Bool.eq_iff_iff]; simp
  rw [ha] at h
  unfold slices_Contains_int slices_Index_int
  rw [e]
  cases o with
  | brk u => simp only at h; simp [slices_Index_int_m1, slices_Index_int_j1, h]
  | ret r => simp only at h; simp [slices_Index_int_m1, h]
theorem mem_flatS {l : List SList} {x : Int} : x ∈ flatS l ↔ ∃ s ∈ l, x ∈ s.Slots := List.mem_flatMap
section
variable {m : Mem} (hsh : HShape m.Heap) (hl : (allS m.Lists).length ≤ 1073741824) (hg : m.Lists.Global.length ≤ maxLen) (ho : m.Lists.Own.length ≤ maxLen)
include hl hg ho
theorem spec_OnList_eq (s : Int) : spec_OnList m.Lists s = some (decide (s ∈ allS m.Lists)) := by
  have hb : (1073741824 : Nat) ≤ maxLen := by simp [maxLen]
  unfold spec_OnList
  rw [spec_l8All_eq hl hg ho]
  simp only [Option.bind_some]
  rw [spec_l8Has_eq (by omega)]; rfl
theorem impl_OnList_eq (s : Int) : impl_OnList m.Lists s = some (decide (s ∈ allS m.Lists)) := by
  have hb : (1073741824 : Nat) ≤ maxLen := by simp [maxLen]
  have hal := allS_len m.Lists
  have e1 : ∀ x ∈ m.Lists.Global, impl_OnList_1 x s = some (decide (s ∈ x.Slots)) := fun x hx => by
    have := flat_mem hx
    unfold impl_OnList_1; rw [contains_eq (by omega)]; rfl
  have e2 : ∀ x ∈ m.Lists.Own, impl_OnList_1 x s = some (decide (s ∈ x.Slots)) := fun x hx => by
    have := flat_mem hx
    unfold impl_OnList_1; rw [contains_eq (by omega)]; rfl
  unfold impl_OnList impl_OnList_j1
  rw [contains_SList hg (fun x => decide (s ∈ x.Slots)) _ e1, contains_SList ho (fun x => decide (s ∈ x.Slots)) _ e2]
  have a1 : (m.Lists.Global.any fun x => decide (s ∈ x.Slots)) = decide (s ∈ flatS m.Lists.Global) := by
    rw [Bool.eq_iff_iff]; simp [mem_flatS]
  have a2 : (m.Lists.Own.any fun x => decide (s ∈ x.Slots)) = decide (s ∈ flatS m.Lists.Own) := by
    rw [Bool.eq_iff_iff]; simp [mem_flatS]
  rw [a1, a2]
  simp only [Option.bind_some, allS, List.mem_append]
  by_cases q : s ∈ flatS m.Lists.Global <;> simp [q]
def stateS (m : Mem) (s : Int) : Int := if clsS m.Heap s < 0 then 0 else if s ∈ allS m.Lists then 1 else if 6 < genS m.Heap s then 2 else 3
include hsh
theorem spec_l9State_eq (s : Int) : spec_l9State m s = some (stateS m s) := by
  unfold spec_l9State stateS
  rw [spec_l7Class_eq hsh, spec_OnList_eq hl hg ho]
  simp only [Option.bind_some]
  by_cases q : clsS m.Heap s < 0
  · simp [q]
  · rw [spec_l7Gen_eq hsh (by omega)]
    by_cases q2 : s ∈ allS m.Lists
    · simp [q, q2]
    · by_cases q3 : 6 < genS m.Heap s <;> simp [q, q2, q3]
theorem impl_stateOf_eq (s : Int) : impl_stateOf m s = some (stateS m s) := by
  unfold impl_stateOf stateS
  rw [impl_classIn_eq hsh, impl_OnList_eq hl hg ho]
  simp only [Option.bind_some]
  by_cases q : clsS m.Heap s < 0
  · simp [q]
  · rw [impl_GenIn_eq hsh (by omega)]
    by_cases q2 : s ∈ allS m.Lists
    · simp [q, q2]
    · by_cases q3 : 6 < genS m.Heap s <;> simp [q, q2, q3]
def LiveS (m : Mem) (h : Int) : Prop := HnOk h ∧ stateS m (h % 32) = 3 ∧ genS m.Heap (h % 32) = h / 32
instance (m : Mem) (h : Int) : Decidable (LiveS m h) := by unfold LiveS; infer_instance
omit hl hg ho hsh in
theorem cls_of_used {m : Mem} {s : Int} (h : stateS m s = 3) : 0 ≤ clsS m.Heap s := by
  unfold stateS at h
  split at h
  · omega
  · omega
theorem spec_l9Valid_eq (h : Int) : spec_l9Valid m h = some (decide (LiveS m h)) := by
  unfold spec_l9Valid spec_l9Valid_j1
  rw [spec_HandleOk_eq, spec_HandleSlot_eq]
  by_cases q : HnOk h
  · have hm := q.mod
    rw [decide_eq_true q, if_pos q]
    simp only [Option.bind_some, if_true, spec_l9State_eq hsh hl hg ho]
    by_cases q2 : stateS m (h % 32) = 3
    · have n : (stateS m (h % 32) == 3) = true := by simpa using q2
      have eg : spec_HandleGen h = some (h / 32) := by
        unfold spec_HandleGen
        unfold HnOk at q
        rw [spec_HandleOk_eq, decide_eq_true (show HnOk h from q), tdiv_pos (by omega), w64_in (by omega) (by omega)]; rfl
      rw [n, spec_l7Gen_eq hsh (cls_of_used q2), eg]
      simp only [if_true, Option.bind_some]
      congr 1; rw [Bool.eq_iff_iff]; simp only [beq_iff_eq, decide_eq_true_eq]
      exact ⟨fun a => ⟨q, q2, a⟩, fun a => a.2.2⟩
    · have n : (stateS m (h % 32) == 3) = false := by simpa using q2
      rw [n, decide_eq_false (fun a : LiveS m h => q2 a.2.1)]; rfl
  · rw [decide_eq_false q, decide_eq_false (fun a : LiveS m h => q a.1)]; rfl
theorem impl_isLive_eq (h : Int) : impl_isLive m h = some (decide (LiveS m h)) := by
  unfold impl_isLive impl_isLive_j1
  rw [impl_HandleOk_eq]
  by_cases q : HnOk h
  · have hm := q.mod
    rw [decide_eq_true q, hm.1]
    simp only [Option.bind_some, if_true, impl_stateOf_eq hsh hl hg ho]
    by_cases q2 : stateS m (h % 32) = 3
    · have n : (stateS m (h % 32) == 3) = true := by simpa using q2
      have eg : w64 (Int.tdiv h 32) = h / 32 := by
        unfold HnOk at q
        rw [tdiv_pos (by omega), w64_in (by omega) (by omega)]
      rw [n, impl_GenIn_eq hsh (cls_of_used q2), eg]
      simp only [if_true, Option.bind_some]
      congr 1; rw [Bool.eq_iff_iff]; simp only [beq_iff_eq, decide_eq_true_eq]
      exact ⟨fun a => ⟨q, q2, a⟩, fun a => a.2.2⟩
    · have n : (stateS m (h % 32) == 3) = false := by simpa using q2
      rw [n, decide_eq_false (fun a : LiveS m h => q2 a.2.1)]; rfl
  · rw [decide_eq_false q, decide_eq_false (fun a : LiveS m h => q a.1)]; rfl
end
def RowLive (b : Base) (r : LRow) : Prop := LiveS b.Mem r.Handle ∧ r.Epoch ≤ b.Clock.Epoch
instance (b : Base) (r : LRow) : Decidable (RowLive b r) := by unfold RowLive; infer_instance
def BOkB (b : Base) : Prop := (MOk b.Mem ∧ COk b.Clock ∧ LimOk b.Limbo ∧ HzOk b.Haz) ∧ ∀ r ∈ flatR b.Limbo, RowLive b r
instance (b : Base) : Decidable (BOkB b) := by unfold BOkB; infer_instance
section
variable {b : Base} (hf : b.Mem.Heap.Bytes.length ≤ maxLen ∧ (allS b.Mem.Lists).length ≤ 1073741824 ∧ b.Clock.Pins.length ≤ maxLen ∧ b.Limbo.length ≤ maxLen ∧ (flatR b.Limbo).length ≤ 1073741824 ∧ b.Haz.length ≤ maxLen)
include hf
theorem spec_BaseOk_eq : spec_BaseOk b = some (decide (BOkB b)) := by
  obtain ⟨f1, f2, f3, f4, f5, f6⟩ := hf
  unfold spec_BaseOk spec_BaseOk_j1
  rw [spec_MemOk_eq f1 f2, spec_ClockOk_eq, spec_LimboOk_eq f5 f4, spec_HazOk_eq f6]
  by_cases q1 : MOk b.Mem
  · by_cases q2 : COk b.Clock
    · by_cases q3 : LimOk b.Limbo
      · by_cases q4 : HzOk b.Haz
        · have hg : b.Mem.Lists.Global.length ≤ maxLen := by rw [q1.1.2.1]; simp [maxLen]
          have ho : b.Mem.Lists.Own.length ≤ maxLen := by rw [q1.1.2.2.1]; simp [maxLen]
          have hmx : (1073741824 : Nat) ≤ maxLen := by simp [maxLen]
          simp only [decide_eq_true q1, decide_eq_true q2, decide_eq_true q3, decide_eq_true q4, Option.bind_some, Bool.not_true, Bool.false_eq_true, if_false]
          rw [spec_l11All_eq f5 f4]
          simp only [Option.bind_some]
          have hst : ∀ k (hk : k < (flatR b.Limbo).length), spec_BaseOk_l2 b (flatR b.Limbo) (k : Int) = if RowLive b (flatR b.Limbo)[k] then some (.next ((k + 1 : Nat) : Int)) else some (.stop (Out.ret false)) := by
            intro k hk
            simp only [spec_BaseOk_l2, spec_BaseOk_j3]
            rw [if_pos (by simp; omega), idx_nat hk, w64_nat (show k < maxLen by omega)]
            generalize (flatR b.Limbo)[k] = r
            simp only [Option.bind_some, spec_l9Valid_eq q1.1.1.1 f2 hg ho]
            by_cases a1 : LiveS b.Mem r.Handle
            · rw [decide_eq_true a1]
              simp only [Bool.not_true, Bool.false_eq_true, if_false]
              by_cases a2 : r.Epoch ≤ b.Clock.Epoch
              · rw [if_neg (by simp; omega), if_pos ⟨a1, a2⟩]
              · rw [if_pos (by simp; omega), if_neg (fun x => a2 x.2)]
            · rw [decide_eq_false a1]
              simp only [Bool.not_false, if_true]
              rw [if_neg (fun x => a1 x.1)]
          have key := scan_list (f := spec_BaseOk_l2 b (flatR b.Limbo)) (flatR b.Limbo) (fun k => (k : Int)) (RowLive b) (Out.brk ()) (Out.ret false) (fun k hk hx => by rw [hst k hk, if_pos hx]) (fun k hk hx => by rw [hst k hk, if_neg hx]) (by simp [spec_BaseOk_l2])
          rw [show ((0 : Nat) : Int) = 0 from rfl] at key
          rw [key]
          by_cases q : ∀ r ∈ flatR b.Limbo, RowLive b r
          · rw [if_pos q, decide_eq_true (show BOkB b from ⟨⟨q1, q2, q3, q4⟩, q⟩)]; rfl
          · rw [if_neg q, decide_eq_false (fun x : BOkB b => q x.2)]; rfl
        · rw [decide_eq_false (fun x : BOkB b => q4 x.1.2.2.2), decide_eq_true q1, decide_eq_true q2, decide_eq_true q3, decide_eq_false q4]; rfl
      · rw [decide_eq_false (fun x : BOkB b => q3 x.1.2.2.1), decide_eq_true q1, decide_eq_true q2, decide_eq_false q3]; rfl
    · rw [decide_eq_false (fun x : BOkB b => q2 x.1.2.1), decide_eq_true q1, decide_eq_false q2]; rfl
  · rw [decide_eq_false (fun x : BOkB b => q1 x.1.1), decide_eq_false q1]; rfl
theorem impl_BaseOk_eq : impl_BaseOk b = some (decide (BOkB b)) := by
  obtain ⟨f1, f2, f3, f4, f5, f6⟩ := hf
  unfold impl_BaseOk impl_BaseOk_j1
  rw [impl_MemOk_eq f1 f2, impl_ClockOk_eq f3, impl_LimboOk_eq f5, impl_HazOk_eq f6]
  by_cases q1 : MOk b.Mem
  · by_cases q2 : COk b.Clock
    · by_cases q3 : LimOk b.Limbo
      · by_cases q4 : HzOk b.Haz
        · have hg : b.Mem.Lists.Global.length ≤ maxLen := by rw [q1.1.2.1]; simp [maxLen]
          have ho : b.Mem.Lists.Own.length ≤ maxLen := by rw [q1.1.2.2.1]; simp [maxLen]
          have hmx : (1073741824 : Nat) ≤ maxLen := by simp [maxLen]
          simp only [decide_eq_true q1, decide_eq_true q2, decide_eq_true q3, decide_eq_true q4, Option.bind_some, Bool.not_true, Bool.false_eq_true, if_false]
          have e1 : (fun y0 => impl_BaseOk_1_1 y0 b) = fun r : LRow => some (!decide (RowLive b r)) := by
            funext r
            unfold impl_BaseOk_1_1 impl_BaseOk_1_1_j1
            rw [impl_isLive_eq q1.1.1.1 f2 hg ho]
            by_cases a1 : LiveS b.Mem r.Handle
            · by_cases a2 : r.Epoch ≤ b.Clock.Epoch
              · rw [decide_eq_true a1, decide_eq_true (show RowLive b r from ⟨a1, a2⟩), decide_eq_false (show ¬ b.Clock.Epoch < r.Epoch by omega)]; rfl
              · rw [decide_eq_true a1, decide_eq_false (fun x : RowLive b r => a2 x.2), decide_eq_true (show b.Clock.Epoch < r.Epoch by omega)]; rfl
            · rw [decide_eq_false a1, decide_eq_false (fun x : RowLive b r => a1 x.1)]; rfl
          have e2 : ∀ l ∈ b.Limbo, (fun y0 => impl_BaseOk_1 y0 b) l = some (!decide (∀ r ∈ l.Rows, RowLive b r)) := fun l hl => by
            have := flatR_mem hl
            simp only [impl_BaseOk_1]
            rw [e1, contains_LRow (by omega), any_not]; rfl
          rw [contains_LList f4 _ _ e2, any_not]
          have hiff : BOkB b ↔ ∀ l ∈ b.Limbo, ∀ r ∈ l.Rows, RowLive b r := by
            constructor
            · intro x l hl r hr
              exact x.2 r (List.mem_flatMap.2 ⟨l, hl, hr⟩)
            · intro x
              refine ⟨⟨q1, q2, q3, q4⟩, fun r hr => ?_⟩
              obtain ⟨l, hl, hr⟩ := List.mem_flatMap.1 hr
              exact x l hl r hr
          simp only [Option.bind_some, Bool.not_not, hiff]
        · rw [decide_eq_false (fun x : BOkB b => q4 x.1.2.2.2), decide_eq_true q1, decide_eq_true q2, decide_eq_true q3, decide_eq_false q4]; rfl
      · rw [decide_eq_false (fun x : BOkB b => q3 x.1.2.2.1), decide_eq_true q1, decide_eq_true q2, decide_eq_false q3]; rfl
    · rw [decide_eq_false (fun x : BOkB b => q2 x.1.2.1), decide_eq_true q1, decide_eq_false q2]; rfl
  · rw [decide_eq_false (fun x : BOkB b => q1 x.1.1), decide_eq_false q1]; rfl
end
end Go.Gv
end
section
set_option linter.unusedVariables false
set_option linter.unusedSimpArgs false
set_option linter.unusedSectionVars false
namespace Go.Gv
theorem contains_Op {l : List GOp} (hl : l.length ≤ maxLen) (f : GOp → Bool) (g : GOp → Option Bool) (hg : ∀ x ∈ l, g x = some (f x)) : slices_ContainsFunc_Op l g = some (l.any f) := by
  obtain ⟨o, e, h⟩ := any_loop l f (body := slices_IndexFunc_Op_l1 l g) (fun k hk => by
    simp only [slices_IndexFunc_Op_l1]
    rw [if_pos (by simp; omega), idx_nat hk, w64_nat (lt_max hk hl)]
    simp only [Option.bind_some, hg _ (List.getElem_mem hk)]) (by simp [slices_IndexFunc_Op_l1])
  unfold slices_ContainsFunc_Op slices_IndexFunc_Op
  rw [e]
  cases o with
  | brk u => simp only at h; simp [slices_IndexFunc_Op_m1, slices_IndexFunc_Op_j1, h]
  | ret r => simp only at h; simp [slices_IndexFunc_Op_m1, h]
theorem contains_Queue {l : List Queue} (hl : l.length ≤ maxLen) (f : Queue → Bool) (g : Queue → Option Bool) (hg : ∀ x ∈ l, g x = some (f x)) : slices_ContainsFunc_Queue l g = some (l.any f) := by
  obtain ⟨o, e, h⟩ := any_loop l f (body := slices_IndexFunc_Queue_l1 l g) (fun k hk => by
    simp only [slices_IndexFunc_Queue_l1]
    rw [if_pos (by simp; omega), idx_nat hk, w64_nat (lt_max hk hl)]
    simp only [Option.bind_some, hg _ (List.getElem_mem hk)]) (by simp [slices_IndexFunc_Queue_l1])
  unfold slices_ContainsFunc_Queue slices_IndexFunc_Queue
  rw [e]
  cases o with
  | brk u => simp only at h; simp [slices_IndexFunc_Queue_m1, slices_IndexFunc_Queue_j1, h]
  | ret r => simp only at h; simp [slices_IndexFunc_Queue_m1, h]
theorem contains_Job {l : List Job} (hl : l.length ≤ maxLen) (f : Job → Bool) (g : Job → Option Bool) (hg : ∀ x ∈ l, g x = some (f x)) : slices_ContainsFunc_Job l g = some (l.any f) := by
  obtain ⟨o, e, h⟩ := any_loop l f (body := slices_IndexFunc_Job_l1 l g) (fun k hk => by
    simp only [slices_IndexFunc_Job_l1]
    rw [if_pos (by simp; omega), idx_nat hk, w64_nat (lt_max hk hl)]
    simp only [Option.bind_some, hg _ (List.getElem_mem hk)]) (by simp [slices_IndexFunc_Job_l1])
  unfold slices_ContainsFunc_Job slices_IndexFunc_Job
  rw [e]
  cases o with
  | brk u => simp only at h; simp [slices_IndexFunc_Job_m1, slices_IndexFunc_Job_j1, h]
  | ret r => simp only at h; simp [slices_IndexFunc_Job_m1, h]
def CelledK (k : Int) : Prop := k = 1 ∨ k = 2 ∨ k = 3 ∨ k = 7
instance (k : Int) : Decidable (CelledK k) := by unfold CelledK; infer_instance
def OpOkP (o : GOp) : Prop := (1 ≤ o.Kind ∧ o.Kind ≤ 7) ∧ (CelledK o.Kind ∨ o.Cell = 0) ∧ (0 ≤ o.Cell ∧ o.Cell ≤ 1) ∧ if o.Kind = 1 then (0 ≤ o.Size ∧ o.Size ≤ 100) ∧ 0 ≤ o.Val ∧ o.Val ≤ 65535 else o.Size = 0 ∧ o.Val = 0
instance (o : GOp) : Decidable (OpOkP o) := by unfold OpOkP; infer_instance
theorem hb0 (x : Int) : (x == 0) = decide (x = 0) := by rw [Bool.eq_iff_iff]; simp
theorem cel1 : CelledK 1 := .inl rfl
theorem celled_eq (k : Int) : spec_l15Celled k = some (decide (CelledK k)) := by
  unfold spec_l15Celled spec_l15Celled_j1 CelledK
  by_cases h1 : k = 1
  · simp [h1]
  · by_cases h2 : k = 2
    · simp [h2]
    · by_cases h3 : k = 3
      · simp [h3]
      · by_cases h7 : k = 7
        · simp [h7]
        · simp [h1, h2, h3, h7]
theorem spec_OpOk_eq (o : GOp) : spec_OpOk o = some (decide (OpOkP o)) := by
  unfold spec_OpOk spec_OpOk_j1 spec_OpOk_j2 spec_OpOk_j3 OpOkP
  rw [l1In_eq, celled_eq, l1In_eq, l1In_eq, l1In_eq]
  by_cases h1 : 1 ≤ o.Kind ∧ o.Kind ≤ 7
  · by_cases h2 : CelledK o.Kind
    · by_cases h3 : 0 ≤ o.Cell ∧ o.Cell ≤ 1
      · by_cases h4 : o.Kind = 1
        · by_cases h5 : 0 ≤ o.Size ∧ o.Size ≤ 100 <;> simp [h1, h2, h3, h4, h5, cel1] <;> exact hb0 _
        · by_cases h5 : o.Size = 0 <;> simp [h1, h2, h3, h4, h5, cel1] <;> exact hb0 _
      · simp [h1, h2, h3]
    · by_cases h0 : o.Cell = 0
      · by_cases h4 : o.Kind = 1
        · exact absurd (.inl h4) h2
        · by_cases h5 : o.Size = 0 <;> simp [h1, h2, h0, h4, h5, cel1] <;> exact hb0 _
      · simp [h1, h2, h0]
  · simp [h1]
theorem impl_OpOk_eq (o : GOp) : impl_OpOk o = some (decide (OpOkP o)) := by
  have key : ∀ x, impl_OpOk_j1 o x = if 1 ≤ o.Kind ∧ o.Kind ≤ 7 then (if x then some (decide ((0 ≤ o.Cell ∧ o.Cell ≤ 1) ∧ if o.Kind = 1 then (0 ≤ o.Size ∧ o.Size ≤ 100) ∧ 0 ≤ o.Val ∧ o.Val ≤ 65535 else o.Size = 0 ∧ o.Val = 0) : Bool) else some (decide (o.Cell = 0 ∧ if o.Kind = 1 then (0 ≤ o.Size ∧ o.Size ≤ 100) ∧ 0 ≤ o.Val ∧ o.Val ≤ 65535 else o.Size = 0 ∧ o.Val = 0))) else some false := fun x => by
    unfold impl_OpOk_j1 impl_OpOk_j2 impl_OpOk_j3 impl_OpOk_j4
    rw [within_eq, within_eq, within_eq, within_eq]
    by_cases h1 : 1 ≤ o.Kind ∧ o.Kind ≤ 7
    · cases x
      · by_cases h0 : o.Cell = 0
        · by_cases h4 : o.Kind = 1
          · by_cases h5 : 0 ≤ o.Size ∧ o.Size ≤ 100 <;> simp [h1, h0, h4, h5, cel1] <;> exact hb0 _
          · by_cases h5 : o.Size = 0 <;> simp [h1, h0, h4, h5, cel1] <;> exact hb0 _
        · simp [h1, h0]
      · by_cases h3 : 0 ≤ o.Cell ∧ o.Cell ≤ 1
        · by_cases h4 : o.Kind = 1
          · by_cases h5 : 0 ≤ o.Size ∧ o.Size ≤ 100 <;> simp [h1, h3, h4, h5, cel1] <;> exact hb0 _
          · by_cases h5 : o.Size = 0 <;> simp [h1, h3, h4, h5, cel1] <;> exact hb0 _
        · simp [h1, h3]
    · simp [h1]
  have key2 : impl_OpOk o = impl_OpOk_j1 o (decide (CelledK o.Kind)) := by
    unfold impl_OpOk CelledK
    by_cases h1 : o.Kind = 1
    · simp [h1]
    · by_cases h2 : o.Kind = 2
      · simp [h2]
      · by_cases h3 : o.Kind = 3
        · simp [h3]
        · have h7 : (o.Kind == 7) = decide (o.Kind = 1 ∨ o.Kind = 2 ∨ o.Kind = 3 ∨ o.Kind = 7) := by rw [Bool.eq_iff_iff]; simp [h1, h2, h3]
          rw [if_neg (by simpa using h1), if_neg (by simpa using h2), if_neg (by simpa using h3), h7]
  rw [key2, key]
  unfold OpOkP
  by_cases h1 : 1 ≤ o.Kind ∧ o.Kind ≤ 7
  · by_cases h2 : CelledK o.Kind
    · simp only [h1, h2, and_self, decide_true, if_true, true_or, true_and]
    · by_cases h0 : o.Cell = 0
      · simp [h1, h2, h0]
      · simp [h1, h2, h0]
  · simp [h1]
theorem spec_link_eq (h : Int) : spec_l15Some h = some (decide (LinkOk h)) := by
  unfold spec_l15Some spec_l15Some_j1 LinkOk
  rw [spec_HandleOk_eq]
  by_cases q : h = 0 <;> simp [q]
theorem impl_link_eq (h : Int) : impl_isLink h = some (decide (LinkOk h)) := by
  unfold impl_isLink impl_isLink_j1 LinkOk
  rw [impl_HandleOk_eq]
  by_cases q : h = 0 <;> simp [q]
def OpsOk (l : List GOp) : Prop := ∀ o ∈ l, OpOkP o
instance (l : List GOp) : Decidable (OpsOk l) := by unfold OpsOk; infer_instance
def QOk (q : Queue) : Prop := q.Ops.length ≤ 12 ∧ OpsOk q.Ops
instance (q : Queue) : Decidable (QOk q) := by unfold QOk; infer_instance
def TOkQ (l : List Queue) : Prop := l.length = 3 ∧ ∀ q ∈ l, QOk q
instance (l : List Queue) : Decidable (TOkQ l) := by unfold TOkQ; infer_instance
theorem spec_todo_eq {l : List Queue} (hl : l.length ≤ maxLen) : spec_l15Todo l = some (decide (TOkQ l)) := by
  unfold spec_l15Todo
  have inner : ∀ k (hk : k < l.length), l[k].Ops.length ≤ 12 → loop (spec_l15Todo_l2 l (k : Int)) 0 = some (if OpsOk l[k].Ops then Out.brk () else Out.ret false) := by
    intro k hk h12
    have hb : ∀ j (hj : j < l[k].Ops.length), spec_l15Todo_l2 l (k : Int) (j : Int) = if OpOkP l[k].Ops[j] then some (.next ((j + 1 : Nat) : Int)) else some (.stop (Out.ret false)) := by
      intro j hj
      simp only [spec_l15Todo_l2]
      rw [idx_nat hk, Option.bind_some, if_pos (by simp; omega), Option.bind_some, idx_nat hj, Option.bind_some, spec_OpOk_eq, Option.bind_some, w64_in (by omega) (by omega)]
      by_cases q : OpOkP l[k].Ops[j] <;> simp [q]
    have := scan_list (f := spec_l15Todo_l2 l (k : Int)) l[k].Ops (fun j => (j : Int)) OpOkP (Out.brk ()) (Out.ret false) (fun j hj hp => by rw [hb j hj, if_pos hp]) (fun j hj hp => by rw [hb j hj, if_neg hp]) (by
      simp only [spec_l15Todo_l2]
      rw [idx_nat hk, Option.bind_some, if_neg (by simp)])
    refine Eq.trans this ?_
    congr 1
  have hs : ∀ k (hk : k < l.length), spec_l15Todo_l1 l (k : Int) = if QOk l[k] then some (.next ((k + 1 : Nat) : Int)) else some (.stop (Out.ret false)) := by
    intro k hk
    simp only [spec_l15Todo_l1]
    rw [if_pos (by simp; omega), idx_nat hk, Option.bind_some]
    by_cases h12 : l[k].Ops.length ≤ 12
    · rw [if_neg (by simp; omega), inner k hk h12]
      by_cases q : OpsOk l[k].Ops
      · rw [if_pos q, if_pos ⟨h12, q⟩]
        simp only [Option.bind_some, spec_l15Todo_m2, spec_l15Todo_j2]
        rw [w64_nat (lt_max hk hl)]
      · rw [if_neg q, if_neg (fun a => q a.2)]; rfl
    · rw [if_pos (by simp; omega), if_neg (fun a => h12 a.1)]
  have key : loop (spec_l15Todo_l1 l) 0 = _ := scan_list (f := spec_l15Todo_l1 l) l (fun k => (k : Int)) QOk (Out.brk ()) (Out.ret false) (fun k hk hp => by rw [hs k hk, if_pos hp]) (fun k hk hp => by rw [hs k hk, if_neg hp]) (by simp [spec_l15Todo_l1])
  rw [key]
  by_cases q : ∀ x ∈ l, QOk x
  · rw [if_pos q]
    simp only [Option.bind_some, spec_l15Todo_m1, spec_l15Todo_j1]
    congr 1; rw [Bool.eq_iff_iff]; simp only [beq_iff_eq, decide_eq_true_eq]
    exact ⟨fun a => ⟨by omega, q⟩, fun a => by have := a.1; omega⟩
  · rw [if_neg q, decide_eq_false (show ¬ TOkQ l from fun a => q a.2)]; rfl
theorem impl_todo_eq {l : List Queue} (hl : l.length ≤ maxLen) (hq : ∀ q ∈ l, q.Ops.length ≤ maxLen) : impl_todoOk l = some (decide (TOkQ l)) := by
  have e1 : ∀ q ∈ l, impl_todoOk_1 q = some (!decide (QOk q)) := by
    intro q hm
    unfold impl_todoOk_1 impl_todoOk_1_j1
    have e : ∀ x ∈ q.Ops, impl_todoOk_1_1 x = some (!decide (OpOkP x)) := fun x _ => by
      unfold impl_todoOk_1_1; rw [impl_OpOk_eq]; rfl
    rw [contains_Op (hq q hm) (fun x => !decide (OpOkP x)) _ e, any_not]
    by_cases h : q.Ops.length ≤ 12
    · rw [if_neg (by simp; omega)]
      by_cases h2 : ∀ x ∈ q.Ops, OpOkP x
      · rw [decide_eq_true h2, decide_eq_true (show QOk q from ⟨h, h2⟩)]; rfl
      · rw [decide_eq_false h2, decide_eq_false (show ¬ QOk q from fun a => h2 a.2)]; rfl
    · rw [if_pos (by simp; omega), decide_eq_false (show ¬ QOk q from fun a => h a.1)]; rfl
  unfold impl_todoOk impl_todoOk_j1
  rw [contains_Queue hl (fun q => !decide (QOk q)) _ e1, any_not]
  by_cases h : l.length = 3
  · rw [if_pos (by simp; omega)]
    by_cases h2 : ∀ x ∈ l, QOk x
    · rw [decide_eq_true h2, decide_eq_true (show TOkQ l from ⟨h, h2⟩)]; rfl
    · rw [decide_eq_false h2, decide_eq_false (show ¬ TOkQ l from fun a => h2 a.2)]; rfl
  · rw [if_neg (by simp; omega), decide_eq_false (show ¬ TOkQ l from fun a => h a.1)]
def noJob : Job := ⟨false, ⟨0, 0, 0, 0⟩, 0, 0, ⟨0, 0, 0, 0, 0, 0, 0, 0, 0, false⟩, 0, 0, 0, 0⟩
def JOk (j : Job) : Prop := if j.Busy then OpOkP j.Op ∧ LinkOk j.H ∧ LinkOk j.Old else j = noJob
instance (j : Job) : Decidable (JOk j) := by unfold JOk; infer_instance
theorem jok_busy {j : Job} (hb : j.Busy = true) : JOk j ↔ OpOkP j.Op ∧ LinkOk j.H ∧ LinkOk j.Old := by unfold JOk; rw [if_pos hb]
theorem jok_idle {j : Job} (hb : j.Busy = false) : JOk j ↔ j = noJob := by unfold JOk; rw [if_neg (by simp [hb])]
theorem impl_job_eq (j : Job) : impl_jobOk j = some (decide (JOk j)) := by
  unfold impl_jobOk impl_jobOk_j1
  rw [impl_OpOk_eq, impl_link_eq, impl_link_eq]
  cases hb : j.Busy
  · rw [show decide (JOk j) = decide (j = noJob) from decide_eq_decide.2 (jok_idle hb)]; rfl
  · rw [show decide (JOk j) = decide (OpOkP j.Op ∧ LinkOk j.H ∧ LinkOk j.Old) from decide_eq_decide.2 (jok_busy hb)]
    by_cases h1 : OpOkP j.Op
    · by_cases h2 : LinkOk j.H <;> simp [h1, h2]
    · simp [h1]
def SOk (s : Shelf) : Prop := BOkB s.Base ∧ s.Cells.length = 2 ∧ s.Jobs.length = 3 ∧ TOkQ s.Todo ∧ (0 ≤ s.Serial ∧ s.Serial ≤ 1000000) ∧ (∀ h ∈ s.Cells, LinkOk h) ∧ ∀ j ∈ s.Jobs, JOk j
instance (s : Shelf) : Decidable (SOk s) := by unfold SOk; infer_instance
section
variable {s : Shelf} (hf : s.Base.Mem.Heap.Bytes.length ≤ maxLen ∧ (allS s.Base.Mem.Lists).length ≤ 1073741824 ∧ s.Base.Clock.Pins.length ≤ maxLen ∧ s.Base.Limbo.length ≤ maxLen ∧ (flatR s.Base.Limbo).length ≤ 1073741824 ∧ s.Base.Haz.length ≤ maxLen) (ht : s.Todo.length ≤ maxLen) (hq : ∀ q ∈ s.Todo, q.Ops.length ≤ maxLen) (hcl : s.Cells.length ≤ maxLen) (hjl : s.Jobs.length ≤ maxLen)
include hf ht
theorem spec_ShelfOk_eq : spec_ShelfOk s = some (decide (SOk s)) := by
  unfold spec_ShelfOk spec_ShelfOk_j1
  rw [spec_BaseOk_eq hf, spec_todo_eq ht, l1In_eq]
  by_cases h1 : BOkB s.Base
  · by_cases h2 : s.Cells.length = 2
    · by_cases h3 : s.Jobs.length = 3
      · by_cases h4 : TOkQ s.Todo
        · by_cases h5 : 0 ≤ s.Serial ∧ s.Serial ≤ 1000000
          · have c2 : ((s.Cells.length : Int) != 2) = false := by simp; omega
            have c3 : ((s.Jobs.length : Int) != 3) = false := by simp; omega
            simp only [decide_eq_true h1, decide_eq_true h4, decide_eq_true h5, c2, c3, Option.bind_some, Bool.not_true, Bool.false_eq_true, if_false]
            have k2 : loop (spec_ShelfOk_l2 s) 0 = some (if ∀ h ∈ s.Cells, LinkOk h then Out.brk () else Out.ret false) := by
              have hb : ∀ k (hk : k < s.Cells.length), spec_ShelfOk_l2 s (k : Int) = if LinkOk s.Cells[k] then some (.next ((k + 1 : Nat) : Int)) else some (.stop (Out.ret false)) := fun k hk => by
                simp only [spec_ShelfOk_l2]
                rw [if_pos (by simp; omega), idx_nat hk, Option.bind_some, spec_link_eq, Option.bind_some, w64_in (by omega) (by omega)]
                by_cases q : LinkOk s.Cells[k] <;> simp [q]
              exact scan_list (f := spec_ShelfOk_l2 s) s.Cells (fun k => (k : Int)) LinkOk _ _ (fun k hk hp => by rw [hb k hk, if_pos hp]) (fun k hk hp => by rw [hb k hk, if_neg hp]) (by simp [spec_ShelfOk_l2, h2])
            have k3 : loop (spec_ShelfOk_l3 s) 0 = some (if ∀ j ∈ s.Jobs, JOk j then Out.brk () else Out.ret false) := by
              have hb : ∀ k (hk : k < s.Jobs.length), spec_ShelfOk_l3 s (k : Int) = if JOk s.Jobs[k] then some (.next ((k + 1 : Nat) : Int)) else some (.stop (Out.ret false)) := fun k hk => by
                simp only [spec_ShelfOk_l3]
                rw [if_pos (by simp; omega), idx_nat hk]
                generalize s.Jobs[k] = j
                simp only [Option.bind_some, spec_ShelfOk_j4, spec_OpOk_eq, spec_link_eq, w64_in (show -9223372036854775808 ≤ (k : Int) + 1 by omega) (show (k : Int) + 1 ≤ 9223372036854775807 by omega)]
                cases hb : j.Busy
                · by_cases e : j = noJob
                  · have a1 : LinkOk j.H := by rw [e]; exact .inl rfl
                    have a2 : LinkOk j.Old := by rw [e]; exact .inl rfl
                    have e' : j = (⟨false, (⟨0, 0, 0, 0⟩ : GOp), 0, 0, (⟨0, 0, 0, 0, 0, 0, 0, 0, 0, false⟩ : Sub), 0, 0, 0, 0⟩ : Job) := e
                    simp only [Bool.not_false, if_true, decide_eq_true e', Bool.not_true, Bool.false_eq_true, if_false, decide_eq_true a1, decide_eq_true a2, if_pos ((jok_idle hb).2 e)]; rfl
                  · have e' : ¬ j = (⟨false, (⟨0, 0, 0, 0⟩ : GOp), 0, 0, (⟨0, 0, 0, 0, 0, 0, 0, 0, 0, false⟩ : Sub), 0, 0, 0, 0⟩ : Job) := e
                    simp only [Bool.not_false, if_true, decide_eq_false e', Bool.false_eq_true, if_false, if_neg (fun q => e ((jok_idle hb).1 q))]
                · by_cases a0 : OpOkP j.Op
                  · by_cases a1 : LinkOk j.H
                    · by_cases a2 : LinkOk j.Old <;> simp [a0, a1, a2, jok_busy hb]
                    · simp [a0, a1, jok_busy hb]
                  · simp [a0, jok_busy hb]
              exact scan_list (f := spec_ShelfOk_l3 s) s.Jobs (fun k => (k : Int)) JOk _ _ (fun k hk hp => by rw [hb k hk, if_pos hp]) (fun k hk hp => by rw [hb k hk, if_neg hp]) (by simp [spec_ShelfOk_l3, h3])
            rw [k2]
            by_cases q2 : ∀ h ∈ s.Cells, LinkOk h
            · rw [if_pos q2]
              simp only [Option.bind_some, spec_ShelfOk_m2, spec_ShelfOk_j2]
              rw [k3]
              by_cases q3 : ∀ j ∈ s.Jobs, JOk j
              · rw [if_pos q3, decide_eq_true (show SOk s from ⟨h1, h2, h3, h4, h5, q2, q3⟩)]; rfl
              · rw [if_neg q3, decide_eq_false (fun a : SOk s => q3 a.2.2.2.2.2.2)]; rfl
            · rw [if_neg q2, decide_eq_false (fun a : SOk s => q2 a.2.2.2.2.2.1)]; rfl
          · rw [decide_eq_false (fun a : SOk s => h5 a.2.2.2.2.1)]
            simp [h1, h2, h3, h4, h5]
        · rw [decide_eq_false (fun a : SOk s => h4 a.2.2.2.1)]
          simp [h1, h2, h3, h4]
      · rw [decide_eq_false (fun a : SOk s => h3 a.2.2.1)]
        have c3 : ((s.Jobs.length : Int) != 3) = true := by simp; omega
        simp [h1, h2, h3, c3]
    · rw [decide_eq_false (fun a : SOk s => h2 a.2.1)]
      have c2 : ((s.Cells.length : Int) != 2) = true := by simp; omega
      simp [h1, h2, c2]
  · rw [decide_eq_false (fun a : SOk s => h1 a.1)]; simp [h1]
include hq hcl hjl
theorem impl_ShelfOk_eq : impl_ShelfOk s = some (decide (SOk s)) := by
  have e1 : impl_ShelfOk_1 = fun x => some (!decide (LinkOk x)) := funext fun x => by unfold impl_ShelfOk_1; rw [impl_link_eq]; rfl
  have e2 : ∀ x ∈ s.Jobs, impl_ShelfOk_2 x = some (!decide (JOk x)) := fun x _ => by unfold impl_ShelfOk_2; rw [impl_job_eq]; rfl
  unfold impl_ShelfOk impl_ShelfOk_j1
  rw [impl_BaseOk_eq hf, impl_todo_eq ht hq, within_eq, show (fun y0 => impl_ShelfOk_1 y0) = fun x => some (!decide (LinkOk x)) from e1, contains_int hcl, any_not, contains_Job hjl _ _ e2, any_not]
  by_cases h1 : BOkB s.Base
  · by_cases h2 : s.Cells.length = 2
    · by_cases h3 : s.Jobs.length = 3
      · have c2 : ((s.Cells.length : Int) == 2) = true := by simp; omega
        have c3 : ((s.Jobs.length : Int) == 3) = true := by simp; omega
        by_cases h4 : TOkQ s.Todo
        · by_cases h5 : 0 ≤ s.Serial ∧ s.Serial ≤ 1000000
          · by_cases q2 : ∀ h ∈ s.Cells, LinkOk h
            · by_cases q3 : ∀ j ∈ s.Jobs, JOk j
              · rw [decide_eq_true (show SOk s from ⟨h1, h2, h3, h4, h5, q2, q3⟩)]
                simp only [decide_eq_true h1, decide_eq_true h4, decide_eq_true h5, decide_eq_true q2, decide_eq_true q3, c2, c3, Option.bind_some, Bool.not_true, Bool.not_false, Bool.false_eq_true, if_false, if_true]
              · rw [decide_eq_false (fun a : SOk s => q3 a.2.2.2.2.2.2)]
                simp only [decide_eq_true h1, decide_eq_true h4, decide_eq_true h5, decide_eq_true q2, decide_eq_false q3, c2, c3, Option.bind_some, Bool.not_true, Bool.not_false, Bool.false_eq_true, if_false, if_true]
            · rw [decide_eq_false (fun a : SOk s => q2 a.2.2.2.2.2.1)]
              simp only [decide_eq_true h1, decide_eq_true h4, decide_eq_true h5, decide_eq_false q2, c2, c3, Option.bind_some, Bool.not_true, Bool.not_false, Bool.false_eq_true, if_false, if_true]
          · rw [decide_eq_false (fun a : SOk s => h5 a.2.2.2.2.1)]
            simp only [decide_eq_true h1, decide_eq_true h4, decide_eq_false h5, c2, c3, Option.bind_some, Bool.false_eq_true, if_false, if_true]
        · rw [decide_eq_false (fun a : SOk s => h4 a.2.2.2.1)]
          simp only [decide_eq_true h1, decide_eq_false h4, c2, c3, Option.bind_some, Bool.false_eq_true, if_false, if_true]
      · rw [decide_eq_false (fun a : SOk s => h3 a.2.2.1)]
        have c2 : ((s.Cells.length : Int) == 2) = true := by simp; omega
        have c3 : ((s.Jobs.length : Int) == 3) = false := by simp; omega
        simp only [decide_eq_true h1, c2, c3, Option.bind_some, Bool.false_eq_true, if_false, if_true]
    · rw [decide_eq_false (fun a : SOk s => h2 a.2.1)]
      have c2 : ((s.Cells.length : Int) == 2) = false := by simp; omega
      simp only [decide_eq_true h1, c2, Option.bind_some, Bool.false_eq_true, if_false, if_true]
  · rw [decide_eq_false (fun a : SOk s => h1 a.1)]; simp only [decide_eq_false h1, Option.bind_some, Bool.false_eq_true, if_false]
end
end Go.Gv
end
section
set_option linter.unusedVariables false
set_option linter.unusedSimpArgs false
set_option linter.unusedSectionVars false
namespace Go.Gv
theorem isWorker_eq (w : Int) : impl_isWorker w = some (decide (0 ≤ w ∧ w ≤ 2)) := by
  unfold impl_isWorker; rw [within_eq]; rfl
theorem ClassOf_eq (n : Int) : ∃ c, spec_ClassOf n = some c ∧ impl_ClassOf n = some c ∧ (c = -1 ∨ (0 ≤ c ∧ c ≤ 2)) := by
  have s1 : ∀ k, 0 ≤ k ∧ k ≤ 2 → spec_ClassOf_l1 n k = some (if 1 ≤ n ∧ n ≤ sizeC k then .stop (Out.ret k) else .next (k + 1)) := fun k hk => by
    simp only [spec_ClassOf_l1]
    rw [if_pos (by simp; omega), spec_SizeOf_eq, Option.bind_some, l1In_eq, Option.bind_some, w64_in (by omega) (by omega)]
    by_cases q : 1 ≤ n ∧ n ≤ sizeC k
    · rw [decide_eq_true q, if_pos rfl, if_pos q]
    · rw [decide_eq_false q, if_neg (by simp), if_neg q]
  have s2 : ∀ k, 0 ≤ k ∧ k ≤ 2 → impl_ClassOf_l1 n k = some (if 1 ≤ n ∧ n ≤ sizeC k then .stop (Out.ret k) else .next (k + 1)) := fun k hk => by
    simp only [impl_ClassOf_l1, impl_ClassOf_j2]
    rw [if_pos (by simp; omega), impl_SizeOf_eq, Option.bind_some, w64_in (by omega) (by omega)]
    by_cases q1 : 1 ≤ n
    · by_cases q2 : n ≤ sizeC k <;> simp [q1, q2]
    · simp [q1]
  have st : ∀ k, 0 ≤ k ∧ k ≤ 2 → 1 ≤ n ∧ n ≤ sizeC k → loop (spec_ClassOf_l1 n) k = some (Out.ret k) ∧ loop (impl_ClassOf_l1 n) k = some (Out.ret k) := fun k hk h =>
    ⟨loop_stop (by rw [s1 k hk, if_pos h]), loop_stop (by rw [s2 k hk, if_pos h])⟩
  have nx : ∀ k, 0 ≤ k ∧ k ≤ 2 → ¬ (1 ≤ n ∧ n ≤ sizeC k) → loop (spec_ClassOf_l1 n) k = loop (spec_ClassOf_l1 n) (k + 1) ∧ loop (impl_ClassOf_l1 n) k = loop (impl_ClassOf_l1 n) (k + 1) := fun k hk h =>
    ⟨loop_next (by rw [s1 k hk, if_neg h]), loop_next (by rw [s2 k hk, if_neg h])⟩
  unfold spec_ClassOf impl_ClassOf
  by_cases q0 : 1 ≤ n ∧ n ≤ sizeC 0
  · have := st 0 (by omega) q0
    rw [this.1, this.2]; exact ⟨_, rfl, rfl, .inr (by omega)⟩
  · have h0 := nx 0 (by omega) q0
    rw [h0.1, h0.2, show (0 : Int) + 1 = 1 from rfl]
    by_cases q1 : 1 ≤ n ∧ n ≤ sizeC 1
    · have := st 1 (by omega) q1
      rw [this.1, this.2]; exact ⟨_, rfl, rfl, .inr (by omega)⟩
    · have h1 := nx 1 (by omega) q1
      rw [h1.1, h1.2, show (1 : Int) + 1 = 2 from rfl]
      by_cases q2 : 1 ≤ n ∧ n ≤ sizeC 2
      · have := st 2 (by omega) q2
        rw [this.1, this.2]; exact ⟨_, rfl, rfl, .inr (by omega)⟩
      · have h2 := nx 2 (by omega) q2
        rw [h2.1, h2.2, show (2 : Int) + 1 = 3 from rfl, loop_stop (body := spec_ClassOf_l1 n) (r := Out.brk ()) (by simp [spec_ClassOf_l1]), loop_stop (body := impl_ClassOf_l1 n) (r := Out.brk ()) (by simp [impl_ClassOf_l1])]
        exact ⟨_, rfl, rfl, .inl rfl⟩
theorem OwnAt_eq {w c : Int} (hw : 0 ≤ w ∧ w ≤ 2) (hc : 0 ≤ c ∧ c ≤ 2) : spec_OwnAt w c = some (w * 3 + c) ∧ impl_OwnAt w c = some (w * 3 + c) := by
  have e : w64 (w64 (w * 3) + c) = w * 3 + c := by rw [w64_in (x := w * 3) (by omega) (by omega), w64_in (by omega) (by omega)]
  constructor
  · unfold spec_OwnAt spec_OwnAt_j1; rw [l1In_eq, l1In_eq, decide_eq_true hw, decide_eq_true hc, e]; rfl
  · unfold impl_OwnAt impl_OwnAt_j1; rw [isWorker_eq, impl_isClass_eq, decide_eq_true hw, decide_eq_true hc, e]; rfl
end Go.Gv
end
section
set_option linter.unusedVariables false
set_option linter.unusedSimpArgs false
set_option linter.unusedSectionVars false
namespace Go.Gv
theorem ungr_same (h : Heap) : impl_Ungranted h = spec_Ungranted h := rfl
theorem ungr_some {h : Heap} (hl : h.Class.length ≤ 1000) : ∃ u, spec_Ungranted h = some u := by
  unfold spec_Ungranted
  have key := enum_eq (f := spec_Ungranted_l1 h) h.Class.length (fun k => ((((h.Class.take k).countP (fun x => decide (x = -1)) : Nat) : Int), (k : Int))) (((h.Class.countP (fun x => decide (x = -1)) : Nat) : Int)) (fun k hk => by
    have hc : (h.Class.take k).countP (fun x => decide (x = -1)) ≤ 1000 := Nat.le_trans List.countP_le_length (by rw [List.length_take]; omega)
    simp only [spec_Ungranted_l1, spec_Ungranted_j2]
    rw [if_pos (by simp; omega), idx_nat hk, Option.bind_some, List.take_succ_eq_append_getElem hk, List.countP_append, w64_in (by omega) (by omega), w64_in (by omega) (by omega)]
    by_cases q : h.Class[k] = -1
    · simp [q]
    · simp [q]) (by simp [spec_Ungranted_l1])
  have key' : loop (spec_Ungranted_l1 h) (0, 0) = _ := key
  rw [key']; exact ⟨_, rfl⟩
section
variable {s : Shelf} (h : SOk s) {w : Nat} (hw : w < 3)
include h hw
theorem bare_some {c : Int} (hc : 0 ≤ c ∧ c ≤ 2) : ∃ v, spec_l31Bare s (w : Int) c = some v := by
  have hm := h.1.1.1
  have h3 := hm.1.2.1; have h9 := hm.1.2.2.1; have h6 := hm.1.1.1.2.1
  unfold spec_l31Bare spec_l31Bare_j1
  rw [idx_in hc.1 (by omega), Option.bind_some, (OwnAt_eq (by omega) hc).1, Option.bind_some, idx_in (by omega) (by omega), Option.bind_some]
  obtain ⟨u, hu⟩ := ungr_some (h := s.Base.Mem.Heap) (by omega)
  rw [hu]
  split
  · split
    · exact ⟨_, rfl⟩
    · exact ⟨_, rfl⟩
  · exact ⟨_, rfl⟩
def isSetP (j : Job) (c : Int) : Prop := j.Busy = true ∧ j.Op.Kind = 1 ∧ 0 ≤ c
theorem exh_set {j : Job} (hj : idx s.Jobs (w : Int) = some j) {c : Int} (hc : spec_ClassOf j.Op.Size = some c) (hp : isSetP j c) : impl_exhausted s (w : Int) = spec_l31Bare s (w : Int) c := by
  obtain ⟨c', e1, e2, hcc⟩ := ClassOf_eq j.Op.Size
  obtain rfl : c' = c := by rw [e1] at hc; exact Option.some.inj hc
  have hc2 : 0 ≤ c' ∧ c' ≤ 2 := by have := hp.2.2; omega
  unfold impl_exhausted impl_isSet impl_isSet_j1 spec_l31Bare impl_exhausted_j1 spec_l31Bare_j1
  simp only [hj, Option.bind_some, hp.1, hp.2.1, e2, beq_self_eq_true, if_true, decide_eq_true hc2.1, Bool.not_true, Bool.false_eq_true, if_false, (OwnAt_eq (w := (w : Int)) (by omega) hc2).1, (OwnAt_eq (w := (w : Int)) (by omega) hc2).2, ungr_same]
theorem exh_not {j : Job} (hj : idx s.Jobs (w : Int) = some j) {c : Int} (hc : spec_ClassOf j.Op.Size = some c) (hp : ¬ isSetP j c) : impl_isSet j = some false ∧ impl_exhausted s (w : Int) = some false := by
  obtain ⟨c', e1, e2, hcc⟩ := ClassOf_eq j.Op.Size
  obtain rfl : c' = c := by rw [e1] at hc; exact Option.some.inj hc
  have key : impl_isSet j = some false := by
    unfold impl_isSet impl_isSet_j1
    by_cases b : j.Busy = true
    · rw [if_pos b]
      by_cases k : j.Op.Kind = 1
      · rw [if_pos (by simpa using k), e2, Option.bind_some, decide_eq_false (fun q => hp ⟨b, k, q⟩)]
      · rw [if_neg (by simpa using k)]
    · rw [if_neg b]
  refine ⟨key, ?_⟩
  unfold impl_exhausted
  rw [hj, Option.bind_some, key]; rfl
end
theorem first_not (P : Nat → Prop) : ∀ n, (∀ k, k < n → P k) ∨ ∃ q, q < n ∧ ¬ P q ∧ ∀ k, k < q → P k
  | 0 => .inl fun k hk => absurd hk (by omega)
  | n + 1 => by
    rcases first_not P n with h | ⟨q, h1, h2, h3⟩
    · by_cases hp : P n
      · exact .inl fun k hk => by
          by_cases e : k = n
          · subst e; exact hp
          · exact h k (by omega)
      · exact .inr ⟨n, by omega, hp, h⟩
    · exact .inr ⟨q, by omega, h2, h3⟩
def jobAt (l : List Shelf) (i w : Nat) : Job := (l.getD i default).Jobs.getD w noJob
noncomputable def exB (s : Shelf) (w : Nat) : Bool := (impl_exhausted s (w : Int)).getD false
noncomputable def bB (l : List Shelf) : Nat → Nat → Bool
  | 0, w => exB (l.getD 0 default) w
  | i + 1, w => ((jobAt l (i + 1) w).Busy && decide ((jobAt l i w).Serial = (jobAt l (i + 1) w).Serial) && bB l i w) || exB (l.getD (i + 1) default) w
section
variable {l : List Shelf} (hl : l.length ≤ 1048576)
include hl
theorem sh_at {i : Nat} (hi : i < l.length) : idx l (i : Int) = some (l.getD i default) := by
  rw [idx_nat hi, List.getD_eq_getElem?_getD, List.getElem?_eq_getElem hi]; rfl
theorem job_at {i w : Nat} (h : SOk (l.getD i default)) (hw : w < 3) : idx (l.getD i default).Jobs (w : Int) = some (jobAt l i w) := by
  have h3 := h.2.2.1
  unfold jobAt
  rw [idx_nat (by omega), List.getD_eq_getElem?_getD (l := (l.getD i default).Jobs), List.getElem?_eq_getElem (by omega)]; rfl
theorem ex_idle {i w : Nat} (h : SOk (l.getD i default)) (hw : w < 3) (hb : (jobAt l i w).Busy = false) : exB (l.getD i default) w = false := by
  obtain ⟨c, e1, e2, _⟩ := ClassOf_eq (jobAt l i w).Op.Size
  have := exh_not h hw (job_at hl h hw) e1 (fun q => by rw [q.1] at hb; cases hb)
  unfold exB; rw [this.2]; rfl
theorem exh_ok {i w : Nat} (h : SOk (l.getD i default)) (hw : w < 3) : impl_exhausted (l.getD i default) (w : Int) = some (exB (l.getD i default) w) := by
  obtain ⟨c, e1, e2, hcc⟩ := ClassOf_eq (jobAt l i w).Op.Size
  by_cases hp : isSetP (jobAt l i w) c
  · have := exh_set h hw (job_at hl h hw) e1 hp
    obtain ⟨v, hv⟩ := bare_some h hw (c := c) (by have := hp.2.2; omega)
    unfold exB; rw [this, hv]; rfl
  · have := exh_not h hw (job_at hl h hw) e1 hp
    unfold exB; rw [this.2]; rfl
theorem idle_no {i w : Nat} (h : SOk (l.getD i default)) (hw : w < 3) (hb : (jobAt l i w).Busy = false) : bB l i w = false := by
  have := ex_idle hl h hw hb
  cases i with
  | zero => exact this
  | succ i => simp only [bB, hb, this]; rfl
theorem back_step {w : Nat} (hw : w < 3) {x : Job} {n : Nat} (hn : n < l.length) {k : Nat} (hk : k ≤ n) (hS : SOk (l.getD k default)) :
    impl_wasExhausted_l1 (l.take (n + 1)) (w : Int) x (k : Int) = some (if (jobAt l k w).Busy = true ∧ (jobAt l k w).Serial = x.Serial then (if exB (l.getD k default) w then .stop (Out.ret true) else .next ((k : Int) - 1)) else .stop (Out.brk ())) := by
  have hi : idx (l.take (n + 1)) (k : Int) = some (l.getD k default) := by
    rw [idx_nat (by simp; omega), List.getElem_take, List.getD_eq_getElem?_getD, List.getElem?_eq_getElem (by omega)]; rfl
  have hj := job_at hl hS hw
  simp only [impl_wasExhausted_l1, impl_wasExhausted_j2, hi, hj, Option.bind_some, exh_ok hl hS hw]
  rw [if_pos (by simp), w64_in (by omega) (by omega)]
  cases hb : (jobAt l k w).Busy
  · simp
  · by_cases q : (jobAt l k w).Serial = x.Serial
    · cases he : exB (l.getD k default) w <;> simp [q]
    · have q' : ((jobAt l k w).Serial == x.Serial) = false := by simpa using q
      simp [q, q']
theorem back_eq {w : Nat} (hw : w < 3) {x : Job} {n : Nat} (hn : n < l.length) : ∀ k, k ≤ n → (∀ i, i ≤ k → SOk (l.getD i default)) →
    loop (impl_wasExhausted_l1 (l.take (n + 1)) (w : Int) x) (k : Int) = some (if (jobAt l k w).Busy = true ∧ (jobAt l k w).Serial = x.Serial ∧ bB l k w = true then Out.ret true else Out.brk ()) := by
  intro k
  induction k with
  | zero =>
    intro hk hS
    have st := back_step hl hw (x := x) hn hk (hS 0 (Nat.le_refl _))
    by_cases q : (jobAt l 0 w).Busy = true ∧ (jobAt l 0 w).Serial = x.Serial
    · rw [if_pos q] at st
      cases he : exB (l.getD 0 default) w
      · rw [he, if_neg (by simp)] at st
        rw [loop_next st, loop_stop (r := Out.brk ()) (by simp [impl_wasExhausted_l1, impl_wasExhausted_j2]), if_neg (fun a => by have := a.2.2; simp only [bB] at this; rw [he] at this; cases this)]
      · rw [he, if_pos rfl] at st
        rw [loop_stop st, if_pos ⟨q.1, q.2, he⟩]
    · rw [if_neg q] at st
      rw [loop_stop st, if_neg (fun a => q ⟨a.1, a.2.1⟩)]
  | succ k ih =>
    intro hk hS
    have st := back_step hl hw (x := x) hn hk (hS (k + 1) (Nat.le_refl _))
    have ih := ih (by omega) (fun i hi => hS i (by omega))
    by_cases q : (jobAt l (k + 1) w).Busy = true ∧ (jobAt l (k + 1) w).Serial = x.Serial
    · rw [if_pos q] at st
      cases he : exB (l.getD (k + 1) default) w
      · rw [he, if_neg (by simp), show (((k + 1 : Nat) : Int) - 1) = (k : Int) by omega] at st
        rw [loop_next st, ih]
        have e : bB l (k + 1) w = (decide ((jobAt l k w).Serial = x.Serial) && bB l k w) := by
          simp only [bB, he, q.1, q.2, Bool.true_and, Bool.or_false]
        congr 1
        by_cases c : (jobAt l k w).Serial = x.Serial ∧ bB l k w = true
        · have hb : (jobAt l k w).Busy = true := by
            cases hb : (jobAt l k w).Busy
            · rw [idle_no hl (hS k (by omega)) hw hb] at c; exact absurd c.2 (by simp)
            · rfl
          rw [if_pos ⟨hb, c⟩, if_pos ⟨q.1, q.2, by rw [e]; simp [c.1, c.2]⟩]
        · rw [if_neg (fun a => c a.2), if_neg (fun a => c (by have := a.2.2; rw [e] at this; simpa using this))]
      · rw [he, if_pos rfl] at st
        rw [loop_stop st, if_pos ⟨q.1, q.2, by simp only [bB, he, Bool.or_true]⟩]
    · rw [if_neg q] at st
      rw [loop_stop st, if_neg (fun a => q ⟨a.1, a.2.1⟩)]
theorem was_eq {w : Nat} (hw : w < 3) {n : Nat} (hn : n < l.length) (hS : ∀ i, i ≤ n → SOk (l.getD i default)) (hb : (jobAt l n w).Busy = true) : impl_wasExhausted (l.take (n + 1)) (w : Int) = some (bB l n w) := by
  have hi : idx (l.take (n + 1)) (n : Int) = some (l.getD n default) := by
    rw [idx_nat (by simp; omega), List.getElem_take, List.getD_eq_getElem?_getD, List.getElem?_eq_getElem (by omega)]; rfl
  have hlen : (l.take (n + 1)).length = n + 1 := by rw [List.length_take]; omega
  unfold impl_wasExhausted
  rw [hlen, show w64 (((n + 1 : Nat) : Int) - 1) = (n : Int) by rw [w64_in (by omega) (by omega)]; omega, hi, Option.bind_some, job_at hl (hS n (Nat.le_refl _)) hw, Option.bind_some, back_eq hl hw hn n (Nat.le_refl _) hS]
  cases hv : bB l n w
  · rw [if_neg (by simp)]; rfl
  · rw [if_pos ⟨hb, rfl, rfl⟩]; rfl
def failsP (l : List Shelf) (n w : Nat) : Prop := (∃ c, spec_ClassOf (jobAt l n w).Op.Size = some c ∧ isSetP (jobAt l n w) c) ∧ (jobAt l n w).Code = 3 ∧ bB l n w = false
theorem impl_one {w : Nat} (hw : w < 3) {n : Nat} (hn : n < l.length) (hS : ∀ i, i ≤ n → SOk (l.getD i default)) :
    (failsP l n w → impl_Fair_l2 l (n : Int) (l.getD n default) (w : Int) = some (.stop (Out.ret false))) ∧ (¬ failsP l n w → impl_Fair_l2 l (n : Int) (l.getD n default) (w : Int) = some (.next ((w + 1 : Nat) : Int))) := by
  have h3 := (hS n (Nat.le_refl _)).2.2.1
  have hj := job_at hl (hS n (Nat.le_refl _)) hw
  obtain ⟨c, e1, e2, hcc⟩ := ClassOf_eq (jobAt l n w).Op.Size
  have ew : w64 ((w : Int) + 1) = ((w + 1 : Nat) : Int) := by rw [w64_in (by omega) (by omega)]; rfl
  have en : w64 ((n : Int) + 1) = ((n + 1 : Nat) : Int) := by rw [w64_in (by omega) (by omega)]; rfl
  have hlt : decide ((w : Int) < ((l.getD n default).Jobs.length : Int)) = true := by rw [h3]; simp; omega
  obtain ⟨r, hr⟩ : ∃ r, impl_Fair_l2 l (n : Int) (l.getD n default) (w : Int) = r := ⟨_, rfl⟩
  rw [hr]
  simp only [impl_Fair_l2, impl_Fair_j3, hj, Option.bind_some, hlt, if_true, ew, en] at hr
  by_cases hp : isSetP (jobAt l n w) c
  · have hset : impl_isSet (jobAt l n w) = some true := by
      unfold impl_isSet impl_isSet_j1
      rw [if_pos hp.1, if_pos (by simpa using hp.2.1), e2, Option.bind_some, decide_eq_true hp.2.2]
    simp only [hset, Option.bind_some, if_true] at hr
    by_cases hc : (jobAt l n w).Code = 3
    · simp only [hc, beq_self_eq_true, if_true, Int.toNat_natCast, List.drop_zero] at hr
      rw [need_yes (by omega), was_eq hl hw hn hS hp.1] at hr
      cases hv : bB l n w
      · rw [hv] at hr; exact ⟨fun _ => hr.symm, fun q => absurd (show failsP l n w from ⟨⟨c, e1, hp⟩, hc, hv⟩) q⟩
      · rw [hv] at hr; exact ⟨fun q => absurd q.2.2 (by rw [hv]; simp), fun _ => hr.symm⟩
    · have hc' : ((jobAt l n w).Code == 3) = false := by simpa using hc
      simp only [hc', Bool.false_eq_true, if_false] at hr
      exact ⟨fun q => absurd q.2.1 hc, fun _ => hr.symm⟩
  · have := exh_not (hS n (Nat.le_refl _)) hw hj e1 hp
    simp only [this.1, Option.bind_some, Bool.false_eq_true, if_false] at hr
    refine ⟨fun q => ?_, fun _ => hr.symm⟩
    obtain ⟨c', d1, d2⟩ := q.1
    rw [e1] at d1; cases d1; exact absurd d2 hp
theorem spec_one {w : Nat} (hw : w < 3) {n : Nat} (hn : n < l.length) (hS : ∀ i, i ≤ n → SOk (l.getD i default)) {v : List Bool} (hv : v.length = 3) (hpv : n = 0 ∨ v[w]? = some (bB l (n - 1) w)) :
    (failsP l n w → spec_Fair_l2 l (n : Int) (v, (w : Int)) = some (.stop (Out.ret false))) ∧ (¬ failsP l n w → spec_Fair_l2 l (n : Int) (v, (w : Int)) = some (.next (v.set w (bB l n w), ((w + 1 : Nat) : Int)))) := by
  have hSn := hS n (Nat.le_refl _)
  have hj := job_at hl hSn hw
  obtain ⟨c, e1, e2, hcc⟩ := ClassOf_eq (jobAt l n w).Op.Size
  have ew : w64 ((w : Int) + 1) = ((w + 1 : Nat) : Int) := by rw [w64_in (by omega) (by omega)]; rfl
  have hlt : decide ((w : Int) < 3) = true := by simp; omega
  have keep : ∃ p : Bool, spec_Fair_l2 l (n : Int) (v, (w : Int)) = spec_Fair_j4 l (n : Int) (w : Int) (jobAt l n w) c (v.set w p) ∧ bB l n w = (p || exB (l.getD n default) w) := by
    have hvi : idx v (w : Int) = some (v[w]'(by omega)) := idx_nat (by omega)
    simp only [spec_Fair_l2, spec_Fair_j8, hlt, if_true, sh_at hl hn, Option.bind_some, hj, e1, hvi, Int.toNat_natCast]
    cases n with
    | zero => exact ⟨false, by simp, by simp [bB]⟩
    | succ n =>
      have hz : (((n + 1 : Nat) : Int) == 0) = false := by simp; omega
      have hp : v[w]'(by omega) = bB l n w := by
        rcases hpv with q | q
        · omega
        · rw [List.getElem?_eq_getElem (by omega)] at q; exact Option.some.inj q
      simp only [hz, Bool.false_eq_true, if_false]
      cases hb : (jobAt l (n + 1) w).Busy
      · exact ⟨false, by simp, by simp [bB, hb]⟩
      · have ei : w64 (((n + 1 : Nat) : Int) - 1) = (n : Int) := by rw [w64_in (by omega) (by omega)]; omega
        simp only [Bool.not_true, Bool.false_eq_true, if_false, ei, sh_at hl (show n < l.length by omega), Option.bind_some, job_at hl (hS n (by omega)) hw]
        by_cases q : (jobAt l n w).Serial = (jobAt l (n + 1) w).Serial
        · refine ⟨bB l n w, ?_, by simp [bB, hb, q]⟩
          have q' : ((jobAt l n w).Serial != (jobAt l (n + 1) w).Serial) = false := by simpa using q
          rw [q', if_neg (by simp), ← hp, List.set_getElem_self]
        · refine ⟨false, ?_, by simp [bB, hb, q]⟩
          have q' : ((jobAt l n w).Serial != (jobAt l (n + 1) w).Serial) = true := by simpa using q
          rw [q', if_pos rfl]
  obtain ⟨p, k1, k2⟩ := keep
  rw [k1]
  have hx : idx (v.set w p) (w : Int) = some p := by rw [idx_nat (by simp; omega)]; simp
  by_cases hp : isSetP (jobAt l n w) c
  · obtain ⟨u, hu⟩ := bare_some hSn hw (c := c) (by have := hp.2.2; omega)
    have hex : exB (l.getD n default) w = u := by unfold exB; rw [exh_set hSn hw hj e1 hp, hu]; rfl
    have hk : ((jobAt l n w).Op.Kind != 1) = false := by simpa using hp.2.1
    have hc0 : decide (c < 0) = false := by have := hp.2.2; simp; omega
    have main : spec_Fair_j4 l (n : Int) (w : Int) (jobAt l n w) c (v.set w p) = spec_Fair_j6 (w : Int) (jobAt l n w) (v.set w (bB l n w)) := by
      simp only [spec_Fair_j4, spec_Fair_j5, hp.1, Bool.not_true, Bool.false_eq_true, if_false, hk, hc0, hx, Option.bind_some, sh_at hl hn, hu, Int.toNat_natCast, List.set_set]
      cases p
      · rw [k2, hex]; simp only [Bool.false_eq_true, if_false, Bool.false_or]
      · rw [k2]; simp only [if_true, Bool.true_or]
    have hy : idx (v.set w (bB l n w)) (w : Int) = some (bB l n w) := by rw [idx_nat (by simp; omega)]; simp
    rw [main]
    obtain ⟨r, hr⟩ : ∃ r, spec_Fair_j6 (w : Int) (jobAt l n w) (v.set w (bB l n w)) = r := ⟨_, rfl⟩
    rw [hr]
    simp only [spec_Fair_j6, spec_Fair_j7, spec_Fair_j3, hy, Option.bind_some, ew] at hr
    by_cases hc : (jobAt l n w).Code = 3
    · simp only [hc, beq_self_eq_true, if_true] at hr
      cases hb : bB l n w
      · rw [hb] at hr; exact ⟨fun _ => hr.symm, fun q => absurd (show failsP l n w from ⟨⟨c, e1, hp⟩, hc, hb⟩) q⟩
      · rw [hb] at hr; exact ⟨fun q => absurd q.2.2 (by rw [hb]; simp), fun _ => hr.symm⟩
    · have hc' : ((jobAt l n w).Code == 3) = false := by simpa using hc
      simp only [hc', Bool.false_eq_true, if_false] at hr
      exact ⟨fun q => absurd q.2.1 hc, fun _ => hr.symm⟩
  · have hex : exB (l.getD n default) w = false := by unfold exB; rw [(exh_not hSn hw hj e1 hp).2]; rfl
    have main : spec_Fair_j4 l (n : Int) (w : Int) (jobAt l n w) c (v.set w p) = spec_Fair_j3 (w : Int) (v.set w p) := by
      simp only [spec_Fair_j4, spec_Fair_j5]
      cases hb : (jobAt l n w).Busy
      · rfl
      · by_cases hk : (jobAt l n w).Op.Kind = 1
        · have hk' : ((jobAt l n w).Op.Kind != 1) = false := by simpa using hk
          have hc0 : decide (c < 0) = true := by
            have : ¬ 0 ≤ c := fun q => hp ⟨hb, hk, q⟩
            simp; omega
          simp only [Bool.not_true, Bool.false_eq_true, if_false, hk', hc0, if_true]
        · have hk' : ((jobAt l n w).Op.Kind != 1) = true := by simpa using hk
          simp only [Bool.not_true, Bool.false_eq_true, if_false, hk', if_true]
    rw [main, spec_Fair_j3, ew, k2, hex, Bool.or_false]
    refine ⟨fun q => ?_, fun _ => rfl⟩
    obtain ⟨c', d1, d2⟩ := q.1
    rw [e1] at d1; cases d1; exact absurd d2 hp
end
end Go.Gv
end
section
set_option linter.unusedVariables false
set_option linter.unusedSimpArgs false
set_option linter.unusedSectionVars false
namespace Go.Gv
def goodAt (l : List Shelf) (i : Nat) : Prop := SOk (l.getD i default) ∧ ¬ failsP l i 0 ∧ ¬ failsP l i 1 ∧ ¬ failsP l i 2
noncomputable def bV (l : List Shelf) : Nat → List Bool
  | 0 => [false, false, false]
  | i + 1 => [bB l i 0, bB l i 1, bB l i 2]
theorem bV_at (l : List Shelf) (i w : Nat) (hw : w < 3) : i = 0 ∨ (bV l i)[w]? = some (bB l (i - 1) w) := by
  cases i with
  | zero => exact .inl rfl
  | succ i =>
    right
    have : w = 0 ∨ w = 1 ∨ w = 2 := by omega
    rcases this with rfl | rfl | rfl <;> rfl
theorem bV_len (l : List Shelf) (i : Nat) : (bV l i).length = 3 := by cases i <;> rfl
section
variable {l : List Shelf} (hl : l.length ≤ 1048576) (he : ∀ i, i < l.length → spec_ShelfOk (l.getD i default) = some (decide (SOk (l.getD i default))) ∧ impl_ShelfOk (l.getD i default) = some (decide (SOk (l.getD i default))))
include hl he
theorem fair_step {i : Nat} (hi : i < l.length) (hS : ∀ k, k < i → SOk (l.getD k default)) :
    (goodAt l i → spec_Fair_l1 l (bV l i, (i : Int)) = some (.next (bV l (i + 1), ((i + 1 : Nat) : Int))) ∧ impl_Fair_l1 l (i : Int) = some (.next ((i + 1 : Nat) : Int))) ∧
    (¬ goodAt l i → spec_Fair_l1 l (bV l i, (i : Int)) = some (.stop (Out.ret false)) ∧ impl_Fair_l1 l (i : Int) = some (.stop (Out.ret false))) := by
  have ew : w64 ((i : Int) + 1) = ((i + 1 : Nat) : Int) := by rw [w64_in (by omega) (by omega)]; rfl
  obtain ⟨r1, hr1⟩ : ∃ r, spec_Fair_l1 l (bV l i, (i : Int)) = r := ⟨_, rfl⟩
  obtain ⟨r2, hr2⟩ : ∃ r, impl_Fair_l1 l (i : Int) = r := ⟨_, rfl⟩
  rw [hr1, hr2]
  have hlt : decide ((i : Int) < (l.length : Int)) = true := by simp; omega
  simp only [spec_Fair_l1, hlt, if_true, sh_at hl hi, Option.bind_some, (he i hi).1] at hr1
  simp only [impl_Fair_l1, hlt, if_true, sh_at hl hi, Option.bind_some, (he i hi).2] at hr2
  by_cases hs : SOk (l.getD i default)
  · rw [decide_eq_true hs] at hr1 hr2
    simp only [Bool.not_true, Bool.false_eq_true, if_false] at hr1 hr2
    have hS' : ∀ k, k ≤ i → SOk (l.getD k default) := fun k hk => by
      by_cases e : k = i
      · subst e; exact hs
      · exact hS k (by omega)
    have i0 := impl_one hl (w := 0) (by omega) hi hS'
    have i1 := impl_one hl (w := 1) (by omega) hi hS'
    have i2 := impl_one hl (w := 2) (by omega) hi hS'
    have s0 := spec_one hl (w := 0) (by omega) hi hS' (bV_len l i) (bV_at l i 0 (by omega))
    have s1 := spec_one hl (w := 1) (by omega) hi hS' (v := (bV l i).set 0 (bB l i 0)) (by rw [List.length_set]; exact bV_len l i) (by rw [List.getElem?_set_ne (by omega)]; exact bV_at l i 1 (by omega))
    have s2 := spec_one hl (w := 2) (by omega) hi hS' (v := ((bV l i).set 0 (bB l i 0)).set 1 (bB l i 1)) (by rw [List.length_set, List.length_set]; exact bV_len l i) (by rw [List.getElem?_set_ne (by omega), List.getElem?_set_ne (by omega)]; exact bV_at l i 2 (by omega))
    have h3 := hs.2.2.1
    have ie : impl_Fair_l2 l (i : Int) (l.getD i default) ((3 : Nat) : Int) = some (.stop (Out.brk ())) := by
      simp only [impl_Fair_l2]; rw [if_neg (by rw [h3]; simp)]
    have se : ∀ v, spec_Fair_l2 l (i : Int) (v, ((3 : Nat) : Int)) = some (.stop (Out.brk v)) := fun v => by
      simp only [spec_Fair_l2]; rw [if_neg (by simp)]
    have hv : (((bV l i).set 0 (bB l i 0)).set 1 (bB l i 1)).set 2 (bB l i 2) = bV l (i + 1) := by cases i <;> rfl
    rw [show (0 : Int) = ((0 : Nat) : Int) from rfl] at hr1 hr2
    by_cases f0 : failsP l i 0
    · rw [loop_stop (s0.1 f0)] at hr1; rw [loop_stop (i0.1 f0)] at hr2
      exact ⟨fun g => absurd f0 g.2.1, fun _ => ⟨hr1.symm, hr2.symm⟩⟩
    · rw [loop_next (s0.2 f0)] at hr1; rw [loop_next (i0.2 f0)] at hr2
      by_cases f1 : failsP l i 1
      · rw [loop_stop (s1.1 f1)] at hr1; rw [loop_stop (i1.1 f1)] at hr2
        exact ⟨fun g => absurd f1 g.2.2.1, fun _ => ⟨hr1.symm, hr2.symm⟩⟩
      · rw [loop_next (s1.2 f1)] at hr1; rw [loop_next (i1.2 f1)] at hr2
        by_cases f2 : failsP l i 2
        · rw [loop_stop (s2.1 f2)] at hr1; rw [loop_stop (i2.1 f2)] at hr2
          exact ⟨fun g => absurd f2 g.2.2.2, fun _ => ⟨hr1.symm, hr2.symm⟩⟩
        · rw [loop_next (s2.2 f2), loop_stop (se _), hv] at hr1; rw [loop_next (i2.2 f2), loop_stop ie] at hr2
          simp only [Option.bind_some, spec_Fair_m2, spec_Fair_j2, ew] at hr1
          simp only [Option.bind_some, impl_Fair_m2, impl_Fair_j2, ew] at hr2
          exact ⟨fun _ => ⟨hr1.symm, hr2.symm⟩, fun g => absurd ⟨hs, f0, f1, f2⟩ g⟩
  · rw [decide_eq_false hs] at hr1 hr2
    exact ⟨fun g => absurd g.1 hs, fun _ => ⟨hr1.symm, hr2.symm⟩⟩
theorem fair_eq : ∃ v, spec_Fair l = some v ∧ impl_Fair l = some v := by
  unfold spec_Fair impl_Fair
  rw [need_yes (by omega)]
  have h0 : List.replicate (3 : Int).toNat false = bV l 0 := rfl
  rw [h0]
  rcases first_not (goodAt l) l.length with h | ⟨q, hq, hn, h⟩
  · have a1 : loop (spec_Fair_l1 l) (bV l 0, ((0 : Nat) : Int)) = some (Out.brk ()) := enum_eq l.length (fun k => (bV l k, (k : Int))) _ (fun k hk => ((fair_step hl he hk (fun j hj => (h j (by omega)).1)).1 (h k hk)).1) (by simp [spec_Fair_l1])
    have a2 : loop (impl_Fair_l1 l) ((0 : Nat) : Int) = some (Out.brk ()) := enum_eq l.length (fun k => (k : Int)) _ (fun k hk => ((fair_step hl he hk (fun j hj => (h j (by omega)).1)).1 (h k hk)).2) (by simp [impl_Fair_l1])
    rw [show (0 : Int) = ((0 : Nat) : Int) from rfl, a1, a2]; exact ⟨_, rfl, rfl⟩
  · have a1 : loop (spec_Fair_l1 l) (bV l 0, ((0 : Nat) : Int)) = some (Out.ret false) := enum_eq q (fun k => (bV l k, (k : Int))) _ (fun k hk => ((fair_step hl he (by omega) (fun j hj => (h j (by omega)).1)).1 (h k hk)).1) ((fair_step hl he hq (fun j hj => (h j hj).1)).2 hn).1
    have a2 : loop (impl_Fair_l1 l) ((0 : Nat) : Int) = some (Out.ret false) := enum_eq q (fun k => (k : Int)) _ (fun k hk => ((fair_step hl he (by omega) (fun j hj => (h j (by omega)).1)).1 (h k hk)).2) ((fair_step hl he hq (fun j hj => (h j hj).1)).2 hn).2
    rw [show (0 : Int) = ((0 : Nat) : Int) from rfl, a1, a2]; exact ⟨_, rfl, rfl⟩
end
end Go.Gv
end
section
set_option linter.unusedVariables false
set_option linter.unusedSimpArgs false
namespace Go.Gv
theorem mem_sum {α : Type} {f : α → Nat} : ∀ {l : List α} {x : α}, x ∈ l → f x ≤ (l.map f).sum
  | y :: r, x, h => by
    rcases List.mem_cons.1 h with rfl | h
    · simp
    · have := mem_sum (f := f) h; simp; omega
theorem sz_loop {α : Type} {sz : α → Nat} {f : Int × Int → Option (Step (Int × Int) (Out Int Int))} (l : List α) (hl : l.length ≤ maxLen)
    (hf : ∀ (k : Nat) (hk : k < l.length) (n : Int), 0 ≤ n → n ≤ 1048576 → f (n, (k : Int)) = if (sz l[k] : Int) ≤ n then some (.next (n - sz l[k], ((k + 1 : Nat) : Int))) else some (.stop (.ret (-1)))) (he : ∀ n : Int, f (n, (l.length : Int)) = some (.stop (.brk n)))
    {n : Int} (h0 : 0 ≤ n) (h1 : n ≤ 1048576) : loop f (n, 0) = some (if ((l.map sz).sum : Int) ≤ n then .brk (n - (l.map sz).sum) else .ret (-1)) := by
  have key : ∀ (d k : Nat) (n : Int), k + d = l.length → 0 ≤ n → n ≤ 1048576 → loop f (n, (k : Int)) = some (if (((l.drop k).map sz).sum : Int) ≤ n then .brk (n - ((l.drop k).map sz).sum) else .ret (-1)) := by
    intro d
    induction d with
    | zero =>
      intro k n hk h0 h1
      obtain rfl : k = l.length := by omega
      rw [loop_stop (he n), List.drop_length, if_pos (by simpa using h0)]; simp
    | succ d ih =>
      intro k n hk h0 h1
      have hk' : k < l.length := by omega
      have hd : l.drop k = l[k] :: l.drop (k + 1) := List.drop_eq_getElem_cons hk'
      have e : ((l.drop k).map sz).sum = sz l[k] + ((l.drop (k + 1)).map sz).sum := by rw [hd, List.map_cons, List.sum_cons]
      rw [e]
      by_cases q : (sz l[k] : Int) ≤ n
      · rw [loop_next (by rw [hf k hk' n h0 h1, if_pos q]), ih (k + 1) _ (by omega) (by omega) (by omega)]
        by_cases q2 : (((l.drop (k + 1)).map sz).sum : Int) ≤ n - sz l[k]
        · rw [if_pos q2, if_pos (by omega)]; congr 2; omega
        · rw [if_neg q2, if_neg (by omega)]
      · rw [loop_stop (by rw [hf k hk' n h0 h1, if_neg q]), if_neg (by omega)]
  have := key l.length 0 n (by omega) h0 h1
  simpa using this
def size_IntS (l : List Int) : Nat := l.length
theorem size_IntS_len (l : List Int) : l.length ≤ size_IntS l := by unfold size_IntS; omega
theorem sz_IntS {l : List Int} (hf : fit l) {n : Int} (h0 : 0 ≤ n) (h1 : n ≤ 1048576) : laws_szIntS l n = some (if (size_IntS l : Int) ≤ n then n - size_IntS l else -1) := by
  have hm : l.length ≤ 9223372036854775807 := hf.1
  unfold laws_szIntS size_IntS
  rw [w64_in (by omega) (by omega)]
  by_cases h : (l.length : Int) ≤ n
  · rw [if_pos h, if_neg (by simp; omega)]
  · rw [if_neg h, if_pos (by simp; omega)]
theorem to_IntS {l : List Int} (h : size_IntS l ≤ 1048576) : laws_toIntS l = some l := by
  have hl := size_IntS_len l
  unfold laws_toIntS
  rw [need_yes (by omega), Int.toNat_natCast, copy_loop l id]
  · simp [laws_toIntS_m1, laws_toIntS_j1]
  · intro acc k hk he
    simp only [laws_toIntS_l1]
    rw [if_pos (by simp; omega), idx_nat hk]
    simp only [Option.bind_some]
    rw [idx_nat (by omega)]
    simp only [Option.bind_some]
    rw [w64_in (by omega) (by omega)]
    simp
  · intro acc
    simp [laws_toIntS_l1]
theorem eq_IntS {l : List Int} (h : size_IntS l ≤ 1048576) : laws_eqIntS l l = some true := by
  have hl := size_IntS_len l
  unfold laws_eqIntS
  have key : loop (laws_eqIntS_l1 l l) 0 = some (Out.brk ()) := by
    refine enum_eq (f := laws_eqIntS_l1 l l) l.length (fun k => (k : Int)) _ (fun k hk => ?_) ?_
    · simp only [laws_eqIntS_l1]
      rw [if_pos (by simp; omega), idx_nat hk, w64_in (by omega) (by omega)]
      simp
    · simp [laws_eqIntS_l1]
  simp [key, laws_eqIntS_m1, laws_eqIntS_j1]
def size_Heap (v : Heap) : Nat := size_IntS v.Bytes + size_IntS v.Class
theorem sz_Heap {v : Heap} (hf : fit v) {n : Int} (h0 : 0 ≤ n) (h1 : n ≤ 1048576) : laws_szHeap v n = some (if (size_Heap v : Int) ≤ n then n - size_Heap v else -1) := by
  unfold laws_szHeap size_Heap
  rw [sz_IntS (hf.1) (by omega) (by omega)]
  by_cases q0 : (size_IntS v.Bytes : Int) ≤ n
  · rw [if_pos q0]; simp only [Option.bind_some]; rw [if_neg (by simp only [decide_eq_true_eq]; omega)]
    rw [sz_IntS (hf.2) (by omega) (by omega)]
    by_cases q1 : (size_IntS v.Class : Int) ≤ n - (size_IntS v.Bytes : Nat)
    · rw [if_pos q1]; simp only [Option.bind_some]; rw [if_neg (by simp only [decide_eq_true_eq]; omega), if_pos (by omega)]; congr 1; omega
    · rw [if_neg q1, if_neg (by omega)]; rfl
  · rw [if_neg q0, if_neg (by omega)]; rfl
theorem to_Heap {v : Heap} (h : size_Heap v ≤ 1048576) : laws_toHeap v = some v := by
  have h0 : size_IntS v.Bytes ≤ 1048576 := by unfold size_Heap at h; omega
  have h1 : size_IntS v.Class ≤ 1048576 := by unfold size_Heap at h; omega
  unfold laws_toHeap
  simp only [to_IntS h0, to_IntS h1, Option.bind_some]
theorem eq_Heap {v : Heap} (h : size_Heap v ≤ 1048576) : laws_eqHeap v v = some true := by
  have h0 : size_IntS v.Bytes ≤ 1048576 := by unfold size_Heap at h; omega
  have h1 : size_IntS v.Class ≤ 1048576 := by unfold size_Heap at h; omega
  unfold laws_eqHeap
  simp [eq_IntS h0, eq_IntS h1]
def size_SList (v : SList) : Nat := size_IntS v.Slots
theorem sz_SList {v : SList} (hf : fit v) {n : Int} (h0 : 0 ≤ n) (h1 : n ≤ 1048576) : laws_szSList v n = some (if (size_SList v : Int) ≤ n then n - size_SList v else -1) := by
  unfold laws_szSList size_SList
  rw [sz_IntS (hf) (by omega) (by omega)]
  by_cases q0 : (size_IntS v.Slots : Int) ≤ n
  · rw [if_pos q0]; simp only [Option.bind_some]; rw [if_neg (by simp only [decide_eq_true_eq]; omega)]
  · rw [if_neg q0]; rfl
theorem to_SList {v : SList} (h : size_SList v ≤ 1048576) : laws_toSList v = some v := by
  have h0 : size_IntS v.Slots ≤ 1048576 := by unfold size_SList at h; omega
  unfold laws_toSList
  simp only [to_IntS h0, Option.bind_some]
theorem eq_SList {v : SList} (h : size_SList v ≤ 1048576) : laws_eqSList v v = some true := by
  have h0 : size_IntS v.Slots ≤ 1048576 := by unfold size_SList at h; omega
  unfold laws_eqSList
  simp [eq_IntS h0]
def size_SListS (l : List SList) : Nat := l.length + (l.map size_SList).sum
theorem size_SListS_mem {l : List SList} {x : SList} (h : x ∈ l) : size_SList x ≤ size_SListS l := by have := mem_sum (f := size_SList) h; unfold size_SListS; omega
theorem size_SListS_len (l : List SList) : l.length ≤ size_SListS l := by unfold size_SListS; omega
theorem sz_SListS {l : List SList} (hf : fit l) {n : Int} (h0 : 0 ≤ n) (h1 : n ≤ 1048576) : laws_szSListS l n = some (if (size_SListS l : Int) ≤ n then n - size_SListS l else -1) := by
  have hm : l.length ≤ 9223372036854775807 := hf.1
  unfold laws_szSListS size_SListS
  rw [w64_in (by omega) (by omega)]
  by_cases h : (l.length : Int) ≤ n
  · rw [if_neg (by simp; omega), sz_loop (sz := size_SList) (f := laws_szSListS_l1 l) l hf.1 (fun k hk q q0 q1 => ?_) (fun q => by simp [laws_szSListS_l1]) (by omega) (by omega)]
    · by_cases h2 : ((l.map size_SList).sum : Int) ≤ n - l.length
      · rw [if_pos h2, if_pos (by omega)]; simp only [Option.bind_some, laws_szSListS_m1, laws_szSListS_j1]; congr 1; omega
      · rw [if_neg h2, if_neg (by omega)]; rfl
    · simp only [laws_szSListS_l1]
      rw [if_pos (by simp; omega), idx_nat hk]
      simp only [Option.bind_some]
      rw [sz_SList (hf.2 _ (List.getElem_mem hk)) q0 q1]
      simp only [Option.bind_some]
      by_cases h2 : (size_SList l[k] : Int) ≤ q
      · rw [if_pos h2, if_pos h2, if_neg (by simp only [decide_eq_true_eq]; omega), w64_nat (lt_max hk hf.1)]
      · rw [if_neg h2, if_neg h2]; rfl
  · rw [if_pos (by simp; omega), if_neg (by omega)]
theorem to_SListS {l : List SList} (h : size_SListS l ≤ 1048576) : laws_toSListS l = some l := by
  have hl := size_SListS_len l
  unfold laws_toSListS
  rw [need_yes (by omega), Int.toNat_natCast, copy_loop l id]
  · simp [laws_toSListS_m1, laws_toSListS_j1]
  · intro acc k hk he
    simp only [laws_toSListS_l1]
    rw [if_pos (by simp; omega), idx_nat hk]
    simp only [Option.bind_some, to_SList (Nat.le_trans (size_SListS_mem (List.getElem_mem hk)) h)]
    rw [idx_nat (by omega)]
    simp only [Option.bind_some]
    rw [w64_in (by omega) (by omega)]
    simp
  · intro acc
    simp [laws_toSListS_l1]
theorem eq_SListS {l : List SList} (h : size_SListS l ≤ 1048576) : laws_eqSListS l l = some true := by
  have hl := size_SListS_len l
  unfold laws_eqSListS
  have key : loop (laws_eqSListS_l1 l l) 0 = some (Out.brk ()) := by
    refine enum_eq (f := laws_eqSListS_l1 l l) l.length (fun k => (k : Int)) _ (fun k hk => ?_) ?_
    · simp only [laws_eqSListS_l1]
      rw [if_pos (by simp; omega), idx_nat hk, w64_in (by omega) (by omega)]
      simp [eq_SList (Nat.le_trans (size_SListS_mem (List.getElem_mem hk)) h)]
    · simp [laws_eqSListS_l1]
  simp [key, laws_eqSListS_m1, laws_eqSListS_j1]
def size_Lists (v : Lists) : Nat := size_SListS v.Global + size_SListS v.Own
theorem sz_Lists {v : Lists} (hf : fit v) {n : Int} (h0 : 0 ≤ n) (h1 : n ≤ 1048576) : laws_szLists v n = some (if (size_Lists v : Int) ≤ n then n - size_Lists v else -1) := by
  unfold laws_szLists size_Lists
  rw [sz_SListS (hf.1) (by omega) (by omega)]
  by_cases q0 : (size_SListS v.Global : Int) ≤ n
  · rw [if_pos q0]; simp only [Option.bind_some]; rw [if_neg (by simp only [decide_eq_true_eq]; omega)]
    rw [sz_SListS (hf.2) (by omega) (by omega)]
    by_cases q1 : (size_SListS v.Own : Int) ≤ n - (size_SListS v.Global : Nat)
    · rw [if_pos q1]; simp only [Option.bind_some]; rw [if_neg (by simp only [decide_eq_true_eq]; omega), if_pos (by omega)]; congr 1; omega
    · rw [if_neg q1, if_neg (by omega)]; rfl
  · rw [if_neg q0, if_neg (by omega)]; rfl
theorem to_Lists {v : Lists} (h : size_Lists v ≤ 1048576) : laws_toLists v = some v := by
  have h0 : size_SListS v.Global ≤ 1048576 := by unfold size_Lists at h; omega
  have h1 : size_SListS v.Own ≤ 1048576 := by unfold size_Lists at h; omega
  unfold laws_toLists
  simp only [to_SListS h0, to_SListS h1, Option.bind_some]
theorem eq_Lists {v : Lists} (h : size_Lists v ≤ 1048576) : laws_eqLists v v = some true := by
  have h0 : size_SListS v.Global ≤ 1048576 := by unfold size_Lists at h; omega
  have h1 : size_SListS v.Own ≤ 1048576 := by unfold size_Lists at h; omega
  unfold laws_eqLists
  simp [eq_SListS h0, eq_SListS h1]
def size_Mem (v : Mem) : Nat := size_Heap v.Heap + size_Lists v.Lists
theorem sz_Mem {v : Mem} (hf : fit v) {n : Int} (h0 : 0 ≤ n) (h1 : n ≤ 1048576) : laws_szMem v n = some (if (size_Mem v : Int) ≤ n then n - size_Mem v else -1) := by
  unfold laws_szMem size_Mem
  rw [sz_Heap (hf.1) (by omega) (by omega)]
  by_cases q0 : (size_Heap v.Heap : Int) ≤ n
  · rw [if_pos q0]; simp only [Option.bind_some]; rw [if_neg (by simp only [decide_eq_true_eq]; omega)]
    rw [sz_Lists (hf.2) (by omega) (by omega)]
    by_cases q1 : (size_Lists v.Lists : Int) ≤ n - (size_Heap v.Heap : Nat)
    · rw [if_pos q1]; simp only [Option.bind_some]; rw [if_neg (by simp only [decide_eq_true_eq]; omega), if_pos (by omega)]; congr 1; omega
    · rw [if_neg q1, if_neg (by omega)]; rfl
  · rw [if_neg q0, if_neg (by omega)]; rfl
theorem to_Mem {v : Mem} (h : size_Mem v ≤ 1048576) : laws_toMem v = some v := by
  have h0 : size_Heap v.Heap ≤ 1048576 := by unfold size_Mem at h; omega
  have h1 : size_Lists v.Lists ≤ 1048576 := by unfold size_Mem at h; omega
  unfold laws_toMem
  simp only [to_Heap h0, to_Lists h1, Option.bind_some]
theorem eq_Mem {v : Mem} (h : size_Mem v ≤ 1048576) : laws_eqMem v v = some true := by
  have h0 : size_Heap v.Heap ≤ 1048576 := by unfold size_Mem at h; omega
  have h1 : size_Lists v.Lists ≤ 1048576 := by unfold size_Mem at h; omega
  unfold laws_eqMem
  simp [eq_Heap h0, eq_Lists h1]
theorem to_Pin (a : Pin) : laws_toPin a = some a := rfl
theorem eq_Pin (a : Pin) : laws_eqPin a a = some true := by simp [laws_eqPin]
def size_PinS (l : List Pin) : Nat := l.length
theorem size_PinS_len (l : List Pin) : l.length ≤ size_PinS l := by unfold size_PinS; omega
theorem sz_PinS {l : List Pin} (hf : fit l) {n : Int} (h0 : 0 ≤ n) (h1 : n ≤ 1048576) : laws_szPinS l n = some (if (size_PinS l : Int) ≤ n then n - size_PinS l else -1) := by
  have hm : l.length ≤ 9223372036854775807 := hf.1
  unfold laws_szPinS size_PinS
  rw [w64_in (by omega) (by omega)]
  by_cases h : (l.length : Int) ≤ n
  · rw [if_pos h, if_neg (by simp; omega)]
  · rw [if_neg h, if_pos (by simp; omega)]
theorem to_PinS {l : List Pin} (h : size_PinS l ≤ 1048576) : laws_toPinS l = some l := by
  have hl := size_PinS_len l
  unfold laws_toPinS
  rw [need_yes (by omega), Int.toNat_natCast, copy_loop l id]
  · simp [laws_toPinS_m1, laws_toPinS_j1]
  · intro acc k hk he
    simp only [laws_toPinS_l1]
    rw [if_pos (by simp; omega), idx_nat hk]
    simp only [Option.bind_some, to_Pin]
    rw [idx_nat (by omega)]
    simp only [Option.bind_some]
    rw [w64_in (by omega) (by omega)]
    simp
  · intro acc
    simp [laws_toPinS_l1]
theorem eq_PinS {l : List Pin} (h : size_PinS l ≤ 1048576) : laws_eqPinS l l = some true := by
  have hl := size_PinS_len l
  unfold laws_eqPinS
  have key : loop (laws_eqPinS_l1 l l) 0 = some (Out.brk ()) := by
    refine enum_eq (f := laws_eqPinS_l1 l l) l.length (fun k => (k : Int)) _ (fun k hk => ?_) ?_
    · simp only [laws_eqPinS_l1]
      rw [if_pos (by simp; omega), idx_nat hk, w64_in (by omega) (by omega)]
      simp [eq_Pin]
    · simp [laws_eqPinS_l1]
  simp [key, laws_eqPinS_m1, laws_eqPinS_j1]
def size_Clock (v : Clock) : Nat := size_PinS v.Pins
theorem sz_Clock {v : Clock} (hf : fit v) {n : Int} (h0 : 0 ≤ n) (h1 : n ≤ 1048576) : laws_szClock v n = some (if (size_Clock v : Int) ≤ n then n - size_Clock v else -1) := by
  unfold laws_szClock size_Clock
  rw [sz_PinS (hf.2) (by omega) (by omega)]
  by_cases q0 : (size_PinS v.Pins : Int) ≤ n
  · rw [if_pos q0]; simp only [Option.bind_some]; rw [if_neg (by simp only [decide_eq_true_eq]; omega)]
  · rw [if_neg q0]; rfl
theorem to_Clock {v : Clock} (h : size_Clock v ≤ 1048576) : laws_toClock v = some v := by
  have h0 : size_PinS v.Pins ≤ 1048576 := by unfold size_Clock at h; omega
  unfold laws_toClock
  simp only [to_PinS h0, Option.bind_some]
theorem eq_Clock {v : Clock} (h : size_Clock v ≤ 1048576) : laws_eqClock v v = some true := by
  have h0 : size_PinS v.Pins ≤ 1048576 := by unfold size_Clock at h; omega
  unfold laws_eqClock
  simp [eq_PinS h0]
theorem to_LRow (a : LRow) : laws_toLRow a = some a := rfl
theorem eq_LRow (a : LRow) : laws_eqLRow a a = some true := by simp [laws_eqLRow]
def size_LRowS (l : List LRow) : Nat := l.length
theorem size_LRowS_len (l : List LRow) : l.length ≤ size_LRowS l := by unfold size_LRowS; omega
theorem sz_LRowS {l : List LRow} (hf : fit l) {n : Int} (h0 : 0 ≤ n) (h1 : n ≤ 1048576) : laws_szLRowS l n = some (if (size_LRowS l : Int) ≤ n then n - size_LRowS l else -1) := by
  have hm : l.length ≤ 9223372036854775807 := hf.1
  unfold laws_szLRowS size_LRowS
  rw [w64_in (by omega) (by omega)]
  by_cases h : (l.length : Int) ≤ n
  · rw [if_pos h, if_neg (by simp; omega)]
  · rw [if_neg h, if_pos (by simp; omega)]
theorem to_LRowS {l : List LRow} (h : size_LRowS l ≤ 1048576) : laws_toLRowS l = some l := by
  have hl := size_LRowS_len l
  unfold laws_toLRowS
  rw [need_yes (by omega), Int.toNat_natCast, copy_loop l id]
  · simp [laws_toLRowS_m1, laws_toLRowS_j1]
  · intro acc k hk he
    simp only [laws_toLRowS_l1]
    rw [if_pos (by simp; omega), idx_nat hk]
    simp only [Option.bind_some, to_LRow]
    rw [idx_nat (by omega)]
    simp only [Option.bind_some]
    rw [w64_in (by omega) (by omega)]
    simp
  · intro acc
    simp [laws_toLRowS_l1]
theorem eq_LRowS {l : List LRow} (h : size_LRowS l ≤ 1048576) : laws_eqLRowS l l = some true := by
  have hl := size_LRowS_len l
  unfold laws_eqLRowS
  have key : loop (laws_eqLRowS_l1 l l) 0 = some (Out.brk ()) := by
    refine enum_eq (f := laws_eqLRowS_l1 l l) l.length (fun k => (k : Int)) _ (fun k hk => ?_) ?_
    · simp only [laws_eqLRowS_l1]
      rw [if_pos (by simp; omega), idx_nat hk, w64_in (by omega) (by omega)]
      simp [eq_LRow]
    · simp [laws_eqLRowS_l1]
  simp [key, laws_eqLRowS_m1, laws_eqLRowS_j1]
def size_LList (v : LList) : Nat := size_LRowS v.Rows
theorem sz_LList {v : LList} (hf : fit v) {n : Int} (h0 : 0 ≤ n) (h1 : n ≤ 1048576) : laws_szLList v n = some (if (size_LList v : Int) ≤ n then n - size_LList v else -1) := by
  unfold laws_szLList size_LList
  rw [sz_LRowS (hf) (by omega) (by omega)]
  by_cases q0 : (size_LRowS v.Rows : Int) ≤ n
  · rw [if_pos q0]; simp only [Option.bind_some]; rw [if_neg (by simp only [decide_eq_true_eq]; omega)]
  · rw [if_neg q0]; rfl
theorem to_LList {v : LList} (h : size_LList v ≤ 1048576) : laws_toLList v = some v := by
  have h0 : size_LRowS v.Rows ≤ 1048576 := by unfold size_LList at h; omega
  unfold laws_toLList
  simp only [to_LRowS h0, Option.bind_some]
theorem eq_LList {v : LList} (h : size_LList v ≤ 1048576) : laws_eqLList v v = some true := by
  have h0 : size_LRowS v.Rows ≤ 1048576 := by unfold size_LList at h; omega
  unfold laws_eqLList
  simp [eq_LRowS h0]
def size_LListS (l : List LList) : Nat := l.length + (l.map size_LList).sum
theorem size_LListS_mem {l : List LList} {x : LList} (h : x ∈ l) : size_LList x ≤ size_LListS l := by have := mem_sum (f := size_LList) h; unfold size_LListS; omega
theorem size_LListS_len (l : List LList) : l.length ≤ size_LListS l := by unfold size_LListS; omega
theorem sz_LListS {l : List LList} (hf : fit l) {n : Int} (h0 : 0 ≤ n) (h1 : n ≤ 1048576) : laws_szLListS l n = some (if (size_LListS l : Int) ≤ n then n - size_LListS l else -1) := by
  have hm : l.length ≤ 9223372036854775807 := hf.1
  unfold laws_szLListS size_LListS
  rw [w64_in (by omega) (by omega)]
  by_cases h : (l.length : Int) ≤ n
  · rw [if_neg (by simp; omega), sz_loop (sz := size_LList) (f := laws_szLListS_l1 l) l hf.1 (fun k hk q q0 q1 => ?_) (fun q => by simp [laws_szLListS_l1]) (by omega) (by omega)]
    · by_cases h2 : ((l.map size_LList).sum : Int) ≤ n - l.length
      · rw [if_pos h2, if_pos (by omega)]; simp only [Option.bind_some, laws_szLListS_m1, laws_szLListS_j1]; congr 1; omega
      · rw [if_neg h2, if_neg (by omega)]; rfl
    · simp only [laws_szLListS_l1]
      rw [if_pos (by simp; omega), idx_nat hk]
      simp only [Option.bind_some]
      rw [sz_LList (hf.2 _ (List.getElem_mem hk)) q0 q1]
      simp only [Option.bind_some]
      by_cases h2 : (size_LList l[k] : Int) ≤ q
      · rw [if_pos h2, if_pos h2, if_neg (by simp only [decide_eq_true_eq]; omega), w64_nat (lt_max hk hf.1)]
      · rw [if_neg h2, if_neg h2]; rfl
  · rw [if_pos (by simp; omega), if_neg (by omega)]
theorem to_LListS {l : List LList} (h : size_LListS l ≤ 1048576) : laws_toLListS l = some l := by
  have hl := size_LListS_len l
  unfold laws_toLListS
  rw [need_yes (by omega), Int.toNat_natCast, copy_loop l id]
  · simp [laws_toLListS_m1, laws_toLListS_j1]
  · intro acc k hk he
    simp only [laws_toLListS_l1]
    rw [if_pos (by simp; omega), idx_nat hk]
    simp only [Option.bind_some, to_LList (Nat.le_trans (size_LListS_mem (List.getElem_mem hk)) h)]
    rw [idx_nat (by omega)]
    simp only [Option.bind_some]
    rw [w64_in (by omega) (by omega)]
    simp
  · intro acc
    simp [laws_toLListS_l1]
theorem eq_LListS {l : List LList} (h : size_LListS l ≤ 1048576) : laws_eqLListS l l = some true := by
  have hl := size_LListS_len l
  unfold laws_eqLListS
  have key : loop (laws_eqLListS_l1 l l) 0 = some (Out.brk ()) := by
    refine enum_eq (f := laws_eqLListS_l1 l l) l.length (fun k => (k : Int)) _ (fun k hk => ?_) ?_
    · simp only [laws_eqLListS_l1]
      rw [if_pos (by simp; omega), idx_nat hk, w64_in (by omega) (by omega)]
      simp [eq_LList (Nat.le_trans (size_LListS_mem (List.getElem_mem hk)) h)]
    · simp [laws_eqLListS_l1]
  simp [key, laws_eqLListS_m1, laws_eqLListS_j1]
def size_Base (v : Base) : Nat := size_Mem v.Mem + size_Clock v.Clock + size_LListS v.Limbo + size_IntS v.Haz
theorem sz_Base {v : Base} (hf : fit v) {n : Int} (h0 : 0 ≤ n) (h1 : n ≤ 1048576) : laws_szBase v n = some (if (size_Base v : Int) ≤ n then n - size_Base v else -1) := by
  unfold laws_szBase size_Base
  rw [sz_Mem (hf.1) (by omega) (by omega)]
  by_cases q0 : (size_Mem v.Mem : Int) ≤ n
  · rw [if_pos q0]; simp only [Option.bind_some]; rw [if_neg (by simp only [decide_eq_true_eq]; omega)]
    rw [sz_Clock (hf.2.1) (by omega) (by omega)]
    by_cases q1 : (size_Clock v.Clock : Int) ≤ n - (size_Mem v.Mem : Nat)
    · rw [if_pos q1]; simp only [Option.bind_some]; rw [if_neg (by simp only [decide_eq_true_eq]; omega)]
      rw [sz_LListS (hf.2.2.1) (by omega) (by omega)]
      by_cases q2 : (size_LListS v.Limbo : Int) ≤ n - (size_Mem v.Mem : Nat) - (size_Clock v.Clock : Nat)
      · rw [if_pos q2]; simp only [Option.bind_some]; rw [if_neg (by simp only [decide_eq_true_eq]; omega)]
        rw [sz_IntS (hf.2.2.2) (by omega) (by omega)]
        by_cases q3 : (size_IntS v.Haz : Int) ≤ n - (size_Mem v.Mem : Nat) - (size_Clock v.Clock : Nat) - (size_LListS v.Limbo : Nat)
        · rw [if_pos q3]; simp only [Option.bind_some]; rw [if_neg (by simp only [decide_eq_true_eq]; omega), if_pos (by omega)]; congr 1; omega
        · rw [if_neg q3, if_neg (by omega)]; rfl
      · rw [if_neg q2, if_neg (by omega)]; rfl
    · rw [if_neg q1, if_neg (by omega)]; rfl
  · rw [if_neg q0, if_neg (by omega)]; rfl
theorem to_Base {v : Base} (h : size_Base v ≤ 1048576) : laws_toBase v = some v := by
  have h0 : size_Mem v.Mem ≤ 1048576 := by unfold size_Base at h; omega
  have h1 : size_Clock v.Clock ≤ 1048576 := by unfold size_Base at h; omega
  have h2 : size_LListS v.Limbo ≤ 1048576 := by unfold size_Base at h; omega
  have h3 : size_IntS v.Haz ≤ 1048576 := by unfold size_Base at h; omega
  unfold laws_toBase
  simp only [to_Mem h0, to_Clock h1, to_LListS h2, to_IntS h3, Option.bind_some]
theorem eq_Base {v : Base} (h : size_Base v ≤ 1048576) : laws_eqBase v v = some true := by
  have h0 : size_Mem v.Mem ≤ 1048576 := by unfold size_Base at h; omega
  have h1 : size_Clock v.Clock ≤ 1048576 := by unfold size_Base at h; omega
  have h2 : size_LListS v.Limbo ≤ 1048576 := by unfold size_Base at h; omega
  have h3 : size_IntS v.Haz ≤ 1048576 := by unfold size_Base at h; omega
  unfold laws_eqBase
  simp [eq_Mem h0, eq_Clock h1, eq_LListS h2, eq_IntS h3]
theorem to_Op (a : GOp) : laws_toOp a = some a := rfl
theorem eq_Op (a : GOp) : laws_eqOp a a = some true := by simp [laws_eqOp]
theorem eq_Sub (a : Sub) : laws_eqSub a a = some true := by simp [laws_eqSub]
theorem to_Job (a : Job) : laws_toJob a = some a := rfl
theorem eq_Job (a : Job) : laws_eqJob a a = some true := by simp [laws_eqJob, eq_Op, eq_Sub]
def size_JobS (l : List Job) : Nat := l.length
theorem size_JobS_len (l : List Job) : l.length ≤ size_JobS l := by unfold size_JobS; omega
theorem sz_JobS {l : List Job} (hf : fit l) {n : Int} (h0 : 0 ≤ n) (h1 : n ≤ 1048576) : laws_szJobS l n = some (if (size_JobS l : Int) ≤ n then n - size_JobS l else -1) := by
  have hm : l.length ≤ 9223372036854775807 := hf.1
  unfold laws_szJobS size_JobS
  rw [w64_in (by omega) (by omega)]
  by_cases h : (l.length : Int) ≤ n
  · rw [if_pos h, if_neg (by simp; omega)]
  · rw [if_neg h, if_pos (by simp; omega)]
theorem to_JobS {l : List Job} (h : size_JobS l ≤ 1048576) : laws_toJobS l = some l := by
  have hl := size_JobS_len l
  unfold laws_toJobS
  rw [need_yes (by omega), Int.toNat_natCast, copy_loop l id]
  · simp [laws_toJobS_m1, laws_toJobS_j1]
  · intro acc k hk he
    simp only [laws_toJobS_l1]
    rw [if_pos (by simp; omega), idx_nat hk]
    simp only [Option.bind_some, to_Job]
    rw [idx_nat (by omega)]
    simp only [Option.bind_some]
    rw [w64_in (by omega) (by omega)]
    simp
  · intro acc
    simp [laws_toJobS_l1]
theorem eq_JobS {l : List Job} (h : size_JobS l ≤ 1048576) : laws_eqJobS l l = some true := by
  have hl := size_JobS_len l
  unfold laws_eqJobS
  have key : loop (laws_eqJobS_l1 l l) 0 = some (Out.brk ()) := by
    refine enum_eq (f := laws_eqJobS_l1 l l) l.length (fun k => (k : Int)) _ (fun k hk => ?_) ?_
    · simp only [laws_eqJobS_l1]
      rw [if_pos (by simp; omega), idx_nat hk, w64_in (by omega) (by omega)]
      simp [eq_Job]
    · simp [laws_eqJobS_l1]
  simp [key, laws_eqJobS_m1, laws_eqJobS_j1]
def size_OpS (l : List GOp) : Nat := l.length
theorem size_OpS_len (l : List GOp) : l.length ≤ size_OpS l := by unfold size_OpS; omega
theorem sz_OpS {l : List GOp} (hf : fit l) {n : Int} (h0 : 0 ≤ n) (h1 : n ≤ 1048576) : laws_szOpS l n = some (if (size_OpS l : Int) ≤ n then n - size_OpS l else -1) := by
  have hm : l.length ≤ 9223372036854775807 := hf.1
  unfold laws_szOpS size_OpS
  rw [w64_in (by omega) (by omega)]
  by_cases h : (l.length : Int) ≤ n
  · rw [if_pos h, if_neg (by simp; omega)]
  · rw [if_neg h, if_pos (by simp; omega)]
theorem to_OpS {l : List GOp} (h : size_OpS l ≤ 1048576) : laws_toOpS l = some l := by
  have hl := size_OpS_len l
  unfold laws_toOpS
  rw [need_yes (by omega), Int.toNat_natCast, copy_loop l id]
  · simp [laws_toOpS_m1, laws_toOpS_j1]
  · intro acc k hk he
    simp only [laws_toOpS_l1]
    rw [if_pos (by simp; omega), idx_nat hk]
    simp only [Option.bind_some, to_Op]
    rw [idx_nat (by omega)]
    simp only [Option.bind_some]
    rw [w64_in (by omega) (by omega)]
    simp
  · intro acc
    simp [laws_toOpS_l1]
theorem eq_OpS {l : List GOp} (h : size_OpS l ≤ 1048576) : laws_eqOpS l l = some true := by
  have hl := size_OpS_len l
  unfold laws_eqOpS
  have key : loop (laws_eqOpS_l1 l l) 0 = some (Out.brk ()) := by
    refine enum_eq (f := laws_eqOpS_l1 l l) l.length (fun k => (k : Int)) _ (fun k hk => ?_) ?_
    · simp only [laws_eqOpS_l1]
      rw [if_pos (by simp; omega), idx_nat hk, w64_in (by omega) (by omega)]
      simp [eq_Op]
    · simp [laws_eqOpS_l1]
  simp [key, laws_eqOpS_m1, laws_eqOpS_j1]
def size_Queue (v : Queue) : Nat := size_OpS v.Ops
theorem sz_Queue {v : Queue} (hf : fit v) {n : Int} (h0 : 0 ≤ n) (h1 : n ≤ 1048576) : laws_szQueue v n = some (if (size_Queue v : Int) ≤ n then n - size_Queue v else -1) := by
  unfold laws_szQueue size_Queue
  rw [sz_OpS (hf) (by omega) (by omega)]
  by_cases q0 : (size_OpS v.Ops : Int) ≤ n
  · rw [if_pos q0]; simp only [Option.bind_some]; rw [if_neg (by simp only [decide_eq_true_eq]; omega)]
  · rw [if_neg q0]; rfl
theorem to_Queue {v : Queue} (h : size_Queue v ≤ 1048576) : laws_toQueue v = some v := by
  have h0 : size_OpS v.Ops ≤ 1048576 := by unfold size_Queue at h; omega
  unfold laws_toQueue
  simp only [to_OpS h0, Option.bind_some]
theorem eq_Queue {v : Queue} (h : size_Queue v ≤ 1048576) : laws_eqQueue v v = some true := by
  have h0 : size_OpS v.Ops ≤ 1048576 := by unfold size_Queue at h; omega
  unfold laws_eqQueue
  simp [eq_OpS h0]
def size_QueueS (l : List Queue) : Nat := l.length + (l.map size_Queue).sum
theorem size_QueueS_mem {l : List Queue} {x : Queue} (h : x ∈ l) : size_Queue x ≤ size_QueueS l := by have := mem_sum (f := size_Queue) h; unfold size_QueueS; omega
theorem size_QueueS_len (l : List Queue) : l.length ≤ size_QueueS l := by unfold size_QueueS; omega
theorem sz_QueueS {l : List Queue} (hf : fit l) {n : Int} (h0 : 0 ≤ n) (h1 : n ≤ 1048576) : laws_szQueueS l n = some (if (size_QueueS l : Int) ≤ n then n - size_QueueS l else -1) := by
  have hm : l.length ≤ 9223372036854775807 := hf.1
  unfold laws_szQueueS size_QueueS
  rw [w64_in (by omega) (by omega)]
  by_cases h : (l.length : Int) ≤ n
  · rw [if_neg (by simp; omega), sz_loop (sz := size_Queue) (f := laws_szQueueS_l1 l) l hf.1 (fun k hk q q0 q1 => ?_) (fun q => by simp [laws_szQueueS_l1]) (by omega) (by omega)]
    · by_cases h2 : ((l.map size_Queue).sum : Int) ≤ n - l.length
      · rw [if_pos h2, if_pos (by omega)]; simp only [Option.bind_some, laws_szQueueS_m1, laws_szQueueS_j1]; congr 1; omega
      · rw [if_neg h2, if_neg (by omega)]; rfl
    · simp only [laws_szQueueS_l1]
      rw [if_pos (by simp; omega), idx_nat hk]
      simp only [Option.bind_some]
      rw [sz_Queue (hf.2 _ (List.getElem_mem hk)) q0 q1]
      simp only [Option.bind_some]
      by_cases h2 : (size_Queue l[k] : Int) ≤ q
      · rw [if_pos h2, if_pos h2, if_neg (by simp only [decide_eq_true_eq]; omega), w64_nat (lt_max hk hf.1)]
      · rw [if_neg h2, if_neg h2]; rfl
  · rw [if_pos (by simp; omega), if_neg (by omega)]
theorem to_QueueS {l : List Queue} (h : size_QueueS l ≤ 1048576) : laws_toQueueS l = some l := by
  have hl := size_QueueS_len l
  unfold laws_toQueueS
  rw [need_yes (by omega), Int.toNat_natCast, copy_loop l id]
  · simp [laws_toQueueS_m1, laws_toQueueS_j1]
  · intro acc k hk he
    simp only [laws_toQueueS_l1]
    rw [if_pos (by simp; omega), idx_nat hk]
    simp only [Option.bind_some, to_Queue (Nat.le_trans (size_QueueS_mem (List.getElem_mem hk)) h)]
    rw [idx_nat (by omega)]
    simp only [Option.bind_some]
    rw [w64_in (by omega) (by omega)]
    simp
  · intro acc
    simp [laws_toQueueS_l1]
theorem eq_QueueS {l : List Queue} (h : size_QueueS l ≤ 1048576) : laws_eqQueueS l l = some true := by
  have hl := size_QueueS_len l
  unfold laws_eqQueueS
  have key : loop (laws_eqQueueS_l1 l l) 0 = some (Out.brk ()) := by
    refine enum_eq (f := laws_eqQueueS_l1 l l) l.length (fun k => (k : Int)) _ (fun k hk => ?_) ?_
    · simp only [laws_eqQueueS_l1]
      rw [if_pos (by simp; omega), idx_nat hk, w64_in (by omega) (by omega)]
      simp [eq_Queue (Nat.le_trans (size_QueueS_mem (List.getElem_mem hk)) h)]
    · simp [laws_eqQueueS_l1]
  simp [key, laws_eqQueueS_m1, laws_eqQueueS_j1]
theorem to_Ev (a : Ev) : laws_toEv a = some a := rfl
theorem eq_Ev (a : Ev) : laws_eqEv a a = some true := by simp [laws_eqEv]
def size_EvS (l : List Ev) : Nat := l.length
theorem size_EvS_len (l : List Ev) : l.length ≤ size_EvS l := by unfold size_EvS; omega
theorem sz_EvS {l : List Ev} (hf : fit l) {n : Int} (h0 : 0 ≤ n) (h1 : n ≤ 1048576) : laws_szEvS l n = some (if (size_EvS l : Int) ≤ n then n - size_EvS l else -1) := by
  have hm : l.length ≤ 9223372036854775807 := hf.1
  unfold laws_szEvS size_EvS
  rw [w64_in (by omega) (by omega)]
  by_cases h : (l.length : Int) ≤ n
  · rw [if_pos h, if_neg (by simp; omega)]
  · rw [if_neg h, if_pos (by simp; omega)]
theorem to_EvS {l : List Ev} (h : size_EvS l ≤ 1048576) : laws_toEvS l = some l := by
  have hl := size_EvS_len l
  unfold laws_toEvS
  rw [need_yes (by omega), Int.toNat_natCast, copy_loop l id]
  · simp [laws_toEvS_m1, laws_toEvS_j1]
  · intro acc k hk he
    simp only [laws_toEvS_l1]
    rw [if_pos (by simp; omega), idx_nat hk]
    simp only [Option.bind_some, to_Ev]
    rw [idx_nat (by omega)]
    simp only [Option.bind_some]
    rw [w64_in (by omega) (by omega)]
    simp
  · intro acc
    simp [laws_toEvS_l1]
theorem eq_EvS {l : List Ev} (h : size_EvS l ≤ 1048576) : laws_eqEvS l l = some true := by
  have hl := size_EvS_len l
  unfold laws_eqEvS
  have key : loop (laws_eqEvS_l1 l l) 0 = some (Out.brk ()) := by
    refine enum_eq (f := laws_eqEvS_l1 l l) l.length (fun k => (k : Int)) _ (fun k hk => ?_) ?_
    · simp only [laws_eqEvS_l1]
      rw [if_pos (by simp; omega), idx_nat hk, w64_in (by omega) (by omega)]
      simp [eq_Ev]
    · simp [laws_eqEvS_l1]
  simp [key, laws_eqEvS_m1, laws_eqEvS_j1]
def size_Shelf (v : Shelf) : Nat := size_Base v.Base + size_IntS v.Cells + size_JobS v.Jobs + size_QueueS v.Todo + size_EvS v.Log
theorem sz_Shelf {v : Shelf} (hf : fit v) {n : Int} (h0 : 0 ≤ n) (h1 : n ≤ 1048576) : laws_szShelf v n = some (if (size_Shelf v : Int) ≤ n then n - size_Shelf v else -1) := by
  unfold laws_szShelf size_Shelf
  rw [sz_Base (hf.1) (by omega) (by omega)]
  by_cases q0 : (size_Base v.Base : Int) ≤ n
  · rw [if_pos q0]; simp only [Option.bind_some]; rw [if_neg (by simp only [decide_eq_true_eq]; omega)]
    rw [sz_IntS (hf.2.1) (by omega) (by omega)]
    by_cases q1 : (size_IntS v.Cells : Int) ≤ n - (size_Base v.Base : Nat)
    · rw [if_pos q1]; simp only [Option.bind_some]; rw [if_neg (by simp only [decide_eq_true_eq]; omega)]
      rw [sz_JobS (hf.2.2.1) (by omega) (by omega)]
      by_cases q2 : (size_JobS v.Jobs : Int) ≤ n - (size_Base v.Base : Nat) - (size_IntS v.Cells : Nat)
      · rw [if_pos q2]; simp only [Option.bind_some]; rw [if_neg (by simp only [decide_eq_true_eq]; omega)]
        rw [sz_QueueS (hf.2.2.2.1) (by omega) (by omega)]
        by_cases q3 : (size_QueueS v.Todo : Int) ≤ n - (size_Base v.Base : Nat) - (size_IntS v.Cells : Nat) - (size_JobS v.Jobs : Nat)
        · rw [if_pos q3]; simp only [Option.bind_some]; rw [if_neg (by simp only [decide_eq_true_eq]; omega)]
          rw [sz_EvS (hf.2.2.2.2.1) (by omega) (by omega)]
          by_cases q4 : (size_EvS v.Log : Int) ≤ n - (size_Base v.Base : Nat) - (size_IntS v.Cells : Nat) - (size_JobS v.Jobs : Nat) - (size_QueueS v.Todo : Nat)
          · rw [if_pos q4]; simp only [Option.bind_some]; rw [if_neg (by simp only [decide_eq_true_eq]; omega), if_pos (by omega)]; congr 1; omega
          · rw [if_neg q4, if_neg (by omega)]; rfl
        · rw [if_neg q3, if_neg (by omega)]; rfl
      · rw [if_neg q2, if_neg (by omega)]; rfl
    · rw [if_neg q1, if_neg (by omega)]; rfl
  · rw [if_neg q0, if_neg (by omega)]; rfl
theorem to_Shelf {v : Shelf} (h : size_Shelf v ≤ 1048576) : laws_toShelf v = some v := by
  have h0 : size_Base v.Base ≤ 1048576 := by unfold size_Shelf at h; omega
  have h1 : size_IntS v.Cells ≤ 1048576 := by unfold size_Shelf at h; omega
  have h2 : size_JobS v.Jobs ≤ 1048576 := by unfold size_Shelf at h; omega
  have h3 : size_QueueS v.Todo ≤ 1048576 := by unfold size_Shelf at h; omega
  have h4 : size_EvS v.Log ≤ 1048576 := by unfold size_Shelf at h; omega
  unfold laws_toShelf
  simp only [to_Base h0, to_IntS h1, to_JobS h2, to_QueueS h3, to_EvS h4, Option.bind_some]
theorem eq_Shelf {v : Shelf} (h : size_Shelf v ≤ 1048576) : laws_eqShelf v v = some true := by
  have h0 : size_Base v.Base ≤ 1048576 := by unfold size_Shelf at h; omega
  have h1 : size_IntS v.Cells ≤ 1048576 := by unfold size_Shelf at h; omega
  have h2 : size_JobS v.Jobs ≤ 1048576 := by unfold size_Shelf at h; omega
  have h3 : size_QueueS v.Todo ≤ 1048576 := by unfold size_Shelf at h; omega
  have h4 : size_EvS v.Log ≤ 1048576 := by unfold size_Shelf at h; omega
  unfold laws_eqShelf
  simp [eq_Base h0, eq_IntS h1, eq_JobS h2, eq_QueueS h3, eq_EvS h4]
def size_ShelfS (l : List Shelf) : Nat := l.length + (l.map size_Shelf).sum
theorem size_ShelfS_mem {l : List Shelf} {x : Shelf} (h : x ∈ l) : size_Shelf x ≤ size_ShelfS l := by have := mem_sum (f := size_Shelf) h; unfold size_ShelfS; omega
theorem size_ShelfS_len (l : List Shelf) : l.length ≤ size_ShelfS l := by unfold size_ShelfS; omega
theorem sz_ShelfS {l : List Shelf} (hf : fit l) {n : Int} (h0 : 0 ≤ n) (h1 : n ≤ 1048576) : laws_szShelfS l n = some (if (size_ShelfS l : Int) ≤ n then n - size_ShelfS l else -1) := by
  have hm : l.length ≤ 9223372036854775807 := hf.1
  unfold laws_szShelfS size_ShelfS
  rw [w64_in (by omega) (by omega)]
  by_cases h : (l.length : Int) ≤ n
  · rw [if_neg (by simp; omega), sz_loop (sz := size_Shelf) (f := laws_szShelfS_l1 l) l hf.1 (fun k hk q q0 q1 => ?_) (fun q => by simp [laws_szShelfS_l1]) (by omega) (by omega)]
    · by_cases h2 : ((l.map size_Shelf).sum : Int) ≤ n - l.length
      · rw [if_pos h2, if_pos (by omega)]; simp only [Option.bind_some, laws_szShelfS_m1, laws_szShelfS_j1]; congr 1; omega
      · rw [if_neg h2, if_neg (by omega)]; rfl
    · simp only [laws_szShelfS_l1]
      rw [if_pos (by simp; omega), idx_nat hk]
      simp only [Option.bind_some]
      rw [sz_Shelf (hf.2 _ (List.getElem_mem hk)) q0 q1]
      simp only [Option.bind_some]
      by_cases h2 : (size_Shelf l[k] : Int) ≤ q
      · rw [if_pos h2, if_pos h2, if_neg (by simp only [decide_eq_true_eq]; omega), w64_nat (lt_max hk hf.1)]
      · rw [if_neg h2, if_neg h2]; rfl
  · rw [if_pos (by simp; omega), if_neg (by omega)]
theorem to_ShelfS {l : List Shelf} (h : size_ShelfS l ≤ 1048576) : laws_toShelfS l = some l := by
  have hl := size_ShelfS_len l
  unfold laws_toShelfS
  rw [need_yes (by omega), Int.toNat_natCast, copy_loop l id]
  · simp [laws_toShelfS_m1, laws_toShelfS_j1]
  · intro acc k hk he
    simp only [laws_toShelfS_l1]
    rw [if_pos (by simp; omega), idx_nat hk]
    simp only [Option.bind_some, to_Shelf (Nat.le_trans (size_ShelfS_mem (List.getElem_mem hk)) h)]
    rw [idx_nat (by omega)]
    simp only [Option.bind_some]
    rw [w64_in (by omega) (by omega)]
    simp
  · intro acc
    simp [laws_toShelfS_l1]
theorem eq_ShelfS {l : List Shelf} (h : size_ShelfS l ≤ 1048576) : laws_eqShelfS l l = some true := by
  have hl := size_ShelfS_len l
  unfold laws_eqShelfS
  have key : loop (laws_eqShelfS_l1 l l) 0 = some (Out.brk ()) := by
    refine enum_eq (f := laws_eqShelfS_l1 l l) l.length (fun k => (k : Int)) _ (fun k hk => ?_) ?_
    · simp only [laws_eqShelfS_l1]
      rw [if_pos (by simp; omega), idx_nat hk, w64_in (by omega) (by omega)]
      simp [eq_Shelf (Nat.le_trans (size_ShelfS_mem (List.getElem_mem hk)) h)]
    · simp [laws_eqShelfS_l1]
  simp [key, laws_eqShelfS_m1, laws_eqShelfS_j1]
end Go.Gv
end
section
set_option linter.unusedVariables false
set_option linter.unusedSimpArgs false
set_option linter.unusedSectionVars false
namespace Go.Gv
theorem flatS_size (l : List SList) : (flatS l).length = (l.map size_SList).sum := by
  induction l with
  | nil => rfl
  | cons x t ih => simp only [flatS, List.flatMap_cons, List.length_append, List.map_cons, List.sum_cons, size_SList, size_IntS] at *; omega
theorem flatR_size (l : List LList) : (flatR l).length = (l.map size_LList).sum := by
  induction l with
  | nil => rfl
  | cons x t ih => simp only [flatR, List.flatMap_cons, List.length_append, List.map_cons, List.sum_cons, size_LList, size_LRowS] at *; omega
theorem shelf_ok_eq {s : Shelf} (h : size_Shelf s ≤ 1048576) : spec_ShelfOk s = some (decide (SOk s)) ∧ impl_ShelfOk s = some (decide (SOk s)) := by
  simp only [size_Shelf, size_Base, size_Mem, size_Heap, size_Lists, size_SListS, size_Clock, size_PinS, size_LListS, size_IntS, size_JobS, size_QueueS, size_EvS] at h
  have g := flatS_size s.Base.Mem.Lists.Global
  have o := flatS_size s.Base.Mem.Lists.Own
  have r := flatR_size s.Base.Limbo
  have hb : (1048576 : Nat) ≤ maxLen := by simp [maxLen]
  have ha := allS_len s.Base.Mem.Lists
  have hf : s.Base.Mem.Heap.Bytes.length ≤ maxLen ∧ (allS s.Base.Mem.Lists).length ≤ 1073741824 ∧ s.Base.Clock.Pins.length ≤ maxLen ∧ s.Base.Limbo.length ≤ maxLen ∧ (flatR s.Base.Limbo).length ≤ 1073741824 ∧ s.Base.Haz.length ≤ maxLen := ⟨by omega, by omega, by omega, by omega, by omega, by omega⟩
  have hq : ∀ q ∈ s.Todo, q.Ops.length ≤ maxLen := fun q hq => by
    have := mem_sum (f := size_Queue) hq
    simp only [size_Queue, size_OpS] at this
    have e : (s.Todo.map size_Queue).sum = (s.Todo.map fun q => q.Ops.length).sum := rfl
    omega
  exact ⟨spec_ShelfOk_eq hf (by omega), impl_ShelfOk_eq hf (by omega) hq (by omega) (by omega)⟩
theorem law_FnExactFair {aL : List Shelf} (hf : fit aL) : laws_FnExactFair aL = some true := by
  unfold laws_FnExactFair
  rw [sz_ShelfS hf (by omega) (by omega)]
  by_cases q : (size_ShelfS aL : Int) ≤ 1048576
  · have hs : size_ShelfS aL ≤ 1048576 := by omega
    have hn := size_ShelfS_len aL
    obtain ⟨v, e1, e2⟩ := fair_eq (l := aL) (by omega) (fun i hi => by
      have hm : aL.getD i default ∈ aL := by rw [List.getD_eq_getElem?_getD, List.getElem?_eq_getElem hi]; exact List.getElem_mem hi
      have := size_ShelfS_mem hm
      exact shelf_ok_eq (by omega))
    rw [if_pos q]
    simp only [Option.bind_some, to_ShelfS hs, e1, e2, eq_ShelfS hs]
    rw [if_neg (by simp; omega)]
    simp
  · rw [if_neg q]; rfl
end Go.Gv
end
