import Derived.Test.YtlhhifdhlkihkaaGreatXLE
set_option linter.unusedVariables false
set_option linter.unusedSimpArgs false
set_option linter.unusedSectionVars false
set_option linter.constructorNameAsVariable false
set_option linter.unnecessarySimpa false
section
set_option linter.unusedVariables false
set_option linter.unusedSimpArgs false
set_option linter.unusedSectionVars false
namespace Go.Gv
def flatR (l : List LList) : List LRow := l.flatMap LList.Rows
theorem flatR_take {l : List LList} {k : Nat} (h : k < l.length) : flatR (l.take (k + 1)) = flatR (l.take k) ++ l[k].Rows := by
  unfold flatR
  rw [List.take_succ_eq_append_getElem h, List.flatMap_append]; simp
theorem flatR_le (l : List LList) (k : Nat) : (flatR (l.take k)).length ≤ (flatR l).length := by
  have : flatR l = flatR (l.take k) ++ flatR (l.drop k) := by
    unfold flatR; rw [← List.flatMap_append, List.take_append_drop]
  rw [this]; simp
theorem flatR_get (l : List LList) {k : Nat} (h : k < l.length) : l[k].Rows.length ≤ (flatR l).length := by
  have h1 := flatR_le l (k + 1)
  rw [flatR_take h] at h1
  simp at h1; omega
theorem flatR_mem {l : List LList} {s : LList} (h : s ∈ l) : s.Rows.length ≤ (flatR l).length := by
  obtain ⟨k, hk, rfl⟩ := List.mem_iff_getElem.1 h
  exact flatR_get l hk
theorem spec_l11All_eq {l : List LList} (h : (flatR l).length ≤ 1073741824) (hl : l.length ≤ maxLen) : spec_l11All l = some (flatR l) := by
  unfold spec_l11All
  have k1 : loop (spec_l11All_l1 l) ([], 0) = some (flatR l) := by
    refine enum_eq (f := spec_l11All_l1 l) l.length (fun k => (flatR (l.take k), (k : Int))) _ (fun k hk => ?_) ?_
    · have h1 := flatR_le l (k + 1)
      rw [flatR_take hk] at h1
      simp only [spec_l11All_l1]
      rw [if_pos (by simp; omega), idx_nat hk]
      simp only [Option.bind_some]
      rw [need_yes (by simp at h1; omega), flatR_take hk, w64_nat (lt_max hk hl)]
    · simp [spec_l11All_l1]
  rw [k1]; rfl
def HnOk (h : Int) : Prop := (32 ≤ h ∧ h ≤ 223) ∧ h % 32 < 24
instance (h : Int) : Decidable (HnOk h) := by unfold HnOk; infer_instance
theorem spec_HandleOk_eq (h : Int) : spec_HandleOk h = some (decide (HnOk h)) := by
  unfold spec_HandleOk spec_HandleOk_j1 HnOk
  rw [l1In_eq]
  by_cases q : 32 ≤ h ∧ h ≤ 223
  · simp [q, tmod_pos (show 0 ≤ h by omega)]
  · simp [q]
theorem impl_HandleOk_eq (h : Int) : impl_HandleOk h = some (decide (HnOk h)) := by
  unfold impl_HandleOk impl_HandleOk_j1 HnOk
  rw [within_eq]
  by_cases q : 32 ≤ h ∧ h ≤ 223
  · simp [q, tmod_pos (show 0 ≤ h by omega)]
  · simp [q]
theorem HnOk.mod {h : Int} (q : HnOk h) : Int.tmod h 32 = h % 32 ∧ 0 ≤ h % 32 ∧ h % 32 ≤ 23 := by
  unfold HnOk at q
  exact ⟨tmod_pos (by omega), by omega, by omega⟩
theorem spec_HandleSlot_eq (h : Int) : spec_HandleSlot h = some (if HnOk h then h % 32 else -1) := by
  unfold spec_HandleSlot
  rw [spec_HandleOk_eq]
  by_cases q : HnOk h
  · simp [q, q.mod.1]
  · simp [q]
def RowOk (r : LRow) : Prop := HnOk r.Handle ∧ 0 ≤ r.Epoch ∧ r.Epoch ≤ 100000
instance (r : LRow) : Decidable (RowOk r) := by unfold RowOk; infer_instance
def slotR (r : LRow) : Int := r.Handle % 32
def LimOk (l : List LList) : Prop := l.length = 3 ∧ (flatR l).length ≤ 24 ∧ (∀ r ∈ flatR l, RowOk r) ∧ ((flatR l).map slotR).Nodup
instance (l : List LList) : Decidable (LimOk l) := by unfold LimOk; infer_instance
def rowAt (l : List LRow) (k : Nat) : LRow := l.getD k ⟨0, 0⟩
theorem rowAt_get {l : List LRow} {k : Nat} (h : k < l.length) : rowAt l k = l[k] := by
  unfold rowAt; rw [List.getD_eq_getElem?_getD, List.getElem?_eq_getElem h]; rfl
theorem spec_LimboOk_eq {l : List LList} (h : (flatR l).length ≤ 1073741824) (hl : l.length ≤ maxLen) : spec_LimboOk l = some (decide (LimOk l)) := by
  unfold spec_LimboOk spec_LimboOk_j1
  rw [spec_l11All_eq h hl]
  simp only [Option.bind_some]
  by_cases h3 : l.length = 3
  · have n1 : ((l.length : Int) != 3) = false := by simp; omega
    simp only [n1, Bool.false_eq_true, if_false]
    by_cases h24 : (flatR l).length ≤ 24
    · rw [if_neg (by simp; omega)]
      have hst : ∀ k, k < (flatR l).length → spec_LimboOk_l2 (flatR l) (((flatR l).take k).map slotR, (k : Int)) = if RowOk (rowAt (flatR l) k) ∧ slotR (rowAt (flatR l) k) ∉ ((flatR l).take k).map slotR then some (.next (((flatR l).take (k + 1)).map slotR, ((k + 1 : Nat) : Int))) else some (.stop (Out.ret false)) := by
        intro k hk
        simp only [spec_LimboOk_l2, spec_LimboOk_j3]
        rw [if_pos (by simp; omega), idx_nat hk, rowAt_get hk]
        simp only [Option.bind_some, spec_HandleSlot_eq, l1In_eq]
        by_cases q : HnOk (flatR l)[k].Handle
        · have hm := q.mod
          rw [if_pos q, if_neg (by simp; omega)]
          by_cases q2 : 0 ≤ (flatR l)[k].Epoch ∧ (flatR l)[k].Epoch ≤ 100000
          · rw [decide_eq_true q2]
            simp only [Bool.not_true, Bool.false_eq_true, if_false]
            rw [spec_l8Has_eq (by simp [maxLen]; omega)]
            simp only [Option.bind_some]
            by_cases q3 : (flatR l)[k].Handle % 32 ∈ ((flatR l).take k).map slotR
            · rw [decide_eq_true q3]; simp only [if_true]; rw [if_neg (show ¬ (RowOk (flatR l)[k] ∧ slotR (flatR l)[k] ∉ ((flatR l).take k).map slotR) from fun x => x.2 q3)]
            · rw [decide_eq_false q3]
              simp only [Bool.false_eq_true, if_false]
              rw [if_pos (show RowOk (flatR l)[k] ∧ slotR (flatR l)[k] ∉ ((flatR l).take k).map slotR from ⟨⟨q, q2⟩, q3⟩), need_yes (by simp; omega), w64_in (by omega) (by omega), map_take _ hk]; rfl
          · rw [decide_eq_false q2]
            simp only [Bool.not_false, if_true]
            rw [if_neg (fun x : RowOk _ ∧ _ => q2 x.1.2)]
        · rw [if_neg q, if_pos (by simp), if_neg (fun x : RowOk _ ∧ _ => q x.1.1)]; rfl
      have key := scan_all (f := spec_LimboOk_l2 (flatR l)) (flatR l).length (fun k => (((flatR l).take k).map slotR, (k : Int))) (fun k => RowOk (rowAt (flatR l) k) ∧ slotR (rowAt (flatR l) k) ∉ ((flatR l).take k).map slotR) (Out.brk ()) (Out.ret false) (fun k hk hx => by rw [hst k hk, if_pos hx]) (fun k hk hx => by rw [hst k hk, if_neg hx]) (by simp [spec_LimboOk_l2])
      rw [List.take_zero, List.map_nil, show ((0 : Nat) : Int) = 0 from rfl] at key
      rw [key]
      have hiff : LimOk l ↔ ∀ k, k < (flatR l).length → RowOk (rowAt (flatR l) k) ∧ slotR (rowAt (flatR l) k) ∉ ((flatR l).take k).map slotR := by
        constructor
        · rintro ⟨_, _, q1, q2⟩ k hk
          rw [rowAt_get hk]
          refine ⟨q1 _ (List.getElem_mem hk), ?_⟩
          have := (nodup_take _).1 q2 k (by simpa using hk)
          rw [List.getElem_map, ← List.map_take] at this
          exact this
        · intro q
          refine ⟨h3, h24, fun x hx => ?_, (nodup_take _).2 fun k hk => ?_⟩
          · obtain ⟨k, hk, rfl⟩ := List.mem_iff_getElem.1 hx
            have := (q k hk).1; rw [rowAt_get hk] at this; exact this
          · have hk' : k < (flatR l).length := by simpa using hk
            have := (q k hk').2; rw [rowAt_get hk'] at this
            rw [List.getElem_map, ← List.map_take]; exact this
      by_cases q : LimOk l
      · rw [if_pos (hiff.1 q), decide_eq_true q]; rfl
      · rw [if_neg (fun x => q (hiff.2 x)), decide_eq_false q]; rfl
    · rw [if_pos (by simp; omega), decide_eq_false (fun q : LimOk l => h24 q.2.1)]
  · have n1 : ((l.length : Int) != 3) = true := by simp; omega
    simp only [n1, if_true]
    rw [decide_eq_false (fun q : LimOk l => h3 q.1)]
def goR : List Bool → List LRow → Option (List Bool)
  | met, [] => some met
  | met, r :: t => if RowOk r ∧ met.getD (slotR r).toNat true = false then goR (met.set (slotR r).toNat true) t else none
theorem goR_len : ∀ {xs : List LRow} {met m : List Bool}, goR met xs = some m → m.length = met.length
  | [], met, m, h => by simp [goR] at h; rw [h]
  | x :: r, met, m, h => by
    simp only [goR] at h
    split at h
    · have := goR_len h; simpa using this
    · cases h
theorem goR_append : ∀ (a b : List LRow) (met : List Bool), goR met (a ++ b) = (goR met a).bind fun m => goR m b
  | [], b, met => rfl
  | x :: r, b, met => by
    simp only [List.cons_append, goR]
    split
    · exact goR_append r b _
    · rfl
theorem goR_some : ∀ (xs : List LRow) (met : List Bool), (goR met xs).isSome = true ↔ (∀ r ∈ xs, RowOk r) ∧ (goMet met (xs.map slotR)).isSome = true
  | [], met => by simp [goR, goMet]
  | x :: r, met => by
    simp only [goR, List.map_cons, goMet]
    by_cases h : RowOk x
    · have hm := h.1.mod
      have hs : 0 ≤ slotR x ∧ slotR x ≤ 23 := hm.2
      by_cases h2 : met.getD (slotR x).toNat true = false
      · rw [if_pos ⟨h, h2⟩, if_pos ⟨hs, h2⟩, goR_some r _]
        simp [h]
      · rw [if_neg (fun q => h2 q.2), if_neg (fun q => h2 q.2)]; simp
    · rw [if_neg (fun q => h q.1)]
      constructor
      · intro q; cases q
      · rintro ⟨q, _⟩; exact (h (q x List.mem_cons_self)).elim
theorem lim_l2_eq {s : LList} (hl : s.Rows.length ≤ maxLen) : ∀ d k (met : List Bool), k + d = s.Rows.length → met.length = 24 → loop (impl_LimboOk_l2 s) ((k : Int), met) = some (endMet (goR met (s.Rows.drop k))) := by
  intro d
  induction d with
  | zero =>
    intro k met hk hm
    rw [loop_stop (r := Out.brk met) (by simp [impl_LimboOk_l2]; omega), List.drop_eq_nil_of_le (by omega)]; rfl
  | succ d ih =>
    intro k met hk hm
    have hk' : k < s.Rows.length := by omega
    have hd : s.Rows.drop k = s.Rows[k] :: s.Rows.drop (k + 1) := List.drop_eq_getElem_cons hk'
    have hst : impl_LimboOk_l2 s ((k : Int), met) = if RowOk s.Rows[k] ∧ met.getD (slotR s.Rows[k]).toNat true = false then some (.next (((k + 1 : Nat) : Int), met.set (slotR s.Rows[k]).toNat true)) else some (.stop (Out.ret false)) := by
      simp only [impl_LimboOk_l2]
      rw [if_pos (by simp; omega), idx_nat hk']
      simp only [Option.bind_some, impl_HandleOk_eq, within_eq]
      generalize s.Rows[k] = x
      by_cases q : HnOk x.Handle
      · by_cases q2 : 0 ≤ x.Epoch ∧ x.Epoch ≤ 100000
        · have hm2 := q.mod
          obtain ⟨j, hj0⟩ := Int.eq_ofNat_of_zero_le hm2.2.1
          have hj : j < met.length := by omega
          have e : met.getD j true = met[j] := by rw [List.getD_eq_getElem?_getD, List.getElem?_eq_getElem hj]; rfl
          have hr : RowOk x := ⟨q, q2⟩
          simp only [q, q2, and_self, decide_true, Bool.not_true, Bool.false_eq_true, if_false, impl_LimboOk_j3, hm2.1, hj0, Int.toNat_natCast, hr, true_and, slotR, e]
          rw [need_yes (by omega), idx_nat hj]
          simp only [Option.bind_some]
          cases met[j]
          · simp only [Bool.false_eq_true, if_false, if_true]
            rw [need_yes (by omega), w64_nat (lt_max hk' hl)]
          · simp
        · rw [decide_eq_true q, decide_eq_false q2]; simp only [Bool.not_true, Bool.not_false, Bool.false_eq_true, if_false, if_true, impl_LimboOk_j3]; rw [if_neg (fun y : RowOk x ∧ _ => q2 y.1.2)]
      · rw [decide_eq_false q]; simp only [Bool.not_false, if_true, impl_LimboOk_j3]; rw [if_neg (fun y : RowOk x ∧ _ => q y.1.1)]
    rw [hd, goR]
    by_cases q : RowOk s.Rows[k] ∧ met.getD (slotR s.Rows[k]).toNat true = false
    · rw [if_pos q] at hst ⊢
      rw [loop_next hst, ih (k + 1) _ (by omega) (by simpa using hm)]
    · rw [if_neg q] at hst ⊢
      rw [loop_stop hst]; rfl
theorem lim_l1_eq {l : List LList} (hn : l.length ≤ 1000) (hs : ∀ s ∈ l, s.Rows.length ≤ maxLen) : ∀ d k (met : List Bool), k + d = l.length → met.length = 24 →
    loop (impl_LimboOk_l1 l) ((k : Int), met) = some (if (goR met (flatR (l.drop k))).isSome = true then Out.brk () else Out.ret false) := by
  intro d
  induction d with
  | zero =>
    intro k met hk hm
    rw [List.drop_eq_nil_of_le (by omega), if_pos (show (goR met (flatR [])).isSome = true from rfl)]
    refine loop_stop ?_
    simp only [impl_LimboOk_l1]
    rw [if_neg (by simp; omega)]
  | succ d ih =>
    intro k met hk hm
    have hk' : k < l.length := by omega
    have hd : l.drop k = l[k] :: l.drop (k + 1) := List.drop_eq_getElem_cons hk'
    have hsk := hs _ (List.getElem_mem hk')
    have hf : flatR (l.drop k) = l[k].Rows ++ flatR (l.drop (k + 1)) := by unfold flatR; rw [hd, List.flatMap_cons]
    have h4 := lim_l2_eq hsk _ 0 met (Nat.zero_add _) hm
    rw [show ((0 : Nat) : Int) = 0 from rfl, List.drop_zero] at h4
    have hst : impl_LimboOk_l1 l ((k : Int), met) = (match goR met l[k].Rows with | some m => some (.next (((k + 1 : Nat) : Int), m)) | none => some (.stop (Out.ret false))) := by
      simp only [impl_LimboOk_l1]
      rw [if_pos (by simp; omega), idx_nat hk']
      simp only [Option.bind_some]
      rw [h4]
      cases goR met l[k].Rows with
      | none => rfl
      | some m => simp only [Option.bind_some, endMet, impl_LimboOk_m2, impl_LimboOk_j2]; rw [w64_in (by omega) (by omega)]; rfl
    rw [hf, goR_append]
    cases hg : goR met l[k].Rows with
    | none =>
      rw [hg] at hst
      rw [loop_stop hst, if_neg (by simp)]
    | some m =>
      rw [hg] at hst
      rw [loop_next hst, ih (k + 1) m (by omega) (by rw [goR_len hg]; exact hm)]
      simp only [Option.bind_some]
theorem impl_LimboSize_eq {l : List LList} (hn : l.length ≤ 1000) (h : (flatR l).length ≤ 1073741824) : impl_LimboSize l = some ((flatR l).length : Int) := by
  unfold impl_LimboSize
  have key : loop (impl_LimboSize_l1 l) (0, 0) = some ((flatR l).length : Int) := by
    refine enum_eq (f := impl_LimboSize_l1 l) l.length (fun k => (((flatR (l.take k)).length : Int), (k : Int))) _ (fun k hk => ?_) ?_
    · have h1 := flatR_le l (k + 1)
      rw [flatR_take hk, List.length_append] at h1
      simp only [impl_LimboSize_l1]
      rw [if_pos (by simp; omega), idx_nat hk]
      simp only [Option.bind_some]
      rw [w64_in (by omega) (by omega), w64_in (by omega) (by omega), flatR_take hk, List.length_append]
      simp
    · simp [impl_LimboSize_l1]
  rw [key]; rfl
theorem impl_LimboOk_eq {l : List LList} (h : (flatR l).length ≤ 1073741824) : impl_LimboOk l = some (decide (LimOk l)) := by
  unfold impl_LimboOk
  by_cases h3 : l.length = 3
  · have n1 : ((l.length : Int) != 3) = false := by simp; omega
    have hb : (1073741824 : Nat) ≤ maxLen := by simp [maxLen]
    simp only [n1, Bool.false_eq_true, if_false]
    have key := lim_l1_eq (l := l) (by omega) (fun s hs => by have := flatR_mem hs; omega) l.length 0 [false, false, false, false, false, false, false, false, false, false, false, false, false, false, false, false, false, false, false, false, false, false, false, false] (by omega) rfl
    rw [show ((0 : Nat) : Int) = 0 from rfl, List.drop_zero] at key
    rw [key]
    have hm0 : ∀ j : Nat, j < 24 → [false, false, false, false, false, false, false, false, false, false, false, false, false, false, false, false, false, false, false, false, false, false, false, false].getD j true = false := by decide
    have hiff : LimOk l ↔ (flatR l).length ≤ 24 ∧ (goR [false, false, false, false, false, false, false, false, false, false, false, false, false, false, false, false, false, false, false, false, false, false, false, false] (flatR l)).isSome = true := by
      rw [goR_some, goMet_some _ _ rfl]
      have hr : (∀ r ∈ flatR l, RowOk r) → ∀ x ∈ (flatR l).map slotR, 0 ≤ x ∧ x ≤ 23 := by
        intro q x hx
        obtain ⟨r, hr, rfl⟩ := List.mem_map.1 hx
        exact (q r hr).1.mod.2
      constructor
      · rintro ⟨_, q1, q2, q3⟩
        exact ⟨q1, q2, hr q2, q3, fun x hx => hm0 _ (by have := hr q2 x hx; omega)⟩
      · rintro ⟨q1, q2, _, q3, _⟩
        exact ⟨h3, q1, q2, q3⟩
    by_cases q : (goR [false, false, false, false, false, false, false, false, false, false, false, false, false, false, false, false, false, false, false, false, false, false, false, false] (flatR l)).isSome = true
    · rw [if_pos q]
      simp only [Option.bind_some, impl_LimboOk_m1, impl_LimboOk_j1]
      rw [impl_LimboSize_eq (by omega) h]
      simp only [Option.bind_some]
      congr 1
      rw [Bool.eq_iff_iff]; simp only [decide_eq_true_eq]
      rw [hiff]
      exact ⟨fun a => ⟨by omega, q⟩, fun a => by omega⟩
    · rw [if_neg q, decide_eq_false (fun x => q (hiff.1 x).2)]; rfl
  · have n1 : ((l.length : Int) != 3) = true := by simp; omega
    simp only [n1, if_true]
    rw [decide_eq_false (fun q : LimOk l => h3 q.1)]
def LinkOk (h : Int) : Prop := h = 0 ∨ HnOk h
instance (h : Int) : Decidable (LinkOk h) := by unfold LinkOk; infer_instance
def HzOk (z : List Int) : Prop := z.length = 3 ∧ ∀ h ∈ z, LinkOk h
instance (z : List Int) : Decidable (HzOk z) := by unfold HzOk; infer_instance
theorem spec_HazOk_eq {z : List Int} (hl : z.length ≤ maxLen) : spec_HazOk z = some (decide (HzOk z)) := by
  unfold spec_HazOk
  have hst : ∀ k (hk : k < z.length), spec_HazOk_l1 z (k : Int) = if LinkOk z[k] then some (.next ((k + 1 : Nat) : Int)) else some (.stop (Out.ret false)) := by
    intro k hk
    simp only [spec_HazOk_l1, spec_HazOk_j2]
    rw [if_pos (by simp; omega), idx_nat hk, w64_nat (lt_max hk hl)]
    simp only [Option.bind_some, spec_HandleOk_eq]
    generalize z[k] = x
    by_cases q : x = 0
    · have n : (x != 0) = false := by simp only [bne_eq_false_iff_eq]; exact q
      rw [n, if_pos (show LinkOk x from .inl q)]; rfl
    · have n : (x != 0) = true := by simp only [bne_iff_ne]; exact q
      by_cases q2 : HnOk x
      · rw [n, decide_eq_true q2, if_pos (show LinkOk x from .inr q2)]; rfl
      · rw [n, decide_eq_false q2, if_neg (fun a : LinkOk x => a.elim q q2)]; rfl
  have key := scan_list (f := spec_HazOk_l1 z) z (fun k => (k : Int)) LinkOk (Out.brk ()) (Out.ret false) (fun k hk hx => by rw [hst k hk, if_pos hx]) (fun k hk hx => by rw [hst k hk, if_neg hx]) (by simp [spec_HazOk_l1])
  rw [show ((0 : Nat) : Int) = 0 from rfl] at key
  rw [key]
  by_cases q : ∀ x ∈ z, LinkOk x
  · rw [if_pos q]
    have : HzOk z ↔ z.length = 3 := ⟨fun a => a.1, fun a => ⟨a, q⟩⟩
    simp only [Option.bind_some, spec_HazOk_m1, spec_HazOk_j1, this]
    congr 1; rw [Bool.eq_iff_iff]; simp only [beq_iff_eq, decide_eq_true_eq]; omega
  · rw [if_neg q, decide_eq_false (fun a : HzOk z => q a.2)]; rfl
theorem impl_HazOk_eq {z : List Int} (hl : z.length ≤ maxLen) : impl_HazOk z = some (decide (HzOk z)) := by
  unfold impl_HazOk impl_HazOk_j1
  have e : (fun y0 => impl_HazOk_1 y0) = fun y : Int => some (!decide (LinkOk y)) := by
    funext y
    unfold impl_HazOk_1 impl_isLink impl_isLink_j1
    rw [impl_HandleOk_eq]
    by_cases q : y = 0
    · have n : (y == 0) = true := by simp only [beq_iff_eq]; exact q
      rw [n, decide_eq_true (show LinkOk y from .inl q)]; rfl
    · have n : (y == 0) = false := by simp only [beq_eq_false_iff_ne]; exact q
      by_cases q2 : HnOk y
      · rw [n, decide_eq_true q2, decide_eq_true (show LinkOk y from .inr q2)]; rfl
      · rw [n, decide_eq_false q2, decide_eq_false (fun a : LinkOk y => a.elim q q2)]; rfl
  rw [e, contains_int hl, any_not]
  by_cases h3 : z.length = 3
  · have n : ((z.length : Int) == 3) = true := by simp; omega
    have : HzOk z ↔ ∀ h ∈ z, LinkOk h := ⟨fun a => a.2, fun a => ⟨h3, a⟩⟩
    simp only [n, if_true, Option.bind_some, Bool.not_not, this]
  · have n : ((z.length : Int) == 3) = false := by simp; omega
    simp only [n, Bool.false_eq_true, if_false]
    rw [decide_eq_false (fun a : HzOk z => h3 a.1)]
end Go.Gv
end
section
set_option linter.unusedVariables false
set_option linter.unusedSimpArgs false
set_option linter.unusedSectionVars false
namespace Go.Gv
theorem any_loop {α : Type} (l : List α) (f : α → Bool) {body : Int → Option (Step Int (Out Unit Int))} (hb : ∀ k (hk : k < l.length), body (k : Int) = if f l[k] then some (.stop (.ret (k : Int))) else some (.next ((k + 1 : Nat) : Int))) (he : body (l.length : Int) = some (.stop (.brk ()))) :
    ∃ o, loop body 0 = some o ∧ match o with | .brk _ => l.any f = false | .ret r => 0 ≤ r ∧ l.any f = true := by
  have key := enum_scan (f := body) l.length (fun k => (k : Int)) (fun k => if (l.drop k).any f then Out.ret ((k + (l.drop k).findIdx f : Nat) : Int) else Out.brk ()) (fun k hk => by
    by_cases h : k < l.length
    · have hd : l.drop k = l[k] :: l.drop (k + 1) := List.drop_eq_getElem_cons h
      rw [hb k h, hd]
      simp only [List.any_cons, List.findIdx_cons]
      by_cases h4 : f l[k] = true
      · left; simp [h4]
      · right
        have h4 : f l[k] = false := by simpa using h4
        refine ⟨h, by simp [h4], ?_⟩
        simp only [h4, Bool.false_or, cond_false]
        congr 2; omega
    · left
      obtain rfl : k = l.length := by omega
      rw [he]; simp) 0 (Nat.zero_le _)
  rw [show ((0 : Nat) : Int) = 0 from rfl, List.drop_zero] at key
  refine ⟨_, key, ?_⟩
  by_cases h : l.any f = true
  · rw [if_pos h]; exact ⟨by omega, h⟩
  · rw [if_neg h]; simpa using h
theorem contains_LRow {l : List LRow} (hl : l.length ≤ maxLen) (f : LRow → Bool) : slices_ContainsFunc_LRow l (fun x => some (f x)) = some (l.any f) := by
  obtain ⟨o, e, h⟩ := any_loop l f (body := slices_IndexFunc_LRow_l1 l (fun x => some (f x))) (fun k hk => by
    simp only [slices_IndexFunc_LRow_l1]
    rw [if_pos (by simp; omega), idx_nat hk, w64_nat (lt_max hk hl)]; rfl) (by simp [slices_IndexFunc_LRow_l1])
  unfold slices_ContainsFunc_LRow slices_IndexFunc_LRow
  rw [e]
  cases o with
  | brk u => simp only at h; simp [slices_IndexFunc_LRow_m1, slices_IndexFunc_LRow_j1, h]
  | ret r => simp only at h; simp [slices_IndexFunc_LRow_m1, h]
theorem contains_LList {l : List LList} (hl : l.length ≤ maxLen) (f : LList → Bool) (g : LList → Option Bool) (hg : ∀ x ∈ l, g x = some (f x)) : slices_ContainsFunc_LList l g = some (l.any f) := by
  obtain ⟨o, e, h⟩ := any_loop l f (body := slices_IndexFunc_LList_l1 l g) (fun k hk => by
    simp only [slices_IndexFunc_LList_l1]
    rw [if_pos (by simp; omega), idx_nat hk, w64_nat (lt_max hk hl)]
    simp only [Option.bind_some, hg _ (List.getElem_mem hk)]) (by simp [slices_IndexFunc_LList_l1])
  unfold slices_ContainsFunc_LList slices_IndexFunc_LList
  rw [e]
  cases o with
  | brk u => simp only at h; simp [slices_IndexFunc_LList_m1, slices_IndexFunc_LList_j1, h]
  | ret r => simp only at h; simp [slices_IndexFunc_LList_m1, h]
theorem contains_SList {l : List SList} (hl : l.length ≤ maxLen) (f : SList → Bool) (g : SList → Option Bool) (hg : ∀ x ∈ l, g x = some (f x)) : slices_ContainsFunc_SList l g = some (l.any f) := by
  obtain ⟨o, e, h⟩ := any_loop l f (body := slices_IndexFunc_SList_l1 l g) (fun k hk => by
    simp only [slices_IndexFunc_SList_l1]
    rw [if_pos (by simp; omega), idx_nat hk, w64_nat (lt_max hk hl)]
    simp only [Option.bind_some, hg _ (List.getElem_mem hk)]) (by simp [slices_IndexFunc_SList_l1])
  unfold slices_ContainsFunc_SList slices_IndexFunc_SList
  rw [e]
  cases o with
  | brk u => simp only at h; simp [slices_IndexFunc_SList_m1, slices_IndexFunc_SList_j1, h]
  | ret r => simp only at h; simp [slices_IndexFunc_SList_m1, h]
theorem contains_eq {l : List Int} (hl : l.length ≤ maxLen) (v : Int) : slices_Contains_int l v = some (decide (v ∈ l)) := by
  obtain ⟨o, e, h⟩ := any_loop l (fun x => v == x) (body := slices_Index_int_l1 l v) (fun k hk => by
    simp only [slices_Index_int_l1]
    rw [if_pos (by simp; omega), idx_nat hk, w64_nat (lt_max hk hl)]; rfl) (by simp [slices_Index_int_l1])
  have ha : l.any (fun x => v == x) = decide (v ∈ l) := by
    rw [Bool.eq_iff_iff]; simp
  rw [ha] at h
  unfold slices_Contains_int slices_Index_int
  rw [e]
  cases o with
  | brk u => simp only at h; simp [slices_Index_int_m1, slices_Index_int_j1, h]
  | ret r => simp only at h; simp [slices_Index_int_m1, h]
theorem mem_flatS {l : List SList} {x : Int} : x ∈ flatS l ↔ ∃ s ∈ l, x ∈ s.Slots := List.mem_flatMap
section
variable {m : Mem} (hsh : HShape m.Heap) (hl : (allS m.Lists).length ≤ 1073741824) (hg : m.Lists.Global.length ≤ maxLen) (ho : m.Lists.Own.length ≤ maxLen)
include hl hg ho
theorem spec_OnList_eq (s : Int) : spec_OnList m.Lists s = some (decide (s ∈ allS m.Lists)) := by
  have hb : (1073741824 : Nat) ≤ maxLen := by simp [maxLen]
  unfold spec_OnList
  rw [spec_l8All_eq hl hg ho]
  simp only [Option.bind_some]
  rw [spec_l8Has_eq (by omega)]; rfl
theorem impl_OnList_eq (s : Int) : impl_OnList m.Lists s = some (decide (s ∈ allS m.Lists)) := by
  have hb : (1073741824 : Nat) ≤ maxLen := by simp [maxLen]
  have hal := allS_len m.Lists
  have e1 : ∀ x ∈ m.Lists.Global, impl_OnList_1 x s = some (decide (s ∈ x.Slots)) := fun x hx => by
    have := flat_mem hx
    unfold impl_OnList_1; rw [contains_eq (by omega)]; rfl
  have e2 : ∀ x ∈ m.Lists.Own, impl_OnList_1 x s = some (decide (s ∈ x.Slots)) := fun x hx => by
    have := flat_mem hx
    unfold impl_OnList_1; rw [contains_eq (by omega)]; rfl
  unfold impl_OnList impl_OnList_j1
  rw [contains_SList hg (fun x => decide (s ∈ x.Slots)) _ e1, contains_SList ho (fun x => decide (s ∈ x.Slots)) _ e2]
  have a1 : (m.Lists.Global.any fun x => decide (s ∈ x.Slots)) = decide (s ∈ flatS m.Lists.Global) := by
    rw [Bool.eq_iff_iff]; simp [mem_flatS]
  have a2 : (m.Lists.Own.any fun x => decide (s ∈ x.Slots)) = decide (s ∈ flatS m.Lists.Own) := by
    rw [Bool.eq_iff_iff]; simp [mem_flatS]
  rw [a1, a2]
  simp only [Option.bind_some, allS, List.mem_append]
  by_cases q : s ∈ flatS m.Lists.Global <;> simp [q]
def stateS (m : Mem) (s : Int) : Int := if clsS m.Heap s < 0 then 0 else if s ∈ allS m.Lists then 1 else if 6 < genS m.Heap s then 2 else 3
include hsh
theorem spec_l9State_eq (s : Int) : spec_l9State m s = some (stateS m s) := by
  unfold spec_l9State stateS
  rw [spec_l7Class_eq hsh, spec_OnList_eq hl hg ho]
  simp only [Option.bind_some]
  by_cases q : clsS m.Heap s < 0
  · simp [q]
  · rw [spec_l7Gen_eq hsh (by omega)]
    by_cases q2 : s ∈ allS m.Lists
    · simp [q, q2]
    · by_cases q3 : 6 < genS m.Heap s <;> simp [q, q2, q3]
theorem impl_stateOf_eq (s : Int) : impl_stateOf m s = some (stateS m s) := by
  unfold impl_stateOf stateS
  rw [impl_classIn_eq hsh, impl_OnList_eq hl hg ho]
  simp only [Option.bind_some]
  by_cases q : clsS m.Heap s < 0
  · simp [q]
  · rw [impl_GenIn_eq hsh (by omega)]
    by_cases q2 : s ∈ allS m.Lists
    · simp [q, q2]
    · by_cases q3 : 6 < genS m.Heap s <;> simp [q, q2, q3]
def LiveS (m : Mem) (h : Int) : Prop := HnOk h ∧ stateS m (h % 32) = 3 ∧ genS m.Heap (h % 32) = h / 32
instance (m : Mem) (h : Int) : Decidable (LiveS m h) := by unfold LiveS; infer_instance
omit hl hg ho hsh in
theorem cls_of_used {m : Mem} {s : Int} (h : stateS m s = 3) : 0 ≤ clsS m.Heap s := by
  unfold stateS at h
  split at h
  · omega
  · omega
theorem spec_l9Valid_eq (h : Int) : spec_l9Valid m h = some (decide (LiveS m h)) := by
  unfold spec_l9Valid spec_l9Valid_j1
  rw [spec_HandleOk_eq, spec_HandleSlot_eq]
  by_cases q : HnOk h
  · have hm := q.mod
    rw [decide_eq_true q, if_pos q]
    simp only [Option.bind_some, if_true, spec_l9State_eq hsh hl hg ho]
    by_cases q2 : stateS m (h % 32) = 3
    · have n : (stateS m (h % 32) == 3) = true := by simpa using q2
      have eg : spec_HandleGen h = some (h / 32) := by
        unfold spec_HandleGen
        unfold HnOk at q
        rw [spec_HandleOk_eq, decide_eq_true (show HnOk h from q), tdiv_pos (by omega), w64_in (by omega) (by omega)]; rfl
      rw [n, spec_l7Gen_eq hsh (cls_of_used q2), eg]
      simp only [if_true, Option.bind_some]
      congr 1; rw [Bool.eq_iff_iff]; simp only [beq_iff_eq, decide_eq_true_eq]
      exact ⟨fun a => ⟨q, q2, a⟩, fun a => a.2.2⟩
    · have n : (stateS m (h % 32) == 3) = false := by simpa using q2
      rw [n, decide_eq_false (fun a : LiveS m h => q2 a.2.1)]; rfl
  · rw [decide_eq_false q, decide_eq_false (fun a : LiveS m h => q a.1)]; rfl
theorem impl_isLive_eq (h : Int) : impl_isLive m h = some (decide (LiveS m h)) := by
  unfold impl_isLive impl_isLive_j1
  rw [impl_HandleOk_eq]
  by_cases q : HnOk h
  · have hm := q.mod
    rw [decide_eq_true q, hm.1]
    simp only [Option.bind_some, if_true, impl_stateOf_eq hsh hl hg ho]
    by_cases q2 : stateS m (h % 32) = 3
    · have n : (stateS m (h % 32) == 3) = true := by simpa using q2
      have eg : w64 (Int.tdiv h 32) = h / 32 := by
        unfold HnOk at q
        rw [tdiv_pos (by omega), w64_in (by omega) (by omega)]
      rw [n, impl_GenIn_eq hsh (cls_of_used q2), eg]
      simp only [if_true, Option.bind_some]
      congr 1; rw [Bool.eq_iff_iff]; simp only [beq_iff_eq, decide_eq_true_eq]
      exact ⟨fun a => ⟨q, q2, a⟩, fun a => a.2.2⟩
    · have n : (stateS m (h % 32) == 3) = false := by simpa using q2
      rw [n, decide_eq_false (fun a : LiveS m h => q2 a.2.1)]; rfl
  · rw [decide_eq_false q, decide_eq_false (fun a : LiveS m h => q a.1)]; rfl
end
def RowLive (b : Base) (r : LRow) : Prop := LiveS b.Mem r.Handle ∧ r.Epoch ≤ b.Clock.Epoch
instance (b : Base) (r : LRow) : Decidable (RowLive b r) := by unfold RowLive; infer_instance
def BOkB (b : Base) : Prop := (MOk b.Mem ∧ COk b.Clock ∧ LimOk b.Limbo ∧ HzOk b.Haz) ∧ ∀ r ∈ flatR b.Limbo, RowLive b r
instance (b : Base) : Decidable (BOkB b) := by unfold BOkB; infer_instance
def SmallB (b : Base) : Prop := SmallM b.Mem ∧ b.Clock.Pins.length ≤ 1048576 ∧ b.Limbo.length ≤ 1048576 ∧ (flatR b.Limbo).length ≤ 1048576 ∧ b.Haz.length ≤ 1048576
section
variable {b : Base} (hf : b.Mem.Heap.Bytes.length ≤ maxLen ∧ (allS b.Mem.Lists).length ≤ 1073741824 ∧ b.Clock.Pins.length ≤ maxLen ∧ b.Limbo.length ≤ maxLen ∧ (flatR b.Limbo).length ≤ 1073741824 ∧ b.Haz.length ≤ maxLen)
include hf
theorem spec_BaseOk_eq : spec_BaseOk b = some (decide (BOkB b)) := by
  obtain ⟨f1, f2, f3, f4, f5, f6⟩ := hf
  unfold spec_BaseOk spec_BaseOk_j1
  rw [spec_MemOk_eq f1 f2, spec_ClockOk_eq, spec_LimboOk_eq f5 f4, spec_HazOk_eq f6]
  by_cases q1 : MOk b.Mem
  · by_cases q2 : COk b.Clock
    · by_cases q3 : LimOk b.Limbo
      · by_cases q4 : HzOk b.Haz
        · have hg : b.Mem.Lists.Global.length ≤ maxLen := by rw [q1.1.2.1]; simp [maxLen]
          have ho : b.Mem.Lists.Own.length ≤ maxLen := by rw [q1.1.2.2.1]; simp [maxLen]
          have hmx : (1073741824 : Nat) ≤ maxLen := by simp [maxLen]
          simp only [decide_eq_true q1, decide_eq_true q2, decide_eq_true q3, decide_eq_true q4, Option.bind_some, Bool.not_true, Bool.false_eq_true, if_false]
          rw [spec_l11All_eq f5 f4]
          simp only [Option.bind_some]
          have hst : ∀ k (hk : k < (flatR b.Limbo).length), spec_BaseOk_l2 b (flatR b.Limbo) (k : Int) = if RowLive b (flatR b.Limbo)[k] then some (.next ((k + 1 : Nat) : Int)) else some (.stop (Out.ret false)) := by
            intro k hk
            simp only [spec_BaseOk_l2, spec_BaseOk_j3]
            rw [if_pos (by simp; omega), idx_nat hk, w64_nat (show k < maxLen by omega)]
            generalize (flatR b.Limbo)[k] = r
            simp only [Option.bind_some, spec_l9Valid_eq q1.1.1.1 f2 hg ho]
            by_cases a1 : LiveS b.Mem r.Handle
            · rw [decide_eq_true a1]
              simp only [Bool.not_true, Bool.false_eq_true, if_false]
              by_cases a2 : r.Epoch ≤ b.Clock.Epoch
              · rw [if_neg (by simp; omega), if_pos ⟨a1, a2⟩]
              · rw [if_pos (by simp; omega), if_neg (fun x => a2 x.2)]
            · rw [decide_eq_false a1]
              simp only [Bool.not_false, if_true]
              rw [if_neg (fun x => a1 x.1)]
          have key := scan_list (f := spec_BaseOk_l2 b (flatR b.Limbo)) (flatR b.Limbo) (fun k => (k : Int)) (RowLive b) (Out.brk ()) (Out.ret false) (fun k hk hx => by rw [hst k hk, if_pos hx]) (fun k hk hx => by rw [hst k hk, if_neg hx]) (by simp [spec_BaseOk_l2])
          rw [show ((0 : Nat) : Int) = 0 from rfl] at key
          rw [key]
          by_cases q : ∀ r ∈ flatR b.Limbo, RowLive b r
          · rw [if_pos q, decide_eq_true (show BOkB b from ⟨⟨q1, q2, q3, q4⟩, q⟩)]; rfl
          · rw [if_neg q, decide_eq_false (fun x : BOkB b => q x.2)]; rfl
        · rw [decide_eq_false (fun x : BOkB b => q4 x.1.2.2.2), decide_eq_true q1, decide_eq_true q2, decide_eq_true q3, decide_eq_false q4]; rfl
      · rw [decide_eq_false (fun x : BOkB b => q3 x.1.2.2.1), decide_eq_true q1, decide_eq_true q2, decide_eq_false q3]; rfl
    · rw [decide_eq_false (fun x : BOkB b => q2 x.1.2.1), decide_eq_true q1, decide_eq_false q2]; rfl
  · rw [decide_eq_false (fun x : BOkB b => q1 x.1.1), decide_eq_false q1]; rfl
theorem impl_BaseOk_eq : impl_BaseOk b = some (decide (BOkB b)) := by
  obtain ⟨f1, f2, f3, f4, f5, f6⟩ := hf
  unfold impl_BaseOk impl_BaseOk_j1
  rw [impl_MemOk_eq f1 f2, impl_ClockOk_eq f3, impl_LimboOk_eq f5, impl_HazOk_eq f6]
  by_cases q1 : MOk b.Mem
  · by_cases q2 : COk b.Clock
    · by_cases q3 : LimOk b.Limbo
      · by_cases q4 : HzOk b.Haz
        · have hg : b.Mem.Lists.Global.length ≤ maxLen := by rw [q1.1.2.1]; simp [maxLen]
          have ho : b.Mem.Lists.Own.length ≤ maxLen := by rw [q1.1.2.2.1]; simp [maxLen]
          have hmx : (1073741824 : Nat) ≤ maxLen := by simp [maxLen]
          simp only [decide_eq_true q1, decide_eq_true q2, decide_eq_true q3, decide_eq_true q4, Option.bind_some, Bool.not_true, Bool.false_eq_true, if_false]
          have e1 : (fun y0 => impl_BaseOk_1_1 y0 b) = fun r : LRow => some (!decide (RowLive b r)) := by
            funext r
            unfold impl_BaseOk_1_1 impl_BaseOk_1_1_j1
            rw [impl_isLive_eq q1.1.1.1 f2 hg ho]
            by_cases a1 : LiveS b.Mem r.Handle
            · by_cases a2 : r.Epoch ≤ b.Clock.Epoch
              · rw [decide_eq_true a1, decide_eq_true (show RowLive b r from ⟨a1, a2⟩), decide_eq_false (show ¬ b.Clock.Epoch < r.Epoch by omega)]; rfl
              · rw [decide_eq_true a1, decide_eq_false (fun x : RowLive b r => a2 x.2), decide_eq_true (show b.Clock.Epoch < r.Epoch by omega)]; rfl
            · rw [decide_eq_false a1, decide_eq_false (fun x : RowLive b r => a1 x.1)]; rfl
          have e2 : ∀ l ∈ b.Limbo, (fun y0 => impl_BaseOk_1 y0 b) l = some (!decide (∀ r ∈ l.Rows, RowLive b r)) := fun l hl => by
            have := flatR_mem hl
            simp only [impl_BaseOk_1]
            rw [e1, contains_LRow (by omega), any_not]; rfl
          rw [contains_LList f4 _ _ e2, any_not]
          have hiff : BOkB b ↔ ∀ l ∈ b.Limbo, ∀ r ∈ l.Rows, RowLive b r := by
            constructor
            · intro x l hl r hr
              exact x.2 r (List.mem_flatMap.2 ⟨l, hl, hr⟩)
            · intro x
              refine ⟨⟨q1, q2, q3, q4⟩, fun r hr => ?_⟩
              obtain ⟨l, hl, hr⟩ := List.mem_flatMap.1 hr
              exact x l hl r hr
          simp only [Option.bind_some, Bool.not_not, hiff]
        · rw [decide_eq_false (fun x : BOkB b => q4 x.1.2.2.2), decide_eq_true q1, decide_eq_true q2, decide_eq_true q3, decide_eq_false q4]; rfl
      · rw [decide_eq_false (fun x : BOkB b => q3 x.1.2.2.1), decide_eq_true q1, decide_eq_true q2, decide_eq_false q3]; rfl
    · rw [decide_eq_false (fun x : BOkB b => q2 x.1.2.1), decide_eq_true q1, decide_eq_false q2]; rfl
  · rw [decide_eq_false (fun x : BOkB b => q1 x.1.1), decide_eq_false q1]; rfl
end
end Go.Gv
end
section
set_option linter.unusedVariables false
set_option linter.unusedSimpArgs false
set_option linter.unusedSectionVars false
namespace Go.Gv
theorem szMem_n {m : Mem} (hf : fit m) : ∃ x, laws_szMem m 1048576 = some x ∧ (¬ x < 0 → SmallM m ∧ x ≤ 1048576 ∧ 0 ≤ x) := by
  obtain ⟨x, h1, h2⟩ := szMem_eq hf
  have f1 : m.Heap.Bytes.length ≤ maxLen := hf.1.1.1
  have f2 : m.Heap.Class.length ≤ maxLen := hf.1.2.1
  have f3 : m.Lists.Global.length ≤ maxLen := hf.2.1.1
  have f4 : m.Lists.Own.length ≤ maxLen := hf.2.2.1
  have f5 : ∀ s ∈ m.Lists.Global, s.Slots.length ≤ maxLen := fun s h => (hf.2.1.2 s h).1
  have f6 : ∀ s ∈ m.Lists.Own, s.Slots.length ≤ maxLen := fun s h => (hf.2.2.2 s h).1
  refine ⟨x, h1, fun q => ⟨h2 q, ?_, by omega⟩⟩
  unfold laws_szMem laws_szHeap laws_szLists at h1
  obtain ⟨x1, a1, b1⟩ := szIntS_eq f1 (n := 1048576) (by omega) (by omega)
  rw [a1] at h1
  by_cases q1 : x1 < 0
  · simp [q1] at h1; omega
  · have b1 := b1 q1
    obtain ⟨x2, a2, b2⟩ := szIntS_eq f2 (n := x1) (by omega) (by omega)
    simp only [Option.bind_some, decide_eq_false q1, Bool.false_eq_true, if_false, a2] at h1
    by_cases q2 : x2 < 0
    · simp [q2] at h1; omega
    · have b2 := b2 q2
      obtain ⟨x3, a3, b3⟩ := szSListS_eq f3 f5 (n := x2) (by omega) (by omega)
      simp only [Option.bind_some, decide_eq_false q2, Bool.false_eq_true, if_false, a3] at h1
      by_cases q3 : x3 < 0
      · simp [q3] at h1; omega
      · have b3 := b3 q3
        obtain ⟨x4, a4, b4⟩ := szSListS_eq f4 f6 (n := x3) (by omega) (by omega)
        simp only [Option.bind_some, decide_eq_false q3, Bool.false_eq_true, if_false, a4] at h1
        by_cases q4 : x4 < 0
        · simp [q4] at h1; omega
        · have b4 := b4 q4
          simp [q4] at h1; omega
theorem szLRowS_eq {l : List LRow} (hl : l.length ≤ maxLen) {n : Int} (h0 : 0 ≤ n) (h1 : n ≤ 1048576) : ∃ x, laws_szLRowS l n = some x ∧ (¬ x < 0 → x = n - l.length ∧ 0 ≤ x) := by
  have hm : l.length ≤ 9223372036854775807 := hl
  unfold laws_szLRowS
  rw [w64_in (by omega) (by omega)]
  by_cases h : n - l.length < 0
  · exact ⟨-1, by simp [h], by omega⟩
  · exact ⟨n - l.length, by simp [h], fun _ => ⟨rfl, by omega⟩⟩
theorem szLListS_eq {l : List LList} (hl : l.length ≤ maxLen) (hs : ∀ s ∈ l, s.Rows.length ≤ maxLen) {n : Int} (h0 : 0 ≤ n) (h1 : n ≤ 1048576) : ∃ x, laws_szLListS l n = some x ∧ (¬ x < 0 → x = n - (l.length + (flatR l).length : Nat) ∧ 0 ≤ x) := by
  have hm : l.length ≤ 9223372036854775807 := hl
  unfold laws_szLListS
  rw [w64_in (by omega) (by omega)]
  by_cases h : n - l.length < 0
  · exact ⟨-1, by simp [h], by omega⟩
  · have key := loop_ind (f := laws_szLListS_l1 l) (fun s => (l.length : Int).toNat - s.2.toNat) (fun s => ∃ k : Nat, s.2 = (k : Int) ∧ k ≤ l.length ∧ s.1 = n - l.length - (flatR (l.take k)).length ∧ 0 ≤ s.1) (fun o => match o with | .brk x => x = n - (l.length + (flatR l).length : Nat) ∧ 0 ≤ x | .ret x => x = -1) (by
      rintro ⟨a, b⟩ ⟨k, rfl, hk, ha, ha0⟩
      simp only at ha ha0
      by_cases hk' : k < l.length
      · have hlen := hs _ (List.getElem_mem hk')
        have hf := flatR_take hk'
        have hfl : (flatR (l.take (k + 1))).length = (flatR (l.take k)).length + l[k].Rows.length := by rw [hf]; simp
        obtain ⟨x, e1, e2⟩ := szLRowS_eq hlen (n := a) ha0 (by omega)
        have e3 : laws_szLList l[k] a = some (if x < 0 then -1 else x) := by
          unfold laws_szLList; rw [e1]
          by_cases q : x < 0 <;> simp [q]
        simp only [laws_szLListS_l1]
        rw [if_pos (by simp; omega), idx_nat hk']
        simp only [Option.bind_some, e3]
        by_cases q : x < 0
        · left; exact ⟨.ret (-1), by simp [q], rfl⟩
        · right
          have := e2 q
          refine ⟨(x, ((k + 1 : Nat) : Int)), ?_, ⟨k + 1, rfl, by omega, by simp only; omega, by simp only; omega⟩, by simp only; omega⟩
          rw [w64_nat (lt_max hk' hl)]
          simp [q]
      · obtain rfl : k = l.length := by omega
        left
        refine ⟨.brk a, by simp [laws_szLListS_l1], ?_⟩
        rw [List.take_length] at ha
        exact ⟨by omega, ha0⟩) (n - l.length, 0) ⟨0, rfl, Nat.zero_le _, by simp [flatR], by simp only; omega⟩
    obtain ⟨o, e1, e2⟩ := key
    rw [if_neg (by simpa using h), e1]
    cases o with
    | brk x => exact ⟨x, rfl, fun _ => e2⟩
    | ret x => exact ⟨x, rfl, fun q => absurd (show x < 0 by have : x = -1 := e2; omega) q⟩
theorem szBase_eq {b : Base} (hf : fit b) : ∃ x, laws_szBase b 1048576 = some x ∧ (¬ x < 0 → SmallB b) := by
  have f1 : fit b.Mem := hf.1
  have f2 : b.Clock.Pins.length ≤ maxLen := hf.2.1.2.1
  have f3 : b.Limbo.length ≤ maxLen := hf.2.2.1.1
  have f4 : ∀ s ∈ b.Limbo, s.Rows.length ≤ maxLen := fun s h => (hf.2.2.1.2 s h).1
  have f5 : b.Haz.length ≤ maxLen := hf.2.2.2.1
  have f2' : b.Clock.Pins.length ≤ 9223372036854775807 := f2
  unfold laws_szBase
  obtain ⟨x1, a1, b1⟩ := szMem_n f1
  rw [a1]
  by_cases q1 : x1 < 0
  · exact ⟨-1, by simp [q1], fun h => absurd (by omega) h⟩
  · have b1 := b1 q1
    simp only [Option.bind_some, decide_eq_false q1, Bool.false_eq_true, if_false, laws_szClock]
    rw [szPinS_eq, w64_in (by omega) (by omega)]
    by_cases q2 : x1 - b.Clock.Pins.length < 0
    · exact ⟨-1, by simp [q2], fun h => absurd (by omega) h⟩
    · obtain ⟨x3, a3, b3⟩ := szLListS_eq f3 f4 (n := x1 - b.Clock.Pins.length) (by omega) (by omega)
      simp only [if_neg q2, Option.bind_some, decide_eq_false q2, Bool.false_eq_true, if_false, a3]
      by_cases q3 : x3 < 0
      · exact ⟨-1, by simp [q3], fun h => absurd (by omega) h⟩
      · have b3 := b3 q3
        obtain ⟨x4, a4, b4⟩ := szIntS_eq f5 (n := x3) (by omega) (by omega)
        simp only [Option.bind_some, decide_eq_false q3, Bool.false_eq_true, if_false, a4]
        by_cases q4 : x4 < 0
        · exact ⟨-1, by simp [q4], fun h => absurd (by omega) h⟩
        · have b4 := b4 q4
          refine ⟨x4, by simp [q4], fun _ => ⟨b1.1, by omega, by omega, by omega, by omega⟩⟩
theorem toLRowS_eq {l : List LRow} (hl : l.length ≤ 1048576) : laws_toLRowS l = some l := by
  unfold laws_toLRowS
  rw [need_yes (by omega), Int.toNat_natCast, copy_loop l id]
  · simp [laws_toLRowS_m1, laws_toLRowS_j1]
  · intro acc k hk he
    simp only [laws_toLRowS_l1]
    rw [if_pos (by simp; omega), idx_nat hk]
    simp only [Option.bind_some, laws_toLRow]
    rw [idx_nat (by omega)]
    simp only [Option.bind_some]
    rw [w64_in (by omega) (by omega)]
    simp
  · intro acc
    simp [laws_toLRowS_l1]
theorem toLListS_eq {l : List LList} (hl : l.length ≤ 1048576) (hs : ∀ s ∈ l, s.Rows.length ≤ 1048576) : laws_toLListS l = some l := by
  unfold laws_toLListS
  rw [need_yes (by omega), Int.toNat_natCast, copy_loop l id]
  · simp [laws_toLListS_m1, laws_toLListS_j1]
  · intro acc k hk he
    simp only [laws_toLListS_l1]
    rw [if_pos (by simp; omega), idx_nat hk]
    simp only [Option.bind_some, laws_toLList, toLRowS_eq (hs _ (List.getElem_mem hk))]
    rw [idx_nat (by omega)]
    simp only [Option.bind_some]
    rw [w64_in (by omega) (by omega)]
    simp
  · intro acc
    simp [laws_toLListS_l1]
theorem SmallB.rows {b : Base} (h : SmallB b) : ∀ s ∈ b.Limbo, s.Rows.length ≤ 1048576 := fun s hs => by
  have := flatR_mem hs; have := h.2.2.2.1; omega
theorem toBase_eq {b : Base} (h : SmallB b) : laws_toBase b = some b := by
  unfold laws_toBase
  rw [toMem_eq h.1, toClock_eq h.2.1, toLListS_eq h.2.2.1 h.rows, toIntS_eq h.2.2.2.2]; rfl
end Go.Gv
end
section
set_option linter.unusedVariables false
set_option linter.unusedSimpArgs false
set_option linter.unusedSectionVars false
namespace Go.Gv
theorem eqLRowS_self {l : List LRow} (hl : l.length ≤ maxLen) : laws_eqLRowS l l = some true := by
  unfold laws_eqLRowS
  have key : loop (laws_eqLRowS_l1 l l) 0 = some (Out.brk ()) := by
    refine enum_eq (f := laws_eqLRowS_l1 l l) l.length (fun k => (k : Int)) _ (fun k hk => ?_) ?_
    · simp only [laws_eqLRowS_l1]
      rw [if_pos (by simp; omega), idx_nat hk, w64_nat (lt_max hk hl)]
      simp [laws_eqLRow]
    · simp [laws_eqLRowS_l1]
  simp [key, laws_eqLRowS_m1, laws_eqLRowS_j1]
theorem eqLListS_self {l : List LList} (hl : l.length ≤ maxLen) (hs : ∀ s ∈ l, s.Rows.length ≤ maxLen) : laws_eqLListS l l = some true := by
  unfold laws_eqLListS
  have key : loop (laws_eqLListS_l1 l l) 0 = some (Out.brk ()) := by
    refine enum_eq (f := laws_eqLListS_l1 l l) l.length (fun k => (k : Int)) _ (fun k hk => ?_) ?_
    · simp only [laws_eqLListS_l1]
      rw [if_pos (by simp; omega), idx_nat hk]
      simp only [Option.bind_some, laws_eqLList, eqLRowS_self (hs _ (List.getElem_mem hk))]
      rw [w64_nat (lt_max hk hl)]; rfl
    · simp [laws_eqLListS_l1]
  simp [key, laws_eqLListS_m1, laws_eqLListS_j1]
theorem eqBase_self {b : Base} (h : SmallB b) : laws_eqBase b b = some true := by
  have hb : (1048576 : Nat) ≤ maxLen := by simp [maxLen]
  have h2 := h.2.1; have h3 := h.2.2.1; have h4 := h.2.2.2.1; have h5 := h.2.2.2.2
  unfold laws_eqBase
  rw [eqMem_self h.1, eqClock_self (by omega), eqLListS_self (by omega) (fun s hs => by have := flatR_mem hs; omega), eqIntS_self (by omega)]; rfl
end Go.Gv
end
section
set_option linter.unusedVariables false
set_option linter.unusedSimpArgs false
set_option linter.unusedSectionVars false
namespace Go.Gv
def seqI (k : Int) (n : Nat) : List Int := (List.range n).map fun j : Nat => k + j
theorem seqI_len (k : Int) (n : Nat) : (seqI k n).length = n := by simp [seqI]
theorem seqI_succ (k : Int) (n : Nat) : seqI k (n + 1) = seqI k n ++ [k + n] := by simp [seqI, List.range_succ]
theorem markIntS_eq {l : List Int} {k : Int} (hl : l.length ≤ 1073741824) (h0 : 0 ≤ k) (h1 : k ≤ 4611686018427387904) : laws_markIntS l k = some (k + l.length, seqI k l.length) := by
  unfold laws_markIntS
  have key : loop laws_markIntS_l1 (l, k, 0) = some (seqI k l.length, k + l.length) := by
    have := enum_eq (f := laws_markIntS_l1) l.length (fun i => (seqI k i ++ l.drop i, k + i, (i : Int))) (seqI k l.length, k + l.length) (fun i hi => ?_) ?_
    · simpa [seqI] using this
    · have hlen : (seqI k i ++ l.drop i).length = l.length := by rw [List.length_append, seqI_len, List.length_drop]; omega
      have hd : l.drop i = l[i] :: l.drop (i + 1) := List.drop_eq_getElem_cons hi
      simp only [laws_markIntS_l1]
      rw [if_pos (by rw [hlen]; simp; omega), idx_nat (by omega)]
      simp only [Option.bind_some, Int.toNat_natCast]
      rw [List.set_append_right _ _ (by rw [seqI_len]; exact Nat.le_refl _), seqI_len, Nat.sub_self, hd, List.set_cons_zero, seqI_succ, w64_in (x := k + i + 1) (by omega) (by omega), w64_in (by omega) (by omega), List.append_assoc]
      have : k + (i : Int) + 1 = k + ((i + 1 : Nat) : Int) := by omega
      rw [this]; rfl
    · have hlen : (seqI k l.length ++ l.drop l.length).length = l.length := by rw [List.length_append, seqI_len, List.length_drop]; omega
      simp only [laws_markIntS_l1]
      rw [if_neg (by rw [hlen]; simp), List.drop_length, List.append_nil]
  rw [key]; rfl
theorem heldIntS_eq {k : Int} {n : Nat} (hn : n ≤ 1073741824) (h0 : 0 ≤ k) (h1 : k ≤ 4611686018427387904) : laws_heldIntS (seqI k n) k = some (k + n) := by
  unfold laws_heldIntS
  have key : loop (laws_heldIntS_l1 (seqI k n)) (k, 0) = some (.brk (k + n)) := by
    have := enum_eq (f := laws_heldIntS_l1 (seqI k n)) n (fun i => (k + i, (i : Int))) (.brk (k + n)) (fun i hi => ?_) ?_
    · simpa using this
    · have hi' : i < (seqI k n).length := by rw [seqI_len]; exact hi
      have hg : (seqI k n)[i] = k + i := by simp [seqI]
      simp only [laws_heldIntS_l1]
      rw [if_pos (by rw [seqI_len]; simp; omega), idx_nat hi', hg]
      simp only [Option.bind_some, bne_self_eq_false, Bool.false_eq_true, if_false]
      rw [w64_in (x := k + i + 1) (by omega) (by omega), w64_in (by omega) (by omega)]
      have : k + (i : Int) + 1 = k + ((i + 1 : Nat) : Int) := by omega
      rw [this]; rfl
    · simp only [laws_heldIntS_l1]
      rw [if_neg (by rw [seqI_len]; simp)]
  rw [key]; rfl
def seqL : Int → List SList → List SList
  | _, [] => []
  | k, s :: r => ⟨seqI k s.Slots.length⟩ :: seqL (k + s.Slots.length) r
theorem seqL_len : ∀ (k : Int) (l : List SList), (seqL k l).length = l.length
  | _, [] => rfl
  | k, s :: r => by simp [seqL, seqL_len]
theorem seqL_append : ∀ (k : Int) (a b : List SList), seqL k (a ++ b) = seqL k a ++ seqL (k + (flatS a).length) b
  | k, [], b => by simp [seqL, flatS]
  | k, s :: r, b => by
    simp only [List.cons_append, seqL, seqL_append _ r b]
    congr 3
    have : flatS (s :: r) = s.Slots ++ flatS r := by simp [flatS]
    rw [this, List.length_append]; omega
theorem seqL_take {k : Int} {l : List SList} {i : Nat} (hi : i < l.length) : seqL k (l.take (i + 1)) = seqL k (l.take i) ++ [⟨seqI (k + (flatS (l.take i)).length) l[i].Slots.length⟩] := by
  rw [List.take_succ_eq_append_getElem hi, seqL_append]; rfl
theorem markSListS_eq {l : List SList} {k : Int} (hl : l.length ≤ 1073741824) (hf : (flatS l).length ≤ 1073741824) (h0 : 0 ≤ k) (h1 : k ≤ 1000000000000) : laws_markSListS l k = some (k + (flatS l).length, seqL k l) := by
  unfold laws_markSListS
  have key : loop laws_markSListS_l1 (l, k, 0) = some (seqL k l, k + (flatS l).length) := by
    have := enum_eq (f := laws_markSListS_l1) l.length (fun i => (seqL k (l.take i) ++ l.drop i, k + (flatS (l.take i)).length, (i : Int))) (seqL k l, k + (flatS l).length) (fun i hi => ?_) ?_
    · simpa [seqL, flatS, -List.length_flatMap] using this
    · have hll : (seqL k (l.take i)).length = i := by rw [seqL_len, List.length_take]; omega
      have hlen : (seqL k (l.take i) ++ l.drop i).length = l.length := by rw [List.length_append, hll, List.length_drop]; omega
      have hd : l.drop i = l[i] :: l.drop (i + 1) := List.drop_eq_getElem_cons hi
      have hgi := flat_get l hi
      have hfi := flat_le l i
      have hft : (flatS (l.take (i + 1))).length = (flatS (l.take i)).length + l[i].Slots.length := by rw [flat_take hi, List.length_append]
      have hget : (seqL k (l.take i) ++ l.drop i)[i]'(by omega) = l[i] := by
        rw [List.getElem_append_right (by omega)]; simp [hll]
      simp only [laws_markSListS_l1]
      rw [if_pos (by rw [hlen]; simp; omega), idx_nat (by omega), hget]
      simp only [Option.bind_some, Int.toNat_natCast]
      rw [markIntS_eq (by omega) (by omega) (by omega)]
      simp only [Option.bind_some]
      rw [List.set_append_right _ _ (by omega), hll, Nat.sub_self, hd, List.set_cons_zero, seqL_take hi, w64_in (by omega) (by omega), List.append_assoc]
      have : k + ((flatS (l.take i)).length : Int) + (l[i].Slots.length : Int) = k + ((flatS (l.take (i + 1))).length : Int) := by omega
      rw [this]; rfl
    · have hlen : (seqL k (l.take l.length) ++ l.drop l.length).length = l.length := by rw [List.length_append, seqL_len, List.length_take, List.length_drop]; omega
      simp only [laws_markSListS_l1]
      rw [if_neg (by rw [hlen]; simp), List.drop_length, List.append_nil, List.take_length]
  rw [key]; rfl
theorem heldSListS_eq {l : List SList} {k : Int} (hl : l.length ≤ 1073741824) (hf : (flatS l).length ≤ 1073741824) (h0 : 0 ≤ k) (h1 : k ≤ 1000000000000) : laws_heldSListS (seqL k l) k = some (k + (flatS l).length) := by
  unfold laws_heldSListS
  have key : loop (laws_heldSListS_l1 (seqL k l)) (k, 0) = some (.brk (k + (flatS l).length)) := by
    have := enum_eq (f := laws_heldSListS_l1 (seqL k l)) l.length (fun i => (k + (flatS (l.take i)).length, (i : Int))) (.brk (k + (flatS l).length)) (fun i hi => ?_) ?_
    · simpa [flatS, -List.length_flatMap] using this
    · have hgi := flat_get l hi
      have hfi := flat_le l i
      have hft : (flatS (l.take (i + 1))).length = (flatS (l.take i)).length + l[i].Slots.length := by rw [flat_take hi, List.length_append]
      have hi' : i < (seqL k l).length := by rw [seqL_len]; exact hi
      have hget : (seqL k l)[i] = ⟨seqI (k + (flatS (l.take i)).length) l[i].Slots.length⟩ := by
        have hsp : l = l.take i ++ l[i] :: l.drop (i + 1) := by rw [← List.drop_eq_getElem_cons hi, List.take_append_drop]
        have e : seqL k l = seqL k (l.take i) ++ (⟨seqI (k + (flatS (l.take i)).length) l[i].Slots.length⟩ :: seqL (k + (flatS (l.take i)).length + l[i].Slots.length) (l.drop (i + 1))) := by
          conv => lhs; rw [hsp]
          rw [seqL_append]; rfl
        have hll : (seqL k (l.take i)).length = i := by rw [seqL_len, List.length_take]; omega
        have : (seqL k l)[i]? = some ⟨seqI (k + (flatS (l.take i)).length) l[i].Slots.length⟩ := by
          rw [e, List.getElem?_append_right (by omega), hll, Nat.sub_self]; rfl
        rw [List.getElem?_eq_getElem hi'] at this
        exact Option.some.inj this
      simp only [laws_heldSListS_l1]
      rw [if_pos (by rw [seqL_len]; simp; omega), idx_nat hi', hget]
      simp only [Option.bind_some]
      rw [heldIntS_eq (by omega) (by omega) (by omega)]
      simp only [Option.bind_some]
      rw [if_neg (by simp only [decide_eq_true_eq]; omega), w64_in (by omega) (by omega)]
      have : k + ((flatS (l.take i)).length : Int) + (l[i].Slots.length : Int) = k + ((flatS (l.take (i + 1))).length : Int) := by omega
      rw [this]; rfl
    · simp only [laws_heldSListS_l1]
      rw [if_neg (by rw [seqL_len]; simp), List.take_length]
  rw [key]; rfl
theorem held_mark {m : Mem} (h : SmallM m) : ∃ n a b c d, laws_markMem m 1 = some (n, a, b, c, d) ∧ laws_heldMem ⟨⟨a, b⟩, ⟨c, d⟩⟩ 1 = some n ∧ 0 ≤ n := by
  have h1 := h.1; have h2 := h.2.1; have h3 := h.2.2.1; have h4 := h.2.2.2.1; have h5 := h.2.2.2.2
  have h6 := allS_len m.Lists
  unfold laws_markMem laws_markHeap laws_markLists laws_heldMem laws_heldHeap laws_heldLists
  rw [markIntS_eq (by omega) (by omega) (by omega)]
  simp only [Option.bind_some]
  rw [markIntS_eq (by omega) (by omega) (by omega)]
  simp only [Option.bind_some]
  rw [markSListS_eq (by omega) (by omega) (by omega) (by omega)]
  simp only [Option.bind_some]
  rw [markSListS_eq (by omega) (by omega) (by omega) (by omega)]
  simp only [Option.bind_some]
  refine ⟨_, _, _, _, _, rfl, ?_, ?_⟩
  · rw [heldIntS_eq (by omega) (by omega) (by omega)]
    simp only [Option.bind_some]
    rw [if_neg (by simp only [decide_eq_true_eq]; omega), heldIntS_eq (by omega) (by omega) (by omega)]
    simp only [Option.bind_some]
    rw [if_neg (by simp only [decide_eq_true_eq]; omega)]
    simp only [Option.bind_some]
    rw [if_neg (by simp only [decide_eq_true_eq]; omega), heldSListS_eq (by omega) (by omega) (by omega) (by omega)]
    simp only [Option.bind_some]
    rw [if_neg (by simp only [decide_eq_true_eq]; omega), heldSListS_eq (by omega) (by omega) (by omega) (by omega)]
    simp only [Option.bind_some]
    rw [if_neg (by simp only [decide_eq_true_eq]; omega)]
    simp only [Option.bind_some]
    rw [if_neg (by simp only [decide_eq_true_eq]; omega)]
  · omega
end Go.Gv
end
section
set_option linter.unusedVariables false
set_option linter.unusedSimpArgs false
set_option linter.unusedSectionVars false
namespace Go.Gv
def seqG {α : Type} (mk : Int → α) (c : Nat) (k : Int) (n : Nat) : List α := (List.range n).map fun j : Nat => mk (k + ((c * j : Nat) : Int))
section
variable {α : Type} {mk : Int → α} {c : Nat}
theorem seqG_len (k : Int) (n : Nat) : (seqG mk c k n).length = n := by simp [seqG]
theorem seqG_succ (k : Int) (n : Nat) : seqG mk c k (n + 1) = seqG mk c k n ++ [mk (k + ((c * n : Nat) : Int))] := by simp [seqG, List.range_succ]
theorem mark_loop {f : (List α × Int × Int) → Option (Step (List α × Int × Int) (List α × Int))} {l : List α} {k : Int} (hc : c ≤ 4) (hl : l.length ≤ 1073741824) (h0 : 0 ≤ k) (h1 : k ≤ 1000000000000)
    (hb : ∀ (l : List α) (k : Int) (i : Nat), i < l.length → l.length ≤ 1073741824 → 0 ≤ k → k ≤ 2000000000000 → f (l, k, (i : Int)) = some (.next (l.set i (mk k), k + c, ((i + 1 : Nat) : Int)))) (he : ∀ (l : List α) (k : Int), f (l, k, (l.length : Int)) = some (.stop (l, k))) :
    loop f (l, k, 0) = some (seqG mk c k l.length, k + ((c * l.length : Nat) : Int)) := by
  have hcm : ∀ i, i ≤ l.length → c * i ≤ 4 * 1073741824 := fun i hi => Nat.mul_le_mul hc (by omega)
  have := enum_eq (f := f) l.length (fun i => (seqG mk c k i ++ l.drop i, k + ((c * i : Nat) : Int), (i : Int))) (seqG mk c k l.length, k + ((c * l.length : Nat) : Int)) (fun i hi => ?_) ?_
  · simpa [seqG] using this
  · have hlen : (seqG mk c k i ++ l.drop i).length = l.length := by rw [List.length_append, seqG_len, List.length_drop]; omega
    have hd : l.drop i = l[i] :: l.drop (i + 1) := List.drop_eq_getElem_cons hi
    have hci := hcm i (by omega)
    rw [hb _ _ i (by omega) (by omega) (by omega) (by omega)]
    rw [List.set_append_right _ _ (by rw [seqG_len]; exact Nat.le_refl _), seqG_len, Nat.sub_self, hd, List.set_cons_zero, seqG_succ, List.append_assoc]
    have : k + ((c * i : Nat) : Int) + (c : Int) = k + ((c * (i + 1) : Nat) : Int) := by rw [Nat.mul_add]; omega
    rw [this]; rfl
  · have hlen : (seqG mk c k l.length ++ l.drop l.length).length = l.length := by rw [List.length_append, seqG_len, List.length_drop]; omega
    have := he (seqG mk c k l.length ++ l.drop l.length) (k + ((c * l.length : Nat) : Int))
    rw [hlen] at this
    rw [this, List.drop_length, List.append_nil]
theorem held_loop {f : (Int × Int) → Option (Step (Int × Int) (Out Int Int))} {k : Int} {n : Nat} (hc : c ≤ 4) (hn : n ≤ 1073741824) (h0 : 0 ≤ k) (h1 : k ≤ 1000000000000)
    (hb : ∀ (q : Int) (i : Nat) (hi : i < (seqG mk c k n).length), (seqG mk c k n)[i] = mk q → 0 ≤ q → q ≤ 2000000000000 → f (q, (i : Int)) = some (.next (q + c, ((i + 1 : Nat) : Int)))) (he : ∀ q : Int, f (q, (n : Int)) = some (.stop (.brk q))) :
    loop f (k, 0) = some (.brk (k + ((c * n : Nat) : Int))) := by
  have hcm : ∀ i, i ≤ n → c * i ≤ 4 * 1073741824 := fun i hi => Nat.mul_le_mul hc (by omega)
  have := enum_eq (f := f) n (fun i => (k + ((c * i : Nat) : Int), (i : Int))) (.brk (k + ((c * n : Nat) : Int))) (fun i hi => ?_) (he _)
  · simpa using this
  · have hci := hcm i (by omega)
    rw [hb (k + ((c * i : Nat) : Int)) i (by rw [seqG_len]; exact hi) (by simp [seqG]) (by omega) (by omega)]
    have : k + ((c * i : Nat) : Int) + (c : Int) = k + ((c * (i + 1) : Nat) : Int) := by rw [Nat.mul_add]; omega
    rw [this]
end
def mkPin (k : Int) : Pin := ⟨Int.tmod k 3 == 0, k + 1, Int.tmod (k + 2) 3 == 0, k + 3⟩
def mkRow (k : Int) : LRow := ⟨k, k + 1⟩
theorem markPinS_eq {l : List Pin} {k : Int} (hl : l.length ≤ 1073741824) (h0 : 0 ≤ k) (h1 : k ≤ 1000000000000) : laws_markPinS l k = some (k + ((4 * l.length : Nat) : Int), seqG mkPin 4 k l.length) := by
  unfold laws_markPinS
  rw [mark_loop (mk := mkPin) (c := 4) (by omega) hl h0 h1 ?_ ?_]
  · rfl
  · intro l k i hi hl h0 h1
    have e1 : w64 (k + 1) = k + 1 := w64_in (by omega) (by omega)
    have e2 : w64 (k + 1 + 1) = k + 2 := by rw [w64_in (by omega) (by omega)]; omega
    have e3 : w64 (k + 2 + 1) = k + 3 := by rw [w64_in (by omega) (by omega)]; omega
    have e4 : w64 (k + 3 + 1) = k + (4 : Nat) := by rw [w64_in (by omega) (by omega)]; omega
    simp only [laws_markPinS_l1, e1, e2, e3, e4, Int.toNat_natCast]
    rw [if_pos (by simp; omega), idx_nat hi]
    simp only [Option.bind_some]
    rw [idx_nat (by simpa using hi)]
    simp only [Option.bind_some]
    rw [idx_nat (by simpa using hi)]
    simp only [Option.bind_some]
    rw [idx_nat (by simpa using hi)]
    simp only [Option.bind_some, List.set_set, List.getElem_set_self]
    rw [w64_in (x := (i : Int) + 1) (by omega) (by omega)]; rfl
  · intro l k
    simp [laws_markPinS_l1]
theorem heldPinS_eq {k : Int} {n : Nat} (hn : n ≤ 1073741824) (h0 : 0 ≤ k) (h1 : k ≤ 1000000000000) : laws_heldPinS (seqG mkPin 4 k n) k = some (k + ((4 * n : Nat) : Int)) := by
  unfold laws_heldPinS
  rw [held_loop (mk := mkPin) (c := 4) (by omega) hn h0 h1 ?_ ?_]
  · rfl
  · intro q i hi hg hq0 hq1
    have hin : i < n := by rw [seqG_len] at hi; exact hi
    have e1 : w64 (q + 1) = q + 1 := w64_in (by omega) (by omega)
    have e2 : w64 (q + 1 + 1) = q + 2 := by rw [w64_in (by omega) (by omega)]; omega
    have e3 : w64 (q + 2 + 1) = q + 3 := by rw [w64_in (by omega) (by omega)]; omega
    have e4 : w64 (q + 3 + 1) = q + (4 : Nat) := by rw [w64_in (by omega) (by omega)]; omega
    simp only [laws_heldPinS_l1, e1, e2, e3, e4]
    rw [if_pos (by rw [seqG_len]; simp; omega), idx_nat hi, hg]
    simp only [Option.bind_some, mkPin, beq_self_eq_true, Bool.not_true, Bool.false_eq_true, if_false, bne_self_eq_false]
    rw [w64_in (by omega) (by omega)]; rfl
  · intro q
    simp only [laws_heldPinS_l1]
    rw [if_neg (by rw [seqG_len]; simp)]
theorem markLRowS_eq {l : List LRow} {k : Int} (hl : l.length ≤ 1073741824) (h0 : 0 ≤ k) (h1 : k ≤ 1000000000000) : laws_markLRowS l k = some (k + ((2 * l.length : Nat) : Int), seqG mkRow 2 k l.length) := by
  unfold laws_markLRowS
  rw [mark_loop (mk := mkRow) (c := 2) (by omega) hl h0 h1 ?_ ?_]
  · rfl
  · intro l k i hi hl h0 h1
    have e1 : w64 (k + 1) = k + 1 := w64_in (by omega) (by omega)
    have e2 : w64 (k + 1 + 1) = k + (2 : Nat) := by rw [w64_in (by omega) (by omega)]; omega
    simp only [laws_markLRowS_l1, e1, e2, Int.toNat_natCast]
    rw [if_pos (by simp; omega), idx_nat hi]
    simp only [Option.bind_some]
    rw [idx_nat (by simpa using hi)]
    simp only [Option.bind_some, List.set_set, List.getElem_set_self]
    rw [w64_in (x := (i : Int) + 1) (by omega) (by omega)]; rfl
  · intro l k
    simp [laws_markLRowS_l1]
theorem heldLRowS_eq {k : Int} {n : Nat} (hn : n ≤ 1073741824) (h0 : 0 ≤ k) (h1 : k ≤ 1000000000000) : laws_heldLRowS (seqG mkRow 2 k n) k = some (k + ((2 * n : Nat) : Int)) := by
  unfold laws_heldLRowS
  rw [held_loop (mk := mkRow) (c := 2) (by omega) hn h0 h1 ?_ ?_]
  · rfl
  · intro q i hi hg hq0 hq1
    have hin : i < n := by rw [seqG_len] at hi; exact hi
    have e1 : w64 (q + 1) = q + 1 := w64_in (by omega) (by omega)
    have e2 : w64 (q + 1 + 1) = q + (2 : Nat) := by rw [w64_in (by omega) (by omega)]; omega
    simp only [laws_heldLRowS_l1, e1, e2]
    rw [if_pos (by rw [seqG_len]; simp; omega), idx_nat hi, hg]
    simp only [Option.bind_some, mkRow, Bool.false_eq_true, if_false, bne_self_eq_false]
    rw [w64_in (by omega) (by omega)]; rfl
  · intro q
    simp only [laws_heldLRowS_l1]
    rw [if_neg (by rw [seqG_len]; simp)]
def seqR : Int → List LList → List LList
  | _, [] => []
  | k, s :: r => ⟨seqG mkRow 2 k s.Rows.length⟩ :: seqR (k + ((2 * s.Rows.length : Nat) : Int)) r
theorem seqR_len : ∀ (k : Int) (l : List LList), (seqR k l).length = l.length
  | _, [] => rfl
  | k, s :: r => by simp [seqR, seqR_len]
theorem seqR_append : ∀ (k : Int) (a b : List LList), seqR k (a ++ b) = seqR k a ++ seqR (k + ((2 * (flatR a).length : Nat) : Int)) b
  | k, [], b => by simp [seqR, flatR]
  | k, s :: r, b => by
    simp only [List.cons_append, seqR, seqR_append _ r b]
    congr 3
    have : flatR (s :: r) = s.Rows ++ flatR r := by simp [flatR]
    rw [this, List.length_append]; omega
theorem seqR_take {k : Int} {l : List LList} {i : Nat} (hi : i < l.length) : seqR k (l.take (i + 1)) = seqR k (l.take i) ++ [⟨seqG mkRow 2 (k + ((2 * (flatR (l.take i)).length : Nat) : Int)) l[i].Rows.length⟩] := by
  rw [List.take_succ_eq_append_getElem hi, seqR_append]; rfl
theorem markLListS_eq {l : List LList} {k : Int} (hl : l.length ≤ 1073741824) (hf : (flatR l).length ≤ 1073741824) (h0 : 0 ≤ k) (h1 : k ≤ 100000000000) : laws_markLListS l k = some (k + ((2 * (flatR l).length : Nat) : Int), seqR k l) := by
  unfold laws_markLListS
  have key : loop laws_markLListS_l1 (l, k, 0) = some (seqR k l, k + ((2 * (flatR l).length : Nat) : Int)) := by
    have := enum_eq (f := laws_markLListS_l1) l.length (fun i => (seqR k (l.take i) ++ l.drop i, k + ((2 * (flatR (l.take i)).length : Nat) : Int), (i : Int))) (seqR k l, k + ((2 * (flatR l).length : Nat) : Int)) (fun i hi => ?_) ?_
    · simpa [seqR, flatR, -List.length_flatMap] using this
    · have hll : (seqR k (l.take i)).length = i := by rw [seqR_len, List.length_take]; omega
      have hlen : (seqR k (l.take i) ++ l.drop i).length = l.length := by rw [List.length_append, hll, List.length_drop]; omega
      have hd : l.drop i = l[i] :: l.drop (i + 1) := List.drop_eq_getElem_cons hi
      have hgi := flatR_get l hi
      have hfi := flatR_le l i
      have hft : (flatR (l.take (i + 1))).length = (flatR (l.take i)).length + l[i].Rows.length := by rw [flatR_take hi, List.length_append]
      have hget : (seqR k (l.take i) ++ l.drop i)[i]'(by omega) = l[i] := by
        rw [List.getElem_append_right (by omega)]; simp [hll]
      simp only [laws_markLListS_l1]
      rw [if_pos (by rw [hlen]; simp; omega), idx_nat (by omega), hget]
      simp only [Option.bind_some, Int.toNat_natCast]
      rw [markLRowS_eq (by omega) (by omega) (by omega)]
      simp only [Option.bind_some]
      rw [List.set_append_right _ _ (by omega), hll, Nat.sub_self, hd, List.set_cons_zero, seqR_take hi, w64_in (by omega) (by omega), List.append_assoc]
      have : k + ((2 * (flatR (l.take i)).length : Nat) : Int) + ((2 * l[i].Rows.length : Nat) : Int) = k + ((2 * (flatR (l.take (i + 1))).length : Nat) : Int) := by omega
      rw [this]; rfl
    · have hlen : (seqR k (l.take l.length) ++ l.drop l.length).length = l.length := by rw [List.length_append, seqR_len, List.length_take, List.length_drop]; omega
      simp only [laws_markLListS_l1]
      rw [if_neg (by rw [hlen]; simp), List.drop_length, List.append_nil, List.take_length]
  rw [key]; rfl
theorem heldLListS_eq {l : List LList} {k : Int} (hl : l.length ≤ 1073741824) (hf : (flatR l).length ≤ 1073741824) (h0 : 0 ≤ k) (h1 : k ≤ 100000000000) : laws_heldLListS (seqR k l) k = some (k + ((2 * (flatR l).length : Nat) : Int)) := by
  unfold laws_heldLListS
  have key : loop (laws_heldLListS_l1 (seqR k l)) (k, 0) = some (.brk (k + ((2 * (flatR l).length : Nat) : Int))) := by
    have := enum_eq (f := laws_heldLListS_l1 (seqR k l)) l.length (fun i => (k + ((2 * (flatR (l.take i)).length : Nat) : Int), (i : Int))) (.brk (k + ((2 * (flatR l).length : Nat) : Int))) (fun i hi => ?_) ?_
    · simpa [flatR, -List.length_flatMap] using this
    · have hgi := flatR_get l hi
      have hfi := flatR_le l i
      have hft : (flatR (l.take (i + 1))).length = (flatR (l.take i)).length + l[i].Rows.length := by rw [flatR_take hi, List.length_append]
      have hi' : i < (seqR k l).length := by rw [seqR_len]; exact hi
      have hget : (seqR k l)[i] = ⟨seqG mkRow 2 (k + ((2 * (flatR (l.take i)).length : Nat) : Int)) l[i].Rows.length⟩ := by
        have hsp : l = l.take i ++ l[i] :: l.drop (i + 1) := by rw [← List.drop_eq_getElem_cons hi, List.take_append_drop]
        have e : seqR k l = seqR k (l.take i) ++ (⟨seqG mkRow 2 (k + ((2 * (flatR (l.take i)).length : Nat) : Int)) l[i].Rows.length⟩ :: seqR (k + ((2 * (flatR (l.take i)).length : Nat) : Int) + ((2 * l[i].Rows.length : Nat) : Int)) (l.drop (i + 1))) := by
          conv => lhs; rw [hsp]
          rw [seqR_append]; rfl
        have hll : (seqR k (l.take i)).length = i := by rw [seqR_len, List.length_take]; omega
        have : (seqR k l)[i]? = some ⟨seqG mkRow 2 (k + ((2 * (flatR (l.take i)).length : Nat) : Int)) l[i].Rows.length⟩ := by
          rw [e, List.getElem?_append_right (by omega), hll, Nat.sub_self]; rfl
        rw [List.getElem?_eq_getElem hi'] at this
        exact Option.some.inj this
      simp only [laws_heldLListS_l1]
      rw [if_pos (by rw [seqR_len]; simp; omega), idx_nat hi', hget]
      simp only [Option.bind_some]
      rw [heldLRowS_eq (by omega) (by omega) (by omega)]
      simp only [Option.bind_some]
      rw [if_neg (by simp only [decide_eq_true_eq]; omega), w64_in (by omega) (by omega)]
      have : k + ((2 * (flatR (l.take i)).length : Nat) : Int) + ((2 * l[i].Rows.length : Nat) : Int) = k + ((2 * (flatR (l.take (i + 1))).length : Nat) : Int) := by omega
      rw [this]; rfl
    · simp only [laws_heldLListS_l1]
      rw [if_neg (by rw [seqR_len]; simp), List.take_length]
  rw [key]; rfl
theorem held_mark_b {m : Mem} (h : SmallM m) : ∃ n a b c d, laws_markMem m 1 = some (n, a, b, c, d) ∧ laws_heldMem ⟨⟨a, b⟩, ⟨c, d⟩⟩ 1 = some n ∧ 0 ≤ n ∧ n ≤ 10000000 := by
  have h1 := h.1; have h2 := h.2.1; have h3 := h.2.2.1; have h4 := h.2.2.2.1; have h5 := h.2.2.2.2
  have h6 := allS_len m.Lists
  obtain ⟨n, a, b, c, d, e1, e2, e3⟩ := held_mark h
  refine ⟨n, a, b, c, d, e1, e2, e3, ?_⟩
  unfold laws_markMem laws_markHeap laws_markLists at e1
  rw [markIntS_eq (by omega) (by omega) (by omega)] at e1
  simp only [Option.bind_some] at e1
  rw [markIntS_eq (by omega) (by omega) (by omega)] at e1
  simp only [Option.bind_some] at e1
  rw [markSListS_eq (by omega) (by omega) (by omega) (by omega)] at e1
  simp only [Option.bind_some] at e1
  rw [markSListS_eq (by omega) (by omega) (by omega) (by omega)] at e1
  simp only [Option.bind_some, Option.some.injEq, Prod.mk.injEq] at e1
  omega
theorem heldB_mark {b : Base} (h : SmallB b) : ∃ x, laws_markBase b 1 = some x ∧ laws_heldBase ⟨⟨⟨x.2.1, x.2.2.1⟩, ⟨x.2.2.2.1, x.2.2.2.2.1⟩⟩, ⟨b.Clock.Epoch, x.2.2.2.2.2.1⟩, x.2.2.2.2.2.2.1, x.2.2.2.2.2.2.2⟩ 1 = some x.1 ∧ 0 ≤ x.1 := by
  have h2 := h.2.1; have h3 := h.2.2.1; have h4 := h.2.2.2.1; have h5 := h.2.2.2.2
  obtain ⟨n, p, q, c, d, e1, e2, e3, e4⟩ := held_mark_b h.1
  unfold laws_markBase laws_markClock laws_heldBase laws_heldClock
  rw [e1]
  simp only [Option.bind_some]
  rw [markPinS_eq (by omega) (by omega) (by omega)]
  simp only [Option.bind_some]
  rw [markLListS_eq (by omega) (by omega) (by omega) (by omega)]
  simp only [Option.bind_some]
  rw [markIntS_eq (by omega) (by omega) (by omega)]
  simp only [Option.bind_some]
  refine ⟨_, rfl, ?_, ?_⟩
  · simp only
    rw [e2]
    simp only [Option.bind_some]
    rw [if_neg (by simp only [decide_eq_true_eq]; omega), heldPinS_eq (by omega) (by omega) (by omega)]
    simp only [Option.bind_some]
    rw [if_neg (by simp only [decide_eq_true_eq]; omega)]
    simp only [Option.bind_some]
    rw [if_neg (by simp only [decide_eq_true_eq]; omega), heldLListS_eq (by omega) (by omega) (by omega) (by omega)]
    simp only [Option.bind_some]
    rw [if_neg (by simp only [decide_eq_true_eq]; omega), heldIntS_eq (by omega) (by omega) (by omega)]
    simp only [Option.bind_some]
    rw [if_neg (by simp only [decide_eq_true_eq]; omega)]
  · simp only; omega
end Go.Gv
end
section
set_option linter.unusedVariables false
set_option linter.unusedSimpArgs false
namespace Go.Gv
theorem app_loop {α : Type} {f : (List α × Int) → Option (Step (List α × Int) (List α))} (l : List α)
    (h : ∀ k (hk : k < l.length), f (l.take k, (k : Int)) = some (.next (l.take k ++ [l[k]], ((k + 1 : Nat) : Int)))) (he : f (l, (l.length : Int)) = some (.stop l)) : loop f ([], 0) = some l := by
  have := enum_eq (f := f) l.length (fun k => (l.take k, (k : Int))) l (fun k hk => by rw [h k hk, List.take_succ_eq_append_getElem hk]) (by rw [List.take_length]; exact he)
  simpa using this
theorem app_loop' {α : Type} {f : (Int × List α) → Option (Step (Int × List α) (List α))} (l : List α)
    (h : ∀ k (hk : k < l.length), f ((k : Int), l.take k) = some (.next (((k + 1 : Nat) : Int), l.take k ++ [l[k]]))) (he : f ((l.length : Int), l) = some (.stop l)) : loop f (0, []) = some l := by
  have := enum_eq (f := f) l.length (fun k => ((k : Int), l.take k)) l (fun k hk => by rw [h k hk, List.take_succ_eq_append_getElem hk]) (by rw [List.take_length]; exact he)
  simpa using this
theorem l3Copy_eq {l : List Int} (h : l.length ≤ 1073741824) : spec_l3Copy l = some l := by
  unfold spec_l3Copy; rw [need_yes (by simpa using h)]; rfl
theorem clone_int_eq {l : List Int} (h : l.length ≤ 1073741824) : slices_Clone_int l = some l := by
  unfold slices_Clone_int; rw [need_yes (by simpa using h)]; rfl
theorem clone_Pin_eq {l : List Pin} (h : l.length ≤ 1073741824) : slices_Clone_Pin l = some l := by
  unfold slices_Clone_Pin; rw [need_yes (by simpa using h)]; rfl
theorem clone_LRow_eq {l : List LRow} (h : l.length ≤ 1073741824) : slices_Clone_LRow l = some l := by
  unfold slices_Clone_LRow; rw [need_yes (by simpa using h)]; rfl
theorem l8Rows_eq {l : List SList} (hl : l.length ≤ 1048576) (hs : ∀ s ∈ l, s.Slots.length ≤ 1048576) : spec_l8Rows l = some l := by
  unfold spec_l8Rows
  rw [app_loop l]
  · rfl
  · intro k hk
    have := hs _ (List.getElem_mem hk)
    simp only [spec_l8Rows_l1]
    rw [if_pos (by simp; omega), idx_nat hk]
    simp only [Option.bind_some]
    rw [l3Copy_eq (by omega), Option.bind_some, need_yes (by simp; omega), w64_in (by omega) (by omega)]; rfl
  · simp [spec_l8Rows_l1]
theorem copyLists_eq {l : Lists} (h1 : l.Global.length ≤ 1048576) (h2 : l.Own.length ≤ 1048576) (h3 : ∀ s ∈ l.Global, s.Slots.length ≤ 1048576) (h4 : ∀ s ∈ l.Own, s.Slots.length ≤ 1048576) :
    spec_l8Copy l = some l ∧ impl_copyLists l = some l := by
  constructor
  · unfold spec_l8Copy; rw [l8Rows_eq h1 h3, l8Rows_eq h2 h4]; rfl
  · unfold impl_copyLists
    rw [app_loop' l.Global]
    · simp only [Option.bind_some, impl_copyLists_m1, impl_copyLists_j1]
      rw [app_loop' l.Own]
      · rfl
      · intro k hk
        have := h4 _ (List.getElem_mem hk)
        simp only [impl_copyLists_l2]
        rw [if_pos (by simp; omega), idx_nat hk]
        simp only [Option.bind_some]
        rw [clone_int_eq (by omega), Option.bind_some, need_yes (by simp; omega), impl_copyLists_j3, w64_in (by omega) (by omega)]; rfl
      · simp [impl_copyLists_l2]
    · intro k hk
      have := h3 _ (List.getElem_mem hk)
      simp only [impl_copyLists_l1]
      rw [if_pos (by simp; omega), idx_nat hk]
      simp only [Option.bind_some]
      rw [clone_int_eq (by omega), Option.bind_some, need_yes (by simp; omega), impl_copyLists_j4, w64_in (by omega) (by omega)]; rfl
    · simp [impl_copyLists_l1]
theorem copyHeap_eq {h : Heap} (h1 : h.Bytes.length ≤ 1048576) (h2 : h.Class.length ≤ 1048576) : spec_l7Copy h = some h ∧ impl_copyHeap h = some h := by
  constructor
  · unfold spec_l7Copy; rw [l3Copy_eq (by omega), l3Copy_eq (by omega)]; rfl
  · unfold impl_copyHeap; rw [clone_int_eq (by omega), clone_int_eq (by omega)]; rfl
theorem copyMem_eq {m : Mem} (h : SmallM m) : spec_l9Copy m = some m ∧ impl_copyMem m = some m := by
  have a := copyHeap_eq h.1 h.2.1
  have b := copyLists_eq h.2.2.1 h.2.2.2.1 h.slots.1 h.slots.2
  constructor
  · unfold spec_l9Copy; rw [a.1, b.1]; rfl
  · unfold impl_copyMem; rw [a.2, b.2]; rfl
theorem copyClock_eq {c : Clock} (h : c.Pins.length ≤ 1048576) : spec_l10Copy c = some c ∧ impl_copyClock c = some c := by
  constructor
  · unfold spec_l10Copy; rw [need_yes (by simp; omega)]; rfl
  · unfold impl_copyClock; rw [clone_Pin_eq (by omega)]; rfl
theorem copyLimbo_eq {l : List LList} (hl : l.length ≤ 1048576) (hs : ∀ s ∈ l, s.Rows.length ≤ 1048576) : spec_l11Copy l = some l ∧ impl_copyLimbo l = some l := by
  constructor
  · unfold spec_l11Copy
    rw [app_loop l]
    · rfl
    · intro k hk
      have := hs _ (List.getElem_mem hk)
      simp only [spec_l11Copy_l1]
      rw [if_pos (by simp; omega), idx_nat hk]
      simp only [Option.bind_some]
      rw [need_yes (by simp; omega), need_yes (by simp; omega), w64_in (by omega) (by omega)]; rfl
    · simp [spec_l11Copy_l1]
  · unfold impl_copyLimbo
    rw [app_loop l]
    · rfl
    · intro k hk
      have := hs _ (List.getElem_mem hk)
      simp only [impl_copyLimbo_l1]
      rw [if_pos (by simp; omega), idx_nat hk]
      simp only [Option.bind_some]
      rw [clone_LRow_eq (by omega), Option.bind_some, need_yes (by simp; omega), w64_in (by omega) (by omega)]; rfl
    · simp [impl_copyLimbo_l1]
theorem copyBase_eq {b : Base} (h : SmallB b) : spec_l13Copy b = some b ∧ impl_copyBase b = some b := by
  have m := copyMem_eq h.1
  have c := copyClock_eq h.2.1
  have l := copyLimbo_eq h.2.2.1 h.rows
  have := h.2.2.2.2
  constructor
  · unfold spec_l13Copy; rw [m.1, c.1, l.1, l3Copy_eq (by omega)]; rfl
  · unfold impl_copyBase; rw [m.2, c.2, l.2, clone_int_eq (by omega)]; rfl
end Go.Gv
end
section
set_option linter.unusedVariables false
set_option linter.unusedSimpArgs false
namespace Go.Gv
theorem isWorker_eq (w : Int) : impl_isWorker w = some (decide (0 ≤ w ∧ w ≤ 2)) := by
  unfold impl_isWorker; rw [within_eq]; rfl
section
variable {c : Clock} (hc : COk c) {w : Int} (hw : 0 ≤ w ∧ w ≤ 2)
include hc
theorem COk.small : c.Pins.length ≤ 1048576 ∧ c.Pins.length ≤ maxLen := by
  have := hc.2.1; simp only [maxLen]; omega
include hw
theorem pin_at : ∃ p, idx c.Pins w = some p ∧ POk c.Epoch p := by
  have h3 := hc.2.1
  rw [idx_in hw.1 (by omega)]
  exact ⟨_, rfl, hc.2.2 _ (List.getElem_mem _)⟩
theorem LookAt_eq (e : Int) : ∃ r, spec_LookAt c w e = some r ∧ impl_LookAt c w e = some r ∧ r.1.Pins.length = 3 ∧ r.1.Epoch = c.Epoch := by
  obtain ⟨p, hp, h1, ⟨hs0, hs1⟩, h2⟩ := pin_at hc hw
  have h3 := hc.2.1
  unfold spec_LookAt impl_LookAt
  rw [(copyClock_eq hc.small.1).1, (copyClock_eq hc.small.1).2, spec_ClockOk_eq, impl_ClockOk_eq hc.small.2, isWorker_eq, l1In_eq, decide_eq_true hc, decide_eq_true hw]
  simp only [Option.bind_some, Bool.not_true, Bool.false_eq_true, if_false, spec_LookAt_j1, impl_LookAt_j1, hp]
  cases h4 : p.On
  · exact ⟨_, rfl, rfl, h3, rfl⟩
  · cases h5 : p.Marked
    · by_cases h6 : p.Epoch = e
      · simp only [spec_LookAt_j2, impl_LookAt_j2, h6, beq_self_eq_true, if_true, Bool.not_true, Bool.false_eq_true, if_false]
        exact ⟨_, rfl, rfl, h3, rfl⟩
      · have h6' : (p.Epoch == e) = false := by simpa using h6
        simp only [spec_LookAt_j2, impl_LookAt_j2, h6', Bool.not_true, Bool.false_eq_true, if_false, hp, Option.bind_some]
        by_cases h7 : p.Seen = 2
        · simp only [h7, beq_self_eq_true, if_true, show ¬ ((2 : Int) < 2) by omega, decide_false, Bool.false_eq_true, if_false]
          exact ⟨_, rfl, rfl, by simpa using h3, rfl⟩
        · have h7' : (p.Seen == 2) = false := by simpa using h7
          simp only [h7', show p.Seen < 2 by omega, decide_true, if_true, Bool.false_eq_true, if_false]
          exact ⟨_, rfl, rfl, by simpa using h3, rfl⟩
    · exact ⟨_, rfl, rfl, h3, rfl⟩
theorem PinTo_eq (e : Int) : ∃ r, spec_PinTo c w e = some r ∧ impl_PinTo c w e = some r ∧ r.1.Pins.length = 3 ∧ (r.2 = false → r.1 = c) := by
  obtain ⟨p, hp, hpk⟩ := pin_at hc hw
  have h3 := hc.2.1
  unfold spec_PinTo impl_PinTo
  rw [(copyClock_eq hc.small.1).1, (copyClock_eq hc.small.1).2, spec_ClockOk_eq, impl_ClockOk_eq hc.small.2, isWorker_eq, l1In_eq, l1In_eq, within_eq, decide_eq_true hc, decide_eq_true hw]
  simp only [Option.bind_some, Bool.not_true, Bool.false_eq_true, if_false, spec_PinTo_j1, impl_PinTo_j1, hp]
  by_cases h : 0 ≤ e ∧ e ≤ c.Epoch
  · simp only [decide_eq_true h, Bool.not_true, Bool.false_eq_true, if_false]
    exact ⟨_, rfl, rfl, by simpa using h3, fun q => by cases q⟩
  · simp only [decide_eq_false h, Bool.not_false, if_true]
    exact ⟨_, rfl, rfl, h3, fun _ => rfl⟩
omit hw in
theorem Bump_eq (e : Int) : ∃ r, spec_Bump c e = some r ∧ impl_Bump c e = some r ∧ r.1.Pins.length = 3 := by
  have h3 := hc.2.1
  unfold spec_Bump impl_Bump
  rw [(copyClock_eq hc.small.1).1, (copyClock_eq hc.small.1).2, spec_ClockOk_eq, impl_ClockOk_eq hc.small.2, decide_eq_true hc]
  simp only [Option.bind_some, Bool.not_true, Bool.false_eq_true, if_false, spec_Bump_j1, impl_Bump_j1]
  by_cases h : c.Epoch = e
  · subst h
    simp only [bne_self_eq_false, Bool.false_eq_true, if_false]
    by_cases h : c.Epoch = 100000
    · simp only [h, beq_self_eq_true, if_true]; exact ⟨_, rfl, rfl, h3⟩
    · have h' : (c.Epoch == 100000) = false := by simpa using h
      simp only [h', Bool.false_eq_true, if_false]; exact ⟨_, rfl, rfl, h3⟩
  · have h' : (c.Epoch != e) = true := by simpa using h
    simp only [h', if_true]; exact ⟨_, rfl, rfl, h3⟩
end
theorem pin_eq {b : Base} (hc : COk b.Clock) {w : Int} (hw : 0 ≤ w ∧ w ≤ 2) (s : Sub) :
    ∃ x y, spec_l14Pin b w s = some (x, y) ∧ impl_Sub_pinStep s b w = some (y, x) ∧ ∃ cl, x = ⟨b.Mem, cl, b.Limbo, b.Haz⟩ ∧ cl.Pins.length = 3 := by
  obtain ⟨r, e1, e2, h3, h4⟩ := PinTo_eq hc hw s.E
  unfold spec_l14Pin impl_Sub_pinStep
  rw [e1, e2]
  simp only [spec_l14End, impl_Sub_finish, impl_Sub_pinStep_j1, Option.bind_some]
  by_cases p0 : s.Pc = 0
  · simp only [p0, beq_self_eq_true, if_true]; exact ⟨_, _, rfl, rfl, _, rfl, hc.2.1⟩
  · have p0' : (s.Pc == 0) = false := by simpa using p0
    simp only [p0', Bool.false_eq_true, if_false]
    by_cases p1 : s.Pc = 1
    · simp only [p1, beq_self_eq_true, if_true]
      cases h : r.2
      · rw [h4 h]; exact ⟨_, _, rfl, rfl, _, rfl, hc.2.1⟩
      · exact ⟨_, _, rfl, rfl, _, rfl, h3⟩
    · have p1' : (s.Pc == 1) = false := by simpa using p1
      simp only [p1', Bool.false_eq_true, if_false]
      by_cases p2 : s.Pc = 2
      · simp only [p2, beq_self_eq_true, if_true]
        by_cases q : b.Clock.Epoch = s.E
        · simp only [q, beq_self_eq_true, if_true]; exact ⟨_, _, rfl, rfl, _, rfl, hc.2.1⟩
        · have q' : (b.Clock.Epoch == s.E) = false := by simpa using q
          simp only [q', Bool.false_eq_true, if_false]; exact ⟨_, _, rfl, rfl, _, rfl, hc.2.1⟩
      · have p2' : (s.Pc == 2) = false := by simpa using p2
        simp only [p2', Bool.false_eq_true, if_false]; exact ⟨_, _, rfl, rfl, _, rfl, hc.2.1⟩
theorem advance_eq {b : Base} (hc : COk b.Clock) (s : Sub) :
    ∃ x y, spec_l14Advance b s = some (x, y) ∧ impl_Sub_advanceStep s b = some (y, x) ∧ ∃ cl, x = ⟨b.Mem, cl, b.Limbo, b.Haz⟩ ∧ cl.Pins.length = 3 := by
  obtain ⟨r2, e3, e4, h4⟩ := Bump_eq hc s.E
  unfold spec_l14Advance impl_Sub_advanceStep impl_Sub_advanceStep_j1
  rw [e3, e4, l1In_eq, isWorker_eq]
  simp only [spec_l14End, impl_Sub_finish, spec_l14Advance_j1, spec_l14Advance_j2, impl_Sub_advanceStep_j2, Option.bind_some]
  by_cases p0 : s.Pc = 0
  · simp only [p0, beq_self_eq_true, if_true]; exact ⟨_, _, rfl, rfl, _, rfl, hc.2.1⟩
  · have p0' : (s.Pc == 0) = false := by simpa using p0
    simp only [p0', Bool.false_eq_true, if_false]
    by_cases p1 : s.Pc = 1
    · simp only [p1, beq_self_eq_true, if_true, show ((1 : Int) == 2) = false from rfl, Bool.false_eq_true, if_false]
      by_cases hB : 0 ≤ s.B ∧ s.B ≤ 2
      · obtain ⟨r, e1, e2, h3, _⟩ := LookAt_eq hc hB s.E
        simp only [decide_eq_true hB, Bool.not_true, Bool.false_eq_true, if_false, if_true, e1, e2, Option.bind_some]
        cases h : r.2
        · exact ⟨_, _, rfl, rfl, _, rfl, h3⟩
        · by_cases q : w64 (s.B + 1) = 3
          · simp only [q, beq_self_eq_true, if_true, Bool.not_true, Bool.false_eq_true, if_false]; exact ⟨_, _, rfl, rfl, _, rfl, h3⟩
          · have q' : (w64 (s.B + 1) == 3) = false := by simpa using q
            simp only [q', Bool.not_true, Bool.false_eq_true, if_false]; exact ⟨_, _, rfl, rfl, _, rfl, h3⟩
      · simp only [decide_eq_false hB, Bool.not_false, Bool.false_eq_true, if_false, if_true]
        exact ⟨_, _, rfl, rfl, _, rfl, hc.2.1⟩
    · have p1' : (s.Pc == 1) = false := by simpa using p1
      simp only [p1', Bool.false_eq_true, if_false]
      by_cases p2 : s.Pc = 2
      · simp only [p2, beq_self_eq_true, if_true]
        cases h : r2.2
        · simp only [Bool.false_eq_true, if_false]; exact ⟨_, _, rfl, rfl, _, rfl, h4⟩
        · simp only [if_true]; exact ⟨_, _, rfl, rfl, _, rfl, h4⟩
      · have p2' : (s.Pc == 2) = false := by simpa using p2
        simp only [p2', Bool.false_eq_true, if_false]; exact ⟨_, _, rfl, rfl, _, rfl, hc.2.1⟩
end Go.Gv
end
section
set_option linter.unusedVariables false
set_option linter.unusedSimpArgs false
namespace Go.Gv
theorem pigeon : ∀ (n : Nat) (l : List Int), l.Nodup → (∀ x ∈ l, 0 ≤ x ∧ x < (n : Int)) → l.length ≤ n
  | 0, l, _, h => by
    cases l with
    | nil => simp
    | cons a t => have := h a (by simp); omega
  | n + 1, l, hn, h => by
    have ih := pigeon n (l.erase (n : Int)) (hn.erase _) (fun x hx => by
      have h1 := (hn.mem_erase_iff).1 hx
      have h2 := h x h1.2
      have := h1.1
      omega)
    have := List.length_erase (a := (n : Int)) (l := l)
    split at this <;> omega
theorem flatR_append (a b : List LList) : flatR (a ++ b) = flatR a ++ flatR b := by simp [flatR]
theorem flatS_append (a b : List SList) : flatS (a ++ b) = flatS a ++ flatS b := by simp [flatS]
theorem flatR_set {l : List LList} {k : Nat} (hk : k < l.length) (x : LList) : flatR (l.set k x) = flatR (l.take k) ++ (x.Rows ++ flatR (l.drop (k + 1))) := by
  rw [List.set_eq_take_append_cons_drop, if_pos hk, flatR_append]; simp [flatR]
theorem flatR_split {l : List LList} {k : Nat} (hk : k < l.length) : flatR l = flatR (l.take k) ++ (l[k].Rows ++ flatR (l.drop (k + 1))) := by
  conv => lhs; rw [← List.set_getElem_self hk, flatR_set hk]
theorem flatS_set {l : List SList} {k : Nat} (hk : k < l.length) (x : SList) : flatS (l.set k x) = flatS (l.take k) ++ (x.Slots ++ flatS (l.drop (k + 1))) := by
  rw [List.set_eq_take_append_cons_drop, if_pos hk, flatS_append]; simp [flatS]
theorem flatS_split {l : List SList} {k : Nat} (hk : k < l.length) : flatS l = flatS (l.take k) ++ (l[k].Slots ++ flatS (l.drop (k + 1))) := by
  conv => lhs; rw [← List.set_getElem_self hk, flatS_set hk]
def Held (l : List LList) (s : Int) : Prop := ∃ r ∈ flatR l, HnOk r.Handle ∧ r.Handle % 32 = s
instance (l : List LList) (s : Int) : Decidable (Held l s) := by unfold Held; infer_instance
section
variable {l : List LList} (hl : LimOk l)
include hl
theorem LimOk.small : (flatR l).length ≤ 1073741824 ∧ l.length ≤ maxLen ∧ l.length ≤ 1048576 ∧ ∀ s ∈ l, s.Rows.length ≤ 24 := by
  have := hl.1; have h2 := hl.2.1
  refine ⟨by omega, by simp only [maxLen]; omega, by omega, fun s hs => ?_⟩
  have := flatR_mem hs; omega
theorem spec_InLimbo_eq (s : Int) : spec_InLimbo l s = some (decide (Held l s)) := by
  have hm := hl.small
  unfold spec_InLimbo
  rw [spec_l11All_eq hm.1 hm.2.1, Option.bind_some]
  have key := scan_list (f := spec_InLimbo_l1 s (flatR l)) (flatR l) (fun k => (k : Int)) (fun r => ¬ (HnOk r.Handle ∧ r.Handle % 32 = s)) (Out.brk ()) (Out.ret true)
    (fun k hk hp => by
      have hk' := hl.2.1
      simp only [spec_InLimbo_l1, spec_InLimbo_j2]
      rw [if_pos (by simp; omega), idx_nat hk, w64_nat (show k < maxLen by simp only [maxLen]; omega)]
      simp only [Option.bind_some, spec_HandleOk_eq, spec_HandleSlot_eq]
      by_cases q : HnOk (flatR l)[k].Handle
      · have : ((flatR l)[k].Handle % 32 == s) = false := by simpa using fun a => hp ⟨q, a⟩
        simp [q, this]
      · simp [q])
    (fun k hk hp => by
      have hp := Classical.not_not.1 hp
      simp only [spec_InLimbo_l1, spec_InLimbo_j2]
      rw [if_pos (by simp; omega), idx_nat hk]
      simp [spec_HandleOk_eq, spec_HandleSlot_eq, hp.1, hp.2])
    (by simp [spec_InLimbo_l1])
  have key' : loop (spec_InLimbo_l1 s (flatR l)) 0 = _ := key
  rw [key']
  by_cases q : Held l s
  · rw [if_neg (fun a => by obtain ⟨r, hr, e⟩ := q; exact a r hr e), decide_eq_true q]; rfl
  · rw [if_pos (fun r hr e => q ⟨r, hr, e⟩), decide_eq_false q]; rfl
theorem impl_InLimbo_eq (s : Int) : impl_InLimbo l s = some (decide (Held l s)) := by
  have hm := hl.small
  unfold impl_InLimbo
  have e1 : ∀ (r : LRow), impl_InLimbo_1_1 r s = some (decide (HnOk r.Handle ∧ r.Handle % 32 = s)) := by
    intro r
    unfold impl_InLimbo_1_1 impl_InLimbo_1_1_j1
    rw [impl_HandleOk_eq]
    by_cases q : HnOk r.Handle
    · rw [q.mod.1]; simp [q]; rfl
    · simp [q]
  have e2 : ∀ x ∈ l, impl_InLimbo_1 x s = some (x.Rows.any fun r => decide (HnOk r.Handle ∧ r.Handle % 32 = s)) := by
    intro x hx
    unfold impl_InLimbo_1
    have : x.Rows.length ≤ maxLen := by have := hm.2.2.2 x hx; simp only [maxLen]; omega
    rw [show (fun y0 => impl_InLimbo_1_1 y0 s) = fun r => some (decide (HnOk r.Handle ∧ r.Handle % 32 = s)) from funext e1, contains_LRow this]; rfl
  rw [contains_LList hm.2.1 (fun x => x.Rows.any fun r => decide (HnOk r.Handle ∧ r.Handle % 32 = s)) _ e2]
  simp only [Option.bind_some]
  congr 1
  rw [Bool.eq_iff_iff, decide_eq_true_iff]
  simp only [List.any_eq_true, decide_eq_true_eq, Held, flatR, List.mem_flatMap]
  constructor
  · rintro ⟨x, hx, r, hr, h⟩; exact ⟨r, ⟨x, hx, hr⟩, h⟩
  · rintro ⟨r, ⟨x, hx, hr⟩, h⟩; exact ⟨x, hx, r, hr, h⟩
theorem LimOk.more {k : Nat} (hk : k < l.length) {r : LRow} (hr : RowOk r) (hn : ¬ Held l (r.Handle % 32)) : LimOk (l.set k ⟨l[k].Rows ++ [r]⟩) := by
  have e := flatR_set hk (⟨l[k].Rows ++ [r]⟩ : LList)
  have p : (flatR (l.set k ⟨l[k].Rows ++ [r]⟩)).Perm (r :: flatR l) := by
    rw [e, flatR_split hk]
    refine List.Perm.trans ?_ List.perm_middle
    simp only [List.append_assoc]
    exact List.Perm.append_left _ (by simp only [List.singleton_append]; exact (List.perm_middle (l₁ := l[k].Rows) (l₂ := flatR (l.drop (k + 1))) (a := r)))
  have h1 : ∀ x ∈ flatR (l.set k ⟨l[k].Rows ++ [r]⟩), RowOk x := fun x hx => by
    rcases List.mem_cons.1 (p.mem_iff.1 hx) with rfl | h
    · exact hr
    · exact hl.2.2.1 x h
  have h2 : ((flatR (l.set k ⟨l[k].Rows ++ [r]⟩)).map slotR).Nodup := by
    refine (List.Perm.nodup_iff (p.map slotR)).2 ?_
    rw [List.map_cons, List.nodup_cons]
    refine ⟨fun h => hn ?_, hl.2.2.2⟩
    obtain ⟨x, hx, e⟩ := List.mem_map.1 h
    exact ⟨x, hx, (hl.2.2.1 x hx).1, e⟩
  refine ⟨by simpa using hl.1, ?_, h1, h2⟩
  have := pigeon 24 _ h2 (fun x hx => by
    obtain ⟨y, hy, rfl⟩ := List.mem_map.1 hx
    have := (h1 y hy).1.mod
    unfold slotR; omega)
  simpa using this
end
theorem retire_eq {b : Base} (hb : BOkB b) (hs : SmallB b) {w : Int} (hw : 0 ≤ w ∧ w ≤ 2) (s : Sub) :
    ∃ x y, spec_l14Retire b w s = some (x, y) ∧ impl_Sub_retireStep s b w = some (y, x) ∧ ∃ L, x = ⟨b.Mem, b.Clock, L, b.Haz⟩ ∧ LimOk L := by
  have hL := hb.1.2.2.1
  have hm := hb.1.1
  have hlen : w.toNat < b.Limbo.length := by have := hL.1; omega
  have hx : idx b.Limbo w = some b.Limbo[w.toNat] := idx_in hw.1 (by omega)
  have hg : b.Mem.Lists.Global.length ≤ maxLen := by rw [hm.1.2.1]; simp [maxLen]
  have ho : b.Mem.Lists.Own.length ≤ maxLen := by rw [hm.1.2.2.1]; simp [maxLen]
  have hall : (allS b.Mem.Lists).length ≤ 1073741824 := by have := hs.1.2.2.2.2; omega
  have hrow := hL.small.2.2.2 _ (List.getElem_mem hlen)
  have he := hb.1.2.1.1
  unfold spec_l14Retire impl_Sub_retireStep impl_Sub_retireStep_j1
  rw [l1In_eq, within_eq, spec_l9Valid_eq hm.1.1.1 hall hg ho, impl_isLive_eq hm.1.1.1 hall hg ho, spec_HandleSlot_eq]
  simp only [spec_l14End, impl_Sub_finish, Option.bind_some, spec_l14Retire_j1, spec_l14Retire_j2, impl_Sub_retireStep_j2]
  by_cases p0 : s.Pc = 0
  · simp only [p0, beq_self_eq_true, if_true]; exact ⟨_, _, rfl, rfl, _, rfl, hL⟩
  · have p0' : (s.Pc == 0) = false := by simpa using p0
    simp only [p0', Bool.false_eq_true, if_false]
    by_cases p1 : s.Pc = 1
    · simp only [p1, beq_self_eq_true, bne_self_eq_false, Bool.false_eq_true, if_false, if_true]
      by_cases q1 : 0 ≤ s.E ∧ s.E ≤ b.Clock.Epoch
      · simp only [decide_eq_true q1, Bool.not_true, Bool.false_eq_true, if_false]
        by_cases q2 : LiveS b.Mem s.A
        · have hh := q2.1
          simp only [decide_eq_true q2, Bool.not_true, Bool.false_eq_true, if_false, if_pos hh, hh.mod.1, spec_InLimbo_eq hL, impl_InLimbo_eq hL, Option.bind_some]
          by_cases q3 : Held b.Limbo (s.A % 32)
          · simp only [decide_eq_true q3, if_true]; exact ⟨_, _, rfl, rfl, _, rfl, hL⟩
          · have hmore := hL.more hlen (r := ⟨s.A, s.E⟩) ⟨hh, q1.1, by simp only; omega⟩ q3
            have e : impl_RetireTo b.Limbo w s.A s.E = some (b.Limbo.set w.toNat ⟨b.Limbo[w.toNat].Rows ++ [⟨s.A, s.E⟩]⟩, true) := by
              unfold impl_RetireTo impl_RetireTo_j1
              rw [impl_LimboOk_eq hL.small.1, isWorker_eq, (copyLimbo_eq hL.small.2.2.1 (fun s h => by have := hL.small.2.2.2 s h; omega)).2]
              simp only [decide_eq_true hL, decide_eq_true hw, Option.bind_some, Bool.not_true, Bool.false_eq_true, if_false, hx]
              rw [need_yes (by simp; omega), impl_LimboOk_eq hmore.small.1, decide_eq_true hmore]; rfl
            simp only [decide_eq_false q3, Bool.false_eq_true, if_false, hx, e, Option.bind_some]
            rw [need_yes (by simp; omega)]
            exact ⟨_, _, rfl, rfl, _, rfl, hmore⟩
        · simp only [decide_eq_false q2, Bool.not_false, if_true]; exact ⟨_, _, rfl, rfl, _, rfl, hL⟩
      · simp only [decide_eq_false q1, Bool.not_false, if_true]; exact ⟨_, _, rfl, rfl, _, rfl, hL⟩
    · have p1' : (s.Pc == 1) = false := by simpa using p1
      have p1'' : (s.Pc != 1) = true := by simpa using p1
      simp only [p1', p1'', Bool.false_eq_true, if_false, if_true]; exact ⟨_, _, rfl, rfl, _, rfl, hL⟩
end Go.Gv
end
section
set_option linter.unusedVariables false
set_option linter.unusedSimpArgs false
namespace Go.Gv
def st4 (b : List Int) (a : Nat) (n : Int) : List Int := (((b.set a 0).set (a + 1) 0).set (a + 2) 0).set (a + 3) n
theorem st4_len (b : List Int) (a : Nat) (n : Int) : (st4 b a n).length = b.length := by simp [st4]
theorem st4_byte {b : List Int} (h : ByteL b) (a : Nat) {n : Int} (hn : 0 ≤ n ∧ n ≤ 255) : ByteL (st4 b a n) := by
  have key : ∀ {l : List Int} (i : Nat) (v : Int), ByteL l → 0 ≤ v ∧ v ≤ 255 → ByteL (l.set i v) := fun i v hl hv x hx => by
    rcases List.mem_or_eq_of_mem_set hx with h | rfl
    · exact hl x h
    · exact hv
  exact key _ _ (key _ _ (key _ _ (key _ _ h (by omega)) (by omega)) (by omega)) hn
theorem spec_l3Store_eq {b : List Int} {a : Nat} (h : a + 4 ≤ b.length) (hl : b.length ≤ 100000) {n : Int} (hn : 0 ≤ n ∧ n ≤ 255) : spec_l3Store b (a : Int) 4 n = some (st4 b a n) := by
  have st : ∀ (x : List Int) (m : Int) (k : Nat), x.length = b.length → 0 ≤ m ∧ m ≤ 255 → k < 4 → spec_l3Store_l1 (a : Int) (x, m, (k : Int)) = some (.next (x.set (a + k) m, 0, (k : Int) - 1)) := by
    intro x m k hx hm hk
    simp only [spec_l3Store_l1]
    have e : w64 ((a : Int) + (k : Int)) = ((a + k : Nat) : Int) := by rw [w64_in (by omega) (by omega)]; omega
    rw [if_pos (by simp), e, idx_nat (by omega), Int.toNat_natCast, tmod_pos hm.1, tdiv_pos hm.1, show m % 256 = m by omega, show m / 256 = 0 by omega, w64_in (by omega) (by omega), w64_in (by omega) (by omega)]; rfl
  unfold spec_l3Store
  rw [w64_in (by omega) (by omega), show ((4 : Int) - 1) = ((3 : Nat) : Int) from rfl,
    loop_next (st b n 3 rfl hn (by omega)), show (((3 : Nat) : Int) - 1) = ((2 : Nat) : Int) from rfl,
    loop_next (st _ 0 2 (by simp) (by omega) (by omega)), show (((2 : Nat) : Int) - 1) = ((1 : Nat) : Int) from rfl,
    loop_next (st _ 0 1 (by simp) (by omega) (by omega)), show (((1 : Nat) : Int) - 1) = ((0 : Nat) : Int) from rfl,
    loop_next (st _ 0 0 (by simp) (by omega) (by omega)), loop_stop (r := st4 b a n)]
  · rfl
  · simp only [spec_l3Store_l1]
    rw [if_neg (by simp)]
    congr 2
    unfold st4
    apply List.ext_getElem
    · simp
    · intro i h1 h2
      simp only [List.getElem_set, Nat.add_zero]
      repeat' split
      all_goals first | rfl | omega
theorem impl_Fixed_eq {n : Int} (hn : 0 ≤ n ∧ n ≤ 255) : impl_Fixed n 4 = some [0, 0, 0, u8 n] := by
  have st : ∀ (m : Int) (x : List UInt8) (k : Nat), x.length = 4 → 0 ≤ m ∧ m ≤ 255 → k < 4 → impl_Fixed_l2 (m, x, (k : Int)) = some (.next (0, x.set k (u8 m), (k : Int) - 1)) := by
    intro m x k hx hm hk
    simp only [impl_Fixed_l2]
    rw [if_pos (by simp), idx_nat (by omega), Int.toNat_natCast, show shrOp .i64 m 8 = 0 by rw [show (8 : Int) = ((8 : Nat) : Int) from rfl, shr_pos hm.1 (by omega)]; omega, w64_in (by omega) (by omega)]; rfl
  unfold impl_Fixed impl_isWidth
  rw [within_eq]
  have hw : IntKind.u64.wrap (w64 (8 * 4)) = 32 := by decide
  have hs : shlOp .i64 1 32 = 4294967296 := by decide
  simp only [Option.bind_some, show (1 : Int) ≤ 4 ∧ (4 : Int) ≤ 7 by omega, and_self, decide_true, Bool.not_true, Bool.false_eq_true, if_false, hw, hs]
  rw [if_neg (by simp; omega), need_yes (by omega)]
  unfold impl_Fixed_j1
  rw [decide_eq_false (by omega), if_neg (by simp), need_yes (by omega), w64_in (by omega) (by omega), show ((4 : Int) - 1) = ((3 : Nat) : Int) from rfl,
    loop_next (st n _ 3 (by simp) hn (by omega)), show (((3 : Nat) : Int) - 1) = ((2 : Nat) : Int) from rfl,
    loop_next (st 0 _ 2 (by simp) (by omega) (by omega)), show (((2 : Nat) : Int) - 1) = ((1 : Nat) : Int) from rfl,
    loop_next (st 0 _ 1 (by simp) (by omega) (by omega)), show (((1 : Nat) : Int) - 1) = ((0 : Nat) : Int) from rfl,
    loop_next (st 0 _ 0 (by simp) (by omega) (by omega)), loop_stop (r := [0, 0, 0, u8 n])]
  · rfl
  · simp only [impl_Fixed_l2]
    rw [if_neg (by simp)]; rfl
theorem u8_small {n : Int} (hn : 0 ≤ n ∧ n ≤ 255) : ((u8 n).toNat : Int) = n := by
  obtain ⟨m, rfl⟩ := Int.eq_ofNat_of_zero_le hn.1
  unfold u8
  rw [UInt8.toNat_ofNat']; omega
theorem impl_putNum_eq {b : List Int} {a : Nat} (h : a + 4 ≤ b.length) (hl : b.length ≤ 100000) {n : Int} (hn : 0 ≤ n ∧ n ≤ 255) : impl_putNum b (a : Int) [0, 0, 0, u8 n] = some (st4 b a n) := by
  have st : ∀ (x : List Int) (k : Nat) (v : UInt8), x.length = b.length → k < 4 → [0, 0, 0, u8 n][k]? = some v → impl_putNum_l1 (a : Int) [0, 0, 0, u8 n] (x, (k : Int)) = some (.next (x.set (a + k) (v.toNat : Int), ((k + 1 : Nat) : Int))) := by
    intro x k v hx hk hv
    simp only [impl_putNum_l1]
    have hk' : k < [0, 0, 0, u8 n].length := by simpa using hk
    have e : w64 ((a : Int) + (k : Int)) = ((a + k : Nat) : Int) := by rw [w64_in (by omega) (by omega)]; omega
    rw [if_pos (by simp; omega), idx_nat hk', e, idx_nat (by omega), Int.toNat_natCast, w64_in (by omega) (by omega)]
    rw [List.getElem?_eq_getElem hk'] at hv
    simp only [Option.bind_some, Option.some.inj hv]; rfl
  unfold impl_putNum
  rw [show (0 : Int) = ((0 : Nat) : Int) from rfl, loop_next (st b 0 0 rfl (by omega) rfl), loop_next (st _ 1 0 (by simp) (by omega) rfl), loop_next (st _ 2 0 (by simp) (by omega) rfl), loop_next (st _ 3 (u8 n) (by simp) (by omega) rfl), loop_stop (r := st4 b a n)]
  · rfl
  · simp only [impl_putNum_l1]
    rw [if_neg (by simp), u8_small hn]; rfl
end Go.Gv
end
section
set_option linter.unusedVariables false
set_option linter.unusedSimpArgs false
set_option linter.unusedSectionVars false
namespace Go.Gv
theorem blit3 {x y z : Int} : ∀ (a : Nat) (l : List Int), a + 3 ≤ l.length → blitL l a [x, y, z] = ((l.set a x).set (a + 1) y).set (a + 2) z
  | 0, l, h => by
    match l, h with
    | _ :: _ :: _ :: t, _ => simp [blitL]
  | a + 1, l, h => by
    match l, h with
    | u :: t, h =>
      have ih := blit3 (x := x) (y := y) (z := z) a t (by simp at h; omega)
      simp only [List.set_cons_succ, ← ih]
      simp [blitL, Nat.add_right_comm]
def gOff (p k : Nat) (c : Int) : Nat := (genC ((p : Int) * 4 + k) c).toNat
def gB (b : List Int) (p : Nat) (c : Int) : Nat → List Int
  | 0 => ((b.set (p * 64) 171).set (p * 64 + 1) c).set (p * 64 + 2) (perC c)
  | k + 1 => st4 (gB b p c k) (gOff p k c) 1
theorem gB_len (b : List Int) (p : Nat) (c : Int) : ∀ k, (gB b p c k).length = b.length
  | 0 => by simp [gB]
  | k + 1 => by rw [gB, st4_len, gB_len b p c k]
theorem set_byte {l : List Int} (i : Nat) {v : Int} (hl : ByteL l) (hv : 0 ≤ v ∧ v ≤ 255) : ByteL (l.set i v) := fun x hx => by
  rcases List.mem_or_eq_of_mem_set hx with h | rfl
  · exact hl x h
  · exact hv
theorem gB_byte {b : List Int} (hb : ByteL b) (p : Nat) {c : Int} (hc : 0 ≤ c ∧ c ≤ 2) : ∀ k, ByteL (gB b p c k)
  | 0 => by
    have := perC_le c
    exact set_byte _ (set_byte _ (set_byte _ hb (by omega)) (by omega)) (by omega)
  | k + 1 => st4_byte (gB_byte hb p hc k) _ (by omega)
def gS (p : Nat) (n : Nat) : List Int := (List.range n).map fun (i : Nat) => (p : Int) * 4 + (i : Int)
theorem gS_len (p n : Nat) : (gS p n).length = n := by simp [gS]
theorem gS_succ (p n : Nat) : gS p (n + 1) = gS p n ++ [(p : Int) * 4 + (n : Int)] := by simp [gS, List.range_succ]
theorem gOff_in {p k : Nat} {c : Int} (hp : p < 6) (hk : (k : Int) < perC c) : genC ((p : Int) * 4 + k) c = (gOff p k c : Int) ∧ gOff p k c + 4 ≤ 384 := by
  have h4 := perC_le c
  have hm := mul_stride (c := c) (i := (k : Int)) (by omega) hk
  have hst : 4 ≤ strideC c := by
    have : 0 ≤ c ∧ c ≤ 2 := perC_pos.1 (by omega)
    rcases cls_cases this with e | e | e <;> rw [e] <;> decide
  have e : genC ((p : Int) * 4 + k) c = (p : Int) * 64 + 8 + (k : Int) * strideC c := by
    unfold genC
    rw [if_pos ⟨by omega, by omega⟩, show ((p : Int) * 4 + k) / 4 = p by omega, show ((p : Int) * 4 + k) % 4 = k by omega]
  unfold gOff
  rw [e]; omega
theorem slotAt_eq {p k : Nat} (hp : p < 6) (hk : k < 4) : spec_SlotAt (p : Int) (k : Int) = some ((p : Int) * 4 + k) ∧ impl_SlotAt (p : Int) (k : Int) = some ((p : Int) * 4 + k) := by
  have a : 0 ≤ (p : Int) ∧ (p : Int) ≤ 5 := by omega
  have b : 0 ≤ (k : Int) ∧ (k : Int) ≤ 3 := by omega
  have e1 : w64 ((p : Int) * 4) = (p : Int) * 4 := w64_in (by omega) (by omega)
  have e2 : w64 ((p : Int) * 4 + k) = (p : Int) * 4 + k := w64_in (by omega) (by omega)
  constructor
  · unfold spec_SlotAt spec_SlotAt_j1; rw [l1In_eq, l1In_eq, decide_eq_true a, decide_eq_true b, e1, e2]; rfl
  · unfold impl_SlotAt impl_SlotAt_j1; rw [within_eq, within_eq, decide_eq_true a, decide_eq_true b, e1, e2]; rfl
section
variable {b : List Int} (hb : b.length = 384) {p : Nat} (hp : p < 6) {c : Int} (hc : 0 ≤ c ∧ c ≤ 2)
include hb hp hc
theorem spec_carve : loop (spec_l7Grant_l3 c (p : Int)) ([], 0, gB b p c 0) = some (gS p (perC c).toNat, gB b p c (perC c).toNat) := by
  have h4 := perC_le c
  refine enum_eq (perC c).toNat (fun k => (gS p k, (k : Int), gB b p c k)) _ (fun k hk => ?_) ?_
  · have ho := gOff_in (c := c) hp (k := k) (by omega)
    simp only [spec_l7Grant_l3, spec_l7Grant_j4, spec_PerPage_eq, Option.bind_some]
    rw [if_pos (by simp; omega), (slotAt_eq hp (by omega)).1]
    simp only [Option.bind_some, spec_GenAt_eq, ho.1]
    rw [spec_l3Store_eq (by rw [gB_len]; omega) (by rw [gB_len]; omega) (by omega)]
    simp only [Option.bind_some]
    rw [need_yes (by rw [gS_len]; simp; omega), w64_in (by omega) (by omega), gS_succ]; rfl
  · simp only [spec_l7Grant_l3, spec_PerPage_eq, Option.bind_some]
    rw [if_neg (by simp; omega)]
theorem impl_carve : loop (impl_Grant_l3 c (p : Int) (perC c)) ([], 0, gB b p c 0) = some (gS p (perC c).toNat, gB b p c (perC c).toNat) := by
  have h4 := perC_le c
  refine enum_eq (perC c).toNat (fun k => (gS p k, (k : Int), gB b p c k)) _ (fun k hk => ?_) ?_
  · have ho := gOff_in (c := c) hp (k := k) (by omega)
    simp only [impl_Grant_l3, impl_Grant_j4]
    rw [if_pos (by simp; omega), (slotAt_eq hp (by omega)).2]
    simp only [Option.bind_some, impl_GenAt_eq, ho.1]
    rw [impl_Fixed_eq (by omega), Option.bind_some, impl_putNum_eq (by rw [gB_len]; omega) (by rw [gB_len]; omega) (by omega)]
    simp only [Option.bind_some]
    rw [need_yes (by rw [gS_len]; simp; omega), w64_in (by omega) (by omega), gS_succ]; rfl
  · simp only [impl_Grant_l3]
    rw [if_neg (by simp; omega)]
end
theorem carve_eq {h : Heap} (hh : HOk h) {c : Int} (hc : 0 ≤ c ∧ c ≤ 2) :
    (spec_l7Grant h c = some (h, []) ∧ impl_Grant h c = some (h, [])) ∨
    ∃ p, p < 6 ∧ spec_l7Grant h c = some (⟨gB h.Bytes p c (perC c).toNat, h.Class.set p c⟩, gS p (perC c).toNat) ∧ impl_Grant h c = some (⟨gB h.Bytes p c (perC c).toNat, h.Class.set p c⟩, gS p (perC c).toNat) := by
  have hs := hh.1
  have h6 := hs.2.1
  have h384 := hs.1
  have hp4 := perC_le c
  have hcp := copyHeap_eq (h := h) (by omega) (by omega)
  have hne : ∀ j (hj : j < 6), j < h.Class.findIdx (fun x => decide (x = -1)) → h.Class[j] ≠ -1 := fun j hj hlt => by
    have := List.not_of_lt_findIdx hlt
    simpa using this
  generalize hq : h.Class.findIdx (fun x => decide (x = -1)) = q at hne
  have hq6 : q ≤ 6 := by rw [← hq, ← h6]; exact List.findIdx_le_length
  have s1 : ∀ k (hk : k < q), spec_l7Grant_l1 h c (k : Int) = some (.next ((k + 1 : Nat) : Int)) := fun k hk => by
    have := hne k (by omega) hk
    have n : (h.Class[k] != -1) = true := by simpa using this
    simp only [spec_l7Grant_l1, spec_l7Grant_j2]
    rw [if_pos (by simp; omega), idx_nat (by omega), Option.bind_some, n, if_pos rfl, w64_in (by omega) (by omega)]; rfl
  have s2 : ∀ k (hk : k < q), slices_Index_int_l1 h.Class (-1) (k : Int) = some (.next ((k + 1 : Nat) : Int)) := fun k hk => by
    have := hne k (by omega) hk
    have n : ((-1 : Int) == h.Class[k]) = false := by simpa using fun a => this a.symm
    simp only [slices_Index_int_l1]
    rw [if_pos (by simp; omega), idx_nat (by omega), Option.bind_some, n, w64_in (by omega) (by omega)]; rfl
  have hm : h.Bytes.length ≤ maxLen := by rw [h384]; simp [maxLen]
  by_cases h5 : q = 6
  · left
    have a1 : loop (spec_l7Grant_l1 h c) 0 = some (Out.brk ()) := enum_eq q (fun k => (k : Int)) _ s1 (by simp only [spec_l7Grant_l1]; rw [if_neg (by simp; omega)])
    have a2 : loop (slices_Index_int_l1 h.Class (-1)) 0 = some (Out.brk ()) := enum_eq q (fun k => (k : Int)) _ s2 (by simp only [slices_Index_int_l1]; rw [if_neg (by simp; omega)])
    constructor
    · unfold spec_l7Grant; rw [a1]; rfl
    · unfold impl_Grant slices_Index_int
      rw [a2, hcp.2, impl_HeapOk_eq hm, impl_isClass_eq, decide_eq_true hh, decide_eq_true hc]; rfl
  · right
    have hq5 : q < 6 := by omega
    have he : h.Class[q] = -1 := by
      have := List.findIdx_getElem (xs := h.Class) (p := fun x => decide (x = -1)) (w := by rw [hq]; omega)
      simp only [hq, decide_eq_true_eq] at this
      exact this
    refine ⟨q, hq5, ?_, ?_⟩
    · have a1 : loop (spec_l7Grant_l1 h c) 0 = some (Out.ret (⟨gB h.Bytes q c (perC c).toNat, h.Class.set q c⟩, gS q (perC c).toNat)) := enum_eq q (fun k => (k : Int)) _ s1 (by
        have e0 : w64 ((q : Int) * 64) = ((q * 64 : Nat) : Int) := by rw [w64_in (by omega) (by omega)]; omega
        have e1 : w64 (((q * 64 : Nat) : Int) + 1) = ((q * 64 + 1 : Nat) : Int) := by rw [w64_in (by omega) (by omega)]; omega
        have e2 : w64 (((q * 64 : Nat) : Int) + 2) = ((q * 64 + 2 : Nat) : Int) := by rw [w64_in (by omega) (by omega)]; omega
        have n : (h.Class[q] != -1) = false := by simpa using he
        simp only [spec_l7Grant_l1, e0, e1, e2, Int.toNat_natCast]
        rw [if_pos (by simp; omega), idx_nat (by omega), Option.bind_some, n, if_neg (by simp), idx_nat (by omega), Option.bind_some, idx_nat (by simp; omega), Option.bind_some, spec_PerPage_eq, Option.bind_some, idx_nat (by simp; omega), Option.bind_some]
        have := spec_carve h384 hq5 hc
        simp only [gB] at this
        rw [this]; rfl)
      unfold spec_l7Grant; rw [a1]; rfl
    · have a2 : loop (slices_Index_int_l1 h.Class (-1)) 0 = some (Out.ret (q : Int)) := enum_eq q (fun k => (k : Int)) _ s2 (by
        have n : ((-1 : Int) == h.Class[q]) = true := by rw [he]; rfl
        simp only [slices_Index_int_l1]
        rw [if_pos (by simp; omega), idx_nat (by omega), Option.bind_some, n]; rfl)
      unfold impl_Grant slices_Index_int
      rw [a2, hcp.2, impl_HeapOk_eq hm, impl_isClass_eq, decide_eq_true hh, decide_eq_true hc]
      have e0 : w64 ((q : Int) * 64) = ((q * 64 : Nat) : Int) := by rw [w64_in (by omega) (by omega)]; omega
      simp only [Option.bind_some, slices_Index_int_m1, Bool.not_true, Bool.false_eq_true, if_false, impl_Grant_j1, e0, impl_PerPage_eq, impl_Grant_j2, Int.toNat_natCast]
      rw [decide_eq_false (by omega), if_neg (by simp), idx_nat (by omega), Option.bind_some, need_yes (by omega), blit3 _ _ (by omega)]
      have := impl_carve h384 hq5 hc
      simp only [gB] at this
      rw [this]; rfl
theorem LOk.count {l : Lists} (h : LOk l) : (allS l).length ≤ 24 := pigeon 24 _ h.2.2.2.2 (fun x hx => by have := h.2.2.2.1 x hx; omega)
theorem handle_eq {m : Mem} (hs : HShape m.Heap) {s : Int} (hc : 0 ≤ clsS m.Heap s) : ∃ h, spec_l9Handle m s = some h ∧ impl_handleIn m s = some h := by
  unfold spec_l9Handle impl_handleIn spec_HandleOf impl_HandleOf spec_HandleOf_j1 impl_HandleOf_j1
  rw [spec_l7Gen_eq hs hc, impl_GenIn_eq hs hc, Option.bind_some, Option.bind_some, l1In_eq, l1In_eq, impl_isSlot_eq, within_eq]
  have h1 := (clsS_in hc).1
  simp only [decide_eq_true h1, Option.bind_some, Bool.not_true, Bool.false_eq_true, if_false]
  by_cases q : 1 ≤ genS m.Heap s ∧ genS m.Heap s ≤ 6
  · simp only [decide_eq_true q, Bool.not_true, Bool.false_eq_true, if_false]; exact ⟨_, rfl, rfl⟩
  · simp only [decide_eq_false q, Bool.not_false, if_true]; exact ⟨_, rfl, rfl⟩
theorem flatS_more {l : List SList} {k : Nat} (hk : k < l.length) (t : List Int) : (flatS (l.set k ⟨l[k].Slots ++ t⟩)).length = (flatS l).length + t.length := by
  rw [flatS_set hk, flatS_split hk]; simp; omega
theorem grant_eq {m : Mem} (hm : MOk m) {c : Int} (hc : 0 ≤ c ∧ c ≤ 2) :
    ∃ m' s, spec_l9Grant m c = some (m', s) ∧ impl_granted m c = some (m', s) ∧ SmallM m' ∧ (0 ≤ s → HShape m'.Heap ∧ 0 ≤ clsS m'.Heap s) := by
  have hl := hm.1.2
  have hcnt := hl.count
  have hs := hm.1.1.1
  have hsl := hl.slots (by omega)
  have hp4 := perC_le c
  have hpp : 0 < perC c := perC_pos.2 hc
  have hall := allS_len m.Lists
  have hsG : ∀ s ∈ m.Lists.Global, s.Slots.length ≤ 24 := fun s h => by have := flat_mem h; omega
  have hsO : ∀ s ∈ m.Lists.Own, s.Slots.length ≤ 24 := fun s h => by have := flat_mem h; omega
  have h3 := hl.1
  have h9 := hl.2.1
  have hcpl := copyLists_eq (l := m.Lists) (by omega) (by omega) (fun s h => by have := hsG s h; omega) (fun s h => by have := hsO s h; omega)
  unfold spec_l9Grant impl_granted
  rcases carve_eq hm.1.1 hc with ⟨e1, e2⟩ | ⟨p, hp, e1, e2⟩
  · rw [e1, e2, hcpl.2]
    have h1 := hs.1; have h2 := hs.2.1
    exact ⟨_, _, rfl, rfl, ⟨by simp only; omega, by simp only; omega, by simp only; omega, by simp only; omega, by simp only; omega⟩, fun h => absurd h (by omega)⟩
  · rw [e1, e2, hcpl.2]
    simp only [Option.bind_some, impl_granted_j1, impl_granted_j2, spec_l9Grant_j1, gS_len]
    have hn : (((perC c).toNat : Int) == 0) = false := by simpa using (by omega : ¬ ((perC c).toNat : Int) = 0)
    have hk : c.toNat < m.Lists.Global.length := by omega
    have hg0 := hsG _ (List.getElem_mem hk)
    have hx : idx m.Lists.Global c = some m.Lists.Global[c.toNat] := idx_in hc.1 (by omega)
    have hz : idx (gS p (perC c).toNat) 0 = some ((p : Int) * 4) := by
      have := idx_nat (l := gS p (perC c).toNat) (k := 0) (by rw [gS_len]; omega)
      rw [show ((0 : Nat) : Int) = 0 from rfl] at this
      rw [this]; simp [gS]
    have hlen : (List.drop (1 : Int).toNat (List.take (perC c).toNat (gS p (perC c).toNat))).length ≤ 4 := by simp [gS_len]; omega
    simp only [hn, Bool.false_eq_true, if_false, hx, Option.bind_some, hz]
    rw [need_yes (by omega), need_yes (by omega)]
    have hcl : clsP ⟨gB m.Heap.Bytes p c (perC c).toNat, m.Heap.Class.set p c⟩ p = c := by
      have h6 := hs.2.1
      unfold clsP; simp [List.getD_eq_getElem?_getD, List.getElem?_set, h6, hp]
    refine ⟨_, _, rfl, rfl, ⟨by simp only [gB_len]; have := hs.1; omega, by simp only [List.length_set]; have := hs.2.1; omega, by simp only [List.length_set]; omega, by simp only; omega, ?_⟩, fun _ => ⟨⟨by simp only [gB_len]; exact hs.1, by simp only [List.length_set]; exact hs.2.1, gB_byte hs.2.2.1 p hc _, fun x hx => ?_⟩, ?_⟩⟩
    · rw [allS_len]; simp only [flatS_more hk]; omega
    · rcases List.mem_or_eq_of_mem_set hx with h | rfl
      · exact hs.2.2.2 x h
      · omega
    · unfold clsS
      have e4 : ((p : Int) * 4 / 4).toNat = p := by omega
      rw [e4]
      simp only [hcl]
      rw [if_pos ⟨by omega, by omega⟩]; exact hc.1
end Go.Gv
end
section
set_option linter.unusedVariables false
set_option linter.unusedSimpArgs false
set_option linter.unusedSectionVars false
namespace Go.Gv
theorem ClassOf_eq (n : Int) : ∃ c, spec_ClassOf n = some c ∧ impl_ClassOf n = some c ∧ (c = -1 ∨ (0 ≤ c ∧ c ≤ 2)) := by
  have s1 : ∀ k, 0 ≤ k ∧ k ≤ 2 → spec_ClassOf_l1 n k = some (if 1 ≤ n ∧ n ≤ sizeC k then .stop (Out.ret k) else .next (k + 1)) := fun k hk => by
    simp only [spec_ClassOf_l1]
    rw [if_pos (by simp; omega), spec_SizeOf_eq, Option.bind_some, l1In_eq, Option.bind_some, w64_in (by omega) (by omega)]
    by_cases q : 1 ≤ n ∧ n ≤ sizeC k
    · rw [decide_eq_true q, if_pos rfl, if_pos q]
    · rw [decide_eq_false q, if_neg (by simp), if_neg q]
  have s2 : ∀ k, 0 ≤ k ∧ k ≤ 2 → impl_ClassOf_l1 n k = some (if 1 ≤ n ∧ n ≤ sizeC k then .stop (Out.ret k) else .next (k + 1)) := fun k hk => by
    simp only [impl_ClassOf_l1, impl_ClassOf_j2]
    rw [if_pos (by simp; omega), impl_SizeOf_eq, Option.bind_some, w64_in (by omega) (by omega)]
    by_cases q1 : 1 ≤ n
    · by_cases q2 : n ≤ sizeC k <;> simp [q1, q2]
    · simp [q1]
  have st : ∀ k, 0 ≤ k ∧ k ≤ 2 → 1 ≤ n ∧ n ≤ sizeC k → loop (spec_ClassOf_l1 n) k = some (Out.ret k) ∧ loop (impl_ClassOf_l1 n) k = some (Out.ret k) := fun k hk h =>
    ⟨loop_stop (by rw [s1 k hk, if_pos h]), loop_stop (by rw [s2 k hk, if_pos h])⟩
  have nx : ∀ k, 0 ≤ k ∧ k ≤ 2 → ¬ (1 ≤ n ∧ n ≤ sizeC k) → loop (spec_ClassOf_l1 n) k = loop (spec_ClassOf_l1 n) (k + 1) ∧ loop (impl_ClassOf_l1 n) k = loop (impl_ClassOf_l1 n) (k + 1) := fun k hk h =>
    ⟨loop_next (by rw [s1 k hk, if_neg h]), loop_next (by rw [s2 k hk, if_neg h])⟩
  unfold spec_ClassOf impl_ClassOf
  by_cases q0 : 1 ≤ n ∧ n ≤ sizeC 0
  · have := st 0 (by omega) q0
    rw [this.1, this.2]; exact ⟨_, rfl, rfl, .inr (by omega)⟩
  · have h0 := nx 0 (by omega) q0
    rw [h0.1, h0.2, show (0 : Int) + 1 = 1 from rfl]
    by_cases q1 : 1 ≤ n ∧ n ≤ sizeC 1
    · have := st 1 (by omega) q1
      rw [this.1, this.2]; exact ⟨_, rfl, rfl, .inr (by omega)⟩
    · have h1 := nx 1 (by omega) q1
      rw [h1.1, h1.2, show (1 : Int) + 1 = 2 from rfl]
      by_cases q2 : 1 ≤ n ∧ n ≤ sizeC 2
      · have := st 2 (by omega) q2
        rw [this.1, this.2]; exact ⟨_, rfl, rfl, .inr (by omega)⟩
      · have h2 := nx 2 (by omega) q2
        rw [h2.1, h2.2, show (2 : Int) + 1 = 3 from rfl, loop_stop (body := spec_ClassOf_l1 n) (r := Out.brk ()) (by simp [spec_ClassOf_l1]), loop_stop (body := impl_ClassOf_l1 n) (r := Out.brk ()) (by simp [impl_ClassOf_l1])]
        exact ⟨_, rfl, rfl, .inl rfl⟩
theorem pop_eq {s : SList} (hl : s.Slots.length ≤ 1048576) : ∃ t x, spec_l8Pop s = some (t, x) ∧ impl_SList_pop s = some (x, t) ∧ t.Slots.length ≤ s.Slots.length ∧ (0 ≤ x → x ∈ s.Slots) := by
  unfold spec_l8Pop impl_SList_pop spec_l8Pop_j1
  rw [w64_in (by omega) (by omega)]
  by_cases q : s.Slots.length = 0
  · rw [if_pos (by simpa using q), if_pos (by simp; omega)]
    exact ⟨_, _, rfl, rfl, Nat.le_refl _, fun h => absurd h (by omega)⟩
  · have hx : idx s.Slots ((s.Slots.length : Int) - 1) = some (s.Slots[s.Slots.length - 1]'(by omega)) := by
      rw [show ((s.Slots.length : Int) - 1) = ((s.Slots.length - 1 : Nat) : Int) by omega, idx_nat (by omega)]
    rw [if_neg (by simpa using q), if_neg (by simp; omega), need_yes (by omega), hx]
    simp only [Option.bind_some]
    rw [need_yes (by omega)]
    exact ⟨_, _, rfl, rfl, by simp, fun _ => List.getElem_mem _⟩
theorem OwnAt_eq {w c : Int} (hw : 0 ≤ w ∧ w ≤ 2) (hc : 0 ≤ c ∧ c ≤ 2) : spec_OwnAt w c = some (w * 3 + c) ∧ impl_OwnAt w c = some (w * 3 + c) := by
  have e : w64 (w64 (w * 3) + c) = w * 3 + c := by rw [w64_in (x := w * 3) (by omega) (by omega), w64_in (by omega) (by omega)]
  constructor
  · unfold spec_OwnAt spec_OwnAt_j1; rw [l1In_eq, l1In_eq, decide_eq_true hw, decide_eq_true hc, e]; rfl
  · unfold impl_OwnAt impl_OwnAt_j1; rw [isWorker_eq, impl_isClass_eq, decide_eq_true hw, decide_eq_true hc, e]; rfl
theorem flatS_less {l : List SList} {k : Nat} (hk : k < l.length) {t : SList} (ht : t.Slots.length ≤ l[k].Slots.length) : (flatS (l.set k t)).length ≤ (flatS l).length := by
  rw [flatS_set hk, flatS_split hk]; simp; omega
section
variable {m : Mem} (hm : MOk m)
include hm
theorem MOk.facts : (allS m.Lists).length ≤ 24 ∧ m.Lists.Global.length = 3 ∧ m.Lists.Own.length = 9 ∧ m.Heap.Bytes.length = 384 ∧ m.Heap.Class.length = 6 ∧ SmallM m ∧ impl_copyLists m.Lists = some m.Lists ∧ impl_ListsOk m.Lists = some true ∧
    (∀ s ∈ m.Lists.Global, s.Slots.length ≤ 24) ∧ (∀ s ∈ m.Lists.Own, s.Slots.length ≤ 24) := by
  have hl := hm.1.2
  have hcnt := hl.count
  have hall := allS_len m.Lists
  have hsG : ∀ s ∈ m.Lists.Global, s.Slots.length ≤ 24 := fun s h => by have := flat_mem h; omega
  have hsO : ∀ s ∈ m.Lists.Own, s.Slots.length ≤ 24 := fun s h => by have := flat_mem h; omega
  have h3 := hl.1; have h9 := hl.2.1
  have h1 := hm.1.1.1.1; have h2 := hm.1.1.1.2.1
  refine ⟨hcnt, h3, h9, h1, h2, ⟨by omega, by omega, by omega, by omega, by omega⟩, (copyLists_eq (by omega) (by omega) (fun s h => by have := hsG s h; omega) (fun s h => by have := hsO s h; omega)).2, by rw [impl_ListsOk_eq (by omega), decide_eq_true hl], hsG, hsO⟩
theorem takeOwn_eq {w c : Int} (hw : 0 ≤ w ∧ w ≤ 2) (hc : 0 ≤ c ∧ c ≤ 2) :
    ∃ l t x, idx m.Lists.Own (w * 3 + c) = some l ∧ spec_l8Pop l = some (t, x) ∧ impl_TakeOwn m.Lists w c = some (⟨m.Lists.Global, m.Lists.Own.set (w * 3 + c).toNat t⟩, x) ∧
      SmallM ⟨m.Heap, ⟨m.Lists.Global, m.Lists.Own.set (w * 3 + c).toNat t⟩⟩ ∧ (0 ≤ x → 0 ≤ clsS m.Heap x) := by
  obtain ⟨hcnt, h3, h9, h1, h2, hsm, hcp, hlo, hsG, hsO⟩ := MOk.facts hm
  have hk : (w * 3 + c).toNat < m.Lists.Own.length := by omega
  have hx : idx m.Lists.Own (w * 3 + c) = some m.Lists.Own[(w * 3 + c).toNat] := idx_in (by omega) (by omega)
  have h24 := hsO _ (List.getElem_mem hk)
  obtain ⟨t, x, e1, e2, ht, hmem⟩ := pop_eq (s := m.Lists.Own[(w * 3 + c).toNat]) (by omega)
  have hall := allS_len m.Lists
  refine ⟨_, t, x, hx, e1, ?_, ⟨by simp only; omega, by simp only; omega, by simp only; omega, by simp only [List.length_set]; omega, ?_⟩, fun h0 => ?_⟩
  · unfold impl_TakeOwn impl_TakeOwn_j1
    rw [hcp, (OwnAt_eq hw hc).2, hlo]
    simp only [Option.bind_some, Bool.not_true, Bool.false_eq_true, if_false]
    rw [decide_eq_false (by omega), if_neg (by simp), hx, Option.bind_some, e2]; rfl
  · have := flatS_less hk ht
    rw [allS_len]; simp only; omega
  · have := hm.2.2 (w * 3 + c).toNat (by omega) x (by rw [← slotsAt_get hk]; exact hmem h0)
    omega
theorem takeGlobal_eq {c : Int} (hc : 0 ≤ c ∧ c ≤ 2) :
    ∃ l t x, idx m.Lists.Global c = some l ∧ spec_l8Pop l = some (t, x) ∧ impl_TakeGlobal m.Lists c = some (⟨m.Lists.Global.set c.toNat t, m.Lists.Own⟩, x) ∧
      SmallM ⟨m.Heap, ⟨m.Lists.Global.set c.toNat t, m.Lists.Own⟩⟩ ∧ (0 ≤ x → 0 ≤ clsS m.Heap x) := by
  obtain ⟨hcnt, h3, h9, h1, h2, hsm, hcp, hlo, hsG, hsO⟩ := MOk.facts hm
  have hk : c.toNat < m.Lists.Global.length := by omega
  have hx : idx m.Lists.Global c = some m.Lists.Global[c.toNat] := idx_in (by omega) (by omega)
  have h24 := hsG _ (List.getElem_mem hk)
  obtain ⟨t, x, e1, e2, ht, hmem⟩ := pop_eq (s := m.Lists.Global[c.toNat]) (by omega)
  have hall := allS_len m.Lists
  refine ⟨_, t, x, hx, e1, ?_, ⟨by simp only; omega, by simp only; omega, by simp only [List.length_set]; omega, by simp only; omega, ?_⟩, fun h0 => ?_⟩
  · unfold impl_TakeGlobal impl_TakeGlobal_j1
    rw [hcp, hlo, impl_isClass_eq, decide_eq_true hc]
    simp only [Option.bind_some, Bool.not_true, Bool.false_eq_true, if_false]
    rw [hx, Option.bind_some, e2]; rfl
  · have := flatS_less hk ht
    rw [allS_len]; simp only; omega
  · have := hm.2.1 c.toNat (by omega) x (by rw [← slotsAt_get hk]; exact hmem h0)
    omega
theorem free_eq {w h : Int} (hw : 0 ≤ w ∧ w ≤ 2) (hv : LiveS m h) : ∃ m', spec_l9Free m w (h % 32) = some m' ∧ impl_freed m w h = some m' ∧ SmallM m' := by
  obtain ⟨hcnt, h3, h9, h1, h2, hsm, hcp, hlo, hsG, hsO⟩ := MOk.facts hm
  have hs := hm.1.1.1
  have hh := hv.1
  have hhm := hh.mod
  have hcl := cls_of_used hv.2.1
  have hgo := genC_in hcl
  have hc2 : 0 ≤ clsS m.Heap (h % 32) ∧ clsS m.Heap (h % 32) ≤ 2 := by
    obtain ⟨_, q, e⟩ := clsS_in hcl
    rw [e]; exact perC_pos.1 (by omega)
  have hg6 : 1 ≤ h / 32 ∧ h / 32 ≤ 6 := by unfold HnOk at hh; omega
  have hbl : m.Heap.Bytes.length ≤ maxLen := by rw [h1]; simp [maxLen]
  have hnot : h % 32 ∉ allS m.Lists := fun q => by
    have := hv.2.1; unfold stateS at this; rw [if_neg (by omega), if_pos q] at this; omega
  have hcpH := copyHeap_eq (h := m.Heap) (by omega) (by omega)
  have eo : genC (h % 32) (clsS m.Heap (h % 32)) = (((genC (h % 32) (clsS m.Heap (h % 32))).toNat : Nat) : Int) := by omega
  have ew : w64 (h / 32 + 1) = h / 32 + 1 := w64_in (by omega) (by omega)
  have ed : w64 (Int.tdiv h 32) = h / 32 := by rw [tdiv_pos (by unfold HnOk at hh; omega), w64_in (by omega) (by omega)]
  have hall := allS_len m.Lists
  unfold spec_l9Free impl_freed impl_SetGen impl_ClassAt
  rw [hhm.1, spec_l7Class_eq hs, hcpH.2, impl_shaped_eq hbl, decide_eq_true hs, impl_classIn_eq hs, ed, ew, hcp]
  simp only [Option.bind_some, Bool.not_true, Bool.false_eq_true, if_false, impl_SetGen_j1, impl_SetGen_j2, impl_SetGen_j3]
  rw [spec_l7Gen_eq hs hcl, hv.2.2, within_eq, decide_eq_false (show ¬ clsS m.Heap (h % 32) < 0 by omega), decide_eq_true (show 1 ≤ h / 32 + 1 ∧ h / 32 + 1 ≤ 7 by omega)]
  simp only [Option.bind_some, Bool.not_true, Bool.false_eq_true, if_false, spec_GenAt_eq, impl_GenAt_eq, ew]
  generalize hgn : (genC (h % 32) (clsS m.Heap (h % 32))).toNat = a at eo
  rw [eo, spec_l3Store_eq (by omega) (by omega) (by omega), impl_Fixed_eq (by omega)]
  simp only [Option.bind_some]
  rw [impl_putNum_eq (by omega) (by omega) (by omega)]
  simp only [Option.bind_some, spec_l9Free_j1, impl_freed_j1, ed, ew, hhm.1]
  by_cases q : h / 32 + 1 ≤ 6
  · have hk : (w * 3 + clsS m.Heap (h % 32)).toNat < m.Lists.Own.length := by omega
    have hx : idx m.Lists.Own (w * 3 + clsS m.Heap (h % 32)) = some m.Lists.Own[(w * 3 + clsS m.Heap (h % 32)).toNat] := idx_in (by omega) (by omega)
    have hk2 : (clsS m.Heap (h % 32)).toNat < m.Lists.Global.length := by omega
    have hx2 : idx m.Lists.Global (clsS m.Heap (h % 32)) = some m.Lists.Global[(clsS m.Heap (h % 32)).toNat] := idx_in (by omega) (by omega)
    have b1 := hsO _ (List.getElem_mem hk)
    have b2 := hsG _ (List.getElem_mem hk2)
    rw [decide_eq_true q, if_pos rfl, if_pos rfl]
    unfold spec_l8Give impl_Give impl_Give_j1
    rw [impl_classIn_eq hs, Option.bind_some, hcp, (OwnAt_eq hw hc2).1, (OwnAt_eq hw hc2).2, hlo, impl_isSlot_eq, decide_eq_true (show 0 ≤ h % 32 ∧ h % 32 ≤ 23 by omega), impl_OnList_eq (by omega) (by simp only [maxLen]; omega) (by simp only [maxLen]; omega), decide_eq_false hnot]
    simp only [Option.bind_some, Bool.not_true, Bool.false_eq_true, if_false, hx, hx2]
    have nz : ¬ w * 3 + clsS m.Heap (h % 32) < 0 := by omega
    simp only [decide_eq_false nz, Bool.false_eq_true, if_false]
    by_cases q2 : m.Lists.Own[(w * 3 + clsS m.Heap (h % 32)).toNat].Slots.length < 2
    · have y1 : (m.Lists.Own[(w * 3 + clsS m.Heap (h % 32)).toNat].Slots.length : Int) < 2 := by omega
      have y2 : ¬ (2 : Int) ≤ m.Lists.Own[(w * 3 + clsS m.Heap (h % 32)).toNat].Slots.length := by omega
      simp only [decide_eq_true y1, decide_eq_false y2, Bool.false_eq_true, if_false, if_true]
      rw [need_yes (by simp; omega), need_yes (by simp; omega)]
      refine ⟨_, rfl, rfl, ⟨by simp only [st4_len]; omega, by simp only; omega, by simp only; omega, by simp only [List.length_set]; omega, ?_⟩⟩
      rw [allS_len]; simp only [flatS_more hk]; simp; omega
    · have y1 : ¬ (m.Lists.Own[(w * 3 + clsS m.Heap (h % 32)).toNat].Slots.length : Int) < 2 := by omega
      have y2 : (2 : Int) ≤ m.Lists.Own[(w * 3 + clsS m.Heap (h % 32)).toNat].Slots.length := by omega
      simp only [decide_eq_true y2, decide_eq_false y1, Bool.false_eq_true, if_false, if_true]
      rw [need_yes (by simp; omega), need_yes (by simp; omega)]
      refine ⟨_, rfl, rfl, ⟨by simp only [st4_len]; omega, by simp only; omega, by simp only [List.length_set]; omega, by simp only; omega, ?_⟩⟩
      rw [allS_len]; simp only [flatS_more hk2]; simp; omega
  · rw [decide_eq_false q, if_neg (by simp), if_neg (by simp)]
    refine ⟨_, rfl, rfl, ⟨by simp only [st4_len]; omega, by simp only; omega, by simp only; omega, by simp only; omega, by rw [allS_len]; simp only; omega⟩⟩
end
theorem alloc_eq {b : Base} (hm : MOk b.Mem) {w : Int} (hw : 0 ≤ w ∧ w ≤ 2) (s : Sub) :
    ∃ x y, spec_l14Alloc b w s = some (x, y) ∧ impl_Sub_allocStep s b w = some (y, x) ∧ ∃ m', x = ⟨m', b.Clock, b.Limbo, b.Haz⟩ ∧ SmallM m' := by
  have hsm := (MOk.facts hm).2.2.2.2.2.1
  have hs := hm.1.1.1
  obtain ⟨c, ec, ei, hcc⟩ := ClassOf_eq s.A
  unfold spec_l14Alloc impl_Sub_allocStep
  rw [ec, ei]
  simp only [Option.bind_some]
  by_cases c0 : c < 0
  · simp only [decide_eq_true c0, if_true, spec_l14End, impl_Sub_finish]; exact ⟨_, _, rfl, rfl, _, rfl, hsm⟩
  have hc : 0 ≤ c ∧ c ≤ 2 := by omega
  simp only [decide_eq_false c0, Bool.false_eq_true, if_false]
  have fin : ∀ (m' : Mem) (x : Int), SmallM m' → (0 ≤ x → HShape m'.Heap ∧ 0 ≤ clsS m'.Heap x) →
      ∃ X Y, spec_l14Alloc_j1 b s x m'.Heap.Bytes m'.Heap.Class m'.Lists.Global m'.Lists.Own = some (X, Y) ∧ impl_Sub_allocStep_j1 s b x m'.Heap.Bytes m'.Heap.Class m'.Lists.Global m'.Lists.Own = some (Y, X) ∧ ∃ m', X = ⟨m', b.Clock, b.Limbo, b.Haz⟩ ∧ SmallM m' := by
    intro m' x hs' hx
    unfold spec_l14Alloc_j1 impl_Sub_allocStep_j1
    simp only [spec_l14Alloc_j2, spec_l14Took, spec_l14End, impl_Sub_finish]
    by_cases x0 : 0 ≤ x
    · obtain ⟨h, e1, e2⟩ := handle_eq (m := m') (hx x0).1 (hx x0).2
      rw [decide_eq_false (show ¬ x < 0 by omega), decide_eq_true x0]
      have e1' : spec_l9Handle ⟨⟨m'.Heap.Bytes, m'.Heap.Class⟩, ⟨m'.Lists.Global, m'.Lists.Own⟩⟩ x = some h := e1
      have e2' : impl_handleIn ⟨⟨m'.Heap.Bytes, m'.Heap.Class⟩, ⟨m'.Lists.Global, m'.Lists.Own⟩⟩ x = some h := e2
      simp only [Bool.false_eq_true, if_false, if_true, e1', e2', Option.bind_some]
      exact ⟨_, _, rfl, rfl, m', rfl, hs'⟩
    · rw [decide_eq_true (show x < 0 by omega), decide_eq_false x0]
      by_cases p3 : s.Pc = 3
      · simp only [p3, beq_self_eq_true, if_true, Bool.false_eq_true, if_false, Option.bind_some]; exact ⟨_, _, rfl, rfl, m', rfl, hs'⟩
      · have p3' : (s.Pc == 3) = false := by simpa using p3
        simp only [p3', if_true, Bool.false_eq_true, if_false, Option.bind_some]; exact ⟨_, _, rfl, rfl, m', rfl, hs'⟩
  by_cases p0 : s.Pc = 0
  · obtain ⟨l, t, x, e1, e2, e3, h1, h2⟩ := takeOwn_eq hm hw hc
    simp only [p0, beq_self_eq_true, if_true, (OwnAt_eq hw hc).1, Option.bind_some, e1, e2, e3]
    exact fin _ x h1 (fun h => ⟨hs, h2 h⟩)
  · have p0' : (s.Pc == 0) = false := by simpa using p0
    simp only [p0', Bool.false_eq_true, if_false, spec_l14Alloc_j3, impl_Sub_allocStep_j2]
    obtain ⟨l, t, x, e1, e2, e3, h1, h2⟩ := takeGlobal_eq hm hc
    by_cases p1 : s.Pc = 1
    · simp only [p1, beq_self_eq_true, if_true, Option.bind_some, e1, e2, e3]
      exact fin _ x h1 (fun h => ⟨hs, h2 h⟩)
    · have p1' : (s.Pc == 1) = false := by simpa using p1
      simp only [p1', Bool.false_eq_true, if_false]
      by_cases p3 : s.Pc = 3
      · simp only [p3, beq_self_eq_true, if_true, Option.bind_some, e1, e2, e3]
        exact fin _ x h1 (fun h => ⟨hs, h2 h⟩)
      · have p3' : (s.Pc == 3) = false := by simpa using p3
        simp only [p3', Bool.false_eq_true, if_false]
        by_cases p2 : s.Pc = 2
        · obtain ⟨m', x, e1, e2, h1, h2⟩ := grant_eq hm hc
          simp only [p2, beq_self_eq_true, if_true, Option.bind_some, e1, e2]
          exact fin m' x h1 h2
        · have p2' : (s.Pc == 2) = false := by simpa using p2
          simp only [p2', Bool.false_eq_true, if_false, spec_l14End, impl_Sub_finish]; exact ⟨_, _, rfl, rfl, _, rfl, hsm⟩
end Go.Gv
end
section
set_option linter.unusedVariables false
set_option linter.unusedSimpArgs false
set_option linter.unusedSectionVars false
namespace Go.Gv
theorem ripe_eq (r : LRow) (e : Int) : ∃ v, spec_Ripe r e = some v ∧ impl_Ripe r e = some v := by
  unfold spec_Ripe impl_Ripe spec_Ripe_j1 impl_Ripe_j1
  by_cases h : 2 ≤ e
  · simp only [decide_eq_true h, if_true]; exact ⟨_, rfl, rfl⟩
  · simp only [decide_eq_false h, Bool.false_eq_true, if_false]; exact ⟨_, rfl, rfl⟩
theorem seek_eq {b : Base} {w : Int} {l : LList} (hx : idx b.Limbo w = some l) (hl : l.Rows.length ≤ 1000) (s : Sub) :
    (spec_l14Next l.Rows s.Row s.E = some (-1) ∧ impl_Sub_seekRipe s b w = (impl_Sub_finish s 0).bind fun x => some (x, b)) ∨
    ∃ k, ∃ h : k < l.Rows.length, spec_l14Next l.Rows s.Row s.E = some (k : Int) ∧ impl_Sub_seekRipe s b w = some (⟨s.Kind, s.A, 2, s.E, (k : Int), 0, l.Rows[k].Handle, s.Out, s.Code, s.Done⟩, b) := by
  have key : ∀ d k, k + d = l.Rows.length →
      (loop (spec_l14Next_l1 l.Rows s.E) (k : Int) = some (Out.brk ()) ∧ loop (impl_Sub_seekRipe_l1 s b w) (k : Int) = some (Out.brk ())) ∨
      ∃ j, ∃ h : j < l.Rows.length, loop (spec_l14Next_l1 l.Rows s.E) (k : Int) = some (Out.ret (j : Int)) ∧ loop (impl_Sub_seekRipe_l1 s b w) (k : Int) = some (Out.ret (⟨s.Kind, s.A, 2, s.E, (j : Int), 0, l.Rows[j].Handle, s.Out, s.Code, s.Done⟩, b)) := by
    intro d
    induction d with
    | zero =>
      intro k hk
      left
      exact ⟨loop_stop (by simp only [spec_l14Next_l1]; rw [if_neg (by simp; omega)]), loop_stop (by simp only [impl_Sub_seekRipe_l1, hx, Option.bind_some]; rw [if_neg (by simp; omega)])⟩
    | succ d ih =>
      intro k hk
      have hk' : k < l.Rows.length := by omega
      obtain ⟨v, e1, e2⟩ := ripe_eq l.Rows[k] s.E
      cases v with
      | true =>
        right
        refine ⟨k, hk', loop_stop ?_, loop_stop ?_⟩
        · simp only [spec_l14Next_l1]
          rw [if_pos (by simp; omega), idx_nat hk', Option.bind_some, e1]; rfl
        · simp only [impl_Sub_seekRipe_l1, hx, Option.bind_some]
          rw [if_pos (by simp; omega), idx_nat hk', Option.bind_some, e2]; rfl
      | false =>
        have n1 : spec_l14Next_l1 l.Rows s.E (k : Int) = some (.next ((k + 1 : Nat) : Int)) := by
          simp only [spec_l14Next_l1]
          rw [if_pos (by simp; omega), idx_nat hk', Option.bind_some, e1, Option.bind_some, w64_in (by omega) (by omega)]; rfl
        have n2 : impl_Sub_seekRipe_l1 s b w (k : Int) = some (.next ((k + 1 : Nat) : Int)) := by
          simp only [impl_Sub_seekRipe_l1, hx, Option.bind_some]
          rw [if_pos (by simp; omega), idx_nat hk', Option.bind_some, e2, Option.bind_some, w64_in (by omega) (by omega)]; rfl
        rw [loop_next n1, loop_next n2]
        exact ih (k + 1) (by omega)
  unfold spec_l14Next impl_Sub_seekRipe
  have hst : ∃ i : Nat, (if 0 < s.Row then s.Row else 0) = (i : Int) ∧ (if s.Row < 0 then 0 else s.Row) = (i : Int) := by
    refine ⟨s.Row.toNat, ?_, ?_⟩ <;> split <;> omega
  obtain ⟨i, i1, i2⟩ := hst
  rw [i1, i2]
  by_cases hi : i ≤ l.Rows.length
  · rcases key (l.Rows.length - i) i (by omega) with ⟨a, c⟩ | ⟨j, hj, a, c⟩
    · left; rw [a, c]; exact ⟨rfl, rfl⟩
    · right; rw [a, c]; exact ⟨j, hj, rfl, rfl⟩
  · left
    rw [loop_stop (body := spec_l14Next_l1 l.Rows s.E) (r := Out.brk ()) (by simp only [spec_l14Next_l1]; rw [if_neg (by simp; omega)]),
      loop_stop (body := impl_Sub_seekRipe_l1 s b w) (r := Out.brk ()) (by simp only [impl_Sub_seekRipe_l1, hx, Option.bind_some]; rw [if_neg (by simp; omega)])]
    exact ⟨rfl, rfl⟩
theorem flatR_less {l : List LList} {k : Nat} (hk : k < l.length) {t : LList} (ht : t.Rows.length ≤ l[k].Rows.length) : (flatR (l.set k t)).length ≤ (flatR l).length := by
  rw [flatR_set hk, flatR_split hk]; simp; omega
theorem collect_eq {b : Base} (hb : BOkB b) {w : Int} (hw : 0 ≤ w ∧ w ≤ 2) (s : Sub) :
    ∃ x y, spec_l14Collect b w s = some (x, y) ∧ impl_Sub_collectStep s b w = some (y, x) ∧ ∃ m' L, x = ⟨m', b.Clock, L, b.Haz⟩ ∧ SmallM m' ∧ L.length = 3 ∧ (flatR L).length ≤ 24 := by
  have hm := hb.1.1
  have hL := hb.1.2.2.1
  have hZ := hb.1.2.2.2
  have hsm := (MOk.facts hm).2.2.2.2.2.1
  have hlen : w.toNat < b.Limbo.length := by have := hL.1; omega
  have hx : idx b.Limbo w = some b.Limbo[w.toNat] := idx_in hw.1 (by omega)
  have hrow := hL.small.2.2.2 _ (List.getElem_mem hlen)
  have hmemL : b.Limbo[w.toNat] ∈ b.Limbo := List.getElem_mem hlen
  have hset : ∀ t : LList, t.Rows.length ≤ b.Limbo[w.toNat].Rows.length → (flatR (b.Limbo.set w.toNat t)).length ≤ 24 := fun t ht => by
    have := flatR_less hlen ht; have := hL.2.1; omega
  generalize b.Limbo[w.toNat] = l at hx hrow hset hmemL
  have done : ∀ y : Sub, ∃ x z, (some (b, y) : Option (Base × Sub)) = some (x, z) ∧ (some (y, b) : Option (Sub × Base)) = some (z, x) ∧ ∃ m' L, x = ⟨m', b.Clock, L, b.Haz⟩ ∧ SmallM m' ∧ L.length = 3 ∧ (flatR L).length ≤ 24 :=
    fun y => ⟨_, _, rfl, rfl, b.Mem, b.Limbo, rfl, hsm, hL.1, hL.2.1⟩
  have hw1 : w64 ((l.Rows.length : Int) - 1) = (l.Rows.length : Int) - 1 := w64_in (by omega) (by omega)
  have hhas : impl_hasRow b.Limbo w s.Row = some (decide (0 ≤ s.Row ∧ s.Row ≤ (l.Rows.length : Int) - 1)) := by
    unfold impl_hasRow impl_hasRow_j1
    rw [isWorker_eq, decide_eq_true hw, Option.bind_some, if_pos rfl, hx, Option.bind_some, within_eq, hw1]; rfl
  unfold spec_l14Collect impl_Sub_collectStep
  rw [hhas, hx]
  simp only [Option.bind_some, spec_l14End, l1In_eq, hw1]
  have hat : ∃ a : Bool, (if decide (0 ≤ s.Row ∧ s.Row ≤ (l.Rows.length : Int) - 1) = true then (idx l.Rows s.Row).bind fun x15 => impl_Sub_collectStep_j1 s b w (x15.Handle == s.H) else impl_Sub_collectStep_j1 s b w false) = impl_Sub_collectStep_j1 s b w a ∧
      (if (!decide (0 ≤ s.Row ∧ s.Row ≤ (l.Rows.length : Int) - 1)) = true then spec_l14Collect_j1 b s true else (idx l.Rows s.Row).bind fun x11 => spec_l14Collect_j1 b s (x11.Handle != s.H)) = spec_l14Collect_j1 b s (!a) ∧
      (a = true → ∃ r, r ∈ l.Rows ∧ idx l.Rows s.Row = some r ∧ r.Handle = s.H ∧ 0 ≤ s.Row ∧ s.Row < l.Rows.length) ∧
      (a = false → ∀ f : LRow → Option (Base × Sub), (if (!decide (0 ≤ s.Row ∧ s.Row ≤ (l.Rows.length : Int) - 1)) = true then spec_l14Collect_j3 b w s l true else (idx l.Rows s.Row).bind fun x => if (x.Handle != s.H) = true then spec_l14Collect_j3 b w s l true else f x) = spec_l14Collect_j3 b w s l true) := by
    by_cases q : 0 ≤ s.Row ∧ s.Row ≤ (l.Rows.length : Int) - 1
    · have hr : idx l.Rows s.Row = some (l.Rows[s.Row.toNat]'(by omega)) := idx_in q.1 (by omega)
      by_cases q2 : (l.Rows[s.Row.toNat]'(by omega)).Handle = s.H
      · refine ⟨true, ?_, ?_, fun _ => ⟨_, List.getElem_mem _, hr, q2, q.1, by omega⟩, fun h => by cases h⟩
        · rw [decide_eq_true q, if_pos rfl, hr, Option.bind_some, q2, beq_self_eq_true]
        · rw [decide_eq_true q, if_neg (by simp), hr, Option.bind_some, q2, bne_self_eq_false]; rfl
      · have n1 : ((l.Rows[s.Row.toNat]'(by omega)).Handle == s.H) = false := by simpa using q2
        have n2 : ((l.Rows[s.Row.toNat]'(by omega)).Handle != s.H) = true := by simpa using q2
        refine ⟨false, ?_, ?_, (fun h => by cases h), fun _ f => ?_⟩
        · rw [decide_eq_true q, if_pos rfl, hr, Option.bind_some, n1]
        · rw [decide_eq_true q, if_neg (by simp), hr, Option.bind_some, n2]; rfl
        · rw [decide_eq_true q, if_neg (by simp), hr, Option.bind_some, n2, if_pos rfl]
    · refine ⟨false, ?_, ?_, (fun h => by cases h), fun _ f => ?_⟩
      · rw [decide_eq_false q, if_neg (by simp)]
      · rw [decide_eq_false q, if_pos (by simp)]; rfl
      · rw [decide_eq_false q, if_pos (by simp)]
  obtain ⟨a, ha1, ha2, ha3, ha4⟩ := hat
  rw [ha1, ha2]
  unfold impl_Sub_collectStep_j1
  by_cases p0 : s.Pc = 0
  · simp only [p0, beq_self_eq_true, if_true]; exact done _
  have p0' : (s.Pc == 0) = false := by simpa using p0
  simp only [p0', Bool.false_eq_true, if_false]
  by_cases p1 : s.Pc = 1
  · simp only [p1, beq_self_eq_true, if_true]
    rcases seek_eq hx (by omega) s with ⟨e1, e2⟩ | ⟨k, hk, e1, e2⟩
    · rw [e1, e2, Option.bind_some, if_pos (by simp)]; simp only [impl_Sub_finish, p1, Option.bind_some]; exact done _
    · rw [e1, e2, Option.bind_some, if_neg (by simp), idx_nat hk]; simp only [Option.bind_some]; exact done _
  have p1' : (s.Pc == 1) = false := by simpa using p1
  simp only [p1', Bool.false_eq_true, if_false]
  by_cases p2 : s.Pc = 2
  · simp only [p2, beq_self_eq_true, if_true, isWorker_eq, Option.bind_some]
    by_cases hB : 0 ≤ s.B ∧ s.B ≤ 2
    · rw [decide_eq_true hB]
      simp only [Bool.not_true, Bool.false_eq_true, if_false, if_true]
      cases a with
      | true =>
        have hz : idx b.Haz s.B = some (b.Haz[s.B.toNat]'(by have := hZ.1; omega)) := idx_in hB.1 (by have := hZ.1; omega)
        simp only [spec_l14Collect_j1, impl_Sub_collectStep_j2, Bool.not_true, Bool.false_eq_true, if_false, if_true, hz, Option.bind_some, spec_l14Collect_j2]
        by_cases q : (b.Haz[s.B.toNat]'(by have := hZ.1; omega)) = s.H
        · simp only [q, beq_self_eq_true, if_true]; exact done _
        · have q' : ((b.Haz[s.B.toNat]'(by have := hZ.1; omega)) == s.H) = false := by simpa using q
          simp only [q', Bool.false_eq_true, if_false]
          by_cases q3 : w64 (s.B + 1) = 3
          · simp only [q3, beq_self_eq_true, if_true]; exact done _
          · have q3' : (w64 (s.B + 1) == 3) = false := by simpa using q3
            simp only [q3', Bool.false_eq_true, if_false]; exact done _
      | false =>
        simp only [spec_l14Collect_j1, impl_Sub_collectStep_j2, impl_Sub_collectStep_j3, spec_l14End, impl_Sub_finish, Bool.not_false, if_true, Bool.false_eq_true, if_false, p2, show ((2 : Int) == 3) = false from rfl, Option.bind_some]
        exact done _
    · rw [decide_eq_false hB]
      simp only [spec_l14Collect_j1, impl_Sub_collectStep_j2, impl_Sub_collectStep_j3, spec_l14End, impl_Sub_finish, Bool.not_false, if_true, Bool.false_eq_true, if_false, p2, show ((2 : Int) == 3) = false from rfl, Option.bind_some]
      exact done _
  have p2' : (s.Pc == 2) = false := by simpa using p2
  simp only [p2', Bool.false_eq_true, if_false, impl_Sub_collectStep_j2]
  by_cases p3 : s.Pc = 3
  · simp only [p3, beq_self_eq_true, if_true]
    cases a with
    | false =>
      rw [ha4 rfl]
      simp only [spec_l14Collect_j3, impl_Sub_collectStep_j3, spec_l14End, impl_Sub_finish, if_true, Bool.false_eq_true, if_false, Option.bind_some]
      exact done _
    | true =>
      obtain ⟨r, hrm, hr, hrH, r0, r1⟩ := ha3 rfl
      obtain ⟨v, e1, e2⟩ := ripe_eq r s.E
      rw [decide_eq_true (show 0 ≤ s.Row ∧ s.Row ≤ (l.Rows.length : Int) - 1 by omega)]
      simp only [Bool.not_true, Bool.false_eq_true, if_false, if_true, hr, Option.bind_some, hrH, bne_self_eq_false, hx, e1, e2]
      cases v with
      | false =>
        simp only [spec_l14Collect_j3, impl_Sub_collectStep_j3, spec_l14End, impl_Sub_finish, Bool.not_false, if_true, Bool.false_eq_true, if_false, Option.bind_some]
        exact done _
      | true =>
        have hlive : LiveS b.Mem s.H := by
          have : r ∈ flatR b.Limbo := List.mem_flatMap.2 ⟨l, hmemL, hrm⟩
          have := (hb.2 r this).1
          rwa [hrH] at this
        obtain ⟨m', f1, f2, f3⟩ := free_eq hm hw hlive
        have ew : w64 (s.Row + 1) = s.Row + 1 := w64_in (by omega) (by omega)
        have hdrop : impl_DropRow b.Limbo w s.Row = some (b.Limbo.set w.toNat ⟨((blitL l.Rows s.Row.toNat (l.Rows.drop (s.Row + 1).toNat)).take (s.Row.toNat + (l.Rows.length - (s.Row + 1).toNat))).drop 0⟩, true) := by
          unfold impl_DropRow impl_DropRow_j1
          rw [(copyLimbo_eq hL.small.2.2.1 (fun s h => by have := hL.small.2.2.2 s h; omega)).2, impl_LimboOk_eq hL.small.1, decide_eq_true hL, hhas, decide_eq_true (show 0 ≤ s.Row ∧ s.Row ≤ (l.Rows.length : Int) - 1 by omega)]
          simp only [Option.bind_some, Bool.not_true, Bool.false_eq_true, if_false, hx, ew]
          unfold slices_Delete_LRow
          rw [need_yes (by omega), if_neg (by simp; omega), need_yes (by omega), need_yes (by omega), need_yes (by omega), need_yes]
          · rfl
          · rw [blitL_len (by omega)]
            simp only [List.drop_zero, List.length_take, blitL_len (show s.Row.toNat ≤ l.Rows.length by omega)]
            omega
        simp only [spec_l14Collect_j3, impl_Sub_collectStep_j3, spec_l14Collect_j4, ew, Bool.not_true, Bool.false_eq_true, if_false, if_true]
        rw [need_yes (by omega), need_yes (by omega), need_yes (by omega), spec_HandleSlot_eq, if_pos hlive.1, Option.bind_some, f1, f2, hdrop]
        refine ⟨_, _, rfl, rfl, m', _, rfl, f3, by rw [List.length_set]; exact hL.1, hset _ ?_⟩
        simp only [List.drop_zero, List.length_take]; omega
  · have p3' : (s.Pc == 3) = false := by simpa using p3
    simp only [p3', Bool.false_eq_true, if_false, impl_Sub_collectStep_j3, impl_Sub_finish, Option.bind_some]
    exact done _
end Go.Gv
end
section
set_option linter.unusedVariables false
set_option linter.unusedSimpArgs false
set_option linter.unusedSectionVars false
namespace Go.Gv
theorem SmallB.fits {b : Base} (h : SmallB b) : b.Mem.Heap.Bytes.length ≤ maxLen ∧ (allS b.Mem.Lists).length ≤ 1073741824 ∧ b.Clock.Pins.length ≤ maxLen ∧ b.Limbo.length ≤ maxLen ∧ (flatR b.Limbo).length ≤ 1073741824 ∧ b.Haz.length ≤ maxLen := by
  have hb : (1048576 : Nat) ≤ maxLen := by simp [maxLen]
  have g1 := h.1.1; have g2 := h.1.2.2.2.2; have g3 := h.2.1; have g4 := h.2.2.1; have g5 := h.2.2.2.1; have g6 := h.2.2.2.2
  exact ⟨by omega, by omega, by omega, by omega, by omega, by omega⟩
theorem step_eq {b : Base} (hb : BOkB b) (hs : SmallB b) {w : Int} (hw : 0 ≤ w ∧ w ≤ 2) (s : Sub) :
    ∃ x y, spec_l14Do b w s = some (x, y) ∧ impl_Sub_step s b w = some (y, x) ∧ SmallB x := by
  have hz := hb.1.2.2.2.1
  have hl := hb.1.2.2.1
  unfold spec_l14Do impl_Sub_step
  cases hd : s.Done with
  | true => exact ⟨_, _, rfl, rfl, hs⟩
  | false =>
    simp only [Bool.false_eq_true, if_false]
    by_cases k1 : s.Kind = 1
    · obtain ⟨x, y, e1, e2, m, rfl, h1⟩ := alloc_eq hb.1.1 hw s
      simp only [k1, beq_self_eq_true, if_true, e1, e2, Option.bind_some]
      exact ⟨_, _, rfl, rfl, h1, hs.2⟩
    have k1' : (s.Kind == 1) = false := by simpa using k1
    simp only [k1', Bool.false_eq_true, if_false]
    by_cases k2 : s.Kind = 2
    · obtain ⟨x, y, e1, e2, L, rfl, h1⟩ := retire_eq hb hs hw s
      simp only [k2, beq_self_eq_true, if_true, e1, e2, Option.bind_some]
      have a1 := h1.1; have a2 := h1.2.1
      exact ⟨_, _, rfl, rfl, hs.1, hs.2.1, by show L.length ≤ _; omega, by show (flatR L).length ≤ _; omega, hs.2.2.2.2⟩
    have k2' : (s.Kind == 2) = false := by simpa using k2
    simp only [k2', Bool.false_eq_true, if_false]
    by_cases k3 : s.Kind = 3
    · obtain ⟨x, y, e1, e2, c, rfl, h1⟩ := advance_eq hb.1.2.1 s
      simp only [k3, beq_self_eq_true, if_true, e1, e2, Option.bind_some]
      exact ⟨_, _, rfl, rfl, hs.1, by show c.Pins.length ≤ _; omega, hs.2.2⟩
    have k3' : (s.Kind == 3) = false := by simpa using k3
    simp only [k3', Bool.false_eq_true, if_false]
    by_cases k4 : s.Kind = 4
    · obtain ⟨x, y, e1, e2, m, L, rfl, h1, h2, h3⟩ := collect_eq hb hw s
      simp only [k4, beq_self_eq_true, if_true, e1, e2, Option.bind_some]
      exact ⟨_, _, rfl, rfl, h1, hs.2.1, by show L.length ≤ _; omega, by show (flatR L).length ≤ _; omega, hs.2.2.2.2⟩
    have k4' : (s.Kind == 4) = false := by simpa using k4
    simp only [k4', Bool.false_eq_true, if_false]
    by_cases k5 : s.Kind = 5
    · obtain ⟨x, y, e1, e2, c, rfl, h1⟩ := pin_eq hb.1.2.1 hw s
      simp only [k5, beq_self_eq_true, if_true, e1, e2, Option.bind_some]
      exact ⟨_, _, rfl, rfl, hs.1, by show c.Pins.length ≤ _; omega, hs.2.2⟩
    have k5' : (s.Kind == 5) = false := by simpa using k5
    simp only [k5', Bool.false_eq_true, if_false, spec_l14End, impl_Sub_finish, Option.bind_some]
    exact ⟨_, _, rfl, rfl, hs⟩
theorem subStep_eq {b : Base} (hs : SmallB b) (w : Int) (s : Sub) : ∃ x y, spec_SubStep b w s = some (x, y) ∧ impl_SubStep b w s = some (x, y) ∧ SmallB x := by
  unfold spec_SubStep impl_SubStep spec_SubStep_j1 impl_SubStep_j1
  rw [(copyBase_eq hs).1, (copyBase_eq hs).2, spec_BaseOk_eq hs.fits, impl_BaseOk_eq hs.fits, l1In_eq, isWorker_eq]
  simp only [Option.bind_some]
  by_cases hb : BOkB b
  · simp only [decide_eq_true hb, Bool.not_true, Bool.false_eq_true, if_false]
    by_cases hw : 0 ≤ w ∧ w ≤ 2
    · simp only [decide_eq_true hw, Bool.not_true, Bool.false_eq_true, if_false]
      obtain ⟨x, y, e1, e2, h⟩ := step_eq hb hs hw s
      rw [e1, e2]; exact ⟨_, _, rfl, rfl, h⟩
    · simp only [decide_eq_false hw, Bool.not_false, if_true]; exact ⟨_, _, rfl, rfl, hs⟩
  · simp only [decide_eq_false hb, Bool.not_false, if_true]; exact ⟨_, _, rfl, rfl, hs⟩
theorem eqSub_self (s : Sub) : laws_eqSub s s = some true := by
  unfold laws_eqSub
  simp only [bne_self_eq_false, Bool.false_eq_true, if_false, beq_self_eq_true, Bool.not_true]
end Go.Gv
end
section
set_option linter.unusedVariables false
set_option linter.unusedSimpArgs false
set_option linter.unusedSectionVars false
namespace Go.Gv
theorem law_FnExactSubStep {aB : Base} (hf : fit aB) {aW : Int} (_ : fit aW) {aS : Sub} (_ : fit aS) : laws_FnExactSubStep aB aW aS = some true := by
  obtain ⟨x, h1, h2⟩ := szBase_eq hf
  unfold laws_FnExactSubStep
  rw [h1]
  simp only [Option.bind_some]
  by_cases h3 : x < 0
  · simp [h3]
  · have hs : SmallB aB := h2 h3
    obtain ⟨⟨⟨⟨a1, a2⟩, ⟨a3, a4⟩⟩, ⟨a5, a6⟩, a7, a8⟩, ⟨b1, b2, b3, b4, b5, b6, b7, b8, b9, b10⟩, e1, e2, hr⟩ := subStep_eq hs aW aS
    obtain ⟨u, e3, e4, e5⟩ := heldB_mark hs
    obtain ⟨v, f3, f4, f5⟩ := heldB_mark hr
    have n1 : ¬ u.1 < 0 := by omega
    have n2 : ¬ v.1 < 0 := by omega
    simp only [decide_eq_false h3, Bool.false_eq_true, if_false, toBase_eq hs, laws_toSub, Option.bind_some, e1, e2, laws_FnExactSubStep_j1, laws_FnExactSubStep_j2, laws_FnExactSubStep_j3, laws_FnExactSubStep_j4, laws_FnExactSubStep_j5, laws_FnExactSubStep_j6,
      eqBase_self hr, eqBase_self hs, eqSub_self, Bool.not_true, e3, f3, decide_eq_false n1, f4, decide_eq_false n2, bne_self_eq_false]
end Go.Gv
end
