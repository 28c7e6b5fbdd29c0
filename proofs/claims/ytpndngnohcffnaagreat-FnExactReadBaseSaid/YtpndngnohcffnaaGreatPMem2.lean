/- Memories and how they are shown. -/
import Derived.Test.YtpndngnohcffnaaGreatPMem
set_option linter.unusedVariables false
set_option linter.unusedSimpArgs false
set_option linter.unusedSectionVars false
namespace Go.Gv
def FitsL (h : Heap) (l : List Int) (c : Int) : Prop := ∀ x ∈ l, clsS h x = c ∧ genS h x ≤ 6
instance (h : Heap) (l : List Int) (c : Int) : Decidable (FitsL h l c) := by unfold FitsL; infer_instance
theorem spec_l9Listed_eq {h : Heap} (hs : HShape h) {l : List Int} (hl : l.length ≤ maxLen) {c : Int} (hc : 0 ≤ c) : spec_l9Listed h l c = some (decide (FitsL h l c)) := by
  unfold spec_l9Listed
  have key : loop (spec_l9Listed_l1 h l c) 0 = some (if ∀ x ∈ l, clsS h x = c ∧ genS h x ≤ 6 then Out.brk () else Out.ret false) := by
    have hst : ∀ k (hk : k < l.length), spec_l9Listed_l1 h l c (k : Int) = if clsS h l[k] = c ∧ genS h l[k] ≤ 6 then some (.next ((k + 1 : Nat) : Int)) else some (.stop (Out.ret false)) := by
      intro k hk
      simp only [spec_l9Listed_l1]
      rw [if_pos (by simp; omega), idx_nat hk]
      generalize l[k] = x
      simp only [Option.bind_some, spec_l7Class_eq hs, spec_l9Listed_j2]
      by_cases q : clsS h x = c
      · have n1 : (clsS h x != c) = false := by simp only [bne_eq_false_iff_eq]; exact q
        simp only [n1, Bool.false_eq_true, if_false, spec_l7Gen_eq hs (show 0 ≤ clsS h x by omega), Option.bind_some, w64_nat (lt_max hk hl)]
        by_cases q2 : genS h x ≤ 6
        · rw [if_neg (by simp; omega), if_pos ⟨q, q2⟩]
        · rw [if_pos (by simp; omega), if_neg (fun x => q2 x.2)]
      · have n1 : (clsS h x != c) = true := by simp only [bne_iff_ne]; exact q
        simp only [n1, if_true]
        rw [if_neg (fun x => q x.1)]
    refine scan_list (f := spec_l9Listed_l1 h l c) l (fun k => (k : Int)) (fun x => clsS h x = c ∧ genS h x ≤ 6) _ _ (fun k hk hp => ?_) (fun k hk hp => ?_) ?_
    · rw [hst k hk, if_pos hp]
    · rw [hst k hk, if_neg hp]
    · simp [spec_l9Listed_l1]
  rw [key]
  by_cases q : ∀ x ∈ l, clsS h x = c ∧ genS h x ≤ 6
  · rw [if_pos q, decide_eq_true (show FitsL h l c from q)]; rfl
  · rw [if_neg q, decide_eq_false (show ¬ FitsL h l c from q)]; rfl
theorem impl_listFits_eq {h : Heap} (hs : HShape h) {s : SList} (hl : s.Slots.length ≤ maxLen) {c : Int} (hc : 0 ≤ c) : impl_listFits h s c = some (decide (FitsL h s.Slots c)) := by
  unfold impl_listFits
  have key : loop (impl_listFits_l1 h s c) 0 = some (if ∀ x ∈ s.Slots, clsS h x = c ∧ genS h x ≤ 6 then Out.brk () else Out.ret false) := by
    have hst : ∀ k (hk : k < s.Slots.length), impl_listFits_l1 h s c (k : Int) = if clsS h s.Slots[k] = c ∧ genS h s.Slots[k] ≤ 6 then some (.next ((k + 1 : Nat) : Int)) else some (.stop (Out.ret false)) := by
      intro k hk
      simp only [impl_listFits_l1]
      rw [if_pos (by simp; omega), idx_nat hk]
      generalize s.Slots[k] = x
      simp only [Option.bind_some, impl_classIn_eq hs, impl_listFits_j2]
      by_cases q : clsS h x = c
      · have n1 : (clsS h x != c) = false := by simp only [bne_eq_false_iff_eq]; exact q
        simp only [n1, Bool.false_eq_true, if_false, impl_GenIn_eq hs (show 0 ≤ clsS h x by omega), Option.bind_some, w64_nat (lt_max hk hl)]
        by_cases q2 : genS h x ≤ 6
        · rw [if_neg (by simp; omega), if_pos ⟨q, q2⟩]
        · rw [if_pos (by simp; omega), if_neg (fun x => q2 x.2)]
      · have n1 : (clsS h x != c) = true := by simp only [bne_iff_ne]; exact q
        simp only [n1, if_true]
        rw [if_neg (fun x => q x.1)]
    refine scan_list (f := impl_listFits_l1 h s c) s.Slots (fun k => (k : Int)) (fun x => clsS h x = c ∧ genS h x ≤ 6) _ _ (fun k hk hp => ?_) (fun k hk hp => ?_) ?_
    · rw [hst k hk, if_pos hp]
    · rw [hst k hk, if_neg hp]
    · simp [impl_listFits_l1]
  rw [key]
  by_cases q : ∀ x ∈ s.Slots, clsS h x = c ∧ genS h x ≤ 6
  · rw [if_pos q, decide_eq_true (show FitsL h s.Slots c from q)]; rfl
  · rw [if_neg q, decide_eq_false (show ¬ FitsL h s.Slots c from q)]; rfl

def slotsAt (l : List SList) (k : Nat) : List Int := (l.getD k ⟨[]⟩).Slots
theorem slotsAt_get {l : List SList} {k : Nat} (h : k < l.length) : l[k].Slots = slotsAt l k := by
  unfold slotsAt; rw [List.getD_eq_getElem?_getD, List.getElem?_eq_getElem h]; rfl
def GFit (m : Mem) (k : Nat) : Prop := FitsL m.Heap (slotsAt m.Lists.Global k) (k : Int)
def OFit (m : Mem) (k : Nat) : Prop := FitsL m.Heap (slotsAt m.Lists.Own k) ((k % 3 : Nat) : Int)
instance (m : Mem) (k : Nat) : Decidable (GFit m k) := by unfold GFit; infer_instance
instance (m : Mem) (k : Nat) : Decidable (OFit m k) := by unfold OFit; infer_instance
instance (m : Mem) : Decidable (∀ k, k < 3 → GFit m k) := Nat.decidableBallLT 3 fun k _ => GFit m k
instance (m : Mem) : Decidable (∀ k, k < 9 → OFit m k) := Nat.decidableBallLT 9 fun k _ => OFit m k
instance (m : Mem) (c : Nat) : Decidable (∀ w, w < 3 → OFit m (w * 3 + c)) := Nat.decidableBallLT 3 fun w _ => OFit m (w * 3 + c)
instance (m : Mem) : Decidable (∀ k, k < 3 → GFit m k ∧ ∀ w, w < 3 → OFit m (w * 3 + k)) := Nat.decidableBallLT 3 fun k _ => GFit m k ∧ ∀ w, w < 3 → OFit m (w * 3 + k)
def MOk (m : Mem) : Prop := (HOk m.Heap ∧ LOk m.Lists) ∧ (∀ k, k < 3 → GFit m k) ∧ ∀ k, k < 9 → OFit m k
instance (m : Mem) : Decidable (MOk m) := by unfold MOk; infer_instance
theorem LOk.slots {l : Lists} (h : LOk l) (hb : (allS l).length ≤ 1073741824) : (∀ s ∈ l.Global, s.Slots.length ≤ 1073741824) ∧ ∀ s ∈ l.Own, s.Slots.length ≤ 1073741824 := by
  have hsum : (flatS l.Global).length + (flatS l.Own).length ≤ 1073741824 := by simpa [allS] using hb
  constructor
  · intro s hm
    obtain ⟨k, hk, rfl⟩ := List.mem_iff_getElem.1 hm
    have := flat_get l.Global hk; omega
  · intro s hm
    obtain ⟨k, hk, rfl⟩ := List.mem_iff_getElem.1 hm
    have := flat_get l.Own hk; omega
theorem own_all {m : Mem} : (∀ k, k < 3 → GFit m k ∧ ∀ w, w < 3 → OFit m (w * 3 + k)) ↔ (∀ k, k < 3 → GFit m k) ∧ ∀ k, k < 9 → OFit m k := by
  constructor
  · intro h
    refine ⟨fun k hk => (h k hk).1, fun k hk => ?_⟩
    have := (h (k % 3) (by omega)).2 (k / 3) (by omega)
    have e : k / 3 * 3 + k % 3 = k := by omega
    rwa [e] at this
  · rintro ⟨h1, h2⟩ k hk
    exact ⟨h1 k hk, fun w hw => h2 _ (by omega)⟩
theorem spec_MemOk_eq {m : Mem} (hb : m.Heap.Bytes.length ≤ maxLen) (hl : (allS m.Lists).length ≤ 1073741824) : spec_MemOk m = some (decide (MOk m)) := by
  unfold spec_MemOk spec_MemOk_j1
  rw [spec_HeapOk_eq hb, spec_ListsOk_eq hl]
  by_cases h1 : HOk m.Heap
  · by_cases h2 : LOk m.Lists
    · have hmx : (1073741824 : Nat) ≤ maxLen := by simp [maxLen]
      have hsl := LOk.slots h2 hl
      simp only [decide_eq_true h1, decide_eq_true h2, Option.bind_some, Bool.not_true, Bool.false_eq_true, if_false]
      have k3 : ∀ c : Nat, c < 3 → loop (spec_MemOk_l3 m (c : Int)) 0 = some (if ∀ w, w < 3 → OFit m (w * 3 + c) then Out.brk () else Out.ret false) := by
        intro c hc
        have hst : ∀ w : Nat, w < 3 → spec_MemOk_l3 m (c : Int) (w : Int) = if OFit m (w * 3 + c) then some (.next ((w + 1 : Nat) : Int)) else some (.stop (Out.ret false)) := by
          intro w hw
          have hk : w * 3 + c < m.Lists.Own.length := by rw [h2.2.1]; omega
          have e : spec_OwnAt (w : Int) (c : Int) = some ((w * 3 + c : Nat) : Int) := by
            unfold spec_OwnAt spec_OwnAt_j1
            rw [l1In_eq, l1In_eq, decide_eq_true (by omega), decide_eq_true (by omega)]
            simp only [Option.bind_some, Bool.not_true, Bool.false_eq_true, if_false]
            rw [w64_in (x := (w : Int) * 3) (by omega) (by omega), w64_in (by omega) (by omega)]; rfl
          have hlen := hsl.2 _ (List.getElem_mem hk)
          simp only [spec_MemOk_l3]
          rw [if_pos (by simp; omega), e]
          simp only [Option.bind_some, idx_nat hk]
          rw [spec_l9Listed_eq h1.1 (by omega) (by omega), slotsAt_get hk]
          have em : (w * 3 + c) % 3 = c := by omega
          have ho : OFit m (w * 3 + c) ↔ FitsL m.Heap (slotsAt m.Lists.Own (w * 3 + c)) (c : Int) := by unfold OFit; rw [em]
          rw [w64_in (by omega) (by omega)]
          by_cases q : OFit m (w * 3 + c)
          · rw [if_pos q, decide_eq_true (ho.1 q)]; rfl
          · rw [if_neg q, decide_eq_false (fun x => q (ho.2 x))]; rfl
        refine scan_all (f := spec_MemOk_l3 m (c : Int)) 3 (fun k => (k : Int)) (fun w => OFit m (w * 3 + c)) _ _ (fun k hk hx => ?_) (fun k hk hx => ?_) ?_
        · rw [hst k hk, if_pos hx]
        · rw [hst k hk, if_neg hx]
        · rfl
      have k2 : loop (spec_MemOk_l2 m) 0 = some (if ∀ k, k < 3 → GFit m k ∧ ∀ w, w < 3 → OFit m (w * 3 + k) then Out.brk () else Out.ret false) := by
        have hst : ∀ c : Nat, c < 3 → spec_MemOk_l2 m (c : Int) = if GFit m c ∧ ∀ w, w < 3 → OFit m (w * 3 + c) then some (.next ((c + 1 : Nat) : Int)) else some (.stop (Out.ret false)) := by
          intro c hc
          have hk : c < m.Lists.Global.length := by rw [h2.1]; omega
          have hlen := hsl.1 _ (List.getElem_mem hk)
          simp only [spec_MemOk_l2]
          rw [if_pos (by simp; omega)]
          simp only [Option.bind_some, idx_nat hk]
          rw [spec_l9Listed_eq h1.1 (by omega) (by omega), slotsAt_get hk, k3 c hc]
          by_cases q : GFit m c
          · have q' : FitsL m.Heap (slotsAt m.Lists.Global c) (c : Int) := q
            rw [decide_eq_true q']
            simp only [Option.bind_some, Bool.not_true, Bool.false_eq_true, if_false]
            by_cases q2 : ∀ w, w < 3 → OFit m (w * 3 + c)
            · rw [if_pos q2, if_pos ⟨q, q2⟩]
              simp only [spec_MemOk_m3, spec_MemOk_j3]
              rw [w64_in (by omega) (by omega)]; rfl
            · rw [if_neg q2, if_neg (fun x => q2 x.2)]; rfl
          · have q' : ¬ FitsL m.Heap (slotsAt m.Lists.Global c) (c : Int) := q
            rw [decide_eq_false q', if_neg (fun x : GFit m c ∧ _ => q x.1)]; rfl
        refine scan_all (f := spec_MemOk_l2 m) 3 (fun k => (k : Int)) (fun k => GFit m k ∧ ∀ w, w < 3 → OFit m (w * 3 + k)) _ _ (fun k hk hx => ?_) (fun k hk hx => ?_) ?_
        · rw [hst k hk, if_pos hx]
        · rw [hst k hk, if_neg hx]
        · rfl
      rw [k2]
      by_cases q : ∀ k, k < 3 → GFit m k ∧ ∀ w, w < 3 → OFit m (w * 3 + k)
      · rw [if_pos q, decide_eq_true (show MOk m from ⟨⟨h1, h2⟩, own_all.1 q⟩)]; rfl
      · rw [if_neg q, decide_eq_false (fun x : MOk m => q (own_all.2 x.2))]; rfl
    · rw [decide_eq_false (fun q : MOk m => h2 q.1.2), decide_eq_true h1, decide_eq_false h2]; rfl
  · rw [decide_eq_false (fun q : MOk m => h1 q.1.1), decide_eq_false h1]; rfl
theorem impl_MemOk_eq {m : Mem} (hb : m.Heap.Bytes.length ≤ maxLen) (hl : (allS m.Lists).length ≤ 1073741824) : impl_MemOk m = some (decide (MOk m)) := by
  unfold impl_MemOk impl_MemOk_j1
  rw [impl_HeapOk_eq hb, impl_ListsOk_eq hl]
  by_cases h1 : HOk m.Heap
  · by_cases h2 : LOk m.Lists
    · have hmx : (1073741824 : Nat) ≤ maxLen := by simp [maxLen]
      have hsl := LOk.slots h2 hl
      simp only [decide_eq_true h1, decide_eq_true h2, Option.bind_some, Bool.not_true, Bool.false_eq_true, if_false]
      have k3 : loop (impl_MemOk_l3 m) 0 = some (if ∀ k, k < 9 → OFit m k then Out.brk () else Out.ret false) := by
        have hst : ∀ w : Nat, w < 9 → impl_MemOk_l3 m (w : Int) = if OFit m w then some (.next ((w + 1 : Nat) : Int)) else some (.stop (Out.ret false)) := by
          intro w hw
          have hk : w < m.Lists.Own.length := by rw [h2.2.1]; omega
          have hlen := hsl.2 _ (List.getElem_mem hk)
          have em : Int.tmod (w : Int) 3 = ((w % 3 : Nat) : Int) := by rw [tmod_pos (by omega)]; omega
          simp only [impl_MemOk_l3]
          rw [if_pos (by simp; omega)]
          simp only [Option.bind_some, idx_nat hk, em]
          rw [impl_listFits_eq h1.1 (by omega) (by omega), slotsAt_get hk, w64_in (by omega) (by omega)]
          by_cases q : OFit m w
          · rw [if_pos q, decide_eq_true (show FitsL m.Heap (slotsAt m.Lists.Own w) ((w % 3 : Nat) : Int) from q)]; rfl
          · rw [if_neg q, decide_eq_false (show ¬ FitsL m.Heap (slotsAt m.Lists.Own w) ((w % 3 : Nat) : Int) from q)]; rfl
        refine scan_all (f := impl_MemOk_l3 m) 9 (fun k => (k : Int)) (fun w => OFit m w) _ _ (fun k hk hx => ?_) (fun k hk hx => ?_) ?_
        · rw [hst k hk, if_pos hx]
        · rw [hst k hk, if_neg hx]
        · simp [impl_MemOk_l3, h2.2.1]
      have k2 : loop (impl_MemOk_l2 m) 0 = some (if ∀ k, k < 3 → GFit m k then Out.brk () else Out.ret false) := by
        have hst : ∀ w : Nat, w < 3 → impl_MemOk_l2 m (w : Int) = if GFit m w then some (.next ((w + 1 : Nat) : Int)) else some (.stop (Out.ret false)) := by
          intro w hw
          have hk : w < m.Lists.Global.length := by rw [h2.1]; omega
          have hlen := hsl.1 _ (List.getElem_mem hk)
          simp only [impl_MemOk_l2]
          rw [if_pos (by simp; omega)]
          simp only [Option.bind_some, idx_nat hk]
          rw [impl_listFits_eq h1.1 (by omega) (by omega), slotsAt_get hk, w64_in (by omega) (by omega)]
          by_cases q : GFit m w
          · rw [if_pos q, decide_eq_true (show FitsL m.Heap (slotsAt m.Lists.Global w) (w : Int) from q)]; rfl
          · rw [if_neg q, decide_eq_false (show ¬ FitsL m.Heap (slotsAt m.Lists.Global w) (w : Int) from q)]; rfl
        refine scan_all (f := impl_MemOk_l2 m) 3 (fun k => (k : Int)) (fun w => GFit m w) _ _ (fun k hk hx => ?_) (fun k hk hx => ?_) ?_
        · rw [hst k hk, if_pos hx]
        · rw [hst k hk, if_neg hx]
        · simp [impl_MemOk_l2, h2.1]
      rw [k2]
      by_cases q : ∀ k, k < 3 → GFit m k
      · rw [if_pos q]
        simp only [Option.bind_some, impl_MemOk_m2, impl_MemOk_j2]
        rw [k3]
        by_cases q2 : ∀ k, k < 9 → OFit m k
        · rw [if_pos q2, decide_eq_true (show MOk m from ⟨⟨h1, h2⟩, q, q2⟩)]; rfl
        · rw [if_neg q2, decide_eq_false (fun x : MOk m => q2 x.2.2)]; rfl
      · rw [if_neg q, decide_eq_false (fun x : MOk m => q x.2.1)]; rfl
    · rw [decide_eq_false (fun q : MOk m => h2 q.1.2), decide_eq_true h1, decide_eq_false h2]; rfl
  · rw [decide_eq_false (fun q : MOk m => h1 q.1.1), decide_eq_false h1]; rfl
end Go.Gv
