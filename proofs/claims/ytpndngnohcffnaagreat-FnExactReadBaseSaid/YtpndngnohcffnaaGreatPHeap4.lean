/- Pages and heaps, as the program looks at them. -/
import Derived.Test.YtpndngnohcffnaaGreatPHeap3
set_option linter.unusedVariables false
set_option linter.unusedSimpArgs false
set_option linter.unusedSectionVars false
namespace Go.Gv
theorem impl_isZero_eq {l : List Int} (hl : l.length ≤ maxLen) : impl_isZero l = some (decide (∀ x ∈ l, x = 0)) := by
  unfold impl_isZero
  have e : (fun y0 => impl_isZero_1 y0) = fun y : Int => some (!decide (y = 0)) := by
    funext y; simp [impl_isZero_1, bne]; rfl
  rw [e, contains_int hl, any_not]
  simp
section
variable {h : Heap} (hs : HShape h) {p : Nat} (hp : p < 6)
include hs hp
theorem pg_eq : (h.Bytes.take ((p + 1) * 64)).drop (p * 64) = pageB h p := by
  unfold pageB
  rw [List.drop_take]; congr 1; omega
theorem ld_page {a : Nat} (ha : a + 4 ≤ 64) : ld (pageB h p) a 4 = ld h.Bytes (p * 64 + a) 4 := by
  unfold ld pageB
  rw [List.drop_take, List.take_take, List.drop_drop]
  congr 2; omega
theorem idx_pg {k : Nat} (hk : k < 64) : idx (pageB h p) (k : Int) = some ((pageB h p).getD k 0) := by
  have := page_len hs hp
  rw [idx_nat (by omega), List.getD_eq_getElem?_getD, List.getElem?_eq_getElem (by omega)]; rfl
theorem impl_pageOk_eq : impl_pageOk h (p : Int) = some (decide (PageOk h p)) := by
  have hb := hs.1
  have hl := page_len hs hp
  have hm : (pageB h p).length ≤ maxLen := by rw [hl]; simp [maxLen]
  have e0 : w64 ((p : Int) * 64) = ((p * 64 : Nat) : Int) := by rw [w64_in (by omega) (by omega)]; omega
  have e1 : w64 (w64 ((p : Int) + 1) * 64) = (((p + 1) * 64 : Nat) : Int) := by rw [w64_in (x := (p : Int) + 1) (by omega) (by omega), w64_in (by omega) (by omega)]; omega
  have i0 := idx_pg hs hp (show 0 < 64 by omega)
  have i1 := idx_pg hs hp (show 1 < 64 by omega)
  have i2 := idx_pg hs hp (show 2 < 64 by omega)
  rw [show ((0 : Nat) : Int) = 0 from rfl] at i0
  rw [show ((1 : Nat) : Int) = 1 from rfl] at i1
  rw [show ((2 : Nat) : Int) = 2 from rfl] at i2
  unfold impl_pageOk
  rw [idx_cls hs hp]
  simp only [Option.bind_some, e0, e1, Int.toNat_natCast, pg_eq hs hp]
  rw [need_yes (by omega)]
  by_cases hc : clsP h p < 0
  · have hP : PageOk h p ↔ ∀ x ∈ pageB h p, x = 0 := by unfold PageOk; rw [if_pos hc]
    simp only [hc, decide_true, if_true, impl_isZero_eq hm, Option.bind_some, hP]
  · have hP : PageOk h p ↔ ((pageB h p).getD 0 0 = 171 ∧ (pageB h p).getD 1 0 = clsP h p ∧ (pageB h p).getD 2 0 = perC (clsP h p)) ∧ (∀ x ∈ ((pageB h p).drop 3).take 5, x = 0) ∧ ∀ i, i < (perC (clsP h p)).toNat → 1 ≤ ld h.Bytes (p * 64 + 8 + i * (strideC (clsP h p)).toNat) 4 ∧ ld h.Bytes (p * 64 + 8 + i * (strideC (clsP h p)).toNat) 4 ≤ 7 := by unfold PageOk; rw [if_neg hc]
    simp only [hc, decide_false, Bool.false_eq_true, if_false, i0, i1, i2, Option.bind_some, impl_PerPage_eq]
    by_cases a0 : (pageB h p).getD 0 0 = 171
    · by_cases a1 : (pageB h p).getD 1 0 = clsP h p
      · by_cases a2 : (pageB h p).getD 2 0 = perC (clsP h p)
        · have n0 : ((pageB h p).getD 0 0 != 171) = false := by simp only [bne_eq_false_iff_eq]; exact a0
          have n1 : ((pageB h p).getD 1 0 != clsP h p) = false := by simp only [bne_eq_false_iff_eq]; exact a1
          have n2 : ((pageB h p).getD 2 0 != perC (clsP h p)) = false := by simp only [bne_eq_false_iff_eq]; exact a2
          have t8 : ((pageB h p).take (8 : Int).toNat).drop (3 : Int).toNat = ((pageB h p).drop 3).take 5 := by
            rw [show (8 : Int).toNat = 8 from rfl, show (3 : Int).toNat = 3 from rfl, List.drop_take]
          simp only [n0, n1, n2, Bool.false_eq_true, if_false, impl_pageOk_j1, t8]
          rw [need_yes (by omega), impl_isZero_eq (by simp [maxLen]; omega)]
          by_cases h4 : ∀ x ∈ ((pageB h p).drop 3).take 5, x = 0
          · simp only [decide_eq_true h4, Option.bind_some, Bool.not_true, Bool.false_eq_true, if_false, impl_PerPage_eq]
            have key2 : loop (impl_pageOk_l2 h (p : Int) (clsP h p) (perC (clsP h p))) 0 = some (if ∀ i, i < (perC (clsP h p)).toNat → 1 ≤ ld h.Bytes (p * 64 + 8 + i * (strideC (clsP h p)).toNat) 4 ∧ ld h.Bytes (p * 64 + 8 + i * (strideC (clsP h p)).toNat) 4 ≤ 7 then Out.brk () else Out.ret false) := by
              have hle := perC_le (clsP h p)
              have hst : ∀ k : Nat, k < (perC (clsP h p)).toNat → impl_pageOk_l2 h (p : Int) (clsP h p) (perC (clsP h p)) (k : Int) = if 1 ≤ ld h.Bytes (p * 64 + 8 + k * (strideC (clsP h p)).toNat) 4 ∧ ld h.Bytes (p * 64 + 8 + k * (strideC (clsP h p)).toNat) 4 ≤ 7 then some (.next ((k + 1 : Nat) : Int)) else some (.stop (Out.ret false)) := by
                intro k hk
                have hz := page_zero hs hp rfl hk
                have e5 : w64 (8 + w64 ((k : Int) * strideC (clsP h p))) = ((8 + k * (strideC (clsP h p)).toNat : Nat) : Int) := by
                  rw [w64_in (x := (k : Int) * strideC (clsP h p)) (by omega) (by omega), w64_in (by omega) (by omega)]; omega
                have l1 := impl_loadNum_eq (page_byte hs hp) (a := 8 + k * (strideC (clsP h p)).toNat) (w := 4) (by omega) (by omega) (by omega)
                rw [show ((4 : Nat) : Int) = 4 from rfl, ld_page hs hp (by omega)] at l1
                simp only [impl_pageOk_l2, impl_StrideOf_eq, Option.bind_some, e0, e1, Int.toNat_natCast, pg_eq hs hp, e5]
                rw [if_pos (by simp; omega), l1, Nat.add_assoc, w64_in (x := (k : Int) + 1) (by omega) (by omega)]
                simp only [Option.bind_some, within_eq]
                by_cases q : 1 ≤ ld h.Bytes (p * 64 + (8 + k * (strideC (clsP h p)).toNat)) 4 ∧ ld h.Bytes (p * 64 + (8 + k * (strideC (clsP h p)).toNat)) 4 ≤ 7
                · rw [if_pos q, decide_eq_true q]; rfl
                · rw [if_neg q, decide_eq_false q]; rfl
              refine scan_all (f := impl_pageOk_l2 h (p : Int) (clsP h p) (perC (clsP h p))) (perC (clsP h p)).toNat (fun k => (k : Int)) (fun i => 1 ≤ ld h.Bytes (p * 64 + 8 + i * (strideC (clsP h p)).toNat) 4 ∧ ld h.Bytes (p * 64 + 8 + i * (strideC (clsP h p)).toNat) 4 ≤ 7) _ _ (fun k hk hx => ?_) (fun k hk hx => ?_) ?_
              · rw [hst k hk, if_pos hx]
              · rw [hst k hk, if_neg hx]
              · simp only [impl_pageOk_l2]
                rw [if_neg (by simp; omega)]
            rw [key2]
            by_cases h5 : ∀ i, i < (perC (clsP h p)).toNat → 1 ≤ ld h.Bytes (p * 64 + 8 + i * (strideC (clsP h p)).toNat) 4 ∧ ld h.Bytes (p * 64 + 8 + i * (strideC (clsP h p)).toNat) 4 ≤ 7
            · rw [if_pos h5, decide_eq_true (hP.2 ⟨⟨a0, a1, a2⟩, h4, h5⟩)]; rfl
            · rw [if_neg h5, decide_eq_false (fun q => h5 (hP.1 q).2.2)]; rfl
          · simp only [decide_eq_false h4, Option.bind_some, Bool.not_false, if_true]
            rw [decide_eq_false (fun q => h4 (hP.1 q).2.1)]
        · have n0 : ((pageB h p).getD 0 0 != 171) = false := by simp only [bne_eq_false_iff_eq]; exact a0
          have n1 : ((pageB h p).getD 1 0 != clsP h p) = false := by simp only [bne_eq_false_iff_eq]; exact a1
          have n2 : ((pageB h p).getD 2 0 != perC (clsP h p)) = true := by simp only [bne_iff_ne]; exact a2
          simp only [n0, n1, n2, Bool.false_eq_true, if_false, impl_pageOk_j1, if_true]
          rw [decide_eq_false (fun q => a2 (hP.1 q).1.2.2)]
      · have n0 : ((pageB h p).getD 0 0 != 171) = false := by simp only [bne_eq_false_iff_eq]; exact a0
        have n1 : ((pageB h p).getD 1 0 != clsP h p) = true := by simp only [bne_iff_ne]; exact a1
        simp only [n0, n1, Bool.false_eq_true, if_false, impl_pageOk_j1, if_true]
        rw [decide_eq_false (fun q => a1 (hP.1 q).1.2.1)]
    · have n0 : ((pageB h p).getD 0 0 != 171) = true := by simp only [bne_iff_ne]; exact a0
      simp only [n0, Bool.false_eq_true, if_false, impl_pageOk_j1, if_true]
      rw [decide_eq_false (fun q => a0 (hP.1 q).1.1)]
end

instance (h : Heap) : Decidable (∀ p, p < 6 → PageOk h p) := Nat.decidableBallLT 6 fun p _ => PageOk h p
def HOk (h : Heap) : Prop := HShape h ∧ ∀ p, p < 6 → PageOk h p
instance (h : Heap) : Decidable (HOk h) := by unfold HOk; infer_instance
theorem spec_HeapOk_eq {h : Heap} (hl : h.Bytes.length ≤ maxLen) : spec_HeapOk h = some (decide (HOk h)) := by
  unfold spec_HeapOk
  rw [spec_l7Shape_eq hl]
  by_cases hs : HShape h
  · have key : loop (spec_HeapOk_l1 h) 0 = some (if ∀ p, p < 6 → PageOk h p then Out.brk () else Out.ret false) := by
      refine scan_all (f := spec_HeapOk_l1 h) 6 (fun k => (k : Int)) (fun p => PageOk h p) _ _ (fun k hk hx => ?_) (fun k hk hx => ?_) ?_
      · simp only [spec_HeapOk_l1]
        rw [if_pos (by simp; omega), spec_l7Page_eq hs hk, w64_in (by omega) (by omega), decide_eq_true hx]; rfl
      · simp only [spec_HeapOk_l1]
        rw [if_pos (by simp; omega), spec_l7Page_eq hs hk, decide_eq_false hx]; rfl
      · rfl
    simp only [Option.bind_some, decide_eq_true hs, Bool.not_true, Bool.false_eq_true, if_false]
    rw [key]
    by_cases h4 : ∀ p, p < 6 → PageOk h p
    · rw [if_pos h4, decide_eq_true (show HOk h from ⟨hs, h4⟩)]; rfl
    · rw [if_neg h4, decide_eq_false (fun q : HOk h => h4 q.2)]; rfl
  · rw [decide_eq_false (fun q : HOk h => hs q.1), decide_eq_false hs]; rfl
theorem impl_HeapOk_eq {h : Heap} (hl : h.Bytes.length ≤ maxLen) : impl_HeapOk h = some (decide (HOk h)) := by
  unfold impl_HeapOk
  rw [impl_shaped_eq hl]
  by_cases hs : HShape h
  · have key : loop (impl_HeapOk_l1 h) 0 = some (if ∀ p, p < 6 → PageOk h p then Out.brk () else Out.ret false) := by
      refine scan_all (f := impl_HeapOk_l1 h) 6 (fun k => (k : Int)) (fun p => PageOk h p) _ _ (fun k hk hx => ?_) (fun k hk hx => ?_) ?_
      · simp only [impl_HeapOk_l1]
        rw [if_pos (by simp; omega), impl_pageOk_eq hs hk, w64_in (by omega) (by omega), decide_eq_true hx]; rfl
      · simp only [impl_HeapOk_l1]
        rw [if_pos (by simp; omega), impl_pageOk_eq hs hk, decide_eq_false hx]; rfl
      · rfl
    simp only [Option.bind_some, decide_eq_true hs, Bool.not_true, Bool.false_eq_true, if_false]
    rw [key]
    by_cases h4 : ∀ p, p < 6 → PageOk h p
    · rw [if_pos h4, decide_eq_true (show HOk h from ⟨hs, h4⟩)]; rfl
    · rw [if_neg h4, decide_eq_false (fun q : HOk h => h4 q.2)]; rfl
  · rw [decide_eq_false (fun q : HOk h => hs q.1), decide_eq_false hs]; rfl

/-! ### The class and the generation of a slot -/
def clsS (h : Heap) (s : Int) : Int := if (0 ≤ s ∧ s ≤ 23) ∧ s % 4 < perC (clsP h (s / 4).toNat) then clsP h (s / 4).toNat else -1
theorem clsS_in {h : Heap} {s : Int} (hc : 0 ≤ clsS h s) : (0 ≤ s ∧ s ≤ 23) ∧ s % 4 < perC (clsP h (s / 4).toNat) ∧ clsS h s = clsP h (s / 4).toNat := by
  unfold clsS at hc ⊢
  split at hc
  · rename_i h1; exact ⟨h1.1, h1.2, by rw [if_pos h1]⟩
  · omega
theorem spec_l7Class_eq {h : Heap} (hs : HShape h) (s : Int) : spec_l7Class h s = some (clsS h s) := by
  unfold spec_l7Class spec_l7Class_j1 clsS
  rw [spec_PageOf_eq, spec_IndexOf_eq]
  by_cases h1 : 0 ≤ s ∧ s ≤ 23
  · obtain ⟨k, rfl⟩ := Int.eq_ofNat_of_zero_le h1.1
    have hk : k / 4 < 6 := by omega
    have e1 : ((k : Int) / 4) = ((k / 4 : Nat) : Int) := by omega
    have hi := idx_cls hs hk
    have n1 : ¬ ((k / 4 : Nat) : Int) < 0 := by omega
    simp only [h1, and_self, if_true, Option.bind_some, e1, n1, decide_false, Bool.false_eq_true, if_false, hi, Int.toNat_natCast, true_and]
    by_cases h2 : clsP h (k / 4) < 0
    · have h3 : perC (clsP h (k / 4)) = 0 := perC_no (by omega)
      have h4 : ¬ (k : Int) % 4 < 0 := by omega
      simp [h2, h3, h4]
    · by_cases h3 : (k : Int) % 4 < perC (clsP h (k / 4))
      · have h4 : ¬ perC (clsP h (k / 4)) ≤ (k : Int) % 4 := by omega
        simp [h2, h3, h4, spec_PerPage_eq]
      · have h4 : perC (clsP h (k / 4)) ≤ (k : Int) % 4 := by omega
        simp [h2, h3, h4, spec_PerPage_eq]
  · simp [h1]
theorem impl_classIn_eq {h : Heap} (hs : HShape h) (s : Int) : impl_classIn h s = some (clsS h s) := by
  unfold impl_classIn impl_classIn_j1 clsS
  rw [impl_isSlot_eq]
  by_cases h1 : 0 ≤ s ∧ s ≤ 23
  · obtain ⟨k, rfl⟩ := Int.eq_ofNat_of_zero_le h1.1
    have hk : k / 4 < 6 := by omega
    have e1 : ((k : Int) / 4) = ((k / 4 : Nat) : Int) := by omega
    have hi := idx_cls hs hk
    have e2 : w64 (Int.tdiv (k : Int) 4) = ((k / 4 : Nat) : Int) := by rw [tdiv_pos (by omega), w64_in (by omega) (by omega)]; omega
    simp only [h1, and_self, decide_true, Bool.not_true, Bool.false_eq_true, if_true, Option.bind_some, e1, e2, if_false, hi, Int.toNat_natCast, true_and, impl_GenAt_eq]
    by_cases h3 : (k : Int) % 4 < perC (clsP h (k / 4))
    · have hm := mul_stride (c := clsP h (k / 4)) (by omega) h3
      have hg : ¬ genC (k : Int) (clsP h (k / 4)) < 0 := by
        unfold genC; rw [if_pos ⟨h1, h3⟩]; omega
      simp [h3, hg]
    · have hg : genC (k : Int) (clsP h (k / 4)) < 0 := by
        unfold genC; rw [if_neg (fun q => h3 q.2)]; omega
      simp [h3, hg]
  · simp [h1]
/-- The generation of a carved slot. -/
def genS (h : Heap) (s : Int) : Int := ld h.Bytes (genC s (clsS h s)).toNat 4
theorem genC_in {h : Heap} {s : Int} (hc : 0 ≤ clsS h s) : 0 ≤ genC s (clsS h s) ∧ genC s (clsS h s) + 4 ≤ 384 := by
  obtain ⟨h1, h2, h3⟩ := clsS_in hc
  rw [h3]
  have hm := mul_stride (c := clsP h (s / 4).toNat) (by omega) h2
  have hst : 0 < strideC (clsP h (s / 4).toNat) := by
    have : 0 ≤ clsP h (s / 4).toNat ∧ clsP h (s / 4).toNat ≤ 2 := perC_pos.1 (by omega)
    rcases cls_cases this with e | e | e <;> rw [e] <;> decide
  have : 4 ≤ strideC (clsP h (s / 4).toNat) := by
    have : 0 ≤ clsP h (s / 4).toNat ∧ clsP h (s / 4).toNat ≤ 2 := perC_pos.1 (by omega)
    rcases cls_cases this with e | e | e <;> rw [e] <;> decide
  unfold genC; rw [if_pos ⟨h1, h2⟩]; omega
theorem spec_l7Gen_eq {h : Heap} (hs : HShape h) {s : Int} (hc : 0 ≤ clsS h s) : spec_l7Gen h s = some (genS h s) := by
  have hg := genC_in hc
  unfold spec_l7Gen
  rw [spec_l7Class_eq hs]
  simp only [Option.bind_some, spec_GenAt_eq]
  have l1 := spec_l3Load_eq hs.2.2.1 (a := (genC s (clsS h s)).toNat) (w := 4) (by omega) (by have := hs.1; omega) (by have := hs.1; omega)
  rw [show ((4 : Nat) : Int) = 4 from rfl, Int.toNat_of_nonneg hg.1] at l1
  rw [l1]; rfl
theorem impl_GenIn_eq {h : Heap} (hs : HShape h) {s : Int} (hc : 0 ≤ clsS h s) : impl_GenIn h s = some (genS h s) := by
  have hg := genC_in hc
  have hm : h.Bytes.length ≤ maxLen := by rw [hs.1]; simp [maxLen]
  unfold impl_GenIn impl_ClassAt
  rw [impl_shaped_eq hm, impl_classIn_eq hs]
  have l1 := impl_loadNum_eq hs.2.2.1 (a := (genC s (clsS h s)).toNat) (w := 4) (by omega) (by have := hs.1; omega) (by have := hs.1; omega)
  rw [show ((4 : Nat) : Int) = 4 from rfl, Int.toNat_of_nonneg hg.1] at l1
  have n1 : ¬ clsS h s < 0 := by omega
  simp [hs, n1, impl_GenAt_eq, l1, genS]
end Go.Gv
