/- Pages and heaps. -/
import Derived.Test.YtpndngnohcffnaaGreatPHeap2
set_option linter.unusedVariables false
set_option linter.unusedSimpArgs false
set_option linter.unusedSectionVars false
namespace Go.Gv

def pageB (h : Heap) (p : Nat) : List Int := (h.Bytes.drop (p * 64)).take 64
def clsP (h : Heap) (p : Nat) : Int := h.Class.getD p 0
def PageOk (h : Heap) (p : Nat) : Prop :=
  if clsP h p < 0 then ∀ x ∈ pageB h p, x = 0
  else ((pageB h p).getD 0 0 = 171 ∧ (pageB h p).getD 1 0 = clsP h p ∧ (pageB h p).getD 2 0 = perC (clsP h p)) ∧ (∀ x ∈ ((pageB h p).drop 3).take 5, x = 0) ∧ ∀ i, i < (perC (clsP h p)).toNat → 1 ≤ ld h.Bytes (p * 64 + 8 + i * (strideC (clsP h p)).toNat) 4 ∧ ld h.Bytes (p * 64 + 8 + i * (strideC (clsP h p)).toNat) 4 ≤ 7
instance (h : Heap) (p : Nat) : Decidable (PageOk h p) := by unfold PageOk; infer_instance
section
variable {h : Heap} (hs : HShape h) {p : Nat} (hp : p < 6)
include hs hp
theorem page_len : (pageB h p).length = 64 := pw_len (by have := hs.1; omega)
theorem page_get {k : Nat} (hk : k < 64) : h.Bytes[p * 64 + k]'(by have := hs.1; omega) = (pageB h p)[k]'(by rw [page_len hs hp]; exact hk) := (pw_get (show k < ((h.Bytes.drop (p * 64)).take 64).length by have := page_len hs hp; unfold pageB at this; omega) _).symm
theorem page_getD {k : Nat} (hk : k < 64) : h.Bytes[p * 64 + k]'(by have := hs.1; omega) = (pageB h p).getD k 0 := by
  rw [page_get hs hp hk, List.getD_eq_getElem?_getD, List.getElem?_eq_getElem (by rw [page_len hs hp]; exact hk)]; rfl
theorem cls_get : h.Class[p]'(by have := hs.2.1; omega) = clsP h p := by
  unfold clsP
  rw [List.getD_eq_getElem?_getD, List.getElem?_eq_getElem (by have := hs.2.1; omega)]; rfl
theorem cls_rng : -1 ≤ clsP h p ∧ clsP h p ≤ 2 := by
  rw [← cls_get hs hp]; exact hs.2.2.2 _ (List.getElem_mem _)
theorem idx_cls : idx h.Class (p : Int) = some (clsP h p) := by rw [idx_nat (by have := hs.2.1; omega), cls_get hs hp]
theorem idx_page {k : Nat} (hk : k < 64) : idx h.Bytes (((p * 64 + k : Nat)) : Int) = some ((pageB h p).getD k 0) := by
  rw [idx_nat (by have := hs.1; omega), page_getD hs hp hk]
theorem page_byte : ByteL (pageB h p) := pw_byte hs.2.2.1 _ _

theorem page_zero {c : Int} (hc : clsP h p = c) {i : Nat} (hi : i < (perC c).toNat) : (8 + i * (strideC c).toNat) + 4 ≤ 64 ∧ 0 ≤ (i : Int) * strideC c ∧ ((8 + i * (strideC c).toNat : Nat) : Int) = 8 + (i : Int) * strideC c := by
  have h1 : (i : Int) < perC c := by omega
  have hc2 : 0 ≤ c ∧ c ≤ 2 := perC_pos.1 (by omega)
  rcases cls_cases hc2 with rfl | rfl | rfl
  · have e : strideC 0 = 12 := rfl
    have g : (12 : Int).toNat = 12 := rfl
    have f : (perC 0).toNat = 4 := rfl
    rw [e, g]; rw [f] at hi; omega
  · have e : strideC 1 = 20 := rfl
    have g : (20 : Int).toNat = 20 := rfl
    have f : (perC 1).toNat = 2 := rfl
    rw [e, g]; rw [f] at hi; omega
  · have e : strideC 2 = 44 := rfl
    have g : (44 : Int).toNat = 44 := rfl
    have f : (perC 2).toNat = 1 := rfl
    rw [e, g]; rw [f] at hi; omega
theorem gen_slot {i : Nat} (hi : i < (perC (clsP h p)).toNat) : genC ((p : Int) * 4 + i) (clsP h p) = ((p * 64 + (8 + i * (strideC (clsP h p)).toNat) : Nat) : Int) := by
  have hz := page_zero hs hp rfl hi
  have hle := perC_le (clsP h p)
  unfold genC
  rw [if_pos (by omega)]
  have e1 : ((p : Int) * 4 + i) / 4 = p := by omega
  have e2 : ((p : Int) * 4 + i) % 4 = i := by omega
  rw [e1, e2]
  omega
theorem spec_l7Page_eq : spec_l7Page h (p : Int) = some (decide (PageOk h p)) := by
  have hb := hs.1
  have hl := page_len hs hp
  have e0 : w64 ((p : Int) * 64) = ((p * 64 + 0 : Nat) : Int) := by rw [w64_in (by omega) (by omega)]; omega
  have e1 : w64 (((p * 64 + 0 : Nat) : Int) + 1) = ((p * 64 + 1 : Nat) : Int) := by rw [w64_in (by omega) (by omega)]; omega
  have e2 : w64 (((p * 64 + 0 : Nat) : Int) + 2) = ((p * 64 + 2 : Nat) : Int) := by rw [w64_in (by omega) (by omega)]; omega
  have e3 : w64 (((p * 64 + 0 : Nat) : Int) + 3) = ((p * 64 + 3 : Nat) : Int) := by rw [w64_in (by omega) (by omega)]; omega
  have e8 : w64 (((p * 64 + 0 : Nat) : Int) + 8) = ((p * 64 + 8 : Nat) : Int) := by rw [w64_in (by omega) (by omega)]; omega
  have e64 : w64 (((p * 64 + 0 : Nat) : Int) + 64) = ((p * 64 + 64 : Nat) : Int) := by rw [w64_in (by omega) (by omega)]; omega
  unfold spec_l7Page
  rw [idx_cls hs hp]
  simp only [Option.bind_some]
  by_cases hc : clsP h p < 0
  · simp only [hc, decide_true, if_true, e0]
    have key : loop (spec_l7Page_l1 h (p : Int)) (((p * 64 + 0 : Nat)) : Int) = some (if ∀ x ∈ pageB h p, x = 0 then Out.brk () else Out.ret false) := by
      refine scan_list (f := spec_l7Page_l1 h (p : Int)) (pageB h p) (fun k => ((p * 64 + k : Nat) : Int)) (fun x => x = 0) _ _ (fun k hk hx => ?_) (fun k hk hx => ?_) ?_
      · simp only [spec_l7Page_l1, e0, e64]
        rw [if_pos (by simp; omega), idx_nat (by omega), page_get hs hp (by omega), w64_in (by omega) (by omega)]
        simp only [Option.bind_some, hx]; simp; omega
      · simp only [spec_l7Page_l1, e0, e64]
        rw [if_pos (by simp; omega), idx_nat (by omega), page_get hs hp (by omega)]
        have hx' : ((pageB h p)[k] != 0) = true := by simpa using hx
        simp only [Option.bind_some, hx', if_true]
      · simp only [spec_l7Page_l1, e0, e64, hl]
        rw [if_neg (by simp)]
    rw [key]
    have hP : PageOk h p ↔ ∀ x ∈ pageB h p, x = 0 := by unfold PageOk; rw [if_pos hc]
    by_cases h4 : ∀ x ∈ pageB h p, x = 0
    · rw [if_pos h4, decide_eq_true (hP.2 h4)]; rfl
    · rw [if_neg h4, decide_eq_false (fun q => h4 (hP.1 q))]; rfl
  · have hP : PageOk h p ↔ ((pageB h p).getD 0 0 = 171 ∧ (pageB h p).getD 1 0 = clsP h p ∧ (pageB h p).getD 2 0 = perC (clsP h p)) ∧ (∀ x ∈ ((pageB h p).drop 3).take 5, x = 0) ∧ ∀ i, i < (perC (clsP h p)).toNat → 1 ≤ ld h.Bytes (p * 64 + 8 + i * (strideC (clsP h p)).toNat) 4 ∧ ld h.Bytes (p * 64 + 8 + i * (strideC (clsP h p)).toNat) 4 ≤ 7 := by unfold PageOk; rw [if_neg hc]
    simp only [hc, decide_false, Bool.false_eq_true, if_false, e0, e1, e2, idx_page hs hp (show 0 < 64 by omega), idx_page hs hp (show 1 < 64 by omega), idx_page hs hp (show 2 < 64 by omega), Option.bind_some, spec_PerPage_eq]
    by_cases a0 : (pageB h p).getD 0 0 = 171
    · by_cases a1 : (pageB h p).getD 1 0 = clsP h p
      · by_cases a2 : (pageB h p).getD 2 0 = perC (clsP h p)
        · have n0 : ((pageB h p).getD 0 0 != 171) = false := by simp only [bne_eq_false_iff_eq]; exact a0
          have n1 : ((pageB h p).getD 1 0 != clsP h p) = false := by simp only [bne_eq_false_iff_eq]; exact a1
          have n2 : ((pageB h p).getD 2 0 != perC (clsP h p)) = false := by simp only [bne_eq_false_iff_eq]; exact a2
          simp only [n0, n1, n2, Bool.false_eq_true, if_false, spec_l7Page_j2, e0, e3]
          have hl5 : (((pageB h p).drop 3).take 5).length = 5 := by simp [hl]
          have key : loop (spec_l7Page_l3 h (p : Int)) (((p * 64 + 3 : Nat)) : Int) = some (if ∀ x ∈ ((pageB h p).drop 3).take 5, x = 0 then Out.brk () else Out.ret false) := by
            refine scan_list (f := spec_l7Page_l3 h (p : Int)) (((pageB h p).drop 3).take 5) (fun k => ((p * 64 + (3 + k) : Nat) : Int)) (fun x => x = 0) _ _ (fun k hk hx => ?_) (fun k hk hx => ?_) ?_
            · simp only [spec_l7Page_l3, e0, e8]
              rw [if_pos (by simp; omega), idx_nat (by omega), page_get hs hp (by omega), w64_in (by omega) (by omega), ← pw_get hk (by omega), hx]
              simp; omega
            · simp only [spec_l7Page_l3, e0, e8]
              rw [if_pos (by simp; omega), idx_nat (by omega), page_get hs hp (by omega), ← pw_get hk (by omega)]
              have hx' : ((((pageB h p).drop 3).take 5)[k] != 0) = true := by simp only [bne_iff_ne]; exact hx
              simp only [Option.bind_some, hx', if_true]
            · simp only [spec_l7Page_l3, e0, e8, hl5]
              rw [if_neg (by simp)]
          rw [key]
          by_cases h4 : ∀ x ∈ ((pageB h p).drop 3).take 5, x = 0
          · rw [if_pos h4]
            simp only [Option.bind_some, spec_l7Page_m3, spec_l7Page_j3]
            have key2 : loop (spec_l7Page_l4 h (p : Int) (clsP h p)) 0 = some (if ∀ i, i < (perC (clsP h p)).toNat → 1 ≤ ld h.Bytes (p * 64 + 8 + i * (strideC (clsP h p)).toNat) 4 ∧ ld h.Bytes (p * 64 + 8 + i * (strideC (clsP h p)).toNat) 4 ≤ 7 then Out.brk () else Out.ret false) := by
              have hle := perC_le (clsP h p)
              have hst : ∀ k : Nat, k < (perC (clsP h p)).toNat → spec_l7Page_l4 h (p : Int) (clsP h p) (k : Int) = if 1 ≤ ld h.Bytes (p * 64 + 8 + k * (strideC (clsP h p)).toNat) 4 ∧ ld h.Bytes (p * 64 + 8 + k * (strideC (clsP h p)).toNat) 4 ≤ 7 then some (.next ((k + 1 : Nat) : Int)) else some (.stop (Out.ret false)) := by
                intro k hk
                have hz := page_zero hs hp rfl hk
                have s1 : spec_SlotAt (p : Int) (k : Int) = some ((p : Int) * 4 + k) := by
                  unfold spec_SlotAt spec_SlotAt_j1
                  rw [l1In_eq, l1In_eq]
                  have g1 : (0 : Int) ≤ p ∧ (p : Int) ≤ 5 := by omega
                  have g2 : (0 : Int) ≤ k ∧ (k : Int) ≤ 3 := by omega
                  simp only [Option.bind_some, g1, g2, and_self, decide_true, Bool.not_true, Bool.false_eq_true, if_false]
                  rw [w64_in (x := (p : Int) * 4) (by omega) (by omega), w64_in (by omega) (by omega)]
                have l1 := spec_l3Load_eq hs.2.2.1 (a := p * 64 + (8 + k * (strideC (clsP h p)).toNat)) (w := 4) (by omega) (by omega) (by omega)
                simp only [spec_l7Page_l4, spec_PerPage_eq, Option.bind_some]
                rw [if_pos (by simp; omega), s1]
                simp only [Option.bind_some, spec_GenAt_eq, gen_slot hs hp hk]
                rw [show ((4 : Nat) : Int) = 4 from rfl] at l1
                rw [l1, Nat.add_assoc, w64_in (x := (k : Int) + 1) (by omega) (by omega)]
                simp only [Option.bind_some, l1In_eq]
                by_cases q : 1 ≤ ld h.Bytes (p * 64 + (8 + k * (strideC (clsP h p)).toNat)) 4 ∧ ld h.Bytes (p * 64 + (8 + k * (strideC (clsP h p)).toNat)) 4 ≤ 7
                · rw [if_pos q, decide_eq_true q]; rfl
                · rw [if_neg q, decide_eq_false q]; rfl
              refine scan_all (f := spec_l7Page_l4 h (p : Int) (clsP h p)) (perC (clsP h p)).toNat (fun k => (k : Int)) (fun i => 1 ≤ ld h.Bytes (p * 64 + 8 + i * (strideC (clsP h p)).toNat) 4 ∧ ld h.Bytes (p * 64 + 8 + i * (strideC (clsP h p)).toNat) 4 ≤ 7) _ _ (fun k hk hx => ?_) (fun k hk hx => ?_) ?_
              · rw [hst k hk, if_pos hx]
              · rw [hst k hk, if_neg hx]
              · simp only [spec_l7Page_l4, spec_PerPage_eq, Option.bind_some]
                rw [if_neg (by simp; omega)]
            rw [key2]
            by_cases h5 : ∀ i, i < (perC (clsP h p)).toNat → 1 ≤ ld h.Bytes (p * 64 + 8 + i * (strideC (clsP h p)).toNat) 4 ∧ ld h.Bytes (p * 64 + 8 + i * (strideC (clsP h p)).toNat) 4 ≤ 7
            · rw [if_pos h5, decide_eq_true (hP.2 ⟨⟨a0, a1, a2⟩, h4, h5⟩)]; rfl
            · rw [if_neg h5, decide_eq_false (fun q => h5 (hP.1 q).2.2)]; rfl
          · rw [if_neg h4, decide_eq_false (fun q => h4 (hP.1 q).2.1)]; rfl
        · have n0 : ((pageB h p).getD 0 0 != 171) = false := by simp only [bne_eq_false_iff_eq]; exact a0
          have n1 : ((pageB h p).getD 1 0 != clsP h p) = false := by simp only [bne_eq_false_iff_eq]; exact a1
          have n2 : ((pageB h p).getD 2 0 != perC (clsP h p)) = true := by simp only [bne_iff_ne]; exact a2
          simp only [n0, n1, n2, Bool.false_eq_true, if_false, spec_l7Page_j2, if_true]
          rw [decide_eq_false (fun q => a2 (hP.1 q).1.2.2)]
      · have n0 : ((pageB h p).getD 0 0 != 171) = false := by simp only [bne_eq_false_iff_eq]; exact a0
        have n1 : ((pageB h p).getD 1 0 != clsP h p) = true := by simp only [bne_iff_ne]; exact a1
        simp only [n0, n1, Bool.false_eq_true, if_false, spec_l7Page_j2, if_true]
        rw [decide_eq_false (fun q => a1 (hP.1 q).1.2.1)]
    · have n0 : ((pageB h p).getD 0 0 != 171) = true := by simp only [bne_iff_ne]; exact a0
      simp only [n0, Bool.false_eq_true, if_false, spec_l7Page_j2, if_true]
      rw [decide_eq_false (fun q => a0 (hP.1 q).1.1)]
end
end Go.Gv
