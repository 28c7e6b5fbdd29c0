/- Numbers in bytes, the shape of a heap. -/
import Derived.Test.YtpndngnohcffnaaGreatPHeap
set_option linter.unusedVariables false
set_option linter.unusedSimpArgs false
namespace Go.Gv

def ldF (l : List Int) : Int := l.foldl (fun n x => n * 256 + x) 0
def ByteL (l : List Int) : Prop := ∀ x ∈ l, 0 ≤ x ∧ x ≤ 255
instance (l : List Int) : Decidable (ByteL l) := by unfold ByteL; infer_instance
theorem ldF_take {l : List Int} {k : Nat} (h : k < l.length) : ldF (l.take (k + 1)) = ldF (l.take k) * 256 + l[k] := by
  unfold ldF
  rw [List.take_succ_eq_append_getElem h, List.foldl_append]; rfl
theorem ldF_bound {l : List Int} (h : ByteL l) : ∀ k, k ≤ l.length → 0 ≤ ldF (l.take k) ∧ ldF (l.take k) < 256 ^ k := by
  intro k
  induction k with
  | zero => intro _; simp [ldF]
  | succ k ih =>
    intro hk
    have h1 := ih (by omega)
    have h2 := h _ (List.getElem_mem (show k < l.length by omega))
    rw [ldF_take (by omega), Int.pow_succ]
    omega
theorem pow256 {k : Nat} (h : k ≤ 6) : (256 : Int) ^ k ≤ 281474976710656 := by
  have h1 : (256 : Nat) ^ k ≤ 256 ^ 6 := Nat.pow_le_pow_right (by omega) h
  have h2 : (256 : Nat) ^ 6 = 281474976710656 := by decide
  rw [h2] at h1
  have h3 : ((256 ^ k : Nat) : Int) ≤ 281474976710656 := by omega
  rw [Int.natCast_pow] at h3
  exact h3
def ld (b : List Int) (at_ w : Nat) : Int := ldF ((b.drop at_).take w)
theorem ld_step {n x : Int} {k : Nat} (hk : k ≤ 6) (h : 0 ≤ n ∧ n < 256 ^ k) (hx : 0 ≤ x ∧ x ≤ 255) : w64 (w64 (n * 256) + x) = n * 256 + x ∧ w64 (w64 (256 * n) + x) = n * 256 + x := by
  have := pow256 hk
  rw [Int.mul_comm 256 n, w64_in (x := n * 256) (by omega) (by omega), w64_in (by omega) (by omega)]
  exact ⟨rfl, rfl⟩
theorem pw_len {b : List Int} {a w : Nat} (h : a + w ≤ b.length) : ((b.drop a).take w).length = w := by simp; omega
theorem pw_get {b : List Int} {a w k : Nat} (h : k < ((b.drop a).take w).length) (h' : a + k < b.length) : ((b.drop a).take w)[k] = b[a + k] := by simp
theorem pw_byte {b : List Int} (hb : ByteL b) (a w : Nat) : ByteL ((b.drop a).take w) := fun x hx => hb x (List.mem_of_mem_drop (List.mem_of_mem_take hx))
theorem spec_l3Load_eq {b : List Int} (hb : ByteL b) {a w : Nat} (hw : w ≤ 7) (h : a + w ≤ b.length) (hl : b.length ≤ 100000) : spec_l3Load b (a : Int) (w : Int) = some (ld b a w) := by
  unfold spec_l3Load
  have hlen := pw_len h
  have hbb := pw_byte hb a w
  have key : loop (spec_l3Load_l1 b (a : Int) (w : Int)) (0, 0) = some (ld b a w) := by
    refine enum_eq (f := spec_l3Load_l1 b (a : Int) (w : Int)) w (fun k => (ldF (((b.drop a).take w).take k), (k : Int))) _ (fun k hk => ?_) ?_
    · have hb1 := ldF_bound hbb k (by omega)
      have hk' : k < ((b.drop a).take w).length := by omega
      have hx := hbb _ (List.getElem_mem hk')
      have hs := ld_step (by omega) hb1 hx
      rw [pw_get hk' (by omega)] at hs
      have e1 : w64 ((a : Int) + k) = ((a + k : Nat) : Int) := by rw [w64_in (by omega) (by omega)]; omega
      simp only [spec_l3Load_l1]
      rw [if_pos (by simp; omega), e1, idx_nat (by omega)]
      simp only [Option.bind_some, hs.1, ldF_take hk', pw_get hk' (show a + k < b.length by omega)]
      rw [w64_in (x := (k : Int) + 1) (by omega) (by omega)]; rfl
    · have : ((b.drop a).take w).take w = (b.drop a).take w := by rw [List.take_take]; simp
      simp [spec_l3Load_l1, this, ld]
  rw [key]; rfl
theorem impl_loadNum_eq {b : List Int} (hb : ByteL b) {a w : Nat} (hw : w ≤ 7) (h : a + w ≤ b.length) (hl : b.length ≤ 100000) : impl_loadNum b (a : Int) (w : Int) = some (ld b a w) := by
  unfold impl_loadNum
  have hlen := pw_len h
  have hbb := pw_byte hb a w
  have e0 : w64 ((a : Int) + w) = ((a + w : Nat) : Int) := by rw [w64_in (by omega) (by omega)]; omega
  have e2 : (b.take (a + w)).drop a = (b.drop a).take w := by rw [List.drop_take]; congr 1; omega
  rw [need_yes (by rw [e0]; omega)]
  have key : loop (impl_loadNum_l1 b (a : Int) (w : Int)) (0, 0) = some (ld b a w) := by
    refine enum_eq (f := impl_loadNum_l1 b (a : Int) (w : Int)) w (fun k => (ldF (((b.drop a).take w).take k), (k : Int))) _ (fun k hk => ?_) ?_
    · have hb1 := ldF_bound hbb k (by omega)
      have hk' : k < ((b.drop a).take w).length := by omega
      have hx := hbb _ (List.getElem_mem hk')
      have hs := ld_step (by omega) hb1 hx
      simp only [impl_loadNum_l1, e0, Int.toNat_natCast, e2]
      rw [if_pos (by simp; omega), idx_nat hk']
      simp only [Option.bind_some, hs.2, ldF_take hk']
      rw [w64_in (x := (k : Int) + 1) (by omega) (by omega)]; rfl
    · have : ((b.drop a).take w).take w = (b.drop a).take w := by rw [List.take_take]; simp
      simp only [impl_loadNum_l1, e0, Int.toNat_natCast, e2, this, ld]
      rw [if_neg (by rw [hlen]; simp)]
  rw [key]; rfl

/-- Where a test first answers yes. -/
theorem contains_int {l : List Int} (hl : l.length ≤ maxLen) (f : Int → Bool) : slices_ContainsFunc_int l (fun x => some (f x)) = some (l.any f) := by
  unfold slices_ContainsFunc_int slices_IndexFunc_int
  have key : ∀ k : Nat, k ≤ l.length → loop (slices_IndexFunc_int_l1 l (fun x => some (f x))) (k : Int) = some (if (l.drop k).any f then Out.ret ((k + (l.drop k).findIdx f : Nat) : Int) else Out.brk ()) := by
    refine scan_eq l.length _ fun k hk => ?_
    by_cases h3 : k < l.length
    · have hd : l.drop k = l[k] :: l.drop (k + 1) := List.drop_eq_getElem_cons h3
      simp only [slices_IndexFunc_int_l1]
      rw [if_pos (by simp; omega), idx_nat h3, w64_nat (lt_max h3 hl), hd]
      simp only [Option.bind_some, List.any_cons, List.findIdx_cons]
      by_cases h4 : f l[k] = true
      · left; simp [h4]
      · right
        have h4 : f l[k] = false := by simpa using h4
        refine ⟨h3, by simp [h4], ?_⟩
        simp only [h4, Bool.false_or, cond_false]
        congr 2; omega
    · left
      obtain rfl : k = l.length := by omega
      simp [slices_IndexFunc_int_l1]
  have t0 : loop (slices_IndexFunc_int_l1 l (fun x => some (f x))) 0 = _ := key 0 (by omega)
  rw [t0]
  simp only [List.drop_zero]
  by_cases h : l.any f = true
  · simp [h, slices_IndexFunc_int_m1]
  · have h : l.any f = false := by simpa using h
    simp [h, slices_IndexFunc_int_m1, slices_IndexFunc_int_j1]

def BOk (b : List Int) : Prop := b.length ≤ 1000 ∧ ByteL b
instance (b : List Int) : Decidable (BOk b) := by unfold BOk; infer_instance
theorem spec_BytesOk_eq {b : List Int} (hl : b.length ≤ maxLen) : spec_BytesOk b = some (decide (BOk b)) := by
  unfold spec_BytesOk
  have key : loop (spec_BytesOk_l1 b) 0 = some (if ∀ x ∈ b, 0 ≤ x ∧ x ≤ 255 then Out.brk () else Out.ret false) := by
    refine scan_list (f := spec_BytesOk_l1 b) b (fun k => (k : Int)) (fun x => 0 ≤ x ∧ x ≤ 255) _ _ (fun k h hp => ?_) (fun k h hp => ?_) ?_
    · simp only [spec_BytesOk_l1]
      rw [if_pos (by simp; omega), idx_nat h, w64_nat (lt_max h hl)]
      simp [l1In_eq, hp]
    · simp only [spec_BytesOk_l1]
      rw [if_pos (by simp; omega), idx_nat h]
      simp only [Option.bind_some, l1In_eq, hp, decide_false, Bool.not_false, if_true]
    · simp [spec_BytesOk_l1]
  rw [key]
  by_cases h : ∀ x ∈ b, 0 ≤ x ∧ x ≤ 255
  · rw [if_pos h]
    have : BOk b ↔ b.length ≤ 1000 := ⟨fun q => q.1, fun q => ⟨q, h⟩⟩
    simp only [Option.bind_some, spec_BytesOk_m1, spec_BytesOk_j1, this]
    congr 1; rw [Bool.eq_iff_iff]; simp; omega
  · rw [if_neg h]
    have : ¬ BOk b := fun q => h q.2
    simp [spec_BytesOk_m1, this]
theorem any_not {α : Type} {p : α → Prop} [DecidablePred p] (l : List α) : (l.any fun x => !decide (p x)) = !decide (∀ x ∈ l, p x) := by
  rw [Bool.eq_iff_iff]; simp
theorem impl_BytesOk_eq {b : List Int} (hl : b.length ≤ maxLen) : impl_BytesOk b = some (decide (BOk b)) := by
  unfold impl_BytesOk impl_BytesOk_j1
  have e : (fun y0 => impl_BytesOk_1 y0) = fun y : Int => some (!decide (0 ≤ y ∧ y ≤ 255)) := by
    funext y; simp [impl_BytesOk_1, impl_isByte, within_eq]
  rw [e, contains_int hl, any_not]
  by_cases h : b.length ≤ 1000
  · have : BOk b ↔ ∀ x ∈ b, 0 ≤ x ∧ x ≤ 255 := ⟨fun q => q.2, fun q => ⟨h, q⟩⟩
    have h' : (b.length : Int) ≤ 1000 := by omega
    simp [h', this]
  · have : ¬ BOk b := fun q => h q.1
    have h' : ¬ (b.length : Int) ≤ 1000 := by omega
    simp [h', this]

def HShape (h : Heap) : Prop := h.Bytes.length = 384 ∧ h.Class.length = 6 ∧ ByteL h.Bytes ∧ ∀ c ∈ h.Class, -1 ≤ c ∧ c ≤ 2
instance (h : Heap) : Decidable (HShape h) := by unfold HShape; infer_instance
theorem spec_l7Shape_eq {h : Heap} (hl : h.Bytes.length ≤ maxLen) : spec_l7Shape h = some (decide (HShape h)) := by
  unfold spec_l7Shape spec_l7Shape_j1
  by_cases h1 : h.Bytes.length = 384
  · by_cases h2 : h.Class.length = 6
    · rw [spec_BytesOk_eq hl]
      have n1 : ((h.Bytes.length : Int) != 384) = false := by simp; omega
      have n2 : ((h.Class.length : Int) != 6) = false := by simp; omega
      simp only [n1, n2, Bool.false_eq_true, if_false, Option.bind_some]
      by_cases h3 : ByteL h.Bytes
      · have b1 : BOk h.Bytes := ⟨by omega, h3⟩
        have key : loop (spec_l7Shape_l2 h) 0 = some (if ∀ x ∈ h.Class, -1 ≤ x ∧ x ≤ 2 then Out.brk () else Out.ret false) := by
          refine scan_list (f := spec_l7Shape_l2 h) h.Class (fun k => (k : Int)) (fun x => -1 ≤ x ∧ x ≤ 2) _ _ (fun k h hp => ?_) (fun k h hp => ?_) ?_
          · simp only [spec_l7Shape_l2]
            rw [if_pos (by simp; omega), idx_nat h, w64_in (by omega) (by omega)]
            simp [l1In_eq, hp]
          · simp only [spec_l7Shape_l2]
            rw [if_pos (by simp; omega), idx_nat h]
            simp only [Option.bind_some, l1In_eq]
            rw [decide_eq_false hp]; rfl
          · simp [spec_l7Shape_l2, h2]
        rw [key]
        have : HShape h ↔ ∀ x ∈ h.Class, -1 ≤ x ∧ x ≤ 2 := ⟨fun q => q.2.2.2, fun q => ⟨h1, h2, h3, q⟩⟩
        simp only [b1, decide_true, Bool.not_true, Bool.false_eq_true, if_false, this]
        by_cases h4 : ∀ x ∈ h.Class, -1 ≤ x ∧ x ≤ 2
        · rw [if_pos h4, decide_eq_true h4]; rfl
        · rw [if_neg h4, decide_eq_false h4]; rfl
      · have b1 : ¬ BOk h.Bytes := fun q => h3 q.2
        have : ¬ HShape h := fun q => h3 q.2.2.1
        simp [b1, this]
    · have n1 : ((h.Bytes.length : Int) != 384) = false := by simp; omega
      have n2 : ((h.Class.length : Int) != 6) = true := by simp; omega
      have : ¬ HShape h := fun q => h2 q.2.1
      simp [n1, n2, this]
  · have n1 : ((h.Bytes.length : Int) != 384) = true := by simp; omega
    have : ¬ HShape h := fun q => h1 q.1
    simp [n1, this]
theorem impl_shaped_eq {h : Heap} (hl : h.Bytes.length ≤ maxLen) : impl_shaped h = some (decide (HShape h)) := by
  unfold impl_shaped impl_shaped_j1
  by_cases h1 : h.Bytes.length = 384
  · have n1 : ((h.Bytes.length : Int) == 384) = true := by simp; omega
    rw [impl_BytesOk_eq hl]
    by_cases h3 : ByteL h.Bytes
    · have b1 : BOk h.Bytes := ⟨by omega, h3⟩
      by_cases h2 : h.Class.length = 6
      · have n2 : ((h.Class.length : Int) == 6) = true := by simp; omega
        have e : (fun y0 => impl_shaped_1 y0) = fun y : Int => some (!decide (-1 ≤ y ∧ y ≤ 2)) := by
          funext y; simp [impl_shaped_1, within_eq]
        rw [e, contains_int (by rw [h2]; simp [maxLen]), any_not]
        have : HShape h ↔ ∀ x ∈ h.Class, -1 ≤ x ∧ x ≤ 2 := ⟨fun q => q.2.2.2, fun q => ⟨h1, h2, h3, q⟩⟩
        simp [n1, n2, b1, this]
      · have n2 : ((h.Class.length : Int) == 6) = false := by simp; omega
        have : ¬ HShape h := fun q => h2 q.2.1
        simp [n1, n2, b1, this]
    · have b1 : ¬ BOk h.Bytes := fun q => h3 q.2
      have : ¬ HShape h := fun q => h3 q.2.2.1
      simp [n1, b1, this]
  · have n1 : ((h.Bytes.length : Int) == 384) = false := by simp; omega
    have : ¬ HShape h := fun q => h1 q.1
    simp [n1, this]
end Go.Gv
