/- Memories read from bytes. -/
import Derived.Test.YtpndngnohcffnaaGreatPRead
import Derived.Test.YtpndngnohcffnaaGreatPMemEq
set_option linter.unusedVariables false
set_option linter.unusedSimpArgs false
set_option linter.unusedSectionVars false
namespace Go.Gv
def VarOk (n : Int) : Prop := 0 ≤ n ∧ n ≤ 562949953421311
theorem varI_pos {n : Int} (h : VarOk n) : 0 < (varI n).length := by
  unfold varI; rw [if_pos (show 0 ≤ n ∧ n ≤ 562949953421311 from h)]; exact varB_pos _
theorem vars_ge : ∀ l : List Int, (∀ x ∈ l, VarOk x) → l.length ≤ (l.flatMap varI).length
  | [], _ => by simp
  | x :: r, h => by
    have := varI_pos (h x List.mem_cons_self); have := vars_ge r (fun y hy => h y (List.mem_cons_of_mem _ hy))
    simp [-List.length_flatMap]; omega

/-! ### The program's reader -/
theorem number_total (r : Reader) : ∃ n l' b', impl_reader_number r = some (n, ⟨⟨l'⟩, b'⟩) ∧ l'.length ≤ r.left.b.length := by
  obtain ⟨n, k, h, h0, h1⟩ := impl_ReadVar_total r.left.b
  unfold impl_reader_number impl_reader_number_j1
  rw [h]
  simp only [Option.bind_some]
  rw [need_yes ⟨h0, h1⟩, need_yes ⟨h0, h1⟩]
  cases r.bad
  · exact ⟨n, r.left.b.drop k.toNat, k == 0, rfl, by simp⟩
  · exact ⟨n, r.left.b.drop k.toNat, true, rfl, by simp⟩
theorem number_back {n : Int} (h : VarOk n) (t : List UInt8) : impl_reader_number ⟨⟨varI n ++ t⟩, false⟩ = some (n, ⟨⟨t⟩, false⟩) := by
  have hp := varI_pos h
  unfold impl_reader_number impl_reader_number_j1
  rw [impl_ReadVar_varI h.1 h.2]
  have e : (((varI n).length : Int) == 0) = false := by simp only [beq_eq_false_iff_ne]; omega
  simp only [Option.bind_some, Bool.false_eq_true, if_false, e, Int.toNat_natCast, List.drop_left]
  rw [need_yes (by simp; omega)]
theorem count_total (r : Reader) : ∃ n l' b', impl_reader_count r = some (n, ⟨⟨l'⟩, b'⟩) ∧ l'.length ≤ r.left.b.length ∧ n ≤ (l'.length : Int) := by
  obtain ⟨n, l', b', h, h1⟩ := number_total r
  unfold impl_reader_count
  rw [h]
  simp only [Option.bind_some]
  by_cases q : (l'.length : Int) < n
  · rw [if_pos (by simpa using q)]; exact ⟨0, l', true, rfl, h1, by omega⟩
  · rw [if_neg (by simpa using q)]; exact ⟨n, l', b', rfl, h1, by omega⟩
theorem count_back {n : Int} (h : VarOk n) {t : List UInt8} (ht : n ≤ t.length) : impl_reader_count ⟨⟨varI n ++ t⟩, false⟩ = some (n, ⟨⟨t⟩, false⟩) := by
  unfold impl_reader_count
  rw [number_back h]
  simp only [Option.bind_some]
  rw [if_neg (by simp; omega)]
theorem list_total (r : Reader) (hr : r.left.b.length ≤ 1048576) : ∃ x l' b', impl_reader_list r = some (x, ⟨⟨l'⟩, b'⟩) ∧ l'.length ≤ r.left.b.length ∧ x.Slots.length ≤ r.left.b.length := by
  obtain ⟨n, l0, b0, h, h1, h2⟩ := count_total r
  unfold impl_reader_list
  rw [h]
  simp only [Option.bind_some]
  have key := loop_ind (f := impl_reader_list_l1 (n, ⟨⟨l0⟩, b0⟩)) (fun s => (n - s.1).toNat) (fun s => ∃ k : Nat, s.1 = (k : Int) ∧ (k ≤ l0.length ∨ k = 0) ∧ s.2.1.length ≤ l0.length ∧ s.2.2.2.length = k) (fun o => o.1.length ≤ l0.length ∧ o.2.2.length ≤ l0.length) (by
    rintro ⟨i, l, b, acc⟩ ⟨k, rfl, hk, hl, ha⟩
    simp only at hl ha
    simp only [impl_reader_list_l1]
    by_cases q : (k : Int) < n
    · rw [if_pos (by simpa using q)]
      obtain ⟨x, l', b', e, e1⟩ := number_total ⟨⟨l⟩, b⟩
      rw [e]
      simp only [Option.bind_some, impl_reader_list_j2]
      rw [need_yes (by simp; omega), w64_in (by omega) (by omega)]
      simp only at e1
      exact .inr ⟨_, rfl, ⟨k + 1, rfl, .inl (by omega), by simp only; omega, by simp [ha]⟩, by simp only; omega⟩
    · rw [if_neg (by simpa using q)]
      exact .inl ⟨_, rfl, hl, by simp only; omega⟩) (0, l0, b0, []) ⟨0, rfl, .inr rfl, Nat.le_refl _, rfl⟩
  obtain ⟨⟨l', b', acc⟩, e, e1, e2⟩ := key
  simp only at e1 e2 ⊢
  rw [e]
  exact ⟨⟨acc⟩, l', b', rfl, by omega, by simp only; omega⟩
def SlotsOk (s : SList) : Prop := s.Slots.length ≤ 1048576 ∧ ∀ x ∈ s.Slots, VarOk x
theorem list_back {x : SList} (h : SlotsOk x) (t : List UInt8) : impl_reader_list ⟨⟨showS x ++ t⟩, false⟩ = some (x, ⟨⟨t⟩, false⟩) := by
  have hg := vars_ge x.Slots h.2
  have hl := h.1
  have hc := count_back (n := (x.Slots.length : Int)) ⟨by omega, by omega⟩ (t := x.Slots.flatMap varI ++ t) (by rw [List.length_append]; omega)
  unfold impl_reader_list showS
  rw [List.append_assoc, hc]
  simp only [Option.bind_some]
  have key : loop (impl_reader_list_l1 ((x.Slots.length : Int), ⟨⟨x.Slots.flatMap varI ++ t⟩, false⟩)) (0, x.Slots.flatMap varI ++ t, false, []) = some (t, false, x.Slots) := by
    have := enum_eq (f := impl_reader_list_l1 ((x.Slots.length : Int), ⟨⟨x.Slots.flatMap varI ++ t⟩, false⟩)) x.Slots.length (fun k => ((k : Int), (x.Slots.drop k).flatMap varI ++ t, false, x.Slots.take k)) (t, false, x.Slots) (fun k hk => ?_) ?_
    · simpa using this
    · have hd : x.Slots.drop k = x.Slots[k] :: x.Slots.drop (k + 1) := List.drop_eq_getElem_cons hk
      simp only [impl_reader_list_l1, hd, List.flatMap_cons, List.append_assoc]
      rw [if_pos (by simp; omega), number_back (h.2 _ (List.getElem_mem hk))]
      simp only [Option.bind_some, impl_reader_list_j2]
      rw [need_yes (by simp; omega), w64_in (by omega) (by omega), List.take_succ_eq_append_getElem hk]; rfl
    · simp [impl_reader_list_l1]
  rw [key]; rfl

/-- N lists, one behind the other. -/
def ListsRd (N : Nat) (f : (Int × List UInt8 × Bool × List SList) → Option (Step (Int × List UInt8 × Bool × List SList) (List UInt8 × Bool × List SList))) : Prop :=
  ∀ i l b acc, f (i, l, b, acc) = if i < (N : Int) then (impl_reader_list ⟨⟨l⟩, b⟩).bind fun x => need (acc.length + 1 ≤ 1073741824) (some (.next (w64 (i + 1), x.2.left.b, x.2.bad, acc ++ [x.1]))) else some (.stop (l, b, acc))
theorem lists_total {N : Nat} {f : (Int × List UInt8 × Bool × List SList) → Option (Step (Int × List UInt8 × Bool × List SList) (List UInt8 × Bool × List SList))} (hf : ListsRd N f) (hN : N ≤ 100) (l : List UInt8) (b : Bool) (hl : l.length ≤ 1048576) :
    ∃ l' b' acc, loop f (0, l, b, []) = some (l', b', acc) ∧ l'.length ≤ l.length ∧ acc.length = N ∧ (flatS acc).length ≤ N * 1048576 := by
  have key := loop_ind (f := f) (fun s => ((N : Int) - s.1).toNat) (fun s => ∃ k : Nat, s.1 = (k : Int) ∧ k ≤ N ∧ s.2.1.length ≤ l.length ∧ s.2.2.2.length = k ∧ (flatS s.2.2.2).length ≤ k * 1048576) (fun o => o.1.length ≤ l.length ∧ o.2.2.length = N ∧ (flatS o.2.2).length ≤ N * 1048576) (by
    rintro ⟨i, l2, b2, acc⟩ ⟨k, rfl, hk, hl2, ha, hfl⟩
    simp only at hl2 ha hfl
    rw [hf]
    by_cases q : k < N
    · rw [if_pos (by omega)]
      obtain ⟨x, l', b', e, e1, e2⟩ := list_total ⟨⟨l2⟩, b2⟩ (by simp only; omega)
      simp only at e1 e2
      rw [e]
      simp only [Option.bind_some]
      rw [need_yes (by omega), w64_in (by omega) (by omega)]
      refine .inr ⟨_, rfl, ⟨k + 1, rfl, by omega, by simp only; omega, by simp [ha], ?_⟩, by simp only; omega⟩
      have : flatS (acc ++ [x]) = flatS acc ++ x.Slots := by simp [flatS]
      simp only [this, List.length_append]; omega
    · rw [if_neg (by omega)]
      obtain rfl : k = N := by omega
      exact .inl ⟨_, rfl, hl2, ha, hfl⟩) (0, l, b, []) ⟨0, rfl, Nat.zero_le _, Nat.le_refl _, rfl, by simp [flatS]⟩
  obtain ⟨⟨l', b', acc⟩, e, e1, e2, e3⟩ := key
  exact ⟨l', b', acc, e, e1, e2, e3⟩
theorem lists_back {N : Nat} {f : (Int × List UInt8 × Bool × List SList) → Option (Step (Int × List UInt8 × Bool × List SList) (List UInt8 × Bool × List SList))} (hf : ListsRd N f) (hN : N ≤ 100) {L : List SList} (hL : L.length = N) (hs : ∀ s ∈ L, SlotsOk s) (t : List UInt8) :
    loop f (0, L.flatMap showS ++ t, false, []) = some (t, false, L) := by
  have := enum_eq (f := f) N (fun k => ((k : Int), (L.drop k).flatMap showS ++ t, false, L.take k)) (t, false, L) (fun k hk => ?_) ?_
  · simpa using this
  · have hk' : k < L.length := by omega
    have hd : L.drop k = L[k] :: L.drop (k + 1) := List.drop_eq_getElem_cons hk'
    simp only [hd, List.flatMap_cons, List.append_assoc]
    rw [hf, if_pos (by omega), list_back (hs _ (List.getElem_mem hk'))]
    simp only [Option.bind_some]
    rw [need_yes (by simp; omega), w64_in (by omega) (by omega), List.take_succ_eq_append_getElem hk']; rfl
  · rw [hf, if_neg (by omega), List.drop_eq_nil_of_le (by omega), List.take_of_length_le (by omega)]; rfl
theorem byte_total (l : List UInt8) (b : Bool) : ∃ x l' b', impl_reader_byte ⟨⟨l⟩, b⟩ = some (x, ⟨⟨l'⟩, b'⟩) ∧ l'.length ≤ l.length ∧ 0 ≤ x ∧ x ≤ 255 := by
  unfold impl_reader_byte
  cases l with
  | nil => exact ⟨0, [], true, rfl, Nat.le_refl _, by omega, by omega⟩
  | cons c r =>
    have hc := c.toNat_lt
    refine ⟨(c.toNat : Int), r, b, ?_, by simp, by omega, by omega⟩
    have h0 : idx (c :: r) 0 = some c := rfl
    have e : ((c :: r : List UInt8) == []) = false := rfl
    have h1 : (0 : Int) ≤ 1 ∧ (1 : Int) ≤ ((c :: r).length : Int) := by simp; omega
    simp only [e, Bool.false_eq_true, if_false, h0, Option.bind_some]
    rw [need_yes h1]; rfl
theorem byte_back (c : UInt8) (t : List UInt8) : impl_reader_byte ⟨⟨c :: t⟩, false⟩ = some ((c.toNat : Int), ⟨⟨t⟩, false⟩) := by
  unfold impl_reader_byte
  have h0 : idx (c :: t) 0 = some c := rfl
  have e : ((c :: t : List UInt8) == []) = false := rfl
  have h1 : (0 : Int) ≤ 1 ∧ (1 : Int) ≤ ((c :: t).length : Int) := by simp; omega
  simp only [e, Bool.false_eq_true, if_false, h0, Option.bind_some]
  rw [need_yes h1]; rfl
def BytesRd (N : Nat) (g : Int → Int) (f : (Int × List UInt8 × Bool × List Int) → Option (Step (Int × List UInt8 × Bool × List Int) (List UInt8 × Bool × List Int))) : Prop :=
  ∀ i l b acc, f (i, l, b, acc) = if i < (N : Int) then (impl_reader_byte ⟨⟨l⟩, b⟩).bind fun x => need (acc.length + 1 ≤ 1073741824) (some (.next (w64 (i + 1), x.2.left.b, x.2.bad, acc ++ [g x.1]))) else some (.stop (l, b, acc))
theorem bytes_total {N : Nat} {g : Int → Int} {f : (Int × List UInt8 × Bool × List Int) → Option (Step (Int × List UInt8 × Bool × List Int) (List UInt8 × Bool × List Int))} (hf : BytesRd N g f) (hN : N ≤ 1000) (l : List UInt8) (b : Bool) :
    ∃ l' b' acc, loop f (0, l, b, []) = some (l', b', acc) ∧ l'.length ≤ l.length ∧ acc.length = N := by
  have key := loop_ind (f := f) (fun s => ((N : Int) - s.1).toNat) (fun s => ∃ k : Nat, s.1 = (k : Int) ∧ k ≤ N ∧ s.2.1.length ≤ l.length ∧ s.2.2.2.length = k) (fun o => o.1.length ≤ l.length ∧ o.2.2.length = N) (by
    rintro ⟨i, l2, b2, acc⟩ ⟨k, rfl, hk, hl2, ha⟩
    simp only at hl2 ha
    rw [hf]
    by_cases q : k < N
    · rw [if_pos (by omega)]
      obtain ⟨x, l', b', e, e1, e2⟩ := byte_total l2 b2
      rw [e]
      simp only [Option.bind_some]
      rw [need_yes (by omega), w64_in (by omega) (by omega)]
      exact .inr ⟨_, rfl, ⟨k + 1, rfl, by omega, by simp only; omega, by simp [ha]⟩, by simp only; omega⟩
    · rw [if_neg (by omega)]
      obtain rfl : k = N := by omega
      exact .inl ⟨_, rfl, hl2, ha⟩) (0, l, b, []) ⟨0, rfl, Nat.zero_le _, Nat.le_refl _, rfl⟩
  obtain ⟨⟨l', b', acc⟩, e, e1, e2⟩ := key
  exact ⟨l', b', acc, e, e1, e2⟩
theorem bytes_back {N : Nat} {g : Int → Int} {f : (Int × List UInt8 × Bool × List Int) → Option (Step (Int × List UInt8 × Bool × List Int) (List UInt8 × Bool × List Int))} (hf : BytesRd N g f) (hN : N ≤ 1000) {B : List UInt8} (hB : B.length = N) (t : List UInt8) :
    loop f (0, B ++ t, false, []) = some (t, false, B.map fun c => g (c.toNat : Int)) := by
  have := enum_eq (f := f) N (fun k => ((k : Int), B.drop k ++ t, false, (B.take k).map fun c => g (c.toNat : Int))) (t, false, B.map fun c => g (c.toNat : Int)) (fun k hk => ?_) ?_
  · simpa using this
  · have hk' : k < B.length := by omega
    have hd : B.drop k = B[k] :: B.drop (k + 1) := List.drop_eq_getElem_cons hk'
    simp only [hd, List.cons_append]
    rw [hf, if_pos (by omega), byte_back]
    simp only [Option.bind_some]
    rw [need_yes (by simp; omega), w64_in (by omega) (by omega), map_take _ hk']; rfl
  · rw [hf, if_neg (by omega), List.drop_eq_nil_of_le (by omega), List.take_of_length_le (by omega)]; rfl
theorem rd_l1 : BytesRd 384 (fun x => x) impl_reader_mem_l1 := fun i l b acc => by
  simp only [impl_reader_mem_l1, impl_reader_mem_j8, decide_eq_true_eq]; rfl
theorem rd_l2 : BytesRd 6 (fun x => w64 (x - 1)) impl_reader_mem_l2 := fun i l b acc => by
  simp only [impl_reader_mem_l2, impl_reader_mem_j7, decide_eq_true_eq]; rfl
theorem rd_l3 : ListsRd 3 impl_reader_mem_l3 := fun i l b acc => by
  simp only [impl_reader_mem_l3, impl_reader_mem_j6, decide_eq_true_eq]; rfl
theorem rd_l4 : ListsRd 9 impl_reader_mem_l4 := fun i l b acc => by
  simp only [impl_reader_mem_l4, impl_reader_mem_j5, decide_eq_true_eq]; rfl
theorem mem_total (l : List UInt8) (hl : l.length ≤ 1048576) : ∃ m l' b', impl_reader_mem ⟨⟨l⟩, false⟩ = some (m, ⟨⟨l'⟩, b'⟩) ∧ l'.length ≤ l.length ∧ m.Heap.Bytes.length = 384 ∧ m.Heap.Class.length = 6 ∧ m.Lists.Global.length = 3 ∧ m.Lists.Own.length = 9 ∧ (allS m.Lists).length ≤ 12 * 1048576 := by
  obtain ⟨l1, b1, a1, e1, h1, n1⟩ := bytes_total rd_l1 (by omega) l false
  obtain ⟨l2, b2, a2, e2, h2, n2⟩ := bytes_total rd_l2 (by omega) l1 b1
  obtain ⟨l3, b3, a3, e3, h3, n3, f3⟩ := lists_total rd_l3 (by omega) l2 b2 (by omega)
  obtain ⟨l4, b4, a4, e4, h4, n4, f4⟩ := lists_total rd_l4 (by omega) l3 b3 (by omega)
  unfold impl_reader_mem
  simp only
  rw [e1]
  simp only [Option.bind_some, impl_reader_mem_m1, impl_reader_mem_j1]
  rw [e2]
  simp only [Option.bind_some, impl_reader_mem_m2, impl_reader_mem_j2]
  rw [e3]
  simp only [Option.bind_some, impl_reader_mem_m3, impl_reader_mem_j3]
  rw [e4]
  simp only [Option.bind_some, impl_reader_mem_m4, impl_reader_mem_j4]
  refine ⟨_, _, _, rfl, by omega, n1, n2, n3, n4, ?_⟩
  simp only [allS, List.length_append]; omega
theorem u8_toNat {x : Int} (h : 0 ≤ x ∧ x ≤ 255) : ((u8 x).toNat : Int) = x := by
  obtain ⟨k, rfl⟩ := Int.eq_ofNat_of_zero_le h.1
  rw [u8_ofNat, ofNat_toNat (by omega)]
theorem nodup_below : ∀ (n : Nat) (l : List Nat), l.Nodup → (∀ x ∈ l, x < n) → l.length ≤ n
  | 0, l, _, h => by
    cases l with
    | nil => simp
    | cons x r => exact absurd (h x List.mem_cons_self) (by omega)
  | n + 1, l, hn, h => by
    by_cases hm : n ∈ l
    · have h1 := nodup_below n (l.erase n) (hn.erase n) fun x hx => by
        have := h x (List.mem_of_mem_erase hx)
        have hne : x ≠ n := fun e => by subst e; exact (hn.not_mem_erase) hx
        omega
      have := List.length_erase_of_mem hm
      have := List.length_pos_of_mem hm
      omega
    · have := nodup_below n l hn fun x hx => by
        have := h x hx
        have hne : x ≠ n := fun e => hm (e ▸ hx)
        omega
      omega
theorem MOk.slots {m : Mem} (h : MOk m) : (allS m.Lists).length ≤ 24 ∧ (∀ s ∈ m.Lists.Global, SlotsOk s ∧ s.Slots.length ≤ 24) ∧ ∀ s ∈ m.Lists.Own, SlotsOk s ∧ s.Slots.length ≤ 24 := by
  have hr : ∀ x ∈ allS m.Lists, 0 ≤ x ∧ x ≤ 23 := h.1.2.2.2.2.1
  have hn : (allS m.Lists).Nodup := h.1.2.2.2.2.2
  have h24 : (allS m.Lists).length ≤ 24 := by
    have h1 : ((allS m.Lists).map Int.toNat).Nodup := by
      rw [List.nodup_iff_pairwise_ne] at hn ⊢
      rw [List.pairwise_map]
      exact hn.imp_of_mem fun {a b} ha hb hab e => hab (by have := hr a ha; have := hr b hb; omega)
    have h2 : ∀ y ∈ (allS m.Lists).map Int.toNat, y < 24 := by
      intro y hy
      obtain ⟨x, hx, rfl⟩ := List.mem_map.1 hy
      have := hr x hx
      omega
    have := nodup_below 24 _ h1 h2
    simpa using this
  have hal := allS_len m.Lists
  have hm1 : ∀ s ∈ m.Lists.Global, ∀ x ∈ s.Slots, x ∈ allS m.Lists := fun s hs x hx => List.mem_append_left _ (List.mem_flatMap.2 ⟨s, hs, hx⟩)
  have hm2 : ∀ s ∈ m.Lists.Own, ∀ x ∈ s.Slots, x ∈ allS m.Lists := fun s hs x hx => List.mem_append_right _ (List.mem_flatMap.2 ⟨s, hs, hx⟩)
  refine ⟨h24, fun s hs => ?_, fun s hs => ?_⟩
  · have := flat_mem hs
    exact ⟨⟨by omega, fun x hx => by have := hr x (hm1 s hs x hx); unfold VarOk; omega⟩, by omega⟩
  · have := flat_mem hs
    exact ⟨⟨by omega, fun x hx => by have := hr x (hm2 s hs x hx); unfold VarOk; omega⟩, by omega⟩
theorem back_bytes {l : List Int} (h : ByteL l) : (l.map u8).map (fun c => (fun x : Int => x) (c.toNat : Int)) = l := by
  rw [List.map_map]
  conv => rhs; rw [← List.map_id l]
  exact List.map_congr_left fun x hx => u8_toNat (h x hx)
theorem back_class {l : List Int} (h : ∀ c ∈ l, -1 ≤ c ∧ c ≤ 2) : (l.map fun c => u8 (c + 1)).map (fun c => (fun x : Int => w64 (x - 1)) (c.toNat : Int)) = l := by
  rw [List.map_map]
  conv => rhs; rw [← List.map_id l]
  refine List.map_congr_left fun x hx => ?_
  have := h x hx
  show w64 (((u8 (x + 1)).toNat : Int) - 1) = x
  rw [u8_toNat (by omega), w64_in (by omega) (by omega)]; omega
theorem mem_back {m : Mem} (h : MOk m) (t : List UInt8) : impl_reader_mem ⟨⟨showM m ++ t⟩, false⟩ = some (m, ⟨⟨t⟩, false⟩) := by
  have hs := h.slots
  have hh := h.1.1.1
  have e1 := bytes_back rd_l1 (by omega) (B := m.Heap.Bytes.map u8) (by simpa using hh.1) ((m.Heap.Class.map fun c => u8 (c + 1)) ++ (m.Lists.Global.flatMap showS ++ (m.Lists.Own.flatMap showS ++ t)))
  have e2 := bytes_back rd_l2 (by omega) (B := m.Heap.Class.map fun c => u8 (c + 1)) (by simpa using hh.2.1) (m.Lists.Global.flatMap showS ++ (m.Lists.Own.flatMap showS ++ t))
  have e3 := lists_back rd_l3 (by omega) (L := m.Lists.Global) h.1.2.1 (fun s q => (hs.2.1 s q).1) (m.Lists.Own.flatMap showS ++ t)
  have e4 := lists_back rd_l4 (by omega) (L := m.Lists.Own) h.1.2.2.1 (fun s q => (hs.2.2 s q).1) t
  rw [back_bytes hh.2.2.1] at e1
  rw [back_class hh.2.2.2] at e2
  unfold impl_reader_mem showM
  simp only [List.append_assoc]
  rw [e1]
  simp only [Option.bind_some, impl_reader_mem_m1, impl_reader_mem_j1]
  rw [e2]
  simp only [Option.bind_some, impl_reader_mem_m2, impl_reader_mem_j2]
  rw [e3]
  simp only [Option.bind_some, impl_reader_mem_m3, impl_reader_mem_j3]
  rw [e4]
  simp only [Option.bind_some, impl_reader_mem_m4, impl_reader_mem_j4]
end Go.Gv
