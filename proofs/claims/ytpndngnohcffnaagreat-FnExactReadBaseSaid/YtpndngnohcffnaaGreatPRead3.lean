/- Memories read from bytes, the reference's way. -/
import Derived.Test.YtpndngnohcffnaaGreatPRead2
set_option linter.unusedVariables false
set_option linter.unusedSimpArgs false
set_option linter.unusedSectionVars false
namespace Go.Gv
theorem l30Num_total {s : List UInt8} {a : Int} (h : a ≤ s.length) (hs : s.length ≤ 1048576) : ∃ n a', spec_l30Num s a = some (n, a') ∧ a' ≤ s.length := by
  unfold spec_l30Num
  by_cases q : a < 0
  · exact ⟨0, -1, by simp [q], by omega⟩
  · rw [if_neg (by simpa using q), need_yes (by omega)]
    obtain ⟨n, k, e, h0, h1⟩ := spec_ReadVar_total (s.drop a.toNat)
    rw [List.length_drop] at h1
    rw [e]
    simp only [Option.bind_some]
    by_cases q2 : k = 0
    · exact ⟨0, -1, by simp [q2], by omega⟩
    · exact ⟨n, a + k, by rw [if_neg (by simpa using q2), w64_in (by omega) (by omega)], by omega⟩
theorem l30Num_back {n : Int} (h : VarOk n) (p t : List UInt8) (hs : (p ++ (varI n ++ t)).length ≤ 1048576) : spec_l30Num (p ++ (varI n ++ t)) (p.length : Int) = some (n, ((p ++ varI n).length : Int)) := by
  have hp := varI_pos h
  have hl : (p ++ (varI n ++ t)).length = p.length + (varI n).length + t.length := by simp; omega
  unfold spec_l30Num
  rw [if_neg (by simp), need_yes (by omega), Int.toNat_natCast, List.drop_left, spec_ReadVar_varI h.1 h.2]
  simp only [Option.bind_some]
  rw [if_neg (by simp; intro q; rw [q] at hp; simp at hp), w64_in (by omega) (by omega)]
  simp
theorem l30Lists_total {s : List UInt8} {a : Int} {N : Nat} (h : a ≤ s.length) (hs : s.length ≤ 1048576) (hN : N ≤ 100) : ∃ ls a', spec_l30Lists s a (N : Int) = some (ls, a') ∧ a' ≤ s.length ∧ ls.length = N ∧ (flatS ls).length ≤ N * 24 := by
  have inner : ∀ (x : Int × Int), x.2 ≤ s.length → ∃ a' acc, loop (spec_l30Lists_l2 s x) (x.2, 0, []) = some (a', acc) ∧ a' ≤ s.length ∧ acc.length ≤ 24 := by
    intro x hx
    have key := loop_ind (f := spec_l30Lists_l2 s x) (fun q => 24 - q.2.1.toNat) (fun q => ∃ k : Nat, q.2.1 = (k : Int) ∧ k ≤ 24 ∧ q.1 ≤ s.length ∧ q.2.2.length = k) (fun o => o.1 ≤ s.length ∧ o.2.length ≤ 24) (by
      rintro ⟨b, i, acc⟩ ⟨k, rfl, hk, hb, ha⟩
      simp only at hb ha
      simp only [spec_l30Lists_l2, spec_l30Lists_j3]
      by_cases q : (k : Int) < x.1
      · rw [if_pos (by simpa using q)]
        by_cases q2 : k < 24
        · rw [if_pos (by simp; omega)]
          obtain ⟨n, a', e, e1⟩ := l30Num_total hb hs
          rw [e]
          simp only [Option.bind_some]
          rw [need_yes (by simp; omega), w64_in (by omega) (by omega)]
          exact .inr ⟨_, rfl, ⟨k + 1, rfl, by omega, e1, by simp [ha]⟩, by simp only; omega⟩
        · rw [if_neg (by simp; omega)]
          exact .inl ⟨_, rfl, hb, by simp only; omega⟩
      · rw [if_neg (by simpa using q)]
        exact .inl ⟨_, rfl, hb, by simp only; omega⟩) (x.2, 0, []) ⟨0, rfl, by omega, hx, rfl⟩
    obtain ⟨⟨a', acc⟩, e, e1, e2⟩ := key
    exact ⟨a', acc, e, e1, e2⟩
  have key := loop_ind (f := spec_l30Lists_l1 s (N : Int)) (fun q => N - q.2.2.toNat) (fun q => ∃ k : Nat, q.2.2 = (k : Int) ∧ k ≤ N ∧ q.1 ≤ s.length ∧ q.2.1.length = k ∧ (flatS q.2.1).length ≤ k * 24) (fun o => o.1 ≤ s.length ∧ o.2.length = N ∧ (flatS o.2).length ≤ N * 24) (by
    rintro ⟨b, acc, i⟩ ⟨k, rfl, hk, hb, ha, hfl⟩
    simp only at hb ha hfl
    simp only [spec_l30Lists_l1]
    by_cases q : k < N
    · rw [if_pos (by simp; omega)]
      obtain ⟨n, a', e, e1⟩ := l30Num_total hb hs
      rw [e]
      simp only [Option.bind_some]
      obtain ⟨a2, acc2, e3, e4, e5⟩ := inner (n, a') e1
      simp only at e3
      rw [e3]
      simp only [Option.bind_some, spec_l30Lists_m2, spec_l30Lists_j2]
      rw [need_yes (by simp; omega), w64_in (by omega) (by omega)]
      refine .inr ⟨_, rfl, ⟨k + 1, rfl, by omega, e4, by simp [ha], ?_⟩, by simp only; omega⟩
      have : flatS (acc ++ [⟨acc2⟩]) = flatS acc ++ acc2 := by simp [flatS]
      simp only [this, List.length_append]; omega
    · rw [if_neg (by simp; omega)]
      obtain rfl : k = N := by omega
      exact .inl ⟨_, rfl, hb, ha, hfl⟩) (a, [], 0) ⟨0, rfl, by omega, h, rfl, by simp [flatS]⟩
  obtain ⟨⟨a', ls⟩, e, e1, e2, e3⟩ := key
  unfold spec_l30Lists
  rw [e]
  exact ⟨ls, a', rfl, e1, e2, e3⟩
theorem l30Lists_back {N : Nat} {L : List SList} (hN : N ≤ 100) (hL : L.length = N) (hs : ∀ x ∈ L, SlotsOk x ∧ x.Slots.length ≤ 24) (p t : List UInt8) (hb : (p ++ (L.flatMap showS ++ t)).length ≤ 1048576) :
    spec_l30Lists (p ++ (L.flatMap showS ++ t)) (p.length : Int) (N : Int) = some (L, ((p ++ L.flatMap showS).length : Int)) := by
  have key : loop (spec_l30Lists_l1 (p ++ (L.flatMap showS ++ t)) (N : Int)) ((p.length : Int), [], 0) = some (((p ++ L.flatMap showS).length : Int), L) := by
    have := enum_eq (f := spec_l30Lists_l1 (p ++ (L.flatMap showS ++ t)) (N : Int)) N (fun k => (((p ++ (L.take k).flatMap showS).length : Int), L.take k, (k : Int))) (((p ++ L.flatMap showS).length : Int), L) (fun k hk => ?_) ?_
    · simpa using this
    · have hk' : k < L.length := by omega
      have hsk := hs _ (List.getElem_mem hk')
      have hsplit : p ++ (L.flatMap showS ++ t) = (p ++ (L.take k).flatMap showS) ++ (showS L[k] ++ ((L.drop (k + 1)).flatMap showS ++ t)) := by
        have e1 : L.flatMap showS = (L.take k).flatMap showS ++ (showS L[k] ++ (L.drop (k + 1)).flatMap showS) := by
          have : L = L.take k ++ L[k] :: L.drop (k + 1) := by rw [← List.drop_eq_getElem_cons hk', List.take_append_drop]
          conv => lhs; rw [this]
          rw [List.flatMap_append, List.flatMap_cons]
        rw [e1]; simp only [List.append_assoc]
      rw [hsplit] at hb ⊢
      generalize hP : p ++ (L.take k).flatMap showS = P at hb ⊢
      generalize hT : (L.drop (k + 1)).flatMap showS ++ t = T at hb ⊢
      have hP2 : p ++ (L.take (k + 1)).flatMap showS = P ++ showS L[k] := by rw [fm_take showS hk', ← List.append_assoc, hP]
      rw [hP2]
      have hlen0 : VarOk (L[k].Slots.length : Int) := by unfold VarOk; omega
      have hn := l30Num_back hlen0 P (L[k].Slots.flatMap varI ++ T) (by simp only [showS, List.append_assoc] at hb; exact hb)
      have hshow : P ++ (showS L[k] ++ T) = P ++ (varI (L[k].Slots.length : Int) ++ (L[k].Slots.flatMap varI ++ T)) := by simp only [showS, List.append_assoc]
      simp only [spec_l30Lists_l1]
      rw [if_pos (by simp; omega), hshow, hn]
      simp only [Option.bind_some]
      rw [hshow] at hb
      have inner : loop (spec_l30Lists_l2 (P ++ (varI (L[k].Slots.length : Int) ++ (L[k].Slots.flatMap varI ++ T))) ((L[k].Slots.length : Int), ((P ++ varI (L[k].Slots.length : Int)).length : Int))) (((P ++ varI (L[k].Slots.length : Int)).length : Int), 0, []) = some (((P ++ showS L[k]).length : Int), L[k].Slots) := by
        have := enum_eq (f := spec_l30Lists_l2 (P ++ (varI (L[k].Slots.length : Int) ++ (L[k].Slots.flatMap varI ++ T))) ((L[k].Slots.length : Int), ((P ++ varI (L[k].Slots.length : Int)).length : Int))) L[k].Slots.length (fun j => (((P ++ varI (L[k].Slots.length : Int) ++ (L[k].Slots.take j).flatMap varI).length : Int), (j : Int), L[k].Slots.take j)) (((P ++ showS L[k]).length : Int), L[k].Slots) (fun j hj => ?_) ?_
        · simpa using this
        · have hsp : P ++ (varI (L[k].Slots.length : Int) ++ (L[k].Slots.flatMap varI ++ T)) = (P ++ varI (L[k].Slots.length : Int) ++ (L[k].Slots.take j).flatMap varI) ++ (varI L[k].Slots[j] ++ ((L[k].Slots.drop (j + 1)).flatMap varI ++ T)) := by
            have e1 : L[k].Slots.flatMap varI = (L[k].Slots.take j).flatMap varI ++ (varI L[k].Slots[j] ++ (L[k].Slots.drop (j + 1)).flatMap varI) := by
              have : L[k].Slots = L[k].Slots.take j ++ L[k].Slots[j] :: L[k].Slots.drop (j + 1) := by rw [← List.drop_eq_getElem_cons hj, List.take_append_drop]
              conv => lhs; rw [this]
              rw [List.flatMap_append, List.flatMap_cons]
            rw [e1]; simp only [List.append_assoc]
          have hn2 := l30Num_back (hsk.1.2 _ (List.getElem_mem hj)) (P ++ varI (L[k].Slots.length : Int) ++ (L[k].Slots.take j).flatMap varI) ((L[k].Slots.drop (j + 1)).flatMap varI ++ T) (by rw [← hsp]; exact hb)
          rw [← hsp] at hn2
          simp only [spec_l30Lists_l2, spec_l30Lists_j3]
          rw [if_pos (by simp; omega), if_pos (by simp; omega), hn2]
          simp only [Option.bind_some]
          rw [need_yes (by simp; omega), w64_in (by omega) (by omega), fm_take varI hj, List.take_succ_eq_append_getElem hj, ← List.append_assoc]; rfl
        · simp only [spec_l30Lists_l2, spec_l30Lists_j3]
          rw [if_neg (by simp), List.take_length]
          simp only [Bool.false_eq_true, if_false, showS, List.append_assoc]
      rw [inner]
      simp only [Option.bind_some, spec_l30Lists_m2, spec_l30Lists_j2]
      rw [need_yes (by simp; omega), w64_in (by omega) (by omega), List.take_succ_eq_append_getElem hk']; rfl
    · simp only [spec_l30Lists_l1]
      rw [if_neg (by simp), List.take_of_length_le (by omega)]
  unfold spec_l30Lists
  rw [key]; rfl
theorem l30_l1 {s : List UInt8} (h : 390 ≤ s.length) (hs : s.length ≤ 1048576) : loop (spec_l30Mem_l1 s) (0, []) = some ((s.take 384).map fun c => (c.toNat : Int)) := by
  refine enum_eq (f := spec_l30Mem_l1 s) 384 (fun k => ((k : Int), (s.take k).map fun c => (c.toNat : Int))) _ (fun k hk => ?_) ?_
  · have hk' : k < s.length := by omega
    simp only [spec_l30Mem_l1, spec_l30Mem_j4]
    rw [if_pos (by simp; omega), idx_nat hk']
    simp only [Option.bind_some]
    rw [need_yes (by simp; omega), w64_in (by omega) (by omega), map_take _ hk']; rfl
  · simp [spec_l30Mem_l1]
theorem l30_l2 {s : List UInt8} (h : 390 ≤ s.length) (hs : s.length ≤ 1048576) : loop (spec_l30Mem_l2 s) (0, []) = some (((s.drop 384).take 6).map fun c => (c.toNat : Int) - 1) := by
  refine enum_eq (f := spec_l30Mem_l2 s) 6 (fun k => ((k : Int), ((s.drop 384).take k).map fun c => (c.toNat : Int) - 1)) _ (fun k hk => ?_) ?_
  · have hk' : k < (s.drop 384).length := by simp; omega
    have hk2 : 384 + k < s.length := by omega
    have hc := (s[384 + k]).toNat_lt
    have e : w64 (384 + (k : Int)) = ((384 + k : Nat) : Int) := by rw [w64_in (by omega) (by omega)]; omega
    simp only [spec_l30Mem_l2, spec_l30Mem_j3]
    rw [if_pos (by simp; omega), e, idx_nat hk2]
    simp only [Option.bind_some]
    rw [need_yes (by simp; omega), w64_in (x := (k : Int) + 1) (by omega) (by omega), map_take _ hk', w64_in (by omega) (by omega), List.getElem_drop]; rfl
  · simp [spec_l30Mem_l2]
theorem l30Mem_back {m : Mem} (h : MOk m) (t : List UInt8) (hb : (showM m ++ t).length ≤ 1048576) : spec_l30Mem (showM m ++ t) = some (m, ((showM m).length : Int)) := by
  have hs := h.slots
  have hh := h.1.1.1
  have hB : (m.Heap.Bytes.map u8).length = 384 := by simpa using hh.1
  have hC : (m.Heap.Class.map fun c => u8 (c + 1)).length = 6 := by simpa using hh.2.1
  have e0 : showM m ++ t = m.Heap.Bytes.map u8 ++ ((m.Heap.Class.map fun c => u8 (c + 1)) ++ (m.Lists.Global.flatMap showS ++ (m.Lists.Own.flatMap showS ++ t))) := by
    unfold showM; simp only [List.append_assoc]
  have hl : 390 ≤ (showM m ++ t).length := by rw [e0, List.length_append, List.length_append]; omega
  have t1 : ((showM m ++ t).take 384).map (fun c => (c.toNat : Int)) = m.Heap.Bytes := by
    rw [e0, ← hB, List.take_left]; exact back_bytes hh.2.2.1
  have t2 : (((showM m ++ t).drop 384).take 6).map (fun c => (c.toNat : Int) - 1) = m.Heap.Class := by
    rw [e0, ← hB, List.drop_left, ← hC, List.take_left]
    rw [List.map_map]
    conv => rhs; rw [← List.map_id m.Heap.Class]
    refine List.map_congr_left fun x hx => ?_
    have := hh.2.2.2 x hx
    show ((u8 (x + 1)).toNat : Int) - 1 = x
    rw [u8_toNat (by omega)]; omega
  unfold spec_l30Mem
  rw [if_neg (by simp only [decide_eq_true_eq]; omega), l30_l1 hl hb]
  simp only [Option.bind_some, spec_l30Mem_m1, spec_l30Mem_j1]
  rw [l30_l2 hl hb]
  simp only [Option.bind_some, spec_l30Mem_m2, spec_l30Mem_j2, t1, t2]
  have p1 : (m.Heap.Bytes.map u8 ++ (m.Heap.Class.map fun c => u8 (c + 1))).length = 390 := by rw [List.length_append]; omega
  have g1 := l30Lists_back (N := 3) (by omega) h.1.2.1 hs.2.1 (m.Heap.Bytes.map u8 ++ (m.Heap.Class.map fun c => u8 (c + 1))) (m.Lists.Own.flatMap showS ++ t) (by simp only [showM, List.append_assoc] at hb ⊢; exact hb)
  have g2 := l30Lists_back (N := 9) (by omega) h.1.2.2.1 hs.2.2 (m.Heap.Bytes.map u8 ++ (m.Heap.Class.map fun c => u8 (c + 1)) ++ m.Lists.Global.flatMap showS) t (by simp only [showM, List.append_assoc] at hb ⊢; exact hb)
  rw [p1] at g1
  simp only [List.append_assoc] at g1 g2
  simp only [showM, List.append_assoc]
  rw [show ((390 : Nat) : Int) = 390 from rfl, show ((3 : Nat) : Int) = 3 from rfl] at g1
  rw [show ((9 : Nat) : Int) = 9 from rfl] at g2
  rw [g1]
  simp only [Option.bind_some, List.append_assoc, g2]
end Go.Gv
