/- Bases read from bytes. -/
import Derived.Test.YtpndngnohcffnaaGreatPRead3
import Derived.Test.YtpndngnohcffnaaGreatPShowBase
set_option linter.unusedVariables false
set_option linter.unusedSimpArgs false
set_option linter.unusedSectionVars false
namespace Go.Gv
section
variable {α : Type}
/-- N things, one behind the other, the program's way. -/
def IRd (N : Nat) (R : Reader → Option (α × Reader)) (f : (Int × List UInt8 × Bool × List α) → Option (Step (Int × List UInt8 × Bool × List α) (List UInt8 × Bool × List α))) : Prop :=
  ∀ i l b acc, f (i, l, b, acc) = if i < (N : Int) then (R ⟨⟨l⟩, b⟩).bind fun x => need (acc.length + 1 ≤ 1073741824) (some (.next (w64 (i + 1), x.2.left.b, x.2.bad, acc ++ [x.1]))) else some (.stop (l, b, acc))
theorem iloop_total {N : Nat} {R : Reader → Option (α × Reader)} {f : (Int × List UInt8 × Bool × List α) → Option (Step (Int × List UInt8 × Bool × List α) (List UInt8 × Bool × List α))} {T : α → Prop} (hf : IRd N R f) (hN : N ≤ 100) {M : Nat}
    (hR : ∀ l b, l.length ≤ M → ∃ x l' b', R ⟨⟨l⟩, b⟩ = some (x, ⟨⟨l'⟩, b'⟩) ∧ l'.length ≤ l.length ∧ T x) (l : List UInt8) (b : Bool) (hl : l.length ≤ M) :
    ∃ l' b' acc, loop f (0, l, b, []) = some (l', b', acc) ∧ l'.length ≤ l.length ∧ acc.length = N ∧ ∀ x ∈ acc, T x := by
  have key := loop_ind (f := f) (fun s => ((N : Int) - s.1).toNat) (fun s => ∃ k : Nat, s.1 = (k : Int) ∧ k ≤ N ∧ s.2.1.length ≤ l.length ∧ s.2.2.2.length = k ∧ ∀ x ∈ s.2.2.2, T x) (fun o => o.1.length ≤ l.length ∧ o.2.2.length = N ∧ ∀ x ∈ o.2.2, T x) (by
    rintro ⟨i, l2, b2, acc⟩ ⟨k, rfl, hk, hl2, ha, hT⟩
    simp only at hl2 ha hT
    rw [hf]
    by_cases q : k < N
    · rw [if_pos (by omega)]
      obtain ⟨x, l', b', e, e1, e2⟩ := hR l2 b2 (by omega)
      rw [e]
      simp only [Option.bind_some]
      rw [need_yes (by omega), w64_in (by omega) (by omega)]
      refine .inr ⟨_, rfl, ⟨k + 1, rfl, by omega, by simp only; omega, by simp [ha], fun y hy => ?_⟩, by simp only; omega⟩
      rcases List.mem_append.1 hy with hy | hy
      · exact hT y hy
      · rw [List.mem_singleton.1 hy]; exact e2
    · rw [if_neg (by omega)]
      obtain rfl : k = N := by omega
      exact .inl ⟨_, rfl, hl2, ha, hT⟩) (0, l, b, []) ⟨0, rfl, Nat.zero_le _, Nat.le_refl _, rfl, fun x hx => by cases hx⟩
  obtain ⟨⟨l', b', acc⟩, e, e1, e2, e3⟩ := key
  exact ⟨l', b', acc, e, e1, e2, e3⟩
theorem iloop_back {N : Nat} {R : Reader → Option (α × Reader)} {f : (Int × List UInt8 × Bool × List α) → Option (Step (Int × List UInt8 × Bool × List α) (List UInt8 × Bool × List α))} {enc : α → List UInt8} (hf : IRd N R f) (hN : N ≤ 100) {L : List α} (hL : L.length = N)
    (hR : ∀ x ∈ L, ∀ t, R ⟨⟨enc x ++ t⟩, false⟩ = some (x, ⟨⟨t⟩, false⟩)) (t : List UInt8) : loop f (0, L.flatMap enc ++ t, false, []) = some (t, false, L) := by
  have := enum_eq (f := f) N (fun k => ((k : Int), (L.drop k).flatMap enc ++ t, false, L.take k)) (t, false, L) (fun k hk => ?_) ?_
  · simpa using this
  · have hk' : k < L.length := by omega
    have hd : L.drop k = L[k] :: L.drop (k + 1) := List.drop_eq_getElem_cons hk'
    simp only [hd, List.flatMap_cons, List.append_assoc]
    rw [hf, if_pos (by omega), hR _ (List.getElem_mem hk')]
    simp only [Option.bind_some]
    rw [need_yes (by simp; omega), w64_in (by omega) (by omega), List.take_succ_eq_append_getElem hk']; rfl
  · rw [hf, if_neg (by omega), List.drop_eq_nil_of_le (by omega), List.take_of_length_le (by omega)]; rfl
/-- .. and the reference's. -/
def SRd (N : Nat) (R : Int → Option (α × Int)) (f : (Int × Int × List α) → Option (Step (Int × Int × List α) (Int × List α))) : Prop :=
  ∀ a i acc, f (a, i, acc) = if i < (N : Int) then (R a).bind fun x => need (acc.length + 1 ≤ 1073741824) (some (.next (x.2, w64 (i + 1), acc ++ [x.1]))) else some (.stop (a, acc))
theorem sloop_total {N : Nat} {R : Int → Option (α × Int)} {f : (Int × Int × List α) → Option (Step (Int × Int × List α) (Int × List α))} {T : α → Prop} (hf : SRd N R f) (hN : N ≤ 100) {M : Int}
    (hR : ∀ a, a ≤ M → ∃ x a', R a = some (x, a') ∧ a' ≤ M ∧ T x) {a : Int} (h : a ≤ M) : ∃ a' acc, loop f (a, 0, []) = some (a', acc) ∧ a' ≤ M ∧ acc.length = N ∧ ∀ x ∈ acc, T x := by
  have key := loop_ind (f := f) (fun s => ((N : Int) - s.2.1).toNat) (fun s => ∃ k : Nat, s.2.1 = (k : Int) ∧ k ≤ N ∧ s.1 ≤ M ∧ s.2.2.length = k ∧ ∀ x ∈ s.2.2, T x) (fun o => o.1 ≤ M ∧ o.2.length = N ∧ ∀ x ∈ o.2, T x) (by
    rintro ⟨a2, i, acc⟩ ⟨k, rfl, hk, hl2, ha, hT⟩
    simp only at hl2 ha hT
    rw [hf]
    by_cases q : k < N
    · rw [if_pos (by omega)]
      obtain ⟨x, a', e, e1, e2⟩ := hR a2 hl2
      rw [e]
      simp only [Option.bind_some]
      rw [need_yes (by omega), w64_in (by omega) (by omega)]
      refine .inr ⟨_, rfl, ⟨k + 1, rfl, by omega, e1, by simp [ha], fun y hy => ?_⟩, by simp only; omega⟩
      rcases List.mem_append.1 hy with hy | hy
      · exact hT y hy
      · rw [List.mem_singleton.1 hy]; exact e2
    · rw [if_neg (by omega)]
      obtain rfl : k = N := by omega
      exact .inl ⟨_, rfl, hl2, ha, hT⟩) (a, 0, []) ⟨0, rfl, Nat.zero_le _, h, rfl, fun x hx => by cases hx⟩
  obtain ⟨⟨a', acc⟩, e, e1, e2, e3⟩ := key
  exact ⟨a', acc, e, e1, e2, e3⟩
theorem sloop_back {N : Nat} {R : Int → Option (α × Int)} {f : (Int × Int × List α) → Option (Step (Int × Int × List α) (Int × List α))} {enc : α → List UInt8} {s : List UInt8} (hf : SRd N R f) (hN : N ≤ 100) {L : List α} (hL : L.length = N)
    (hR : ∀ x ∈ L, ∀ p t, s = p ++ (enc x ++ t) → R (p.length : Int) = some (x, ((p ++ enc x).length : Int))) (p t : List UInt8) (hs : s = p ++ (L.flatMap enc ++ t)) :
    loop f ((p.length : Int), 0, []) = some (((p ++ L.flatMap enc).length : Int), L) := by
  have := enum_eq (f := f) N (fun k => (((p ++ (L.take k).flatMap enc).length : Int), (k : Int), L.take k)) (((p ++ L.flatMap enc).length : Int), L) (fun k hk => ?_) ?_
  · simpa using this
  · have hk' : k < L.length := by omega
    have hsplit : s = (p ++ (L.take k).flatMap enc) ++ (enc L[k] ++ ((L.drop (k + 1)).flatMap enc ++ t)) := by
      have e1 : L.flatMap enc = (L.take k).flatMap enc ++ (enc L[k] ++ (L.drop (k + 1)).flatMap enc) := by
        have : L = L.take k ++ L[k] :: L.drop (k + 1) := by rw [← List.drop_eq_getElem_cons hk', List.take_append_drop]
        conv => lhs; rw [this]
        rw [List.flatMap_append, List.flatMap_cons]
      rw [hs, e1]; simp only [List.append_assoc]
    rw [hf, if_pos (by omega), hR _ (List.getElem_mem hk') _ _ hsplit]
    simp only [Option.bind_some]
    rw [need_yes (by simp; omega), w64_in (by omega) (by omega), fm_take enc hk', List.take_succ_eq_append_getElem hk', ← List.append_assoc]; rfl
  · rw [hf, if_neg (by omega), List.take_of_length_le (by omega)]
end

/-! ### Pins, rows -/
noncomputable def pinI (r : Reader) : Option (Pin × Reader) := (impl_reader_number r).bind fun x57 => (impl_reader_number x57.2).bind fun x58 => (impl_reader_number x58.2).bind fun x59 => (impl_reader_number x59.2).bind fun x60 => some (⟨x57.1 == 1, x58.1, x59.1 == 1, x60.1⟩, x60.2)
theorem pinI_total (l : List UInt8) (b : Bool) : ∃ x l' b', pinI ⟨⟨l⟩, b⟩ = some (x, ⟨⟨l'⟩, b'⟩) ∧ l'.length ≤ l.length ∧ True := by
  unfold pinI
  obtain ⟨n1, l1, b1, e1, h1⟩ := number_total ⟨⟨l⟩, b⟩
  rw [e1]; simp only [Option.bind_some]
  obtain ⟨n2, l2, b2, e2, h2⟩ := number_total ⟨⟨l1⟩, b1⟩
  rw [e2]; simp only [Option.bind_some]
  obtain ⟨n3, l3, b3, e3, h3⟩ := number_total ⟨⟨l2⟩, b2⟩
  rw [e3]; simp only [Option.bind_some]
  obtain ⟨n4, l4, b4, e4, h4⟩ := number_total ⟨⟨l3⟩, b3⟩
  rw [e4]; simp only [Option.bind_some]
  simp only at h1 h2 h3 h4
  exact ⟨_, l4, b4, rfl, by omega, trivial⟩
def PinV (p : Pin) : Prop := VarOk p.Epoch ∧ VarOk p.Seen
theorem bi_ok (b : Bool) : VarOk (bi b) := by cases b <;> simp [bi, VarOk]
theorem bi_one (b : Bool) : (bi b == 1) = b := by cases b <;> rfl
theorem pinI_back {p : Pin} (h : PinV p) (t : List UInt8) : pinI ⟨⟨pinV p ++ t⟩, false⟩ = some (p, ⟨⟨t⟩, false⟩) := by
  unfold pinI pinV
  simp only [List.append_assoc, number_back (bi_ok p.On), number_back h.1, number_back (bi_ok p.Marked), number_back h.2, Option.bind_some, bi_one]
noncomputable def rowI (r : Reader) : Option (LRow × Reader) := (impl_reader_number r).bind fun x55 => (impl_reader_number x55.2).bind fun x56 => some (⟨x55.1, x56.1⟩, x56.2)
theorem rowI_total (l : List UInt8) (b : Bool) : ∃ x l' b', rowI ⟨⟨l⟩, b⟩ = some (x, ⟨⟨l'⟩, b'⟩) ∧ l'.length ≤ l.length := by
  unfold rowI
  obtain ⟨n1, l1, b1, e1, h1⟩ := number_total ⟨⟨l⟩, b⟩
  rw [e1]; simp only [Option.bind_some]
  obtain ⟨n2, l2, b2, e2, h2⟩ := number_total ⟨⟨l1⟩, b1⟩
  rw [e2]; simp only [Option.bind_some]
  simp only at h1 h2
  exact ⟨_, l2, b2, rfl, by omega⟩
def RowV (r : LRow) : Prop := VarOk r.Handle ∧ VarOk r.Epoch
theorem rowI_back {r : LRow} (h : RowV r) (t : List UInt8) : rowI ⟨⟨rowV r ++ t⟩, false⟩ = some (r, ⟨⟨t⟩, false⟩) := by
  unfold rowI rowV
  simp only [List.append_assoc, number_back h.1, number_back h.2, Option.bind_some]
theorem l6_body (x : Int × Reader) (i : Int) (l : List UInt8) (b : Bool) (acc : List LRow) : impl_ReadBase_l6 x (i, l, b, acc) = if i < x.1 then (rowI ⟨⟨l⟩, b⟩).bind fun y => need (acc.length + 1 ≤ 1073741824) (some (.next (w64 (i + 1), y.2.left.b, y.2.bad, acc ++ [y.1]))) else some (.stop (l, b, acc)) := by
  simp only [impl_ReadBase_l6, rowI, Option.bind_assoc, Option.bind_some, decide_eq_true_eq]; rfl
noncomputable def llI (r : Reader) : Option (LList × Reader) := (impl_reader_count r).bind fun x43 => (loop (impl_ReadBase_l6 x43) (0, x43.2.left.b, x43.2.bad, [])).bind fun o => some (⟨o.2.2⟩, ⟨⟨o.1⟩, o.2.1⟩)
theorem llI_total (l : List UInt8) (b : Bool) (hl : l.length ≤ 1048576) : ∃ x l' b', llI ⟨⟨l⟩, b⟩ = some (x, ⟨⟨l'⟩, b'⟩) ∧ l'.length ≤ l.length ∧ x.Rows.length ≤ 1048576 := by
  unfold llI
  obtain ⟨n, l0, b0, h, h1, h2⟩ := count_total ⟨⟨l⟩, b⟩
  simp only at h1
  rw [h]
  simp only [Option.bind_some]
  have key := loop_ind (f := impl_ReadBase_l6 (n, ⟨⟨l0⟩, b0⟩)) (fun s => (n - s.1).toNat) (fun s => ∃ k : Nat, s.1 = (k : Int) ∧ (k ≤ l0.length ∨ k = 0) ∧ s.2.1.length ≤ l0.length ∧ s.2.2.2.length = k) (fun o => o.1.length ≤ l0.length ∧ o.2.2.length ≤ l0.length) (by
    rintro ⟨i, l2, b2, acc⟩ ⟨k, rfl, hk, hl2, ha⟩
    simp only at hl2 ha
    rw [l6_body]
    by_cases q : (k : Int) < n
    · rw [if_pos q]
      obtain ⟨x, l', b', e, e1⟩ := rowI_total l2 b2
      rw [e]
      simp only [Option.bind_some]
      rw [need_yes (by omega), w64_in (by omega) (by omega)]
      exact .inr ⟨_, rfl, ⟨k + 1, rfl, .inl (by omega), by simp only; omega, by simp [ha]⟩, by simp only; omega⟩
    · rw [if_neg q]
      exact .inl ⟨_, rfl, hl2, by simp only; omega⟩) (0, l0, b0, []) ⟨0, rfl, .inr rfl, Nat.le_refl _, rfl⟩
  obtain ⟨⟨l', b', acc⟩, e, e1, e2⟩ := key
  simp only at e1 e2
  rw [e]
  exact ⟨⟨acc⟩, l', b', rfl, by omega, by simp only; omega⟩
def LlV (l : LList) : Prop := l.Rows.length ≤ 24 ∧ ∀ r ∈ l.Rows, RowV r
theorem rows_ge : ∀ l : List LRow, (∀ x ∈ l, RowV x) → l.length ≤ (l.flatMap rowV).length
  | [], _ => by simp
  | x :: r, h => by
    have := varI_pos (h x List.mem_cons_self).1; have := rows_ge r (fun y hy => h y (List.mem_cons_of_mem _ hy))
    rw [List.flatMap_cons, List.length_append, List.length_cons]
    simp only [rowV, List.length_append]; omega
theorem llI_back {x : LList} (h : LlV x) (t : List UInt8) : llI ⟨⟨limV x ++ t⟩, false⟩ = some (x, ⟨⟨t⟩, false⟩) := by
  have hg := rows_ge x.Rows h.2
  have hl := h.1
  have hc := count_back (n := (x.Rows.length : Int)) ⟨by omega, by omega⟩ (t := x.Rows.flatMap rowV ++ t) (by rw [List.length_append]; omega)
  unfold llI limV
  rw [List.append_assoc, hc]
  simp only [Option.bind_some]
  have key : loop (impl_ReadBase_l6 ((x.Rows.length : Int), ⟨⟨x.Rows.flatMap rowV ++ t⟩, false⟩)) (0, x.Rows.flatMap rowV ++ t, false, []) = some (t, false, x.Rows) :=
    iloop_back (N := x.Rows.length) (R := rowI) (enc := rowV) (fun i l b acc => l6_body _ i l b acc) (by omega) rfl (fun r hr t => rowI_back (h.2 r hr) t) t
  rw [key]; rfl
theorem ib_l1 : IRd 3 pinI impl_ReadBase_l1 := fun i l b acc => by
  simp only [impl_ReadBase_l1, pinI, Option.bind_assoc, Option.bind_some, decide_eq_true_eq]; rfl
theorem ib_l2 : IRd 3 llI impl_ReadBase_l2 := fun i l b acc => by
  simp only [impl_ReadBase_l2, llI, Option.bind_assoc, Option.bind_some, decide_eq_true_eq]; rfl
theorem ib_l3 : IRd 3 impl_reader_number impl_ReadBase_l3 := fun i l b acc => by
  simp only [impl_ReadBase_l3, impl_ReadBase_j5, decide_eq_true_eq]; rfl
theorem number_total' (l : List UInt8) (b : Bool) : ∃ n l' b', impl_reader_number ⟨⟨l⟩, b⟩ = some (n, ⟨⟨l'⟩, b'⟩) ∧ l'.length ≤ l.length ∧ True := by
  obtain ⟨n, l', b', e, h⟩ := number_total ⟨⟨l⟩, b⟩
  exact ⟨n, l', b', e, h, trivial⟩

/-! ### The reference's -/
theorem spin_total {s : List UInt8} (hs : s.length ≤ 1048576) {a : Int} (h : a ≤ s.length) : ∃ x a', spec_l30Pin s a = some (x, a') ∧ a' ≤ (s.length : Int) ∧ True := by
  unfold spec_l30Pin
  obtain ⟨n1, a1, e1, h1⟩ := l30Num_total h hs
  rw [e1]; simp only [Option.bind_some]
  obtain ⟨n2, a2, e2, h2⟩ := l30Num_total h1 hs
  rw [e2]; simp only [Option.bind_some]
  obtain ⟨n3, a3, e3, h3⟩ := l30Num_total h2 hs
  rw [e3]; simp only [Option.bind_some]
  obtain ⟨n4, a4, e4, h4⟩ := l30Num_total h3 hs
  rw [e4]; exact ⟨_, a4, rfl, h4, trivial⟩
theorem num_at {n : Int} (h : VarOk n) {s p t : List UInt8} (hs : s.length ≤ 1048576) (e : s = p ++ (varI n ++ t)) : spec_l30Num s (p.length : Int) = some (n, ((p ++ varI n).length : Int)) := by
  subst e; exact l30Num_back h p t hs
theorem spin_back {x : Pin} (h : PinV x) {s p t : List UInt8} (hs : s.length ≤ 1048576) (e : s = p ++ (pinV x ++ t)) : spec_l30Pin s (p.length : Int) = some (x, ((p ++ pinV x).length : Int)) := by
  unfold spec_l30Pin
  simp only [pinV, List.append_assoc] at e
  rw [num_at (bi_ok x.On) hs e]; simp only [Option.bind_some]
  rw [num_at h.1 hs (t := varI (bi x.Marked) ++ (varI x.Seen ++ t)) (by rw [e]; simp only [List.append_assoc])]; simp only [Option.bind_some]
  rw [num_at (bi_ok x.Marked) hs (t := varI x.Seen ++ t) (by rw [e]; simp only [List.append_assoc])]; simp only [Option.bind_some]
  rw [num_at h.2 hs (t := t) (by rw [e]; simp only [List.append_assoc])]; simp only [Option.bind_some, bi_one, pinV, List.append_assoc]
noncomputable def srow (s : List UInt8) (a : Int) : Option (LRow × Int) := (spec_l30Num s a).bind fun x11 => (spec_l30Num s x11.2).bind fun x12 => some (⟨x11.1, x12.1⟩, x12.2)
theorem srows_total {s : List UInt8} (hs : s.length ≤ 1048576) {a : Int} (h : a ≤ s.length) : ∃ x a', spec_l30Rows s a = some (x, a') ∧ a' ≤ (s.length : Int) ∧ x.Rows.length ≤ 1048576 := by
  unfold spec_l30Rows
  obtain ⟨n, a1, e1, h1⟩ := l30Num_total h hs
  rw [e1]; simp only [Option.bind_some]
  have key := loop_ind (f := spec_l30Rows_l1 s (n, a1)) (fun q => 24 - q.2.1.toNat) (fun q => ∃ k : Nat, q.2.1 = (k : Int) ∧ k ≤ 24 ∧ q.1 ≤ s.length ∧ q.2.2.length = k) (fun o => o.1 ≤ s.length ∧ o.2.length ≤ 24) (by
    rintro ⟨b, i, acc⟩ ⟨k, rfl, hk, hb, ha⟩
    simp only at hb ha
    simp only [spec_l30Rows_l1, spec_l30Rows_j2]
    by_cases q : (k : Int) < n
    · rw [if_pos (by simpa using q)]
      by_cases q2 : k < 24
      · rw [if_pos (by simp; omega)]
        obtain ⟨n2, a2, e2, h2⟩ := l30Num_total hb hs
        rw [e2]; simp only [Option.bind_some]
        obtain ⟨n3, a3, e3, h3⟩ := l30Num_total h2 hs
        rw [e3]; simp only [Option.bind_some]
        rw [need_yes (by simp; omega), w64_in (by omega) (by omega)]
        exact .inr ⟨_, rfl, ⟨k + 1, rfl, by omega, h3, by simp [ha]⟩, by simp only; omega⟩
      · rw [if_neg (by simp; omega)]
        exact .inl ⟨_, rfl, hb, by simp only; omega⟩
    · rw [if_neg (by simpa using q)]
      exact .inl ⟨_, rfl, hb, by simp only; omega⟩) (a1, 0, []) ⟨0, rfl, by omega, h1, rfl⟩
  obtain ⟨⟨a', acc⟩, e, e1, e2⟩ := key
  rw [e]
  exact ⟨⟨acc⟩, a', rfl, e1, by simp only at e2 ⊢; omega⟩
theorem srows_back {x : LList} (h : LlV x) {s p t : List UInt8} (hs : s.length ≤ 1048576) (e : s = p ++ (limV x ++ t)) : spec_l30Rows s (p.length : Int) = some (x, ((p ++ limV x).length : Int)) := by
  have hl := h.1
  unfold spec_l30Rows
  simp only [limV, List.append_assoc] at e
  rw [num_at (n := (x.Rows.length : Int)) ⟨by omega, by omega⟩ hs e]
  simp only [Option.bind_some]
  generalize hP : p ++ varI (x.Rows.length : Int) = P
  have key : loop (spec_l30Rows_l1 s ((x.Rows.length : Int), (P.length : Int))) ((P.length : Int), 0, []) = some (((P ++ x.Rows.flatMap rowV).length : Int), x.Rows) := by
    have := enum_eq (f := spec_l30Rows_l1 s ((x.Rows.length : Int), (P.length : Int))) x.Rows.length (fun j => (((P ++ (x.Rows.take j).flatMap rowV).length : Int), (j : Int), x.Rows.take j)) (((P ++ x.Rows.flatMap rowV).length : Int), x.Rows) (fun j hj => ?_) ?_
    · simpa using this
    · have hsp : s = (P ++ (x.Rows.take j).flatMap rowV) ++ (varI x.Rows[j].Handle ++ (varI x.Rows[j].Epoch ++ ((x.Rows.drop (j + 1)).flatMap rowV ++ t))) := by
        have e1 : x.Rows.flatMap rowV = (x.Rows.take j).flatMap rowV ++ (rowV x.Rows[j] ++ (x.Rows.drop (j + 1)).flatMap rowV) := by
          have : x.Rows = x.Rows.take j ++ x.Rows[j] :: x.Rows.drop (j + 1) := by rw [← List.drop_eq_getElem_cons hj, List.take_append_drop]
          conv => lhs; rw [this]
          rw [List.flatMap_append, List.flatMap_cons]
        rw [e, e1, ← hP]; simp only [rowV, List.append_assoc]
      have hr := h.2 _ (List.getElem_mem hj)
      simp only [spec_l30Rows_l1, spec_l30Rows_j2]
      rw [if_pos (by simp; omega), if_pos (by simp; omega), num_at hr.1 hs hsp]
      simp only [Option.bind_some]
      rw [num_at hr.2 hs (t := (x.Rows.drop (j + 1)).flatMap rowV ++ t) (by rw [hsp]; simp only [List.append_assoc])]
      simp only [Option.bind_some]
      rw [need_yes (by simp; omega), w64_in (by omega) (by omega), fm_take rowV hj, List.take_succ_eq_append_getElem hj]
      simp only [rowV, List.append_assoc]; rfl
    · simp only [spec_l30Rows_l1, spec_l30Rows_j2]
      rw [if_neg (by simp), List.take_length]; simp
  rw [key]
  simp only [Option.bind_some, spec_l30Rows_m1, spec_l30Rows_j1, limV, ← hP, List.append_assoc]
theorem sb_l1 (s : List UInt8) : SRd 3 (spec_l30Pin s) (spec_ReadBase_l1 s) := fun a i acc => by
  simp only [spec_ReadBase_l1, decide_eq_true_eq]; rfl
theorem sb_l2 (s : List UInt8) : SRd 3 (spec_l30Rows s) (spec_ReadBase_l2 s) := fun a i acc => by
  simp only [spec_ReadBase_l2, decide_eq_true_eq]; rfl
theorem sb_l3 (s : List UInt8) : SRd 3 (spec_l30Num s) (spec_ReadBase_l3 s) := fun a i acc => by
  simp only [spec_ReadBase_l3, decide_eq_true_eq]; rfl
end Go.Gv
