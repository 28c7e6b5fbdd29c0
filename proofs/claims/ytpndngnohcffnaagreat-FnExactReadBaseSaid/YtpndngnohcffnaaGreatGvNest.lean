/-
  Slices whose elements have memory behind them: what is ours, opened at an element and shut again. Nothing of a program here.
-/
import Derived.Test.YtpndngnohcffnaaGreatGvMem
set_option linter.unusedVariables false
namespace Go.Gv

/-- All elements of a row of cells are ours. -/
def OwnAll {α : Type} [Rep α] (w : World) : List Value → List α → Foot → Prop
  | cs, [], F => cs = [] ∧ ∀ b o, ¬ F b o
  | cs, x :: r, F => ∃ c1 c2 F1 F2, cs = c1 ++ c2 ∧ Rep.own w c1 x F1 ∧ OwnAll w c2 r F2 ∧ Foot.disj F1 F2 ∧ ∀ b o, F b o ↔ F1 b o ∨ F2 b o

theorem OwnAll.congr {α : Type} [Rep α] {w : World} {cs : List Value} {l : List α} {F G : Foot} (h : OwnAll w cs l F) (hFG : ∀ b o, F b o ↔ G b o) : OwnAll w cs l G := by
  have : F = G := by funext b o; exact propext (hFG b o)
  rw [← this]; exact h
theorem OwnAll.length {α : Type} [Rep α] {w : World} : ∀ {l : List α} {cs : List Value} {F : Foot}, OwnAll w cs l F → cs.length = l.length * Rep.n α
  | [], cs, F, h => by simp [h.1]
  | x :: r, cs, F, ⟨c1, c2, F1, F2, e, h1, h2, _, _⟩ => by
    have a := Rep.rd_len (Rep.own_rd h1)
    have b := OwnAll.length h2
    subst e
    rw [List.length_append, a, b, List.length_cons, Nat.add_mul]; omega
theorem OwnAll.keep {α : Type} [Rep α] {w w' : World} {G : Foot} (hk : Keep G w w') : ∀ {l : List α} {cs : List Value} {F : Foot}, OwnAll w cs l F → F.disj G → OwnAll w' cs l F
  | [], cs, F, h, _ => h
  | x :: r, cs, F, ⟨c1, c2, F1, F2, e, h1, h2, hd, hF⟩, hg =>
    ⟨c1, c2, F1, F2, e, Rep.own_keep h1 hk fun b o h g => hg b o ((hF b o).2 (.inl h)) g, OwnAll.keep hk h2 fun b o h g => hg b o ((hF b o).2 (.inr h)) g, hd, hF⟩
theorem OwnAll.lt {α : Type} [Rep α] {w : World} : ∀ {l : List α} {cs : List Value} {F : Foot} {b o : Nat}, OwnAll w cs l F → F b o → b < w.heap.size
  | [], _, _, b, o, h, hf => (h.2 b o hf).elim
  | x :: r, cs, F, b, o, ⟨c1, c2, F1, F2, e, h1, h2, hd, hF⟩, hf => by
    rcases (hF b o).1 hf with h | h
    · exact Rep.own_lt h1 h
    · exact OwnAll.lt h2 h
theorem OwnAll.app {α : Type} [Rep α] {w : World} : ∀ {l m : List α} {cs ds : List Value} {F G H : Foot}, OwnAll w cs l F → OwnAll w ds m G → F.disj G → (∀ b o, H b o ↔ F b o ∨ G b o) → OwnAll w (cs ++ ds) (l ++ m) H
  | [], m, cs, ds, F, G, H, h, k, _, hH => by
    rw [h.1]
    exact OwnAll.congr k fun b o => by rw [hH]; exact ⟨.inr, fun q => q.elim (fun q => (h.2 b o q).elim) id⟩
  | x :: r, m, cs, ds, F, G, H, ⟨c1, c2, F1, F2, e, h1, h2, hd, hF⟩, k, hdj, hH => by
    subst e
    refine ⟨c1, c2 ++ ds, F1, fun b o => F2 b o ∨ G b o, by simp, h1, OwnAll.app h2 k (fun b o p q => hdj b o ((hF b o).2 (.inr p)) q) fun _ _ => Iff.rfl, ?_, fun b o => by rw [hH, hF, or_assoc]⟩
    rintro b o p (q | q)
    · exact hd b o p q
    · exact hdj b o ((hF b o).2 (.inl p)) q
theorem OwnAll.split {α : Type} [Rep α] {w : World} : ∀ {l m : List α} {cs : List Value} {H : Foot}, OwnAll w cs (l ++ m) H → ∃ c1 c2 F G, cs = c1 ++ c2 ∧ OwnAll w c1 l F ∧ OwnAll w c2 m G ∧ F.disj G ∧ ∀ b o, H b o ↔ F b o ∨ G b o
  | [], m, cs, H, h => ⟨[], cs, F0, H, rfl, ⟨rfl, fun _ _ h => h⟩, h, fun _ _ h => h.elim, fun b o => by simp [F0]⟩
  | x :: r, m, cs, H, ⟨c1, c2, F1, F2, e, h1, h2, hd, hF⟩ => by
    obtain ⟨d1, d2, G1, G2, e2, k1, k2, kd, kF⟩ := OwnAll.split h2
    subst e; subst e2
    refine ⟨c1 ++ d1, d2, fun b o => F1 b o ∨ G1 b o, G2, by simp, ⟨c1, d1, F1, G1, rfl, h1, k1, fun b o p q => hd b o p ((kF b o).2 (.inl q)), fun _ _ => Iff.rfl⟩, k2, ?_, fun b o => by rw [hF, kF, or_assoc]⟩
    rintro b o (p | p) q
    · exact hd b o p ((kF b o).2 (.inr q))
    · exact kd b o p q
theorem OwnAll.one {α : Type} [Rep α] {w : World} {c : List Value} {x : α} {F : Foot} : OwnAll w c [x] F ↔ Rep.own w c x F := by
  constructor
  · rintro ⟨c1, c2, F1, F2, e, h1, ⟨h2, h3⟩, hd, hF⟩
    subst e; subst h2
    have : F = F1 := by funext b o; exact propext ((hF b o).trans ⟨fun q => q.elim id fun q => (h3 b o q).elim, .inl⟩)
    rw [this]; simpa using h1
  · intro h
    exact ⟨c, [], F, F0, by simp, h, ⟨rfl, fun _ _ h => h⟩, fun _ _ _ h => h, fun b o => by simp [F0]⟩
theorem OwnAll.rd {α : Type} [Rep α] {w : World} : ∀ {l : List α} {cs : List Value} {F : Foot}, OwnAll w cs l F → ∀ i x, l[i]? = some x → Rep.rd F w (seg cs (Rep.n α) i) x
  | [], cs, F, _, i, x, h => by simp at h
  | y :: r, cs, F, ⟨c1, c2, F1, F2, e, h1, h2, hd, hF⟩, i, x, h => by
    have a := Rep.rd_len (Rep.own_rd h1)
    subst e
    cases i with
    | zero =>
      simp at h; subst h
      have : seg (c1 ++ c2) (Rep.n α) 0 = c1 := by unfold seg; simp [← a]
      rw [this]; exact Rep.rd_mono (Rep.own_rd h1) fun b o q => (hF b o).2 (.inl q)
    | succ i =>
      have : seg (c1 ++ c2) (Rep.n α) (i + 1) = seg c2 (Rep.n α) i := by
        unfold seg; rw [show (i + 1) * Rep.n α = c1.length + i * Rep.n α by rw [a, Nat.add_mul]; omega, ← List.drop_drop, List.drop_left]
      rw [this]; exact Rep.rd_mono (OwnAll.rd h2 i x (by simpa using h)) fun b o q => (hF b o).2 (.inr q)

/-- A slice is ours: its row, and what its elements have behind them. -/
def Row (w : World) (b off n : Nat) : Prop := ∀ o, inRow b off n b o → (w.cell? ⟨b, o, none⟩).isSome = true ∧ w.frozen? ⟨b, o, none⟩ = false

theorem els_all {α : Type} [Rep α] {w : World} {b : Nat} : ∀ {l : List α} {off : Nat} {Fs : Nat → Foot}, (∀ i (h : i < l.length), ∃ ec, CellsAt w b (off + i * Rep.n α) ec ∧ Rep.own w ec l[i] (Fs i)) →
    (∀ i j, i < l.length → j < l.length → i ≠ j → Foot.disj (Fs i) (Fs j)) → ∃ cc, CellsAt w b off cc ∧ OwnAll w cc l (fun b' o => ∃ i, i < l.length ∧ Fs i b' o)
  | [], off, Fs, _, _ => ⟨[], fun j v h => by simp at h, rfl, fun b o ⟨i, h, _⟩ => by simp at h⟩
  | x :: r, off, Fs, h, hd => by
    obtain ⟨ec, h1, h2⟩ := h 0 (by simp)
    obtain ⟨cc, h3, h4⟩ := els_all (l := r) (off := off + Rep.n α) (Fs := fun i => Fs (i + 1)) (fun i hi => by
      obtain ⟨ec, k1, k2⟩ := h (i + 1) (by simp; omega)
      exact ⟨ec, by rw [show off + Rep.n α + i * Rep.n α = off + (i + 1) * Rep.n α by rw [Nat.add_mul]; omega]; exact k1, by simpa using k2⟩)
      fun i j hi hj hij => hd (i + 1) (j + 1) (by simp; omega) (by simp; omega) (by omega)
    have hl := Rep.rd_len (Rep.own_rd h2)
    refine ⟨ec ++ cc, fun j v hj => ?_, ec, cc, Fs 0, _, rfl, by simpa using h2, h4, ?_, fun b' o => ?_⟩
    · rw [List.getElem?_append] at hj
      split at hj
      · have := h1 j v hj; simpa using this
      · have := h3 _ v hj
        rw [show off + Rep.n α + (j - ec.length) = off + j by omega] at this
        exact this
    · rintro b' o p ⟨i, hi, q⟩
      exact hd 0 (i + 1) (by simp) (by simp; omega) (by omega) b' o p q
    · constructor
      · rintro ⟨i, hi, q⟩
        cases i with
        | zero => exact .inl q
        | succ i => exact .inr ⟨i, by simpa using hi, q⟩
      · rintro (q | ⟨i, hi, q⟩)
        · exact ⟨0, by simp, q⟩
        · exact ⟨i + 1, by simp; omega, q⟩
theorem all_els {α : Type} [Rep α] {w : World} {b : Nat} : ∀ {l : List α} {off : Nat} {cc : List Value} {F : Foot}, CellsAt w b off cc → OwnAll w cc l F →
    ∃ Fs : Nat → Foot, (∀ i (h : i < l.length), ∃ ec, CellsAt w b (off + i * Rep.n α) ec ∧ Rep.own w ec l[i] (Fs i)) ∧ (∀ i j, i < l.length → j < l.length → i ≠ j → Foot.disj (Fs i) (Fs j)) ∧ ∀ b' o, F b' o ↔ ∃ i, i < l.length ∧ Fs i b' o
  | [], off, cc, F, _, h => ⟨fun _ => F0, fun i h => by simp at h, fun i j h => by simp at h, fun b o => ⟨fun q => (h.2 b o q).elim, fun ⟨i, h, _⟩ => by simp at h⟩⟩
  | x :: r, off, cc, F, hc, ⟨c1, c2, F1, F2, e, h1, h2, hd, hF⟩ => by
    have hl := Rep.rd_len (Rep.own_rd h1)
    subst e
    have k1 : CellsAt w b off c1 := fun j v hj => hc j v (by rw [List.getElem?_append_left (List.getElem?_eq_some_iff.1 hj).1]; exact hj)
    have k2 : CellsAt w b (off + Rep.n α) c2 := fun j v hj => by
      have := hc (c1.length + j) v (by rw [List.getElem?_append_right (by omega)]; simpa using hj)
      rw [hl, ← Nat.add_assoc] at this; exact this
    obtain ⟨Fs, a1, a2, a3⟩ := all_els k2 h2
    refine ⟨fun i => match i with | 0 => F1 | i + 1 => Fs i, fun i hi => ?_, fun i j hi hj hij => ?_, fun b' o => ?_⟩
    · cases i with
      | zero => exact ⟨c1, by simpa using k1, by simpa using h1⟩
      | succ i =>
        obtain ⟨ec, q1, q2⟩ := a1 i (by simpa using hi)
        exact ⟨ec, by rw [show off + (i + 1) * Rep.n α = off + Rep.n α + i * Rep.n α by rw [Nat.add_mul]; omega]; exact q1, by simpa using q2⟩
    · cases i with
      | zero =>
        cases j with
        | zero => exact absurd rfl hij
        | succ j => exact fun b o p q => hd b o p ((a3 b o).2 ⟨j, by simpa using hj, q⟩)
      | succ i =>
        cases j with
        | zero => exact fun b o p q => hd b o q ((a3 b o).2 ⟨i, by simpa using hi, p⟩)
        | succ j => exact a2 i j (by simpa using hi) (by simpa using hj) (by omega)
    · rw [hF, a3]
      constructor
      · rintro (q | ⟨i, hi, q⟩)
        · exact ⟨0, by simp, q⟩
        · exact ⟨i + 1, by simp; omega, q⟩
      · rintro ⟨i, hi, q⟩
        cases i with
        | zero => exact .inl q
        | succ i => exact .inr ⟨i, by simpa using hi, q⟩

theorem own_iff {α : Type} [Rep α] {w : World} {s : Value} {l : List α} {F : Foot} : Rep.own w [s] l F ↔ ∃ a c, s = .slice a l.length c ∧ l.length ≤ c ∧ c ≤ maxLen ∧
    ((a = none ∧ c = 0 ∧ ∀ b o, ¬ F b o) ∨ ∃ b off cc Fe, a = some ⟨b, off, none⟩ ∧ Row w b off (c * Rep.n α) ∧ CellsAt w b off cc ∧ OwnAll w cc l Fe ∧ Foot.disj Fe (inRow b off (c * Rep.n α)) ∧ ∀ b' o, F b' o ↔ inRow b off (c * Rep.n α) b' o ∨ Fe b' o) := by
  show ownSlice w [s] l F ↔ _
  constructor
  · rintro ⟨a, c, e, h1, h2, h3⟩
    simp at e
    refine ⟨a, c, e, h1, h2, h3.imp id ?_⟩
    rintro ⟨b, off, Fs, e2, hr, he, hd1, hd2, hF⟩
    obtain ⟨cc, k1, k2⟩ := els_all he hd1
    exact ⟨b, off, cc, _, e2, hr, k1, k2, fun b o ⟨i, hi, q⟩ p => hd2 i hi b o q p, hF⟩
  · rintro ⟨a, c, e, h1, h2, h3⟩
    refine ⟨a, c, by rw [e], h1, h2, h3.imp id ?_⟩
    rintro ⟨b, off, cc, Fe, e2, hr, k1, k2, hd, hF⟩
    obtain ⟨Fs, a1, a2, a3⟩ := all_els k1 k2
    exact ⟨b, off, Fs, e2, hr, a1, a2, fun i hi b o q p => hd b o ((a3 b o).2 ⟨i, hi, q⟩) p, fun b' o => by rw [hF, a3]⟩

/-! ### Some chunks for others -/
def blank (L : List Chunk) : List Nat → List Chunk
  | [] => L
  | i :: r => blank (L.set i cNo) r
theorem Sep.blank {w : World} : ∀ {is : List Nat} {L : List Chunk} {F : Foot}, apartB is = true → Sep w L F → Sep w (Gv.pick L is ++ Gv.blank L is) F
  | [], L, F, _, h => h
  | i :: r, L, F, ha, h => by
    simp only [apartB, Bool.and_eq_true] at ha
    have hp := pick_set (L := L) ha.1
    show Sep w ((L[i]?).getD cNo :: (Gv.pick L r ++ Gv.blank (L.set i cNo) r)) F
    cases hi : L[i]? with
    | none =>
      have : L.set i cNo = L := List.set_eq_of_length_le (by simpa using hi)
      rw [this]
      exact ⟨F0, F, fun _ _ h => h, Sep.blank ha.2 h, fun _ _ h => h.elim, fun b o => by simp [F0]⟩
    | some ch =>
      obtain ⟨F1, F2, h1, h2, hd, hF⟩ := (Sep.take hi).1 h
      exact ⟨F1, F2, h1, by rw [← hp]; exact Sep.blank ha.2 h2, hd, hF⟩
section
variable {c : Ctx} {w w' : World} {L : List Chunk} {R : List Fact}
theorem St.front (h : St c w L R) (is : List Nat) (ha : apartB is = true) : St c w (pick L is ++ blank L is) R := by
  obtain ⟨F, S, hsep, rest⟩ := h.sep
  exact ⟨h.keep, ⟨F, S, Sep.blank ha hsep, rest⟩, h.apart⟩
theorem St.repl (h : St c w L R) (is : List Nat) (ha : apartB is = true) {A' : List Chunk} (hs : ∀ F, Sep w (pick L is) F → ∃ F' G, Keep G w w' ∧ (∀ b o, G b o → F b o) ∧ Sep w' A' F' ∧ ∀ b o, F' b o → F b o ∨ w.heap.size ≤ b) :
    St c w' (blank L is ++ A') R := St.rot (St.step (h.front is ha) hs)
theorem St.shift (h : St c w L R) (is : List Nat) (ha : apartB is = true) {A' : List Chunk} (hs : ∀ F, Sep w (pick L is) F → Sep w A' F) : St c w (blank L is ++ A') R :=
  h.repl is ha fun F hF => ⟨F, F0, Keep.refl _ _, fun _ _ h => h.elim, hs F hF, fun _ _ h => .inl h⟩
end

theorem Sep.one {w : World} {ch : Chunk} {F : Foot} : Sep w [ch] F ↔ ch.P w F := by
  constructor
  · rintro ⟨F1, F2, h1, h2, _, hF⟩
    have : F = F1 := by funext b o; exact propext ((hF b o).trans ⟨fun q => q.elim id fun q => (h2 b o q).elim, .inl⟩)
    rw [this]; exact h1
  · intro h
    exact ⟨F, F0, h, fun _ _ h => h, fun _ _ _ h => h, fun b o => by simp [F0]⟩

/-! ### An element taken out, and put back -/
/-- The slice but for element k. -/
def cHole {α : Type} [Rep α] (s : Value) (l : List α) (k : Nat) : Chunk where
  P := fun w F => ∃ a c b off c1 c2 F1 F2, s = .slice a l.length c ∧ l.length ≤ c ∧ c ≤ maxLen ∧ k < l.length ∧ a = some ⟨b, off, none⟩ ∧
    (∀ o, inRow b off (c * Rep.n α) b o → ¬ inRow b (off + k * Rep.n α) (Rep.n α) b o → (w.cell? ⟨b, o, none⟩).isSome = true ∧ w.frozen? ⟨b, o, none⟩ = false) ∧
    CellsAt w b off c1 ∧ CellsAt w b (off + (k + 1) * Rep.n α) c2 ∧ OwnAll w c1 (l.take k) F1 ∧ OwnAll w c2 (l.drop (k + 1)) F2 ∧ F1.disj F2 ∧ F1.disj (inRow b off (c * Rep.n α)) ∧ F2.disj (inRow b off (c * Rep.n α)) ∧
    ∀ b' o, F b' o ↔ (inRow b off (c * Rep.n α) b' o ∧ ¬ inRow b (off + k * Rep.n α) (Rep.n α) b' o) ∨ F1 b' o ∨ F2 b' o
  keep := by
    rintro w w' F G ⟨a, c, b, off, c1, c2, F1, F2, e, h1, h2, h3, e2, hr, k1, k2, o1, o2, d1, d2, d3, hF⟩ hk hd
    have hcell : ∀ o, inRow b off (c * Rep.n α) b o → ¬ inRow b (off + k * Rep.n α) (Rep.n α) b o → b < w.heap.size → w'.cell? ⟨b, o, none⟩ = w.cell? ⟨b, o, none⟩ := fun o p q hb => hk.cell b o hb fun g => hd b o ((hF b o).2 (.inl ⟨p, q⟩)) g
    have hn : (k + 1) * Rep.n α ≤ c * Rep.n α := Nat.mul_le_mul_right _ (by omega)
    rw [Nat.add_mul] at hn
    have l1 := o1.length
    have l2 := o2.length
    rw [List.length_take, Nat.min_eq_left (by omega)] at l1
    rw [List.length_drop] at l2
    have hn2 : (l.length - (k + 1)) * Rep.n α + (k + 1) * Rep.n α ≤ c * Rep.n α := by rw [← Nat.add_mul]; exact Nat.mul_le_mul_right _ (by omega)
    refine ⟨a, c, b, off, c1, c2, F1, F2, e, h1, h2, h3, e2, fun o p q => ?_, ?_, ?_, o1.keep hk fun b o p g => hd b o ((hF b o).2 (.inr (.inl p))) g, o2.keep hk fun b o p g => hd b o ((hF b o).2 (.inr (.inr p))) g, d1, d2, d3, hF⟩
    · have := hr o p q
      exact ⟨hk.stay b o this.1, (hk.frz b o (lt_of_cell this.1)).trans this.2⟩
    · by_cases hc : c1 = []
      · subst hc; intro j v h; simp at h
      · refine k1.agree fun o p q => hcell o ⟨rfl, p, by omega⟩ (fun ⟨_, p2, _⟩ => by omega) (k1.lt hc)
    · by_cases hc : c2 = []
      · subst hc; intro j v h; simp at h
      · rw [Nat.add_mul] at k2 hn2
        refine CellsAt.agree (by rw [Nat.add_mul]; exact k2) fun o p q => ?_
        rw [Nat.add_mul] at p q
        exact hcell o ⟨rfl, by omega, by omega⟩ (fun ⟨_, _, p3⟩ => by omega) (k2.lt hc)
  lt := by
    rintro w F b' o ⟨a, c, b, off, c1, c2, F1, F2, e, h1, h2, h3, e2, hr, k1, k2, o1, o2, d1, d2, d3, hF⟩ hf
    rcases (hF b' o).1 hf with ⟨p, q⟩ | p | p
    · have : b' = b := p.1
      subst this
      exact lt_of_cell (hr o p q).1
    · exact o1.lt p
    · exact o2.lt p
theorem cells_split {w : World} {b off : Nat} {c1 c2 : List Value} (h : CellsAt w b off (c1 ++ c2)) : CellsAt w b off c1 ∧ CellsAt w b (off + c1.length) c2 :=
  ⟨fun j v hj => h j v (by rw [List.getElem?_append_left (List.getElem?_eq_some_iff.1 hj).1]; exact hj), fun j v hj => by
    have := h (c1.length + j) v (by rw [List.getElem?_append_right (by omega)]; simpa using hj)
    rw [← Nat.add_assoc] at this; exact this⟩
theorem cells_join {w : World} {b off : Nat} {c1 c2 : List Value} (h1 : CellsAt w b off c1) (h2 : CellsAt w b (off + c1.length) c2) : CellsAt w b off (c1 ++ c2) := fun j v hj => by
  rw [List.getElem?_append] at hj
  split at hj
  · exact h1 j v hj
  · have := h2 _ v hj
    rw [show off + c1.length + (j - c1.length) = off + j by omega] at this
    exact this
theorem list_cut {α : Type} {l : List α} {k : Nat} {x : α} (h : l[k]? = some x) : l = l.take k ++ ([x] ++ l.drop (k + 1)) := by
  obtain ⟨hk, rfl⟩ := List.getElem?_eq_some_iff.1 h
  simp
theorem list_put {α : Type} {l : List α} {k : Nat} {x : α} (h : k < l.length) : l.set k x = l.take k ++ ([x] ++ l.drop (k + 1)) := by
  rw [List.set_eq_take_append_cons_drop, if_pos h]; simp

theorem own_open {α : Type} [Rep α] {w : World} {s : Value} {l : List α} {k : Nat} {x : α} {F : Foot} (h : Rep.own w [s] l F) (hx : l[k]? = some x) :
    ∃ ec : List Value, Sep w [cHole s l k, cAt (elB s) (elO (Rep.n α) k s) ec, cOwn ec x] F := by
  obtain ⟨a, c, e, h1, h2, h3⟩ := own_iff.1 h
  obtain ⟨hk, _⟩ := List.getElem?_eq_some_iff.1 hx
  rcases h3 with ⟨_, h3, _⟩ | ⟨b, off, cc, Fe, rfl, hr, hc, ho, hd, hF⟩
  · omega
  rw [list_cut hx] at ho
  obtain ⟨c1, c23, F1, F23, rfl, o1, o23, d1, e1⟩ := ho.split
  obtain ⟨ec, c2, F2, F3, rfl, o2, o3, d2, e2⟩ := o23.split
  have l1 := o1.length
  have l2 := o2.length
  have l3 := o3.length
  rw [List.length_take, Nat.min_eq_left (by omega)] at l1
  rw [List.length_drop] at l3
  simp only [List.length_cons, List.length_nil, Nat.zero_add, Nat.one_mul] at l2
  obtain ⟨k1, k23⟩ := cells_split hc
  obtain ⟨k2, k3⟩ := cells_split k23
  rw [l1] at k2 k3
  rw [l2] at k3
  have hn : (k + 1) * Rep.n α ≤ c * Rep.n α := Nat.mul_le_mul_right _ (by omega)
  have hn' := hn
  rw [Nat.add_mul] at hn'
  subst e
  refine ⟨ec, _, fun b' o => inRow b (off + k * Rep.n α) (Rep.n α) b' o ∨ F2 b' o, ⟨some ⟨b, off, none⟩, c, b, off, c1, c2, F1, F3, rfl, h1, h2, hk, rfl, fun o p q => hr o p, k1, ?_, o1, o3, ?_, ?_, ?_, fun _ _ => Iff.rfl⟩, ?_⟩
  · rw [show off + (k + 1) * Rep.n α = off + k * Rep.n α + Rep.n α by rw [Nat.add_mul]; omega]; exact k3
  · exact fun b o p q => d1 b o p ((e2 b o).2 (.inr q))
  · exact fun b o p q => hd b o ((e1 b o).2 (.inl p)) q
  · exact fun b o p q => hd b o ((e1 b o).2 (.inr ((e2 b o).2 (.inr p)))) q
  · refine ⟨⟨inRow b (off + k * Rep.n α) (Rep.n α), F2, ⟨k2, fun o p => (hr o ?_).2, fun b' o => by simp only [l2, elB, elO]⟩, Sep.one.2 (OwnAll.one.1 o2), ?_, fun _ _ => Iff.rfl⟩, ?_, fun b' o => ?_⟩
    · obtain ⟨_, p1, p2⟩ := p
      simp only [elO, l2] at p1 p2
      exact ⟨rfl, by omega, by omega⟩
    · rintro b' o ⟨rfl, p1, p2⟩ q
      exact hd b' o ((e1 b' o).2 (.inr ((e2 b' o).2 (.inl q)))) ⟨rfl, by omega, by omega⟩
    · rintro b' o (⟨p, q⟩ | p | p) (u | u)
      · exact q u
      · exact hd b' o ((e1 b' o).2 (.inr ((e2 b' o).2 (.inl u)))) p
      · obtain ⟨rfl, u1, u2⟩ := u
        exact hd b' o ((e1 b' o).2 (.inl p)) ⟨rfl, by omega, by omega⟩
      · exact d1 b' o p ((e2 b' o).2 (.inl u))
      · obtain ⟨rfl, u1, u2⟩ := u
        exact hd b' o ((e1 b' o).2 (.inr ((e2 b' o).2 (.inr p)))) ⟨rfl, by omega, by omega⟩
      · exact d2 b' o u p
    · rw [hF, e1, e2]
      constructor
      · rintro (p | p | p | p)
        · by_cases q : inRow b (off + k * Rep.n α) (Rep.n α) b' o
          · exact .inr (.inl q)
          · exact .inl (.inl ⟨p, q⟩)
        · exact .inl (.inr (.inl p))
        · exact .inr (.inr p)
        · exact .inl (.inr (.inr p))
      · rintro ((⟨p, q⟩ | p | p) | (p | p))
        · exact .inl p
        · exact .inr (.inl p)
        · exact .inr (.inr (.inr p))
        · obtain ⟨rfl, p1, p2⟩ := p
          exact .inl ⟨rfl, by omega, by omega⟩
        · exact .inr (.inr (.inl p))
theorem own_close {α : Type} [Rep α] {w : World} {s : Value} {l : List α} {k : Nat} {x : α} {ec : List Value} {F : Foot} (h : Sep w [cHole s l k, cAt (elB s) (elO (Rep.n α) k s) ec, cOwn ec x] F) : Rep.own w [s] (l.set k x) F := by
  obtain ⟨G1, G2, ⟨a, c, b, off, c1, c2, F1, F3, e, h1, h2, hk, rfl, hr, k1, k3, o1, o3, d1, d2, d3, hG1⟩, ⟨H1, H2, ⟨k2, hz, hH1⟩, hs, dH, hG2⟩, dG, hF⟩ := h
  have ho : Rep.own w ec x H2 := Sep.one.1 hs
  subst e
  simp only [elB, elO] at k2 hz hH1
  have l1 := o1.length
  have l2 := Rep.rd_len (Rep.own_rd ho)
  have l3 := o3.length
  rw [List.length_take, Nat.min_eq_left (by omega)] at l1
  have hn : (k + 1) * Rep.n α ≤ c * Rep.n α := Nat.mul_le_mul_right _ (by omega)
  have hn' := hn
  rw [Nat.add_mul] at hn'
  rw [l2] at hH1
  refine own_iff.2 ⟨some ⟨b, off, none⟩, c, by simp, by simpa using h1, h2, .inr ⟨b, off, c1 ++ (ec ++ c2), fun b' o => F1 b' o ∨ (H2 b' o ∨ F3 b' o), rfl, fun o p => ?_, ?_, ?_, ?_, fun b' o => ?_⟩⟩
  · by_cases q : inRow b (off + k * Rep.n α) (Rep.n α) b o
    · refine ⟨?_, hz o (by rw [l2]; exact q)⟩
      obtain ⟨_, q1, q2⟩ := q
      have := k2 (o - (off + k * Rep.n α)) _ (List.getElem?_eq_getElem (by omega))
      rw [show off + k * Rep.n α + (o - (off + k * Rep.n α)) = o by omega] at this
      rw [this]; rfl
    · exact hr o p q
  · refine cells_join k1 (cells_join (by rw [l1]; exact k2) ?_)
    rw [l1, l2, show off + k * Rep.n α + Rep.n α = off + (k + 1) * Rep.n α by rw [Nat.add_mul]; omega]
    exact k3
  · rw [list_put hk]
    refine OwnAll.app o1 (OwnAll.app (OwnAll.one.2 ho) o3 ?_ fun _ _ => Iff.rfl) ?_ fun _ _ => Iff.rfl
    · exact fun b' o p q => dG b' o ((hG1 b' o).2 (.inr (.inr q))) ((hG2 b' o).2 (.inr p))
    · rintro b' o p (q | q)
      · exact dG b' o ((hG1 b' o).2 (.inr (.inl p))) ((hG2 b' o).2 (.inr q))
      · exact d1 b' o p q
  · rintro b' o (p | p | p) q
    · exact d2 b' o p q
    · by_cases u : inRow b (off + k * Rep.n α) (Rep.n α) b' o
      · exact dH b' o ((hH1 b' o).2 u) p
      · exact dG b' o ((hG1 b' o).2 (.inl ⟨q, u⟩)) ((hG2 b' o).2 (.inr p))
    · exact d3 b' o p q
  · rw [hF, hG1, hG2, hH1]
    constructor
    · rintro ((⟨p, q⟩ | p | p) | (p | p))
      · exact .inl p
      · exact .inr (.inl p)
      · exact .inr (.inr (.inr p))
      · obtain ⟨rfl, p1, p2⟩ := p
        exact .inl ⟨rfl, by omega, by omega⟩
      · exact .inr (.inr (.inl p))
    · rintro (p | p | p | p)
      · by_cases q : inRow b (off + k * Rep.n α) (Rep.n α) b' o
        · exact .inr (.inl q)
        · exact .inl (.inl ⟨p, q⟩)
      · exact .inl (.inr (.inl p))
      · exact .inr (.inr p)
      · exact .inl (.inr (.inr p))
end Go.Gv
