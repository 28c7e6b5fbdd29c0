import Derived.WalkKit
import Derived.OrdersHeld
import Derived.LoopN
import Derived.Laws.BytesString
set_option linter.unusedVariables false
set_option linter.unusedSimpArgs false
set_option linter.unusedSectionVars false
set_option linter.unnecessarySimpa false
set_option linter.constructorNameAsVariable false
section
/-
  Readings and ownership of Go values in the model's memory, and one assertion 'St' that a walk carries along. Nothing of a program here.
-/
namespace Go.Gv

abbrev Foot := Nat → Nat → Prop
def Foot.disj (F G : Foot) : Prop := ∀ b o, F b o → G b o → False
def F0 : Foot := fun _ _ => False

theorem Foot.disj_symm {F G : Foot} (h : F.disj G) : G.disj F := fun b o hg hf => h b o hf hg

/-- From w to w' nothing turned outside F; nothing went. -/
structure Keep (F : Foot) (w w' : World) : Prop where
  os : w'.os = w.os
  tape : w'.tape = w.tape
  output : w'.output = w.output
  size : w.heap.size ≤ w'.heap.size
  block : ∀ b, b < w.heap.size → (∀ o, ¬ F b o) → w'.heap[b]? = w.heap[b]?
  cell : ∀ b o, b < w.heap.size → ¬ F b o → w'.cell? ⟨b, o, none⟩ = w.cell? ⟨b, o, none⟩
  frz : ∀ b o, b < w.heap.size → w'.frozen? ⟨b, o, none⟩ = w.frozen? ⟨b, o, none⟩
  stay : ∀ b o, (w.cell? ⟨b, o, none⟩).isSome = true → (w'.cell? ⟨b, o, none⟩).isSome = true

theorem lt_of_cell {w : World} {b o : Nat} (h : (w.cell? ⟨b, o, none⟩).isSome = true) : b < w.heap.size := by
  obtain ⟨v, hv⟩ := Option.isSome_iff_exists.1 h
  exact World.block_lt_of_cell? w ⟨b, o, none⟩ hv

theorem Keep.refl (F : Foot) (w : World) : Keep F w w := ⟨rfl, rfl, rfl, Nat.le_refl _, fun _ _ _ => rfl, fun _ _ _ _ => rfl, fun _ _ _ => rfl, fun _ _ h => h⟩

theorem Keep.mono {F G : Foot} {w w' : World} (h : Keep F w w') (hs : ∀ b o, b < w.heap.size → F b o → G b o) : Keep G w w' :=
  ⟨h.os, h.tape, h.output, h.size, fun b hb hg => h.block b hb fun o hf => hg o (hs b o hb hf), fun b o hb hg => h.cell b o hb fun hf => hg (hs b o hb hf), h.frz, h.stay⟩

theorem Keep.trans {F G : Foot} {w w1 w2 : World} (h : Keep F w w1) (k : Keep G w1 w2) (hs : ∀ b o, b < w.heap.size → G b o → F b o) : Keep F w w2 :=
  ⟨k.os.trans h.os, k.tape.trans h.tape, k.output.trans h.output, Nat.le_trans h.size k.size,
   fun b hb hf => (k.block b (Nat.lt_of_lt_of_le hb h.size) fun o hg => hf o (hs b o hb hg)).trans (h.block b hb hf),
   fun b o hb hf => (k.cell b o (Nat.lt_of_lt_of_le hb h.size) fun hg => hf (hs b o hb hg)).trans (h.cell b o hb hf),
   fun b o hb => (k.frz b o (Nat.lt_of_lt_of_le hb h.size)).trans (h.frz b o hb), fun b o hc => k.stay b o (h.stay b o hc)⟩

theorem Keep.drew (F : Foot) (w : World) : Keep F w w.drew := ⟨rfl, rfl, rfl, Nat.le_refl _, fun _ _ _ => rfl, fun _ _ _ _ => rfl, fun _ _ _ => rfl, fun _ _ h => h⟩

theorem Keep.alloc (F : Foot) (w : World) (ob : Obj) : Keep F w (w.alloc ob) := by
  have hb : ∀ b, b < w.heap.size → (w.alloc ob).heap[b]? = w.heap[b]? := fun b hb => by grind [heap_alloc_old]
  have hc : ∀ b o, b < w.heap.size → (w.alloc ob).cell? ⟨b, o, none⟩ = w.cell? ⟨b, o, none⟩ := fun b o h => World.cell?_of_block (hb b h)
  exact ⟨rfl, rfl, rfl, by simp, fun b h _ => hb b h, fun b o h _ => hc b o h, fun b o h => World.frozen?_of_block (hb b h),
    fun b o h => by grind [lt_of_cell]⟩

theorem Keep.setCell (F : Foot) (w : World) (a : Addr) (v : Value) (hf : F a.block a.off) (ha : a.spot = none) : Keep F w (w.setCell a v) := by
  have hsz : (w.setCell a v).heap.size = w.heap.size := by simp
  refine ⟨rfl, rfl, rfl, by simp, fun b _ hn => ?_, fun b o _ hn => ?_, fun b o _ => by simp, fun b o h => ?_⟩
  · exact heap_setCell_other w a b v (fun e => hn a.off (e ▸ hf))
  · refine World.cell?_setCell_other (h := fun e => hn ?_) ..
    rw [e] at hf; exact hf
  · by_cases e : a = ⟨b, o, none⟩
    · subst e
      obtain ⟨u, hu⟩ := Option.isSome_iff_exists.1 h
      rw [World.cell?_setCell_same (h := hu)]; rfl
    · rw [World.cell?_setCell_other (h := e)]; exact h

/-- The cells from b, off on are cs. -/
def CellsAt (w : World) (b off : Nat) (cs : List Value) : Prop := ∀ j v, cs[j]? = some v → w.cell? ⟨b, off + j, none⟩ = some v

/-- A Go type whose values read as a Lean type. 'rd S': the cells cs read as d, and all that is looked at lies in S; 'own': and all memory behind them (F) is ours. -/
class Rep (α : Type) where
  n : Nat
  rd : Foot → World → List Value → α → Prop
  own : World → List Value → α → Foot → Prop
  rd_len : ∀ {S w cs d}, rd S w cs d → cs.length = n
  rd_one : ∀ {S w cs d}, rd S w cs d → ∀ v ∈ cs, v.oneCell' = true
  rd_agree : ∀ {S w w' cs d}, rd S w cs d → (∀ b o, S b o → w'.cell? ⟨b, o, none⟩ = w.cell? ⟨b, o, none⟩) → rd S w' cs d
  rd_mono : ∀ {S S' w cs d}, rd S w cs d → (∀ b o, S b o → S' b o) → rd S' w cs d
  own_rd : ∀ {w cs d F}, own w cs d F → rd F w cs d
  own_keep : ∀ {w w' cs d F G}, own w cs d F → Keep G w w' → F.disj G → own w' cs d F
  own_lt : ∀ {w cs d F b o}, own w cs d F → F b o → b < w.heap.size

/-- A one-cell type without memory behind it. -/
@[reducible] def Rep.flat {α : Type} (f : α → Value) (hf : ∀ x, (f x).oneCell' = true) : Rep α where
  n := 1
  rd := fun _ _ cs x => cs = [f x]
  own := fun _ cs x F => cs = [f x] ∧ ∀ b o, ¬ F b o
  rd_len := fun h => by simp [h]
  rd_one := fun h v hv => by grind
  rd_agree := fun h _ => h
  rd_mono := fun h _ => h
  own_rd := fun h => h.1
  own_keep := fun h _ _ => h
  own_lt := fun h hf => (h.2 _ _ hf).elim

instance : Rep Int := Rep.flat (fun x => .int .i64 x) fun _ => rfl
instance : Rep Bool := Rep.flat (fun x => .bool x) fun _ => rfl
instance : Rep UInt8 := Rep.flat (fun x => .int .u8 (x.toNat : Int)) fun _ => rfl
/-- A Go string. -/
structure GStr where
  b : List UInt8
  deriving DecidableEq, Inhabited
instance : Rep GStr := Rep.flat (fun x => .string ⟨x.b.toArray⟩) fun _ => rfl

instance {α β : Type} [Rep α] [Rep β] : Rep (α × β) where
  n := Rep.n α + Rep.n β
  rd := fun S w cs d => ∃ c1 c2, cs = c1 ++ c2 ∧ Rep.rd S w c1 d.1 ∧ Rep.rd S w c2 d.2
  own := fun w cs d F => ∃ c1 c2 F1 F2, cs = c1 ++ c2 ∧ Rep.own w c1 d.1 F1 ∧ Rep.own w c2 d.2 F2 ∧ Foot.disj F1 F2 ∧ ∀ b o, F b o ↔ F1 b o ∨ F2 b o
  rd_len := by grind [Rep.rd_len]
  rd_one := by
    grind [Rep.rd_one]
  rd_agree := by grind [Rep.rd_agree]
  rd_mono := by grind [Rep.rd_mono]
  own_rd := by
    rintro w cs d F ⟨c1, c2, F1, F2, rfl, h1, h2, _, hF⟩
    exact ⟨c1, c2, rfl, Rep.rd_mono (Rep.own_rd h1) fun b o h => (hF b o).2 (.inl h), Rep.rd_mono (Rep.own_rd h2) fun b o h => (hF b o).2 (.inr h)⟩
  own_keep := by
    rintro w w' cs d F G ⟨c1, c2, F1, F2, rfl, h1, h2, hd, hF⟩ hk hdj
    exact ⟨c1, c2, F1, F2, rfl, Rep.own_keep h1 hk fun b o h g => hdj b o ((hF b o).2 (.inl h)) g, Rep.own_keep h2 hk fun b o h g => hdj b o ((hF b o).2 (.inr h)) g, hd, hF⟩
  own_lt := by
    rintro w cs d F b o ⟨c1, c2, F1, F2, rfl, h1, h2, hd, hF⟩ hf
    rcases (hF b o).1 hf with h | h
    · exact Rep.own_lt h1 h
    · exact Rep.own_lt h2 h

/-- A struct, by the product of its fields. -/
@[reducible] def Rep.via {σ τ : Type} [Rep τ] (f : σ → τ) : Rep σ where
  n := Rep.n τ
  rd := fun S w cs d => Rep.rd S w cs (f d)
  own := fun w cs d F => Rep.own w cs (f d) F
  rd_len := fun h => Rep.rd_len h
  rd_one := fun h => Rep.rd_one h
  rd_agree := fun h ha => Rep.rd_agree h ha
  rd_mono := fun h ha => Rep.rd_mono h ha
  own_rd := fun h => Rep.own_rd h
  own_keep := fun h hk hd => Rep.own_keep h hk hd
  own_lt := fun h hf => Rep.own_lt h hf

theorem CellsAt.agree {w w' : World} {b off : Nat} {cs : List Value} (h : CellsAt w b off cs) (ha : ∀ o, off ≤ o → o < off + cs.length → w'.cell? ⟨b, o, none⟩ = w.cell? ⟨b, o, none⟩) : CellsAt w' b off cs := by
  intro j v hj
  have hlt := (List.getElem?_eq_some_iff.1 hj).1
  rw [ha _ (by omega) (by omega)]
  exact h j v hj

theorem CellsAt.lt {w : World} {b off : Nat} {cs : List Value} (h : CellsAt w b off cs) (hc : cs ≠ []) : b < w.heap.size := by
  cases cs with
  | nil => grind
  | cons v r => exact World.block_lt_of_cell? w ⟨b, off + 0, none⟩ (h 0 v rfl)

def inRow (b off n : Nat) : Foot := fun b' o => b' = b ∧ off ≤ o ∧ o < off + n
/-- A slice. -/
def rdSlice {α : Type} [Rep α] (S : Foot) (w : World) (cs : List Value) (l : List α) : Prop :=
  ∃ a c, cs = [.slice a l.length c] ∧ l.length ≤ c ∧ c ≤ maxLen ∧
    (l = [] ∨ ∃ b off, a = some ⟨b, off, none⟩ ∧ ∀ i (h : i < l.length), ∃ ec, CellsAt w b (off + i * Rep.n α) ec ∧ (∀ o, inRow b (off + i * Rep.n α) ec.length b o → S b o) ∧ Rep.rd S w ec l[i])
def ownSlice {α : Type} [Rep α] (w : World) (cs : List Value) (l : List α) (F : Foot) : Prop :=
  ∃ a c, cs = [.slice a l.length c] ∧ l.length ≤ c ∧ c ≤ maxLen ∧
    ((a = none ∧ c = 0 ∧ ∀ b o, ¬ F b o) ∨
     ∃ b off, ∃ Fs : Nat → Foot, a = some ⟨b, off, none⟩ ∧ (∀ o, inRow b off (c * Rep.n α) b o → (w.cell? ⟨b, o, none⟩).isSome = true ∧ w.frozen? ⟨b, o, none⟩ = false) ∧
       (∀ i (h : i < l.length), ∃ ec, CellsAt w b (off + i * Rep.n α) ec ∧ Rep.own w ec l[i] (Fs i)) ∧
       (∀ i j, i < l.length → j < l.length → i ≠ j → Foot.disj (Fs i) (Fs j)) ∧ (∀ i, i < l.length → Foot.disj (Fs i) (inRow b off (c * Rep.n α))) ∧
       ∀ b' o, F b' o ↔ inRow b off (c * Rep.n α) b' o ∨ ∃ i, i < l.length ∧ Fs i b' o)

theorem rowIn {i len c n j : Nat} (hi : i < len) (hc : len ≤ c) (hj : j < n) : i * n + j < c * n := by
  have : (i + 1) * n ≤ c * n := Nat.mul_le_mul_right n (by omega)
  grind

instance instRepList {α : Type} [Rep α] : Rep (List α) where
  n := 1
  rd := rdSlice
  own := ownSlice
  rd_len := by rintro S w cs d ⟨a, c, rfl, _⟩; rfl
  rd_one := by rintro S w cs d ⟨a, c, rfl, _⟩ v hv; simp at hv; subst hv; rfl
  rd_agree := by
    rintro S w w' cs l ⟨a, c, rfl, h1, h2, h3⟩ ha
    refine ⟨a, c, rfl, h1, h2, ?_⟩
    rcases h3 with h | ⟨b, off, rfl, h⟩
    · exact .inl h
    · refine .inr ⟨b, off, rfl, fun i hi => ?_⟩
      obtain ⟨ec, hc, hr, hd⟩ := h i hi
      exact ⟨ec, hc.agree fun o a1 a2 => ha b o (hr o ⟨rfl, a1, a2⟩), hr, Rep.rd_agree hd ha⟩
  rd_mono := by
    rintro S S' w cs l ⟨a, c, rfl, h1, h2, h3⟩ ha
    refine ⟨a, c, rfl, h1, h2, ?_⟩
    grind [Rep.rd_mono]
  own_rd := by
    rintro w cs l F ⟨a, c, rfl, h1, h2, h3⟩
    refine ⟨a, c, rfl, h1, h2, ?_⟩
    rcases h3 with ⟨rfl, hc, _⟩ | ⟨b, off, Fs, rfl, hrow, hel, _, _, hF⟩
    · simp_all
    · refine .inr ⟨b, off, rfl, fun i hi => ?_⟩
      obtain ⟨ec, hc, ho⟩ := hel i hi
      refine ⟨ec, hc, fun o h4 => (hF b o).2 (.inl ⟨rfl, ?_, ?_⟩), Rep.rd_mono (Rep.own_rd ho) fun b' o hf => (hF b' o).2 (.inr ⟨i, hi, hf⟩)⟩
      · have := h4.2.1; omega
      · have hl := Rep.rd_len (Rep.own_rd ho)
        obtain ⟨_, h5, h6⟩ := h4
        rw [hl] at h6
        have := rowIn (j := o - (off + i * Rep.n α)) (n := Rep.n α) hi h1 (by omega)
        omega
  own_keep := by
    rintro w w' cs l F G ⟨a, c, rfl, h1, h2, h3⟩ hk hd
    refine ⟨a, c, rfl, h1, h2, ?_⟩
    rcases h3 with h | ⟨b, off, Fs, rfl, hrow, hel, h4, h5, hF⟩
    · exact .inl h
    · refine .inr ⟨b, off, Fs, rfl, fun o ho => ?_, fun i hi => ?_, h4, h5, hF⟩
      · have hs := hrow o ho
        exact ⟨hk.stay b o hs.1, (hk.frz b o (lt_of_cell hs.1)).trans hs.2⟩
      · obtain ⟨ec, hc, ho⟩ := hel i hi
        refine ⟨ec, hc.agree fun o h6 h7 => ?_, Rep.own_keep ho hk fun b' o hf hg => hd b' o ((hF b' o).2 (.inr ⟨i, hi, hf⟩)) hg⟩
        have hin : inRow b off (c * Rep.n α) b o := by
          refine ⟨rfl, by omega, ?_⟩
          have hl := Rep.rd_len (Rep.own_rd ho)
          rw [hl] at h7
          have := rowIn (j := o - (off + i * Rep.n α)) (n := Rep.n α) hi h1 (by omega)
          omega
        exact hk.cell b o (lt_of_cell (hrow o hin).1) fun hg => hd b o ((hF b o).2 (.inl hin)) hg
  own_lt := by
    rintro w cs l F b' o ⟨a, c, rfl, h1, h2, h3⟩ hf
    rcases h3 with ⟨_, _, h⟩ | ⟨b, off, Fs, rfl, hrow, hel, h4, h5, hF⟩
    · grind
    · rcases (hF b' o).1 hf with h | ⟨i, hi, h⟩
      · have e : b' = b := h.1
        subst e
        exact lt_of_cell (hrow o h).1
      · obtain ⟨ec, hc, ho⟩ := hel i hi
        exact Rep.own_lt ho h

/-! ### Chunks, facts, and what a walk carries -/
structure Chunk where
  P : World → Foot → Prop
  keep : ∀ {w w' F G}, P w F → Keep G w w' → F.disj G → P w' F
  lt : ∀ {w F b o}, P w F → F b o → b < w.heap.size

/-- Nothing. -/
def cNo : Chunk := ⟨fun _ F => ∀ b o, ¬ F b o, fun h _ _ => h, fun h hf => (h _ _ hf).elim⟩
/-- The cells from b, off on are cs, and ours. -/
def cAt (b off : Nat) (cs : List Value) : Chunk where
  P := fun w F => CellsAt w b off cs ∧ (∀ o, inRow b off cs.length b o → w.frozen? ⟨b, o, none⟩ = false) ∧ ∀ b' o, F b' o ↔ inRow b off cs.length b' o
  keep := by
    rintro w w' F G ⟨h1, h2, hF⟩ hk hd
    have hlt : ∀ o, inRow b off cs.length b o → b < w.heap.size := fun o ho => by
      obtain ⟨_, h3, h4⟩ := ho
      exact World.block_lt_of_cell? w _ (h1 (o - off) cs[o - off] (List.getElem?_eq_getElem (by omega)))
    refine ⟨h1.agree fun o h3 h4 => ?_, fun o ho => (hk.frz b o (hlt o ho)).trans (h2 o ho), hF⟩
    have hin : inRow b off cs.length b o := ⟨rfl, h3, h4⟩
    exact hk.cell b o (hlt o hin) fun hg => hd b o ((hF b o).2 hin) hg
  lt := by
    rintro w F b' o ⟨h1, h2, hF⟩ hf
    obtain ⟨rfl, h3, h4⟩ := (hF b' o).1 hf
    exact World.block_lt_of_cell? w _ (h1 (o - off) cs[o - off] (List.getElem?_eq_getElem (by omega)))
/-- The cells cs (in a temporary) read as d, and the memory behind them is ours. -/
def cOwn {α : Type} [Rep α] (cs : List Value) (d : α) : Chunk := ⟨fun w F => Rep.own w cs d F, fun h hk hd => Rep.own_keep h hk hd, fun h hf => Rep.own_lt h hf⟩

/-- A list of chunks, apart. -/
def Sep (w : World) : List Chunk → Foot → Prop
  | [], F => ∀ b o, ¬ F b o
  | c :: L, F => ∃ F1 F2, c.P w F1 ∧ Sep w L F2 ∧ F1.disj F2 ∧ ∀ b o, F b o ↔ F1 b o ∨ F2 b o

theorem Sep.keep {w w' : World} {G : Foot} (hk : Keep G w w') : ∀ {L : List Chunk} {F : Foot}, Sep w L F → F.disj G → Sep w' L F
  | [], _, h, _ => h
  | c :: _, _, ⟨F1, F2, h1, h2, hd, hF⟩, hdj =>
    ⟨F1, F2, c.keep h1 hk fun b o h g => hdj b o ((hF b o).2 (.inl h)) g, Sep.keep hk h2 fun b o h g => hdj b o ((hF b o).2 (.inr h)) g, hd, hF⟩

theorem Sep.lt {w : World} : ∀ {L : List Chunk} {F : Foot} {b o : Nat}, Sep w L F → F b o → b < w.heap.size
  | [], _, _, _, h, hf => (h _ _ hf).elim
  | c :: L, F, b, o, ⟨F1, F2, h1, h2, hd, hF⟩, hf => by
    rcases (hF b o).1 hf with h | h
    · exact c.lt h1 h
    · exact Sep.lt h2 h

theorem Sep.congr {w : World} {L : List Chunk} {F G : Foot} (h : Sep w L F) (hFG : ∀ b o, F b o ↔ G b o) : Sep w L G := by
  have : F = G := by grind
  grind

theorem Sep.append {w : World} : ∀ {A B : List Chunk} {F : Foot}, Sep w (A ++ B) F ↔ ∃ F1 F2, Sep w A F1 ∧ Sep w B F2 ∧ F1.disj F2 ∧ ∀ b o, F b o ↔ F1 b o ∨ F2 b o
  | [], B, F => by
    constructor
    · intro h; exact ⟨F0, F, fun _ _ h => h, h, fun _ _ h _ => h, fun b o => by simp [F0]⟩
    · rintro ⟨F1, F2, h1, h2, _, hF⟩
      exact Sep.congr h2 fun b o => by rw [hF]; exact ⟨.inr, fun h => h.elim (fun h => (h1 _ _ h).elim) id⟩
  | c :: A, B, F => by
    constructor
    · rintro ⟨F1, F2, h1, h2, hd, hF⟩
      obtain ⟨G1, G2, g1, g2, gd, hG⟩ := Sep.append.1 h2
      exact ⟨fun b o => F1 b o ∨ G1 b o, G2, ⟨F1, G1, h1, g1, fun b o h g => hd b o h ((hG b o).2 (.inl g)), fun _ _ => Iff.rfl⟩, g2,
        fun b o h g => h.elim (fun h => hd b o h ((hG b o).2 (.inr g))) (fun h => gd b o h g), fun b o => by grind⟩
    · rintro ⟨F1, F2, ⟨G1, G2, g1, g2, gd, hG⟩, h2, hd, hF⟩
      exact ⟨G1, fun b o => G2 b o ∨ F2 b o, g1, Sep.append.2 ⟨G2, F2, g2, h2, fun b o h g => hd b o ((hG b o).2 (.inr h)) g, fun _ _ => Iff.rfl⟩,
        fun b o h g => g.elim (fun g => gd b o h g) (fun g => hd b o ((hG b o).2 (.inl h)) g), fun b o => by grind⟩

theorem Sep.swap {w : World} {A B : List Chunk} {F : Foot} (h : Sep w (A ++ B) F) : Sep w (B ++ A) F := by
  obtain ⟨F1, F2, h1, h2, hd, hF⟩ := Sep.append.1 h
  exact Sep.append.2 ⟨F2, F1, h2, h1, Foot.disj_symm hd, fun b o => by grind⟩

/-- Chunk number i stands in front, nothing in its place. -/
theorem Sep.take {w : World} {c : Chunk} : ∀ {L : List Chunk} {i : Nat} {F : Foot}, L[i]? = some c → (Sep w L F ↔ Sep w (c :: L.set i cNo) F)
  | [], i, F, h => by simp at h
  | d :: L, 0, F, h => by
    simp at h; subst h
    show (∃ F1 F2, _) ↔ ∃ F1 F2, d.P w F1 ∧ (∃ G1 G2, cNo.P w G1 ∧ Sep w L G2 ∧ G1.disj G2 ∧ _) ∧ _
    constructor
    · rintro ⟨F1, F2, h1, h2, hd, hF⟩
      exact ⟨F1, F2, h1, ⟨F0, F2, fun _ _ h => h, h2, fun _ _ h _ => h, fun b o => by simp [F0]⟩, hd, hF⟩
    · rintro ⟨F1, F2, h1, ⟨G1, G2, g1, g2, _, hG⟩, hd, hF⟩
      exact ⟨F1, G2, h1, g2, fun b o h g => hd b o h ((hG b o).2 (.inr g)), fun b o => by
        rw [hF, hG]
        constructor
        · rintro (h | h | h)
          · exact .inl h
          · exact (g1 _ _ h).elim
          grind
        grind⟩
  | d :: L, i + 1, F, h => by
    have h' : L[i]? = some c := by grind
    show (∃ F1 F2, d.P w F1 ∧ Sep w L F2 ∧ _) ↔ Sep w (c :: d :: L.set i cNo) F
    have step : ∀ G, Sep w L G ↔ Sep w (c :: L.set i cNo) G := fun G => Sep.take h'
    constructor
    · rintro ⟨F1, F2, h1, h2, hd, hF⟩
      obtain ⟨G1, G2, g1, g2, gd, hG⟩ := (step F2).1 h2
      exact ⟨G1, fun b o => F1 b o ∨ G2 b o, g1, ⟨F1, G2, h1, g2, fun b o h g => hd b o h ((hG b o).2 (.inr g)), fun _ _ => Iff.rfl⟩,
        fun b o g h => h.elim (fun h => hd b o h ((hG b o).2 (.inl g))) (fun h => gd b o g h), fun b o => by grind⟩
    · rintro ⟨G1, H, g1, ⟨F1, G2, h1, g2, hd, hH⟩, gd, hF⟩
      exact ⟨F1, fun b o => G1 b o ∨ G2 b o, h1, (step _).2 ⟨G1, G2, g1, g2, fun b o g h => gd b o g ((hH b o).2 (.inr h)), fun _ _ => Iff.rfl⟩,
        fun b o h g => g.elim (fun g => gd b o g ((hH b o).2 (.inl h))) (fun g => hd b o h g), fun b o => by grind⟩

/-- The context of a call: the world at its beginning, what it may write, what it may look at. -/
structure Ctx where
  w0 : World
  W : Foot
  S0 : Foot

structure Fact where
  P : Foot → World → Prop
  agree : ∀ {S w w'}, P S w → (∀ b o, S b o → w'.cell? ⟨b, o, none⟩ = w.cell? ⟨b, o, none⟩) → P S w'
  mono : ∀ {S S' w}, P S w → (∀ b o, S b o → S' b o) → P S' w
/-- The cells cs read as d. -/
def fRd {α : Type} [Rep α] (cs : List Value) (d : α) : Fact := ⟨fun S w => Rep.rd S w cs d, fun h ha => Rep.rd_agree h ha, fun h ha => Rep.rd_mono h ha⟩
/-- All that there is. -/
def All (w : World) : Foot := fun b _ => b < w.heap.size

structure St (c : Ctx) (w : World) (L : List Chunk) (R : List Fact) : Prop where
  keep : Keep c.W c.w0 w
  sep : ∃ F S, Sep w L F ∧ F.disj S ∧ (∀ b o, F b o → c.W b o ∨ c.w0.heap.size ≤ b) ∧ (∀ b o, S b o → c.S0 b o ∨ c.W b o ∨ c.w0.heap.size ≤ b) ∧
    (∀ b o, S b o → b < w.heap.size) ∧ ∀ f ∈ R, f.P S w
  apart : c.W.disj c.S0

section
variable {c : Ctx} {w w' : World} {L : List Chunk} {R : List Fact}

theorem St.fact (h : St c w L R) {f : Fact} (i : Nat) (hi : R[i]? = some f) : f.P (All w) w := by
  obtain ⟨F, S, _, _, _, _, h5, hR⟩ := h.sep
  exact f.mono (hR f (List.mem_of_getElem? hi)) h5
theorem St.rd {α : Type} [Rep α] {cs : List Value} {d : α} (h : St c w L R) (i : Nat) (hi : R[i]? = some (fRd cs d)) : Rep.rd (All w) w cs d := h.fact i hi

theorem St.chunk (h : St c w L R) {ch : Chunk} (i : Nat) (hi : L[i]? = some ch) : ∃ F, ch.P w F := by
  obtain ⟨F, S, hs, _⟩ := h.sep
  obtain ⟨F1, F2, h1, _⟩ := (Sep.take hi).1 hs
  grind

theorem St.rdOwn {α : Type} [Rep α] {cs : List Value} {d : α} (h : St c w L R) (i : Nat) (hi : L[i]? = some (cOwn cs d)) : Rep.rd (All w) w cs d := by
  obtain ⟨F, hF⟩ := h.chunk i hi
  have hF : Rep.own w cs d F := hF
  exact Rep.rd_mono (Rep.own_rd hF) fun b o hf => Rep.own_lt hF hf

/-- Some chunks in front are turned; new memory may be theirs. -/
theorem St.step {A A' B : List Chunk} (h : St c w (A ++ B) R) (hs : ∀ F, Sep w A F → ∃ F' G, Keep G w w' ∧ (∀ b o, G b o → F b o) ∧ Sep w' A' F' ∧ ∀ b o, F' b o → F b o ∨ w.heap.size ≤ b) :
    St c w' (A' ++ B) R := by
  obtain ⟨F, S, hsep, hFS, hFW, hSS, hSlt, hR⟩ := h.sep
  obtain ⟨F1, F2, h1, h2, hd, hF⟩ := Sep.append.1 hsep
  obtain ⟨F', G, hk, hG, h1', hF'⟩ := hs F1 h1
  have hGW : ∀ b o, b < c.w0.heap.size → G b o → c.W b o := fun b o hb g => by
    grind
  refine ⟨h.keep.trans hk hGW, ⟨fun b o => F' b o ∨ F2 b o, S, Sep.append.2 ⟨F', F2, h1', Sep.keep hk h2 fun b o hf g => hd b o (hG b o g) hf, ?_, fun _ _ => Iff.rfl⟩, ?_, ?_, hSS, fun b o hS => Nat.lt_of_lt_of_le (hSlt b o hS) hk.size, ?_⟩, h.apart⟩
  · intro b o hf hg
    rcases hF' b o hf with h | h
    · exact hd b o h hg
    · have := Sep.lt h2 hg; omega
  · rintro b o (hf | hf) hS
    · rcases hF' b o hf with h | h
      · exact hFS b o ((hF b o).2 (.inl h)) hS
      grind
    · exact hFS b o ((hF b o).2 (.inr hf)) hS
  · rintro b o (hf | hf)
    · rcases hF' b o hf with h' | h'
      · grind
      · exact .inr (Nat.le_trans h.keep.size h')
    grind
  · intro f hf
    exact f.agree (hR f hf) fun b o hS => hk.cell b o (hSlt b o hS) fun g => hFS b o ((hF b o).2 (.inl (hG b o g))) hS

theorem St.rot {A B : List Chunk} (h : St c w (A ++ B) R) : St c w (B ++ A) R := by
  obtain ⟨F, S, hsep, rest⟩ := h.sep
  exact ⟨h.keep, ⟨F, S, hsep.swap, rest⟩, h.apart⟩

theorem St.take (h : St c w L R) {ch : Chunk} (i : Nat) (hi : L[i]? = some ch) : St c w (ch :: L.set i cNo) R := by
  obtain ⟨F, S, hsep, rest⟩ := h.sep
  exact ⟨h.keep, ⟨F, S, (Sep.take hi).1 hsep, rest⟩, h.apart⟩

theorem Sep.put {w : World} {ch : Chunk} : ∀ {L : List Chunk} {i : Nat} {F : Foot}, i < L.length → Sep w (ch :: L.set i cNo) F → Sep w (L.set i ch) F
  | L, i, F, hi, h => (Sep.take (c := ch) (L := L.set i ch) (i := i) (by simp [hi])).2 (by simp_all)

theorem St.put {ch : Chunk} {i : Nat} (h : St c w (ch :: L.set i cNo) R) (hi : i < L.length) : St c w (L.set i ch) R := by
  obtain ⟨F, S, hsep, rest⟩ := h.sep
  exact ⟨h.keep, ⟨F, S, Sep.put hi hsep, rest⟩, h.apart⟩

/-- Chunk i is turned in its place. -/
theorem St.turn (h : St c w L R) {ch ch' : Chunk} (i : Nat) (hi : L[i]? = some ch) (hs : ∀ F, ch.P w F → ∃ F' G, Keep G w w' ∧ (∀ b o, G b o → F b o) ∧ ch'.P w' F' ∧ ∀ b o, F' b o → F b o ∨ w.heap.size ≤ b) :
    St c w' (L.set i ch') R := by
  have h1 : St c w ([ch] ++ L.set i cNo) R := h.take i hi
  have h2 : St c w' ([ch'] ++ L.set i cNo) R := h1.step fun F hF => by
    obtain ⟨F1, F2, p1, p2, pd, pF⟩ := hF
    obtain ⟨F', G, hk, hG, hp, hF'⟩ := hs F1 p1
    refine ⟨F', G, hk, fun b o g => (pF b o).2 (.inl (hG b o g)), ⟨F', F0, hp, fun _ _ h => h, fun _ _ _ h => h, fun b o => by simp [F0]⟩, fun b o hf => ?_⟩
    grind
  grind [St.put]

/-- New memory. -/
theorem St.more (h : St c w L R) {ch : Chunk} (hk : Keep F0 w w') (hp : ∃ F, ch.P w' F ∧ ∀ b o, F b o → w.heap.size ≤ b) : St c w' (L ++ [ch]) R := by
  obtain ⟨F, hp, hF⟩ := hp
  have h2 : St c w' ([ch] ++ L) R := St.step (A := []) (by grind) fun G _ => ⟨F, F0, hk, fun _ _ h => h.elim, ⟨F, F0, hp, fun _ _ h => h, fun _ _ _ h => h, fun b o => by simp [F0]⟩, fun b o hf => .inr (hF b o hf)⟩
  exact St.rot h2

theorem St.same (h : St c w L R) (hk : Keep F0 w w') : St c w' L R :=
  St.step (A := []) (A' := []) (B := L) h fun _ _ => ⟨F0, F0, hk, fun _ _ h => h.elim, fun _ _ h => h, fun _ _ h => h.elim⟩

theorem St.weaken (h : St c w L R) {R' : List Fact} (hs : ∀ f ∈ R', f ∈ R) : St c w L R' := by
  obtain ⟨F, S, a1, a2, a3, a4, a5, a6⟩ := h.sep
  exact ⟨h.keep, ⟨F, S, a1, a2, a3, a4, a5, fun f hf => a6 f (hs f hf)⟩, h.apart⟩

theorem St.drop {A : List Chunk} (h : St c w (A ++ L) R) : St c w L R :=
  St.step (A := A) (A' := []) h fun _ _ => ⟨F0, F0, Keep.refl _ _, fun _ _ h => h.elim, fun _ _ h => h, fun _ _ h => h.elim⟩

/-- Facts that follow from one. -/
theorem St.derive (h : St c w L R) {f : Fact} {Gs : List Fact} (i : Nat) (hi : R[i]? = some f) (hfg : ∀ S, f.P S w → ∀ g ∈ Gs, g.P S w) : St c w L (R ++ Gs) := by
  obtain ⟨F, S, a1, a2, a3, a4, a5, a6⟩ := h.sep
  refine ⟨h.keep, ⟨F, S, a1, a2, a3, a4, a5, fun g hg => ?_⟩, h.apart⟩
  grind

/-- What is ours is given to all to look at. -/
theorem St.leak {α : Type} [Rep α] {cs : List Value} {d : α} (h : St c w L R) (i : Nat) (hi : L[i]? = some (cOwn cs d)) : St c w (L.set i cNo) (R ++ [fRd cs d]) := by
  have h1 := h.take i hi
  obtain ⟨F, S, ⟨F1, F2, h1, h2, hd, hF⟩, a2, a3, a4, a5, a6⟩ := h1.sep
  have h1 : Rep.own w cs d F1 := h1
  refine ⟨h.keep, ⟨F2, fun b o => S b o ∨ F1 b o, h2, ?_, fun b o hf => a3 b o ((hF b o).2 (.inr hf)), ?_, ?_, ?_⟩, h.apart⟩
  · rintro b o hf (hs | hs)
    · exact a2 b o ((hF b o).2 (.inr hf)) hs
    · exact hd b o hs hf
  · grind
  · rintro b o (hs | hs)
    · grind
    · exact Rep.own_lt h1 hs
  · intro f hf
    rcases List.mem_append.1 hf with hf | hf
    · exact f.mono (a6 f hf) fun b o hs => .inl hs
    · simp at hf; subst hf
      exact Rep.rd_mono (Rep.own_rd h1) fun b o hs => .inr hs

/-- A call that looks at what it is handed and makes new memory alone. -/
def cxAll (w : World) : Ctx := ⟨w, F0, All w⟩

theorem St.enter {RA : List Fact} (hR : ∀ f ∈ RA, f.P (All w) w) : St (cxAll w) w [] RA :=
  ⟨Keep.refl _ _, ⟨F0, All w, fun _ _ h => h, fun _ _ h => h.elim, fun _ _ h => h.elim, fun _ _ h => .inl h, fun _ _ h => h, hR⟩, fun _ _ h => h.elim⟩

/-- Behind such a call. -/
theorem St.after {A' : List Chunk} {RA : List Fact} (h : St c w L R) (k : St (cxAll w) w' A' RA) : St c w' (L ++ A') R := by
  obtain ⟨F, S, a1, a2, a3, a4, a5, a6⟩ := k.sep
  have h2 : St c w' (A' ++ L) R := St.step (w := w) (A := []) (by grind) fun G _ => ⟨F, F0, k.keep, fun _ _ h => h.elim, a1, fun b o hf => (a3 b o hf).elim (fun h => h.elim) .inr⟩
  exact St.rot h2

/-- A call that writes to chunks of ours (A, in front) and looks at facts of ours. -/
theorem St.call {A : List Chunk} {RA : List Fact} (h : St c w (A ++ L) R) (hRA : ∀ f ∈ RA, f ∈ R) :
    ∃ c', c'.w0 = w ∧ St c' w A RA ∧ ∀ w' A' R', St c' w' A' R' → St c w' (L ++ A') (R ++ R') := by
  obtain ⟨F, S, hsep, hFS, hFW, hSS, hSlt, hR⟩ := h.sep
  obtain ⟨F1, F2, h1, h2, hd, hF⟩ := Sep.append.1 hsep
  refine ⟨⟨w, F1, S⟩, rfl, ⟨Keep.refl _ _, ⟨F1, S, h1, fun b o hf => hFS b o ((hF b o).2 (.inl hf)), fun _ _ h => .inl h, fun _ _ h => .inl h, hSlt, fun f hf => hR f (hRA f hf)⟩, fun b o hf => hFS b o ((hF b o).2 (.inl hf))⟩, ?_⟩
  intro w' A' R' k
  obtain ⟨F', S', b1, b2, b3, b4, b5, b6⟩ := k.sep
  have hk := k.keep
  have hGW : ∀ b o, b < c.w0.heap.size → F1 b o → c.W b o := fun b o hb g => by
    grind
  refine ⟨h.keep.trans hk hGW, ⟨fun b o => F2 b o ∨ F' b o, fun b o => S b o ∧ True ∨ S' b o, Sep.append.2 ⟨F2, F', Sep.keep hk h2 fun b o hf g => hd b o g hf, b1, ?_, fun _ _ => Iff.rfl⟩, ?_, ?_, ?_, ?_, ?_⟩, h.apart⟩
  · intro b o hf hg
    rcases b3 b o hg with h | h
    · exact hd b o h hf
    · have h : w.heap.size ≤ b := h
      have := Sep.lt h2 hf; omega
  · rintro b o (hf | hf) (⟨hs, _⟩ | hs)
    · exact hFS b o ((hF b o).2 (.inr hf)) hs
    · rcases b4 b o hs with h | h | h
      · exact hFS b o ((hF b o).2 (.inr hf)) h
      · exact hd b o h hf
      · have h : w.heap.size ≤ b := h
        have := Sep.lt h2 hf; omega
    · rcases b3 b o hf with h | h
      · exact hFS b o ((hF b o).2 (.inl h)) hs
      grind
    · exact b2 b o hf hs
  · rintro b o (hf | hf)
    · grind
    · rcases b3 b o hf with h' | h'
      · grind
      · exact .inr (Nat.le_trans h.keep.size h')
  · rintro b o (⟨hs, _⟩ | hs)
    · grind
    · rcases b4 b o hs with h' | h' | h'
      · grind
      · grind
      · exact .inr (.inr (Nat.le_trans h.keep.size h'))
  · rintro b o (⟨hs, _⟩ | hs)
    · exact Nat.lt_of_lt_of_le (hSlt b o hs) hk.size
    grind
  · intro f hf
    rcases List.mem_append.1 hf with hf | hf
    · exact f.mono (f.agree (hR f hf) fun b o hs => hk.cell b o (hSlt b o hs) fun g => hFS b o ((hF b o).2 (.inl g)) hs) fun b o hs => .inl ⟨hs, trivial⟩
    · exact f.mono (b6 f hf) fun b o hs => .inr hs
end
end Go.Gv
end
section
/-
  Control flow and operations under an environment of slots: the rules that a printed walk applies. Nothing of a program here.
-/
namespace Go.Gv

/-! ### Slots -/
abbrev Env := List (Nat × Value)
def lk : Env → Nat → Option Value
  | [], _ => none
  | (k, v) :: e, n => match Nat.beq n k with
    | true => some v
    | false => lk e n
structure AEnv (n : Nat) (e : Env) (a : Act) : Prop where
  d : a.defers = []
  size : a.tmps.size = n
  get : ∀ k v, lk e k = some v → a.tmps[k]? = some v
def ev (e : Env) : Operand → Option Value
  | .tmp t => lk e t
  | .const v => some v
  | .global g => some (.pointer (some ⟨g, 0, none⟩))
  | .func f => some (.func (.func f) #[] #[])
theorem AEnv.eval {n : Nat} {e : Env} {a : Act} {x : Operand} {v : Value} (h : AEnv n e a) (hx : ev e x = some v) : a.eval x = v := by
  cases x with
  | tmp t =>
    have := h.get t v hx
    show a.tmps.getD t undef = v
    simp_all
  | const u => grind [ev, Act.eval]
  | global g => grind [ev, Act.eval]
  | func f => grind [ev, Act.eval]
theorem AEnv.put {n d : Nat} {e : Env} {a : Act} (h : AEnv n e a) (hd : d < n) (v : Value) : AEnv n ((d, v) :: e) (a.put (some d) v) := by
  refine ⟨h.d, by simp [Act.put, h.size], fun k u hk => ?_⟩
  simp only [lk] at hk
  show (a.tmps.setIfInBounds d v)[k]? = some u
  by_cases e1 : k = d
  · subst e1
    have : Nat.beq k k = true := by simp
    rw [this] at hk
    simp at hk
    rw [Array.getElem?_setIfInBounds_self_of_lt (by rw [h.size]; exact hd), hk]
  · have : Nat.beq k d = false := by grind [Nat.eq_of_beq_eq_true]
    rw [this] at hk
    rw [Array.getElem?_setIfInBounds_ne (Ne.symm e1)]
    exact h.get k u hk
/-- e' is part of e. -/
def Has (e : Env) : Env → Prop
  | [] => True
  | (k, v) :: r => lk e k = some v ∧ Has e r
theorem Has.get {e : Env} : ∀ {e' : Env} {k : Nat} {v : Value}, Has e e' → lk e' k = some v → lk e k = some v
  | [], _, _, _, h => by simp [lk] at h
  | (k', v') :: r, k, v, ⟨h1, h2⟩, h => by
    simp only [lk] at h
    cases hb : Nat.beq k k' with
    | true => simp_all
    | false => rw [hb] at h; exact Has.get h2 h
theorem AEnv.part {n : Nat} {e e' : Env} {a : Act} (h : AEnv n e a) (hh : Has e e') : AEnv n e' a := ⟨h.d, h.size, fun k v hk => h.get k v (hh.get hk)⟩
theorem AEnv.nodefer {n : Nat} {e : Env} {a : Act} (h : AEnv n e a) : a.defers = [] := h.d

def env0 : Nat → List Value → Env
  | _, [] => []
  | k, v :: r => (k, v) :: env0 (k + 1) r
theorem env0_get (l : List Value) : ∀ (b k : Nat) (v : Value), lk (env0 b l) k = some v → b ≤ k ∧ l[k - b]? = some v := by
  induction l with
  | nil => grind [env0, lk]
  | cons x r ih =>
    intro b k v h
    simp only [env0, lk] at h
    cases hb : Nat.beq k b with
    | true =>
      simp_all
    | false =>
      grind
theorem aenv0 (l : List Value) (n : Nat) (hn : l.length ≤ n) : AEnv n (env0 0 l) { tmps := l.toArray ++ Array.replicate (n - l.toArray.size) undef, defers := [] } := by
  refine ⟨rfl, by simp; omega, fun k v hk => ?_⟩
  obtain ⟨_, h2⟩ := env0_get l 0 k v hk
  grind

/-! ### Exits -/
def mkQ (N : Act → World → Prop) (X : Nat → Act → World → Prop) (T : Act → World → Prop) : Exit → Act → World → Prop
  | .normal, a, w => N a w
  | .exit i, a, w => X i a w
  | .ret, a, w => T a w
  | _, _, _ => False
def CW (P : Program) (c : Code) (N : Act → World → Prop) (X : Nat → Act → World → Prop) (T : Act → World → Prop) (a : Act) (w : World) : Prop := c.wp P (mkQ N X T) a w
def xcons (id : Nat) (N : Act → World → Prop) (X : Nat → Act → World → Prop) : Nat → Act → World → Prop := fun i a w => if i = id then N a w else X i a w
theorem xcons_hit {id : Nat} {N : Act → World → Prop} {X : Nat → Act → World → Prop} {a : Act} {w : World} (h : N a w) : xcons id N X id a w := by simp [xcons, h]
theorem xcons_miss {i id : Nat} {N : Act → World → Prop} {X : Nat → Act → World → Prop} {a : Act} {w : World} (hi : Nat.beq i id = false) (h : X i a w) : xcons id N X i a w := by
  unfold xcons
  rw [if_neg (fun e => by simp_all)]
  exact h
section
variable {P : Program} {c x y : Code} {N : Act → World → Prop} {X : Nat → Act → World → Prop} {T : Act → World → Prop} {a : Act} {w : World}
theorem CW.mono {N' : Act → World → Prop} {X' : Nat → Act → World → Prop} {T' : Act → World → Prop} (h : CW P c N X T a w) (hN : ∀ a w, N a w → N' a w) (hX : ∀ i a w, X i a w → X' i a w) (hT : ∀ a w, T a w → T' a w) : CW P c N' X' T' a w :=
  wp_mono h fun e a w q => by
    cases e <;> first | exact hN _ _ q | exact hX _ _ _ q | exact hT _ _ q | exact q
theorem cw_seq (h : CW P x (fun a w => CW P y N X T a w) X T a w) : CW P (.seq x y) N X T a w :=
  wp_seq (wp_mono h fun e a w q => by cases e <;> exact q)
theorem cw_skip (h : N a w) : CW P .skip N X T a w := wp_skip h
theorem cw_exit {id : Nat} (h : X id a w) : CW P (.exit id) N X T a w := wp_exit h
theorem cw_ret (h : T a w) : CW P .ret N X T a w := wp_ret h
theorem cw_block {id : Nat} (h : CW P c N (xcons id N X) T a w) : CW P (.block id c) N X T a w :=
  wp_block (wp_mono h fun e a w q => by cases e <;> exact q)
theorem cw_cond {o : Operand} {t : Bool} {n : Nat} {e : Env} (hA : AEnv n e a) (ho : ev e o = some (.bool t)) (ht : t = true → CW P x N X T a w) (hf : t = false → CW P y N X T a w) : CW P (.cond o x y) N X T a w :=
  wp_cond_split (hA.eval ho) ht hf
theorem cw_yes {o : Operand} {t : Bool} {n : Nat} {e : Env} (hA : AEnv n e a) (ho : ev e o = some (.bool t)) (ht : t = true) (h : CW P x N X T a w) : CW P (.cond o x y) N X T a w :=
  cw_cond hA ho (fun _ => h) (fun hf => by grind)
theorem cw_no {o : Operand} {t : Bool} {n : Nat} {e : Env} (hA : AEnv n e a) (ho : ev e o = some (.bool t)) (ht : t = false) (h : CW P y N X T a w) : CW P (.cond o x y) N X T a w :=
  cw_cond hA ho (fun hf => by grind) (fun _ => h)
theorem cw_region {id : Nat} {ops : Array Oper} (h : wpList P ops (mkQ N X T) ops.toList a w) : CW P (.region id ops false) N X T a w := wp_region_list h
end

/-! ### Loops, in the plain functions -/
inductive Step (σ ρ : Type) where
  | next (s : σ)
  | stop (r : ρ)
inductive Out (β ρ : Type) where
  | brk (s : β)
  | ret (r : ρ)
def iter {σ ρ : Type} (body : σ → Option (Step σ ρ)) : Nat → σ → Option ρ
  | 0, _ => none
  | n + 1, s => match body s with
    | none => none
    | some (.next s') => iter body n s'
    | some (.stop r) => some r
theorem iter_det {σ ρ : Type} {body : σ → Option (Step σ ρ)} : ∀ {n m : Nat} {s : σ} {r r' : ρ}, iter body n s = some r → iter body m s = some r' → r = r'
  | 0, _, _, _, _, h, _ => by grind [iter]
  | _ + 1, 0, _, _, _, _, h => by grind [iter]
  | n + 1, m + 1, s, r, r', h, h' => by
    simp only [iter] at h h'
    cases hb : body s with
    | none => grind
    | some o => cases o with
      | next s' => rw [hb] at h h'; exact iter_det h h'
      | stop q => grind
open Classical in
noncomputable def loop {σ ρ : Type} (body : σ → Option (Step σ ρ)) (s : σ) : Option ρ :=
  if h : ∃ r, ∃ n, iter body n s = some r then some (Classical.choose h) else none
theorem loop_iff {σ ρ : Type} {body : σ → Option (Step σ ρ)} {s : σ} {r : ρ} : loop body s = some r ↔ ∃ n, iter body n s = some r := by
  unfold loop
  by_cases h : ∃ r, ∃ n, iter body n s = some r
  · rw [dif_pos h]
    grind [iter_det]
  grind
theorem loop_stop {σ ρ : Type} {body : σ → Option (Step σ ρ)} {s : σ} {r : ρ} (h : body s = some (.stop r)) : loop body s = some r := loop_iff.2 ⟨1, by simp [iter, h]⟩
theorem loop_next {σ ρ : Type} {body : σ → Option (Step σ ρ)} {s s' : σ} (h : body s = some (.next s')) : loop body s = loop body s' := by
  cases h2 : loop body s' with
  | some r =>
    obtain ⟨n, hn⟩ := loop_iff.1 h2
    exact loop_iff.2 ⟨n + 1, by grind [iter]⟩
  | none =>
    cases h1 : loop body s with
    | none => rfl
    | some r =>
      obtain ⟨n, hn⟩ := loop_iff.1 h1
      cases n with
      | zero => grind [iter]
      | succ n => grind [iter, loop_iff]
theorem loop_some {σ ρ : Type} {body : σ → Option (Step σ ρ)} {s : σ} {r : ρ} (h : loop body s = some r) : (∃ s', body s = some (.next s') ∧ loop body s' = some r) ∨ body s = some (.stop r) := by
  obtain ⟨n, hn⟩ := loop_iff.1 h
  cases n with
  | zero => grind [iter]
  | succ n =>
    grind [iter, loop_iff]

/-- A loop, round by round. 'o' is what the plain body says of the round. -/
theorem cw_loop {P : Program} {c : Code} {N : Act → World → Prop} {X : Nat → Act → World → Prop} {T : Act → World → Prop} {σ ρ : Type} {body : σ → Option (Step σ ρ)} {r : ρ} (Inv : σ → Act → World → Prop)
    (round : ∀ s a w o, Inv s a w → body s = some o → (∀ q, o = .stop q → q = r) → CW P c (fun a' w' => ∃ s', o = .next s' ∧ Inv s' a' w') X T a w)
    {s : σ} (hl : loop body s = some r) {a : Act} {w : World} (h : Inv s a w) : CW P (.loop c) N X T a w := by
  obtain ⟨n, hn⟩ := loop_iff.1 hl
  refine wp_loop_rounds n ?_
  clear hl
  induction n generalizing s a w with
  | zero => grind [iter]
  | succ n ih =>
    simp only [iter] at hn
    rw [rounds_succ]
    cases hb : body s with
    | none => grind
    | some o =>
      have hr : ∀ q, o = .stop q → q = r := fun q e => by grind
      refine wp_mono (round s a w o h hb hr) fun e a' w' q => ?_
      cases e with
      | normal => obtain ⟨s', e, hI⟩ := q; subst e; rw [hb] at hn; exact ih hI hn
      | _ => exact q
end Go.Gv
end
section
/-
  Operations, one lemma a kind. Nothing of a program here.
-/
namespace Go.Gv

abbrev w64 (n : Int) : Int := IntKind.i64.wrap n
def RunV (P : Program) (o : Oper) (e : Env) (w : World) (v : Value) (w' : World) : Prop := ∀ n a, AEnv n e a → (execOp a.eval o).run P w = .ok (.value v) w'
def RunS (P : Program) (o : Oper) (e : Env) (w : World) (w' : World) : Prop := ∀ n a, AEnv n e a → (execOp a.eval o).run P w = .ok .skip w'
def RunC (P : Program) (o : Oper) (e : Env) (w : World) (f : FuncId) (args : Array Value) : Prop := ∀ n a, AEnv n e a → (execOp a.eval o).run P w = .ok (.enter f args) w

/-- The rest of a region's list. -/
def Ops (P : Program) (ops : Array Oper) (Q : Exit → Act → World → Prop) (rest : List Oper) (n : Nat) (e : Env) (w : World) : Prop := ∀ a, AEnv n e a → wpList P ops Q rest a w
section
variable {P : Program} {a' : Act} {ops : Array Oper} {Q : Exit → Act → World → Prop} {o : Oper} {rest : List Oper} {n d : Nat} {e : Env} {w w' : World}

theorem cw_ops {N : Act → World → Prop} {X : Nat → Act → World → Prop} {T : Act → World → Prop} {id : Nat} {a : Act} (hA : AEnv n e a) (h : Ops P ops (mkQ N X T) ops.toList n e w) : CW P (.region id ops false) N X T a w :=
  cw_region (h a hA)
theorem ops_nil {N : Act → World → Prop} {X : Nat → Act → World → Prop} {T : Act → World → Prop} (h : ∀ a, AEnv n e a → N a w) : Ops P ops (mkQ N X T) [] n e w := fun a hA => h a hA

/-- Is the operation carried out? -/
def Want (ops : Array Oper) (o : Oper) (e : Env) (b : Bool) : Prop := ∀ n a, AEnv n e a → Region.wanted o (yielded ops a.tmps) = b
theorem want_yes (hg : o.guard = none) : Want ops o e true := fun _ _ _ => by grind [Region.wanted]
theorem want_if {j : Nat} {t c b : Bool} {s : Tmp} (hg : o.guard = some (j, t)) (hj : (ops[j]?).bind (·.dst) = some s) (hv : lk e s = some (.bool c)) (hb : Bool.xor c t = !b) : Want ops o e b := fun _ a hA => by
  have : yielded ops a.tmps j = some c := by
    have h1 := hA.get s _ hv
    grind [yielded]
  grind [Region.wanted]

theorem ops_v {v : Value} (hr : RunV P o e w v w') (hw : Want ops o e true) (hd : o.dst = some d) (hn : Nat.blt d n = true) (k : Ops P ops Q rest n ((d, v) :: e) w') : Ops P ops Q (o :: rest) n e w := fun a hA => by
  refine wpList_step fun K hK => ?_
  rw [hw n a hA, if_pos rfl]
  unfold Oper.wp
  rw [hr n a hA, Oper.upon_value, hd]
  exact hK _ _ (k _ (hA.put (by simp_all) v))
/-- Not carried out. -/
theorem ops_off (hw : Want ops o e false) (hd : o.dst = some d) (hn : Nat.blt d n = true) (k : Ops P ops Q rest n ((d, undef) :: e) w) : Ops P ops Q (o :: rest) n e w := fun a hA => by
  refine wpList_step fun K hK => ?_
  rw [hw n a hA, if_neg (by simp), hd]
  exact hK _ _ (k _ (hA.put (by simp_all) undef))
theorem ops_mv {S : Value → World → Prop} (hr : ∃ v w', RunV P o e w v w' ∧ S v w') (hw : Want ops o e true) (hd : o.dst = some d) (hn : Nat.blt d n = true) (k : ∀ v w', S v w' → Ops P ops Q rest n ((d, v) :: e) w') : Ops P ops Q (o :: rest) n e w := by
  grind [ops_v]
theorem ops_ms {S : World → Prop} (hr : ∃ w', RunS P o e w w' ∧ S w') (hw : Want ops o e true) (hd : o.dst = none) (k : ∀ w', S w' → Ops P ops Q rest n e w') : Ops P ops Q (o :: rest) n e w := fun a hA => by
  obtain ⟨w', hr, hS⟩ := hr
  refine wpList_step fun K hK => ?_
  rw [hw n a hA, if_pos rfl]
  unfold Oper.wp
  rw [hr n a hA, Oper.upon_skip, hd]
  exact hK _ _ (k _ hS _ hA)
/-- What a callee is known to do. -/
def Ret (K : Value → World → Prop) : Ending → World → Prop := fun en w' => ∃ v, en = .returned v ∧ K v w'
theorem ops_c {f : FuncId} {args : Array Value} {K : Value → World → Prop} (hr : RunC P o e w f args) (hw : Want ops o e true) (hd : o.dst = some d) (hn : Nat.blt d n = true) (hc : Calls P f args w (Ret K)) (k : ∀ v w', K v w' → Ops P ops Q rest n ((d, v) :: e) w') : Ops P ops Q (o :: rest) n e w := fun a hA => by
  refine wpList_step fun K' hK => ?_
  rw [hw n a hA, if_pos rfl]
  unfold Oper.wp
  rw [hr n a hA, Oper.upon_enter]
  refine hc.mono fun en w' ⟨v, hv, h⟩ => ?_
  subst hv
  rw [hd]
  exact hK _ _ (k v w' h _ (hA.put (by simp_all) v))
/-- The same for a callee without results. -/
theorem ops_c0 {f : FuncId} {args : Array Value} {K : Value → World → Prop} (hr : RunC P o e w f args) (hw : Want ops o e true) (hd : o.dst = none) (hc : Calls P f args w (Ret K)) (k : ∀ v w', K v w' → Ops P ops Q rest n e w') : Ops P ops Q (o :: rest) n e w := fun a hA => by
  refine wpList_step fun K' hK => ?_
  rw [hw n a hA, if_pos rfl]
  unfold Oper.wp
  rw [hr n a hA, Oper.upon_enter]
  refine hc.mono fun en w' ⟨v, hv, h⟩ => ?_
  subst hv
  rw [hd]
  exact hK _ _ (k v w' h _ hA)

/-! ### Plain operations -/
variable {x y z : Operand} {v u : Value} {k : IntKind} {i j : Int} {t z' : TypeId}
theorem rv_move (ho : o.op = .move x) (hx : ev e x = some v) : RunV P o e w v w := fun _ a hA => by simp [execOp, ho, hA.eval hx]
theorem rv_assign (ho : o.op = .assign x) (hx : ev e x = some v) : RunV P o e w v w := fun _ a hA => by simp [execOp, ho, hA.eval hx]
theorem rv_nil (ho : o.op = .nilCheck x) {p : Addr} (hx : ev e x = some (.pointer (some p))) : RunV P o e w (.pointer (some p)) w := fun _ a hA => by simp [execOp, ho, hA.eval hx]
theorem rv_pick_t {c : Bool} (ho : o.op = .pick x y z) (hx : ev e x = some (.bool c)) (hc : c = true) (hy : ev e y = some v) : RunV P o e w v w := fun _ a hA => by simp [execOp, ho, hA.eval hx, hA.eval hy, hc, asBool]
theorem rv_pick_f {c : Bool} (ho : o.op = .pick x y z) (hx : ev e x = some (.bool c)) (hc : c = false) (hz : ev e z = some v) : RunV P o e w v w := fun _ a hA => by simp [execOp, ho, hA.eval hx, hA.eval hz, hc, asBool]
theorem rv_not {b : Bool} (ho : o.op = .unOp .not t x) (hx : ev e x = some (.bool b)) : RunV P o e w (.bool (!b)) w := fun _ a hA => by simp [execOp, ho, hA.eval hx, Op.unary]
theorem rv_neg (ho : o.op = .unOp .neg t x) (hx : ev e x = some (.int k i)) : RunV P o e w (.int k (k.wrap (0 - i))) w := fun _ a hA => by simp [execOp, ho, hA.eval hx, Op.unary, Op.intArith]

theorem rv_add (ho : o.op = .binOp .add t x y z') (hx : ev e x = some (.int k i)) (hy : ev e y = some (.int k j)) : RunV P o e w (.int k (k.wrap (i + j))) w := fun _ a hA => by simp [execOp, ho, hA.eval hx, hA.eval hy, eqGuard, binOp, Op.intArith]
theorem rv_sub (ho : o.op = .binOp .sub t x y z') (hx : ev e x = some (.int k i)) (hy : ev e y = some (.int k j)) : RunV P o e w (.int k (k.wrap (i - j))) w := fun _ a hA => by simp [execOp, ho, hA.eval hx, hA.eval hy, eqGuard, binOp, Op.intArith]
theorem rv_mul (ho : o.op = .binOp .mul t x y z') (hx : ev e x = some (.int k i)) (hy : ev e y = some (.int k j)) : RunV P o e w (.int k (k.wrap (i * j))) w := fun _ a hA => by simp [execOp, ho, hA.eval hx, hA.eval hy, eqGuard, binOp, Op.intArith]
theorem rv_quo (ho : o.op = .binOp .quo t x y z') (hx : ev e x = some (.int k i)) (hy : ev e y = some (.int k j)) (h0 : j ≠ 0) : RunV P o e w (.int k (k.wrap (i.tdiv j))) w := fun _ a hA => by simp [execOp, ho, hA.eval hx, hA.eval hy, eqGuard, binOp, Op.intDiv, h0]
theorem rv_rem (ho : o.op = .binOp .rem t x y z') (hx : ev e x = some (.int k i)) (hy : ev e y = some (.int k j)) (h0 : j ≠ 0) : RunV P o e w (.int k (i.tmod j)) w := fun _ a hA => by simp [execOp, ho, hA.eval hx, hA.eval hy, eqGuard, binOp, Op.intDiv, h0]
theorem rv_lss (ho : o.op = .binOp .lss t x y z') (hx : ev e x = some (.int k i)) (hy : ev e y = some (.int k j)) : RunV P o e w (.bool (decide (i < j))) w := fun _ a hA => by simp [execOp, ho, hA.eval hx, hA.eval hy, eqGuard, binOp, Op.intCmp]
theorem rv_leq (ho : o.op = .binOp .leq t x y z') (hx : ev e x = some (.int k i)) (hy : ev e y = some (.int k j)) : RunV P o e w (.bool (decide (i ≤ j))) w := fun _ a hA => by simp [execOp, ho, hA.eval hx, hA.eval hy, eqGuard, binOp, Op.intCmp]
theorem rv_gtr (ho : o.op = .binOp .gtr t x y z') (hx : ev e x = some (.int k i)) (hy : ev e y = some (.int k j)) : RunV P o e w (.bool (decide (j < i))) w := fun _ a hA => by simp [execOp, ho, hA.eval hx, hA.eval hy, eqGuard, binOp, Op.intCmp]
theorem rv_geq (ho : o.op = .binOp .geq t x y z') (hx : ev e x = some (.int k i)) (hy : ev e y = some (.int k j)) : RunV P o e w (.bool (decide (j ≤ i))) w := fun _ a hA => by simp [execOp, ho, hA.eval hx, hA.eval hy, eqGuard, binOp, Op.intCmp]
theorem rv_eql (ho : o.op = .binOp .eql t x y z') (hx : ev e x = some (.int k i)) (hy : ev e y = some (.int k j)) : RunV P o e w (.bool (i == j)) w := fun _ a hA => by simp [execOp, ho, hA.eval hx, hA.eval hy, eqGuard, binOp, Op.intCmp]
theorem rv_neq (ho : o.op = .binOp .neq t x y z') (hx : ev e x = some (.int k i)) (hy : ev e y = some (.int k j)) : RunV P o e w (.bool (i != j)) w := fun _ a hA => by simp [execOp, ho, hA.eval hx, hA.eval hy, eqGuard, binOp, Op.intCmp]
def bitsOp (op : BinOp) (k : IntKind) (i j : Int) : Int :=
  match op with
  | .and => k.wrap ((BitVec.ofInt k.bits i &&& BitVec.ofInt k.bits j).toNat : Int)
  | .or => k.wrap ((BitVec.ofInt k.bits i ||| BitVec.ofInt k.bits j).toNat : Int)
  | .xor => k.wrap ((BitVec.ofInt k.bits i ^^^ BitVec.ofInt k.bits j).toNat : Int)
  | _ => k.wrap ((BitVec.ofInt k.bits i &&& ~~~ (BitVec.ofInt k.bits j)).toNat : Int)
theorem rv_and (ho : o.op = .binOp .and t x y z') (hx : ev e x = some (.int k i)) (hy : ev e y = some (.int k j)) : RunV P o e w (.int k (bitsOp .and k i j)) w := fun _ a hA => by simp [execOp, ho, hA.eval hx, hA.eval hy, eqGuard, binOp, Op.intBits, bitsOp]
theorem rv_or (ho : o.op = .binOp .or t x y z') (hx : ev e x = some (.int k i)) (hy : ev e y = some (.int k j)) : RunV P o e w (.int k (bitsOp .or k i j)) w := fun _ a hA => by simp [execOp, ho, hA.eval hx, hA.eval hy, eqGuard, binOp, Op.intBits, bitsOp]
theorem rv_xor (ho : o.op = .binOp .xor t x y z') (hx : ev e x = some (.int k i)) (hy : ev e y = some (.int k j)) : RunV P o e w (.int k (bitsOp .xor k i j)) w := fun _ a hA => by simp [execOp, ho, hA.eval hx, hA.eval hy, eqGuard, binOp, Op.intBits, bitsOp]
theorem rv_andNot (ho : o.op = .binOp .andNot t x y z') (hx : ev e x = some (.int k i)) (hy : ev e y = some (.int k j)) : RunV P o e w (.int k (bitsOp .andNot k i j)) w := fun _ a hA => by simp [execOp, ho, hA.eval hx, hA.eval hy, eqGuard, binOp, Op.intBits, bitsOp]
def shlOp (k : IntKind) (i j : Int) : Int := k.wrap (i * 2 ^ min j.toNat k.bits)
def shrOp (k : IntKind) (i j : Int) : Int := i.fdiv (2 ^ min j.toNat k.bits)
theorem rv_shl {yk : IntKind} (ho : o.op = .binOp .shl t x y z') (hx : ev e x = some (.int k i)) (hy : ev e y = some (.int yk j)) (h0 : ¬ j < 0) : RunV P o e w (.int k (shlOp k i j)) w := fun _ a hA => by simp [execOp, ho, hA.eval hx, hA.eval hy, eqGuard, binOp, Op.shift, h0, shlOp]
theorem rv_shr {yk : IntKind} (ho : o.op = .binOp .shr t x y z') (hx : ev e x = some (.int k i)) (hy : ev e y = some (.int yk j)) (h0 : ¬ j < 0) : RunV P o e w (.int k (shrOp k i j)) w := fun _ a hA => by simp [execOp, ho, hA.eval hx, hA.eval hy, eqGuard, binOp, Op.shift, h0, shrOp]
/-- Bools. -/
theorem rv_eqlb {p q : Bool} (hu : P.underlying t = some .bool) (ho : o.op = .binOp .eql t x y z') (hx : ev e x = some (.bool p)) (hy : ev e y = some (.bool q)) : RunV P o e w (.bool (p == q)) w := fun _ a hA => by
  have h1 : binOp .eql t (.bool p) (.bool q) = (do pure (.bool (← Op.equal t (.bool p) (.bool q)))) := rfl
  simp [execOp, ho, hA.eval hx, hA.eval hy, eqGuard, h1, Op.equal, Op.maxDepth, run_equalIn_bool' _ _ _ _ _ hu]
theorem rv_neqb {p q : Bool} (hu : P.underlying t = some .bool) (ho : o.op = .binOp .neq t x y z') (hx : ev e x = some (.bool p)) (hy : ev e y = some (.bool q)) : RunV P o e w (.bool (!(p == q))) w := fun _ a hA => by
  have h1 : binOp .neq t (.bool p) (.bool q) = (do pure (.bool (!(← Op.equal t (.bool p) (.bool q))))) := rfl
  simp [execOp, ho, hA.eval hx, hA.eval hy, eqGuard, h1, Op.equal, Op.maxDepth, run_equalIn_bool' _ _ _ _ _ hu]
/-- Strings. -/
abbrev sv (l : List UInt8) : Value := .string ⟨l.toArray⟩
theorem rv_eqls {p q : List UInt8} (ho : o.op = .binOp .eql t x y z') (hx : ev e x = some (sv p)) (hy : ev e y = some (sv q)) : RunV P o e w (.bool (p == q)) w := fun _ a hA => by
  simp [execOp, ho, hA.eval hx, hA.eval hy, eqGuard, binOp, Op.stringOp]
theorem rv_neqs {p q : List UInt8} (ho : o.op = .binOp .neq t x y z') (hx : ev e x = some (sv p)) (hy : ev e y = some (sv q)) : RunV P o e w (.bool (!(p == q))) w := fun _ a hA => by
  simp [execOp, ho, hA.eval hx, hA.eval hy, eqGuard, binOp, Op.stringOp]
theorem rv_cat {p q : List UInt8} (ho : o.op = .binOp .add t x y z') (hx : ev e x = some (sv p)) (hy : ev e y = some (sv q)) (hb : p.length + q.length ≤ 9223372036854775807) : RunV P o e w (sv (p ++ q)) w := fun _ a hA => by
  have h2 : (⟨p.toArray⟩ : ByteArray) ++ ⟨q.toArray⟩ = ⟨(p ++ q).toArray⟩ := by
    apply ByteArray.ext
    simp
  have h3 : (⟨p.toArray⟩ : ByteArray).size = p.length := by simp [ByteArray.size]
  have h4 : (⟨q.toArray⟩ : ByteArray).size = q.length := by simp [ByteArray.size]
  simp [execOp, ho, hA.eval hx, hA.eval hy, eqGuard, binOp, Op.stringOp, h3, h4, h2]
  omega

/-! ### Conversions, lengths, tuples, functions -/
theorem rv_conv {k' : IntKind} {s t : TypeId} {ds : TypeDesc} (hs : P.underlying s = some ds) (ht : P.underlying t = some (.int k')) (ho : o.op = .convert s t x) (hx : ev e x = some (.int k i)) : RunV P o e w (.int k' (k'.wrap i)) w := fun _ a hA => by
  simp [execOp, ho, hA.eval hx, convert, run_underlying hs, run_underlying ht, Conv.intToInt]
theorem rv_extract {vs : Array Value} {ix : Nat} (ho : o.op = .extract x ix) (hx : ev e x = some (.tuple vs)) (hv : vs[ix]? = some v) : RunV P o e w v w := fun _ a hA => by
  simp [execOp, ho, hA.eval hx, Instr.extract, hv]
theorem rv_len {ad : Option Addr} {m c : Nat} {el : TypeId} (hu : P.underlying t = some (.slice el)) (ho : o.op = .call { callee := .builtin .len, args := #[x], argTypes := #[t] }) (hx : ev e x = some (.slice ad m c)) : RunV P o e w (.int .i64 (m : Int)) w := fun _ a hA => by
  simp [execOp, ho, resolve, invoke, builtin, Builtin.len_, hA.eval hx, run_underlying hu, goInt]
theorem rv_lens {l : List UInt8} (hu : P.underlying t = some .string) (ho : o.op = .call { callee := .builtin .len, args := #[x], argTypes := #[t] }) (hx : ev e x = some (sv l)) : RunV P o e w (.int .i64 (l.length : Int)) w := fun _ a hA => by
  have h3 : (⟨l.toArray⟩ : ByteArray).size = l.length := by simp [ByteArray.size]
  simp [execOp, ho, resolve, invoke, builtin, Builtin.len_, hA.eval hx, run_underlying hu, goInt, h3]
theorem rv_func {fn : Fn} {fs cs : Array Operand} {vf vc : List Value} (ho : o.op = .makeFunc fn fs cs) (hf : fs.toList.map (ev e) = vf.map some) (hc : cs.toList.map (ev e) = vc.map some) : RunV P o e w (.func fn vf.toArray vc.toArray) w := fun _ a hA => by
  have key : ∀ (xs : Array Operand) (vs : List Value), xs.toList.map (ev e) = vs.map some → xs.map a.eval = vs.toArray := by
    intro xs vs h
    apply Array.toList_inj.1
    simp
    revert vs
    generalize xs.toList = l
    induction l with
    | nil => simp
    | cons y r ih =>
      intro vs h
      cases vs with
      | nil => simp at h
      | cons v vs => simp at h ⊢; exact ⟨hA.eval h.1, ih vs h.2⟩
  simp [execOp, ho, key _ _ hf, key _ _ hc, Instr.makeFunc]

/-! ### Memory -/
variable {c : Ctx} {L : List Chunk} {R : List Fact}
/-- The box of a variable. -/
abbrev cBox (b : Nat) (cs : List Value) : Chunk := cAt b 0 cs
theorem St.cell (h : St c w L R) {b : Nat} {cs : List Value} (i : Nat) {j : Nat} (hi : L[i]? = some (cBox b cs)) (hj : cs[j]? = some v) : w.cell? ⟨b, j, none⟩ = some v := by
  obtain ⟨F, h1, _⟩ := h.chunk i hi
  have := h1 j v hj
  grind
theorem St.cells (h : St c w L R) {b : Nat} {cs cs' : List Value} (i j : Nat) (hi : L[i]? = some (cBox b cs)) (hj : (cs.drop j).take cs'.length = cs') : CellsAt w b j cs' := by
  intro m u hm
  have hlt := (List.getElem?_eq_some_iff.1 hm).1
  refine h.cell i hi ?_
  grind
theorem run_loadCells_at {b j : Nat} {cs : List Value} (h : CellsAt w b j cs) (P : Program) : (loadCells ⟨b, j, none⟩ cs.length).run P w = .ok cs.toArray w := by
  refine run_loadCells_list w ⟨b, j, none⟩ cs fun m u hm => ?_
  have : (⟨b, j, none⟩ : Addr).add m = ⟨b, j + m, none⟩ := by grind [Addr.add]
  rw [this]; exact h m u hm
/-- A load of one cell. -/
theorem rv_load1 {p : Addr} (ho : o.op = .load t x) (hx : ev e x = some (.pointer (some p))) (ha : ∀ w, (isAgg t).run P w = .ok false w) (hc : w.cell? p = some v) : RunV P o e w v w := fun _ a hA => by
  simp [execOp, ho, Instr.loadAt, Instr.sureAddr, hA.eval hx, loadVar, ha, load, Sem.run, hc]
/-- A load of a struct or an array. -/
theorem rv_loadN {b j : Nat} {cs : List Value} {m : Nat} (ho : o.op = .load t x) (hx : ev e x = some (.pointer (some ⟨b, j, none⟩))) (ha : ∀ w, (isAgg t).run P w = .ok true w) (hz : ∀ w, (sizeOf t).run P w = .ok m w) (hm : cs.length = m) (hc : CellsAt w b j cs) : RunV P o e w (.agg cs.toArray) w := fun _ a hA => by
  subst hm
  simp [execOp, ho, Instr.loadAt, Instr.sureAddr, hA.eval hx, loadVar, ha, hz, run_loadCells_at hc P]

theorem heap_lt (w : World) (o : Obj) : (w.alloc o).heap.size = w.heap.size + 1 := by simp
/-- A new block. -/
theorem St.alloc (h : St c w L R) (cs : List Value) (t : TypeId) : St c (w.alloc (.cells cs.toArray t)) (L ++ [cBox w.heap.size cs]) R := by
  refine h.more (Keep.alloc _ _ _) ⟨inRow w.heap.size 0 cs.length, ⟨fun j u hj => ?_, fun o' ho => ?_, fun _ _ => ?_⟩, fun b o' hb => ?_⟩
  · simp_all
  · simp
  · simp
  · exact Nat.le_of_eq hb.1.symm
theorem rv_alloc {z : Value} {cs : List Value} (hS : St c w L R) (ho : o.op = .alloc t) (hz : ∀ w, (zeroValue t).run P w = .ok z w) (hcs : z.cells.toList = cs) : ∃ v w', RunV P o e w v w' ∧ ∃ b, v = .pointer (some ⟨b, 0, none⟩) ∧ St c w' (L ++ [cBox b cs]) R := by
  subst hcs
  refine ⟨_, _, fun _ a hA => ?_, w.heap.size, rfl, hS.alloc z.cells.toList t⟩
  simp_all [execOp, Instr.alloc, newVar, newRow]
theorem rv_box {cs : List Value} (hS : St c w L R) (ho : o.op = .box t x) (hx : ev e x = some v) (hcs : v.cells.toList = cs) : ∃ v w', RunV P o e w v w' ∧ ∃ b, v = .pointer (some ⟨b, 0, none⟩) ∧ St c w' (L ++ [cBox b cs]) R := by
  subst hcs
  refine ⟨_, _, fun _ a hA => ?_, w.heap.size, rfl, hS.alloc v.cells.toList t⟩
  simp [execOp, ho, Instr.box, hA.eval hx, newVar, newRow]

/-- The address of a field. -/
theorem rv_fld {fs : Array Field} {f : Field} {ix m b j j' : Nat} (hu : P.underlying t = some (.struct fs)) (ho : o.op = .fieldAddr t x ix) (hf : fs[ix]? = some f) (hz : ∀ w, (sizeOf f.type).run P w = .ok (m + 1) w) (hx : ev e x = some (.pointer (some ⟨b, j, none⟩))) (hj : j + f.offset = j') : RunV P o e w (.pointer (some ⟨b, j', none⟩)) w := fun _ a hA => by
  have h1 : (⟨b, j, none⟩ : Addr).add f.offset = ⟨b, j', none⟩ := by grind [Addr.add]
  simp [execOp, ho, Instr.fieldAt, hA.eval hx, run_underlying hu, hf, Instr.sureAddr, fieldPlace, hz, h1]

/-! ### Slices that are read -/
/-- Where element k of a slice lies. -/
def elB : Value → Nat
  | .slice (some a) _ _ => a.block
  | _ => 0
def elO (n k : Nat) : Value → Nat
  | .slice (some a) _ _ => a.off + k * n
  | _ => 0
theorem rd_len {α : Type} [Rep α] {S : Foot} {s : Value} {l : List α} (h : Rep.rd S w [s] l) : ∃ ad m, s = .slice ad l.length m := by
  obtain ⟨ad, m, h1, _⟩ := (show rdSlice S w [s] l from h)
  grind
theorem rd_max {α : Type} [Rep α] {S : Foot} {s : Value} {l : List α} (h : Rep.rd S w [s] l) : l.length ≤ maxLen := by
  obtain ⟨ad, m, h1, h2, h3, _⟩ := (show rdSlice S w [s] l from h)
  omega
theorem rd_el {α : Type} [Rep α] {S : Foot} {s : Value} {l : List α} (h : Rep.rd S w [s] l) {k : Nat} {x : α} (hk : l[k]? = some x) : ∃ ec, CellsAt w (elB s) (elO (Rep.n α) k s) ec ∧ Rep.rd S w ec x := by
  obtain ⟨ad, m, h1, h2, h3, h4⟩ := (show rdSlice S w [s] l from h)
  obtain ⟨hlt, hx⟩ := List.getElem?_eq_some_iff.1 hk
  simp at h1; subst h1
  rcases h4 with h4 | ⟨b, off, rfl, h4⟩
  · grind
  · obtain ⟨ec, a1, _, a2⟩ := h4 k hlt
    exact ⟨ec, a1, hx ▸ a2⟩
theorem rv_lenS {α : Type} [Rep α] {S : Foot} {s : Value} {l : List α} {el : TypeId} (h : Rep.rd S w [s] l) (hu : P.underlying t = some (.slice el)) (ho : o.op = .call { callee := .builtin .len, args := #[x], argTypes := #[t] }) (hx : ev e x = some s) : RunV P o e w (.int .i64 (l.length : Int)) w := by
  grind [rd_len, rv_len]
/-- An index within bounds, in the plain functions. -/
def idx {α : Type} (l : List α) (i : Int) : Option α := if 0 ≤ i then l[i.toNat]? else none
theorem idx_some {α : Type} {l : List α} {i : Int} {x : α} (h : idx l i = some x) : 0 ≤ i ∧ i < l.length ∧ l[i.toNat]? = some x := by
  grind [idx]
theorem rv_idx {α : Type} [Rep α] {S : Foot} {s : Value} {l : List α} {el m : Nat} {q : α} (h : Rep.rd S w [s] l) (_hn : Rep.n α = m) (hq : idx l i = some q) (hu : P.underlying t = some (.slice el)) (hz : ∀ w, (sizeOf el).run P w = .ok m w) (ho : o.op = .indexAddr t x y) (hx : ev e x = some s) (hy : ev e y = some (.int k i)) : RunV P o e w (.pointer (some ⟨elB s, elO m i.toNat s, none⟩)) w := by
  obtain ⟨h0, h1, h2⟩ := idx_some hq
  obtain ⟨ad, c, rfl⟩ := rd_len h
  obtain ⟨ad', c', e1, _, _, h4⟩ := (show rdSlice S w [_] l from h)
  simp at e1
  obtain ⟨rfl, rfl⟩ := e1
  rcases h4 with h4 | ⟨b, off, rfl, _⟩
  · grind
  · intro _ a hA
    have h5 : (⟨b, off, none⟩ : Addr).add (i.toNat * m) = ⟨b, off + i.toNat * m, none⟩ := by grind [Addr.add]
    simp [execOp, ho, Instr.indexAt, hA.eval hx, hA.eval hy, asIntOf, run_underlying hu, h0, h1, hz, h5, elB, elO]

/-! ### Stores into boxes -/
theorem run_storeCells_in {b : Nat} (P : Program) : ∀ (vs : List Value) (w : World) (j m : Nat), (∀ v ∈ vs, v.oneCell' = true) → (∀ q, m ≤ q → q < m + vs.length → (w.cell? ⟨b, j + q, none⟩).isSome = true ∧ w.frozen? ⟨b, j + q, none⟩ = false) →
    ∃ w', (storeCells ⟨b, j, none⟩ vs m).run P w = .ok () w' ∧ Keep (inRow b (j + m) vs.length) w w' ∧ w'.heap.size = w.heap.size ∧ CellsAt w' b (j + m) vs
  | [], w, j, m, _, _ => ⟨w, rfl, Keep.refl _ _, rfl, fun q v h => by simp at h⟩
  | v :: vs, w, j, m, h1, h2 => by
    have hadd : (⟨b, j, none⟩ : Addr).add m = ⟨b, j + m, none⟩ := by grind [Addr.add]
    obtain ⟨hs, hf⟩ := h2 m (Nat.le_refl _) (by simp)
    obtain ⟨u, hu⟩ := Option.isSome_iff_exists.1 hs
    have hk1 : Keep (inRow b (j + m) (v :: vs).length) w (w.setCell ⟨b, j + m, none⟩ v) := Keep.setCell _ _ _ _ ⟨rfl, Nat.le_refl _, by simp⟩ rfl
    obtain ⟨w', hr, hk, hsz, hc⟩ := run_storeCells_in P vs (w.setCell ⟨b, j + m, none⟩ v) j (m + 1) (fun v h => h1 v (List.mem_cons_of_mem _ h)) (fun q a1 a2 => by
      obtain ⟨b1, b2⟩ := h2 q (by omega) (by simp; omega)
      exact ⟨hk1.stay _ _ b1, by simp_all⟩)
    refine ⟨w', ?_, hk1.trans hk fun b' o _ hh => ?_, by simp_all, ?_⟩
    · simp_all [run_store, storeCells]
    · obtain ⟨c1, c2, c3⟩ := hh
      exact ⟨c1, by omega, by simp; omega⟩
    · intro q u' hq
      cases q with
      | zero =>
        simp at hq; subst hq
        have hlt : b < w.heap.size := lt_of_cell hs
        rw [Nat.add_zero, hk.cell b (j + m) (by simp_all) (fun hh => by obtain ⟨_, c2, _⟩ := hh; omega)]
        grind [World.cell?_setCell_same]
      | succ q =>
        have := hc q u' (by grind)
        grind
/-- Cells j.. of a box are written. -/
def setN (cs : List Value) (j : Nat) : List Value → List Value
  | [] => cs
  | v :: vs => setN (cs.set j v) (j + 1) vs
theorem setN_length : ∀ (vs cs : List Value) (j : Nat), (setN cs j vs).length = cs.length
  | [], _, _ => rfl
  | v :: vs, cs, j => by simp [setN, setN_length vs]
theorem setN_get : ∀ (vs cs : List Value) (j q : Nat), j + vs.length ≤ cs.length → (setN cs j vs)[q]? = if j ≤ q ∧ q < j + vs.length then vs[q - j]? else cs[q]?
  | [], cs, j, q, _ => by simp [setN, if_neg]
  | v :: vs, cs, j, q, h => by
    simp only [setN]
    rw [setN_get vs (cs.set j v) (j + 1) q (by grind)]
    grind
theorem rs_box {b j m i : Nat} {cs vs : List Value} (hS : St c w L R) (hi : L[i]? = some (cBox b cs)) (ho : o.op = .store t x y) (hx : ev e x = some (.pointer (some ⟨b, j, none⟩))) (hy : ev e y = some v) (hvs : v.cells.toList = vs) (hz : ∀ w, (sizeOf t).run P w = .ok m w) (hm : vs.length = m) (hj : Nat.ble (j + m) cs.length = true) (h1 : vs.all Value.oneCell' = true) :
    ∃ w', RunS P o e w w' ∧ St c w' (L.set i (cBox b (setN cs j vs))) R := by
  subst hm
  have hj' : j + vs.length ≤ cs.length := Nat.le_of_ble_eq_true hj
  have h1' : ∀ v ∈ vs, v.oneCell' = true := fun v hv => by grind
  obtain ⟨F, hF⟩ := hS.chunk i hi
  obtain ⟨hc, hfz, _⟩ := hF
  obtain ⟨w', hr, hk, hsz, hcell⟩ := run_storeCells_in (b := b) P vs w j 0 h1' (fun q _ hq => by
    refine ⟨?_, hfz (j + q) ⟨rfl, by omega, by omega⟩⟩
    have := hc (j + q) cs[j + q] (List.getElem?_eq_getElem (by omega))
    grind)
  refine ⟨w', fun _ a hA => ?_, hS.turn i hi fun F ⟨a1, a2, a3⟩ => ⟨F, inRow b (j + 0) vs.length, hk, fun b' o' h => (a3 b' o').2 ?_, ⟨?_, ?_, ?_⟩, fun _ _ h => .inl h⟩⟩
  · have hsize : v.cells.size = vs.length := by grind
    have hr' : (storeCells ⟨b, j, none⟩ v.cells.toList).run P w = .ok () w' := by grind
    simp [execOp, ho, Instr.storeAt, Instr.sureAddr, hA.eval hx, hA.eval hy, storeVar, hz, hsize, hr']
  · obtain ⟨b1, b2, b3⟩ := h
    exact ⟨b1, by omega, by omega⟩
  · intro q u hq
    rw [setN_get vs cs j q hj'] at hq
    split at hq
    · rename_i hin
      have := hcell (q - j) u hq
      grind
    · rename_i hin
      have hlt := (List.getElem?_eq_some_iff.1 hq).1
      rw [hk.cell b (0 + q) (World.block_lt_of_cell? w _ (a1 q u hq)) (fun hh => by obtain ⟨_, b2, b3⟩ := hh; omega)]
      exact a1 q u hq
  · intro o' ho'
    have ho2 : inRow b 0 cs.length b o' := by grind [setN_length]
    have hlt : o' < cs.length := by obtain ⟨_, _, b3⟩ := ho2; omega
    have hcell2 := a1 o' cs[o'] (List.getElem?_eq_getElem hlt)
    rw [Nat.zero_add] at hcell2
    exact (hk.frz b o' (World.block_lt_of_cell? w _ hcell2)).trans (a2 o' ho2)
  grind [setN_length]

/-! ### Calls -/
def evs (e : Env) : List Operand → Option (List Value)
  | [] => some []
  | x :: r => match ev e x, evs e r with
    | some v, some vs => some (v :: vs)
    | _, _ => none
theorem evs_map {e : Env} {a : Act} {n : Nat} (hA : AEnv n e a) : ∀ {xs : List Operand} {vs : List Value}, evs e xs = some vs → xs.map a.eval = vs
  | [], vs, h => by grind [evs]
  | x :: r, vs, h => by
    simp only [evs] at h
    split at h
    · rename_i v vs' h1 h2
      simp at h; subst h
      simp [hA.eval h1, evs_map hA h2]
    · cases h
theorem rc_call {f : FuncId} {xs : List Operand} {ts : Array TypeId} {vs : List Value} (hcall : ∀ args w, (callFunc f args).run P w = .ok (.enter f args) w) (ho : o.op = .call { callee := .value (.func f), args := xs.toArray, argTypes := ts }) (hv : evs e xs = some vs) : RunC P o e w f vs.toArray := fun _ a hA => by
  grind [evs_map, execOp, resolve, Act.eval, Deferred.ofValue, invoke]
theorem rc_callv {f : FuncId} {xs : List Operand} {ts : Array TypeId} {vs cap : List Value} (hcall : ∀ args w, (callFunc f args).run P w = .ok (.enter f args) w) (ho : o.op = .call { callee := .value x, args := xs.toArray, argTypes := ts }) (hx : ev e x = some (.func (.func f) #[] cap.toArray)) (hv : evs e xs = some vs) : RunC P o e w f (vs ++ cap).toArray := fun _ a hA => by
  simp [execOp, ho, resolve, hA.eval hx, Deferred.ofValue, invoke, hcall, evs_map hA hv]

/-! ### The end of a function -/
def resSem (tmps : Array Value) : ResultVar → Sem Value
  | .tmp t => pure (tmps.getD t undef)
  | .cell p t => do loadVar t (← asAddr (tmps.getD p undef))
def resOne (P : Program) (e : Env) (w : World) (r : ResultVar) (v : Value) : Prop := ∀ n a, AEnv n e a → (resSem a.tmps r).run P w = .ok v w
theorem res_tmp {s : Tmp} (h : lk e s = some v) : resOne P e w (.tmp s) v := fun _ a hA => by
  have := hA.get s v h
  simp_all [resSem]
theorem res_cell {s : Tmp} {b j m : Nat} {cs : List Value} (hx : lk e s = some (.pointer (some ⟨b, j, none⟩))) (ha : ∀ w, (isAgg t).run P w = .ok true w) (hz : ∀ w, (sizeOf t).run P w = .ok m w) (hm : cs.length = m) (hc : CellsAt w b j cs) : resOne P e w (.cell s t) (.agg cs.toArray) := fun _ a hA => by
  subst hm
  have := hA.get s _ hx
  simp_all [resSem, asAddr, loadVar, run_loadCells_at]
/-- What 'return' must show. -/
def Fin (P : Program) (fn : Func) (K : Value → World → Prop) (a : Act) (w : World) : Prop := a.defers = [] ∧ ∃ v, (results fn a.tmps).run P w = .ok v w ∧ K v w
theorem results_eq {fn : Func} {rs : List ResultVar} (hf : fn.results = rs.toArray) (tmps : Array Value) : results fn tmps = (do let vs ← rs.toArray.mapM (resSem tmps); pure (if h : vs.size = 1 then vs[0] else .tuple vs)) := by
  unfold results; rw [hf]; rfl
theorem fin1 {fn : Func} {K : Value → World → Prop} {r : ResultVar} (hf : fn.results = #[r]) (hA : AEnv n e a') (hr : resOne P e w r v) (hK : K v w) : Fin P fn K a' w := by
  refine ⟨hA.d, v, ?_, hK⟩
  rw [results_eq (rs := [r]) hf]
  simp [hr n a' hA]
theorem fin2 {fn : Func} {K : Value → World → Prop} {r r2 : ResultVar} (hf : fn.results = #[r, r2]) (hA : AEnv n e a') (hr : resOne P e w r v) (hr2 : resOne P e w r2 u) (hK : K (.tuple #[v, u]) w) : Fin P fn K a' w := by
  refine ⟨hA.d, _, ?_, hK⟩
  rw [results_eq (rs := [r, r2]) hf]
  simp [hr n a' hA, hr2 n a' hA]
theorem fin3 {fn : Func} {K : Value → World → Prop} {r r2 r3 : ResultVar} {u' : Value} (hf : fn.results = #[r, r2, r3]) (hA : AEnv n e a') (hr : resOne P e w r v) (hr2 : resOne P e w r2 u) (hr3 : resOne P e w r3 u') (hK : K (.tuple #[v, u, u']) w) : Fin P fn K a' w := by
  refine ⟨hA.d, _, ?_, hK⟩
  rw [results_eq (rs := [r, r2, r3]) hf]
  simp [hr n a' hA, hr2 n a' hA, hr3 n a' hA]
theorem fin0 {fn : Func} {K : Value → World → Prop} (hf : fn.results = #[]) (hA : AEnv n e a') (hK : K (.tuple #[]) w) : Fin P fn K a' w :=
  ⟨hA.d, _, by simp [results, hf], hK⟩
/-- A function, from its body. -/
theorem calls_cw {f : FuncId} {fn : Func} {cd : Code} {args : List Value} {m : Nat} {K : Value → World → Prop} (hf : P.funcs[f]? = some fn) (hb : fn.body = some cd) (hm : fn.ntmps = m) (hl : Nat.ble args.length m = true)
    (h : ∀ a, AEnv m (env0 0 args) a → CW P cd (fun _ _ => False) (fun _ _ _ => False) (Fin P fn K) a w) : Calls P f args.toArray w (Ret K) := by
  refine calls_of_wp hf hb ?_
  subst hm
  refine wp_mono (h _ (aenv0 args fn.ntmps (Nat.le_of_ble_eq_true hl))) fun ex a w q => ?_
  cases ex with
  | ret => obtain ⟨h1, v, h2, h3⟩ := q; exact ⟨h1, v, h2, v, rfl, h3⟩
  | _ => exact q.elim
theorem calls_cwN {f : FuncId} {fn : Func} {cd : Code} {args : List Value} {m : Nat} {K : Value → World → Prop} (hf : P.funcs[f]? = some fn) (hb : fn.body = some cd) (hm : fn.ntmps = m) (hl : Nat.ble args.length m = true)
    (h : ∀ a, AEnv m (env0 0 args) a → CW P cd (Fin P fn K) (fun _ _ _ => False) (Fin P fn K) a w) : Calls P f args.toArray w (Ret K) := by
  refine calls_of_wp hf hb ?_
  subst hm
  refine wp_mono (h _ (aenv0 args fn.ntmps (Nat.le_of_ble_eq_true hl))) fun ex a w q => ?_
  cases ex with
  | ret => obtain ⟨h1, v, h2, h3⟩ := q; exact ⟨h1, v, h2, v, rfl, h3⟩
  | normal => obtain ⟨h1, v, h2, h3⟩ := q; exact ⟨h1, v, h2, v, rfl, h3⟩
  | _ => exact q.elim
end
end Go.Gv
end
section
/-
  Helpers of the printed walks. Nothing of a program here.
-/
namespace Go.Gv

theorem bindE {α β : Type} {o : Option α} {f : α → Option β} {r : Option β} {q : β} (h : o.bind f = r) (hr : r = some q := by rfl) : ∃ x, o = some x ∧ f x = r := by
  subst hr
  cases o with
  | none => simp at h
  | some x => grind
theorem iteT {p : Prop} [Decidable p] {α : Type} {a b r : α} (hp : p) (h : (if p then a else b) = r) : a = r := by grind
theorem iteF {t : Bool} {α : Type} {a b r : α} (hp : t = false) (h : (if t = true then a else b) = r) : b = r := by grind
/-- A condition that is asked for: none without it. -/
def need (p : Prop) [Decidable p] {α : Type} (k : Option α) : Option α := if p then k else none
theorem needE {p : Prop} [Decidable p] {α : Type} {k : Option α} {q : α} (h : need p k = some q) : p ∧ k = some q := by
  grind [need]
theorem cw_cut {P : Program} {x : Code} {N : Act → World → Prop} {X : Nat → Act → World → Prop} {T : Act → World → Prop} {a : Act} {w : World} (J : Act → World → Prop) (h1 : CW P x J X T a w) (h2 : ∀ a w, J a w → N a w) : CW P x N X T a w := h1.mono h2 (fun _ _ _ h => h) (fun _ _ h => h)
theorem ops_case {P : Program} {ops : Array Oper} {Q : Exit → Act → World → Prop} {rest : List Oper} {n s : Nat} {e : Env} {w : World} {b : Bool} (_hv : lk e s = some (.bool b)) (ht : b = true → Ops P ops Q rest n e w) (hf : b = false → Ops P ops Q rest n e w) : Ops P ops Q rest n e w := by
  grind
theorem want_no {ops : Array Oper} {o : Oper} {e : Env} {j s : Nat} {t : Bool} (hg : o.guard = some (j, t)) (hj : (ops[j]?).bind (·.dst) = some s) (hv : lk e s = some undef) : Want ops o e false := fun _ a hA => by
  have : yielded ops a.tmps j = none := by
    have h1 := hA.get s _ hv
    grind [yielded, undef]
  grind [Region.wanted]
/-- A number as a byte. -/
def u8 (z : Int) : UInt8 := UInt8.ofNat (z % 256).toNat
theorem u8_val (z : Int) : ((u8 z).toNat : Int) = IntKind.u8.wrap z := by
  unfold u8
  simp [IntKind.wrap, IntKind.bits, IntKind.signed]
  omega
section
variable {P : Program} {o : Oper} {e : Env} {w w' : World} {c : Ctx} {L : List Chunk} {R : List Fact} {x : Operand} {v : Value} {k : IntKind} {i : Int} {t : TypeId}
theorem rv_conv8 {s : TypeId} {ds : TypeDesc} (hs : P.underlying s = some ds) (ht : P.underlying t = some (.int .u8)) (ho : o.op = .convert s t x) (hx : ev e x = some (.int k i)) : RunV P o e w (.int .u8 ((u8 i).toNat : Int)) w := by
  grind [u8_val, rv_conv]
theorem rv_convU {s : TypeId} {ds : TypeDesc} {b : UInt8} (hs : P.underlying s = some ds) (ht : P.underlying t = some (.int .i64)) (ho : o.op = .convert s t x) (hx : ev e x = some (.int .u8 (b.toNat : Int))) : RunV P o e w (.int .i64 (b.toNat : Int)) w := by
  have h := rv_conv (w := w) hs ht ho hx
  have hb := b.toNat_lt
  grind [IntKind.wrap, IntKind.bits]
theorem rv_nilf {fn : Fn} {fs cs : Array Value} (ho : o.op = .nilCheck x) (hm : ∀ n, fn ≠ .method n) (hx : ev e x = some (.func fn fs cs)) : RunV P o e w (.func fn fs cs) w := fun _ a hA => by
  cases fn <;> simp_all [execOp, hA.eval hx]
theorem cell1 {b j : Nat} {v : Value} (h : CellsAt w b j [v]) : w.cell? ⟨b, j, none⟩ = some v := by simpa using h 0 v rfl
theorem CellsAt.sub {b j m : Nat} {cs cs' : List Value} (h : CellsAt w b j cs) (k : Nat) (hj : (cs.drop k).take cs'.length = cs') (hm : j + k = m) : CellsAt w b m cs' := by
  subst hm
  intro q u hq
  have hlt := (List.getElem?_eq_some_iff.1 hq).1
  rw [← hj] at hq
  rw [List.getElem?_take, if_pos (by omega), List.getElem?_drop] at hq
  have := h (k + q) u hq
  grind
theorem rd_one_cell {α : Type} [Rep α] {S : Foot} {cs : List Value} {d : List α} (h : Rep.rd S w cs d) : ∃ v, cs = [v] := by
  obtain ⟨a, c, h, _⟩ := (show rdSlice S w cs d from h)
  grind
theorem rd_nil {α : Type} [Rep α] {S : Foot} : Rep.rd S w [.slice none 0 0] ([] : List α) := ⟨none, 0, rfl, Nat.le_refl _, Nat.zero_le _, .inl rfl⟩
theorem el_Int {S : Foot} {s : Value} {l : List Int} {i : Nat} {x : Int} (h : Rep.rd S w [s] l) (hi : l[i]? = some x) : CellsAt w (elB s) (elO 1 i s) [.int .i64 x] := by
  obtain ⟨ec, h1, h2⟩ := rd_el h hi
  have h2 : ec = [_] := h2
  (simp_all;omega)
theorem el_Bool {S : Foot} {s : Value} {l : List Bool} {i : Nat} {x : Bool} (h : Rep.rd S w [s] l) (hi : l[i]? = some x) : CellsAt w (elB s) (elO 1 i s) [.bool x] := by
  obtain ⟨ec, h1, h2⟩ := rd_el h hi
  have h2 : ec = [_] := h2
  (simp_all;omega)
theorem el_UInt8 {S : Foot} {s : Value} {l : List UInt8} {i : Nat} {x : UInt8} (h : Rep.rd S w [s] l) (hi : l[i]? = some x) : CellsAt w (elB s) (elO 1 i s) [.int .u8 (x.toNat : Int)] := by
  obtain ⟨ec, h1, h2⟩ := rd_el h hi
  have h2 : ec = [_] := h2
  (simp_all;omega)
theorem el_GStr {S : Foot} {s : Value} {l : List GStr} {i : Nat} {x : GStr} (h : Rep.rd S w [s] l) (hi : l[i]? = some x) : CellsAt w (elB s) (elO 1 i s) [sv x.b] := by
  obtain ⟨ec, h1, h2⟩ := rd_el h hi
  have h2 : ec = [_] := h2
  (simp_all;omega)

/-- A fact, and what may be put beside it. -/
theorem St.factS (h : St c w L R) {f : Fact} {j : Nat} (hj : R[j]? = some f) : ∃ S, f.P S w ∧ ∀ Gs : List Fact, (∀ g ∈ Gs, g.P S w) → St c w L (R ++ Gs) := by
  obtain ⟨F, S, a1, a2, a3, a4, a5, a6⟩ := h.sep
  refine ⟨S, a6 f (List.mem_of_getElem? hj), fun Gs hG => ⟨h.keep, ⟨F, S, a1, a2, a3, a4, a5, fun g hg => ?_⟩, h.apart⟩⟩
  grind
/-- The cells of a box that is never written again. -/
def fCells (b : Nat) (cs : List Value) : Fact where
  P := fun S w => CellsAt w b 0 cs ∧ ∀ o, inRow b 0 cs.length b o → S b o
  agree := fun ⟨h1, h2⟩ ha => ⟨h1.agree fun o h3 h4 => ha b o (h2 o ⟨rfl, h3, h4⟩), h2⟩
  mono := fun ⟨h1, h2⟩ ha => ⟨h1, fun o h => ha b o (h2 o h)⟩
theorem St.fcell (h : St c w L R) {b : Nat} {cs : List Value} (i : Nat) {j : Nat} (hi : R[i]? = some (fCells b cs)) (hj : cs[j]? = some v) : w.cell? ⟨b, j, none⟩ = some v := by
  have h1 : CellsAt w b 0 cs := (h.fact i hi).1
  simpa using h1 j v hj
theorem St.fcells (h : St c w L R) {b : Nat} {cs cs' : List Value} (i j : Nat) (hi : R[i]? = some (fCells b cs)) (hj : (cs.drop j).take cs'.length = cs') : CellsAt w b j cs' := by
  intro m u hm
  have hlt := (List.getElem?_eq_some_iff.1 hm).1
  refine h.fcell i hi ?_
  grind
theorem St.leakBox (h : St c w L R) {b : Nat} {cs : List Value} (i : Nat) (hi : L[i]? = some (cBox b cs)) : St c w (L.set i cNo) (R ++ [fCells b cs]) := by
  have h1 := h.take i hi
  obtain ⟨F, S, ⟨F1, F2, h1, h2, hd, hF⟩, a2, a3, a4, a5, a6⟩ := h1.sep
  have hlt : ∀ b' o, F1 b' o → b' < w.heap.size := fun _ _ hf => Chunk.lt (cBox b cs) h1 hf
  obtain ⟨g1, g2, g3⟩ := h1
  refine ⟨h.keep, ⟨F2, fun b o => S b o ∨ F1 b o, h2, ?_, fun b o hf => a3 b o ((hF b o).2 (.inr hf)), ?_, ?_, ?_⟩, h.apart⟩
  · rintro b o hf (hs | hs)
    · exact a2 b o ((hF b o).2 (.inr hf)) hs
    · exact hd b o hs hf
  · grind
  · grind
  · intro f hf
    rcases List.mem_append.1 hf with hf | hf
    · exact f.mono (a6 f hf) fun b o hs => .inl hs
    · simp at hf; subst hf
      exact ⟨g1, fun o ho => .inr ((g3 b o).2 ho)⟩
/-- A fact of an earlier world. -/
theorem keepP {f : Fact} (h : f.P (All w) w) (hk : Keep F0 w w') : f.P (All w') w' :=
  f.mono (f.agree h fun b o hb => hk.cell b o hb fun h => h) fun _ _ hb => Nat.lt_of_lt_of_le hb hk.size

/-- The chunks that are named, no one twice. -/
def pick (L : List Chunk) : List Nat → List Chunk
  | [] => []
  | i :: r => (L[i]?).getD cNo :: pick L r
def apartB : List Nat → Bool
  | [] => true
  | i :: r => (r.all fun j => !Nat.beq i j) && apartB r
theorem pick_set {L : List Chunk} {i : Nat} : ∀ {is : List Nat}, (is.all fun j => !Nat.beq i j) = true → pick (L.set i cNo) is = pick L is
  | [], _ => rfl
  | j :: r, h => by
    simp only [List.all_cons, Bool.and_eq_true, Bool.not_eq_true'] at h
    have hne : i ≠ j := fun e => by simp_all
    simp only [pick, pick_set h.2, List.getElem?_set_ne hne]
theorem Sep.pick {w : World} : ∀ {is : List Nat} {L : List Chunk} {F : Foot}, apartB is = true → Sep w L F → ∃ F1 F2, Sep w (pick L is) F1 ∧ F1.disj F2 ∧ ∀ b o, F b o ↔ F1 b o ∨ F2 b o
  | [], L, F, _, _ => ⟨F0, F, fun _ _ h => h, fun _ _ h _ => h, fun b o => by simp [F0]⟩
  | i :: r, L, F, ha, h => by
    simp only [apartB, Bool.and_eq_true] at ha
    have h' : Sep w ((L[i]?).getD cNo :: L.set i cNo) F := by
      cases hi : L[i]? with
      | some ch => grind [Sep.take]
      | none =>
        rw [List.set_eq_of_length_le (List.getElem?_eq_none_iff.1 hi)]
        exact ⟨F0, F, fun _ _ h => h, h, fun _ _ h _ => h, fun b o => by simp [F0]⟩
    obtain ⟨F1, F2, h1, h2, hd, hF⟩ := h'
    obtain ⟨G1, G2, g1, gd, hG⟩ := Sep.pick ha.2 h2
    rw [pick_set ha.1] at g1
    exact ⟨fun b o => F1 b o ∨ G1 b o, G2, ⟨F1, G1, h1, g1, fun b o h g => hd b o h ((hG b o).2 (.inl g)), fun _ _ => Iff.rfl⟩,
      fun b o h g => h.elim (fun h => hd b o h ((hG b o).2 (.inr g))) (fun h => gd b o h g), fun b o => by grind⟩
theorem St.sel (h : St c w L R) (is : List Nat) (ha : apartB is = true) : St c w (pick L is) R := by
  obtain ⟨F, S, a1, a2, a3, a4, a5, a6⟩ := h.sep
  obtain ⟨F1, F2, h1, hd, hF⟩ := Sep.pick ha a1
  exact ⟨h.keep, ⟨F1, S, h1, fun b o hf => a2 b o ((hF b o).2 (.inl hf)), fun b o hf => a3 b o ((hF b o).2 (.inl hf)), a4, a5, a6⟩, h.apart⟩
def fYes : Fact := ⟨fun _ _ => True, fun _ _ => trivial, fun _ _ => trivial⟩
def pickF (R : List Fact) : List Nat → List Fact
  | [] => []
  | i :: r => (R[i]?).getD fYes :: pickF R r
theorem St.selR (h : St c w L R) (is : List Nat) (_h : true = true) : St c w L (pickF R is) := by
  obtain ⟨F, S, a1, a2, a3, a4, a5, a6⟩ := h.sep
  refine ⟨h.keep, ⟨F, S, a1, a2, a3, a4, a5, ?_⟩, h.apart⟩
  induction is with
  | nil => intro f hf; cases hf
  | cons i r ih =>
    intro f hf
    rcases List.mem_cons.1 hf with hf | hf
    · subst hf
      cases hi : R[i]? with
      | some g => grind
      | none => trivial
    grind

/-- A struct that is built. -/
theorem rv_build {z : Value} {fs : Array Field} {places : Array (Nat × Nat)} {ps : List (Nat × Operand)} {vs : List Value} {cells : Array Value} (ho : o.op = .build t ps.toArray) (hz : ∀ w, (zeroValue t).run P w = .ok z w) (hu : P.underlying t = some (.struct fs))
    (hp : ∀ w, (fs.mapM fun f => (do pure (f.offset, ← sizeOf f.type) : Sem (Nat × Nat))).run P w = .ok places w) (hv : evs e (ps.map (·.2)) = some vs) (hc : Instr.fill (places[·]?) z.cells ((ps.map (·.1)).zip vs) = some cells) : RunV P o e w (.agg cells) w := fun _ a hA => by
  have h1 : ps.map (fun p => (p.1, a.eval p.2)) = (ps.map (·.1)).zip vs := by
    rw [← evs_map hA hv]
    grind
  simp [execOp, ho, Instr.build, hz, run_underlying hu]
  simp_all
end
theorem eqf_nil {P : Program} {w : World} (d : Nat) (xs ys : Array Value) : (Op.eqFields d xs ys []).run P w = .ok true w := by simp [Op.eqFields]
theorem eqf_cons {P : Program} {w : World} (d : Nat) (xs ys : Array Value) (f : Field) (fs : List Field) {p q : Value} {b b' : Bool} (hn : (f.name == "_") = false) (hx : (part f.type xs f.offset).run P w = .ok p w) (hy : (part f.type ys f.offset).run P w = .ok q w) (he : (Op.equalIn d f.type p q).run P w = .ok b w) (hr : (Op.eqFields d xs ys fs).run P w = .ok b' w) :
    (Op.eqFields d xs ys (f :: fs)).run P w = .ok (b && b') w := by
  simp only [beq_eq_false_iff_ne, ne_eq] at hn
  cases b <;> simp [Op.eqFields, hn, hx, hy, he, hr]
theorem part1 {P : Program} {w : World} {t : TypeId} {cs : Array Value} {j : Nat} {v : Value} (ha : ∀ w, (isAgg t).run P w = .ok false w) (hv : cs[j]? = some v) : (part t cs j).run P w = .ok v w := by simp_all [part]
theorem partN {P : Program} {w : World} {t : TypeId} {cs vs : Array Value} {j m : Nat} (ha : ∀ w, (isAgg t).run P w = .ok true w) (hz : ∀ w, (sizeOf t).run P w = .ok m w) (hv : cs.extract j (j + m) = vs) : (part t cs j).run P w = .ok (.agg vs) w := by simp_all [part]
theorem rv_eqS {P : Program} {o : Oper} {e : Env} {w : World} {x y : Operand} {t z' : TypeId} {xs ys : Array Value} {fs : Array Field} {b : Bool} (hg : P.eqGuardType P.depth t = false) (hst : P.stoodInHeld t = false) (hu : P.underlying t = some (.struct fs)) (hb : ∀ w, (Op.eqFields 9999 xs ys (match P.underlying t with | some (.struct fs) => fs | _ => #[]).toList).run P w = .ok b w) (ho : o.op = .binOp .eql t x y z') (hx : ev e x = some (.agg xs)) (hy : ev e y = some (.agg ys)) : RunV P o e w (.bool b) w := fun _ a hA => by
  have hf : P.fieldsOf t = fs := by grind [Program.fieldsOf]
  rw [hu] at hb
  have h1 : binOp .eql t (.agg xs) (.agg ys) = (do pure (.bool (← Op.equal t (.agg xs) (.agg ys)))) := rfl
  simp [execOp, ho, hA.eval hx, hA.eval hy, run_eqGuard_agg _ _ _ _ _ _ _ hg, h1, Op.equal, Op.maxDepth, run_equalIn_struct _ _ _ _ _ (by grind) hst, hf, hb]
theorem rv_neqS {P : Program} {o : Oper} {e : Env} {w : World} {x y : Operand} {t z' : TypeId} {xs ys : Array Value} {fs : Array Field} {b : Bool} (hg : P.eqGuardType P.depth t = false) (hst : P.stoodInHeld t = false) (hu : P.underlying t = some (.struct fs)) (hb : ∀ w, (Op.eqFields 9999 xs ys (match P.underlying t with | some (.struct fs) => fs | _ => #[]).toList).run P w = .ok b w) (ho : o.op = .binOp .neq t x y z') (hx : ev e x = some (.agg xs)) (hy : ev e y = some (.agg ys)) : RunV P o e w (.bool (!b)) w := fun _ a hA => by
  have hf : P.fieldsOf t = fs := by grind [Program.fieldsOf]
  rw [hu] at hb
  have h1 : binOp .neq t (.agg xs) (.agg ys) = (do pure (.bool (!(← Op.equal t (.agg xs) (.agg ys))))) := rfl
  simp [execOp, ho, hA.eval hx, hA.eval hy, run_eqGuard_agg _ _ _ _ _ _ _ hg, h1, Op.equal, Op.maxDepth, run_equalIn_struct _ _ _ _ _ (by grind) hst, hf, hb]
theorem ei_int {P : Program} {w : World} {d : Nat} {t : TypeId} {k' : IntKind} {k : IntKind} {a b : Int} (h : P.underlying t = some (.int k')) : (Op.equalIn (d + 1) t (.int k a) (.int k b)).run P w = .ok (a == b) w := run_equalIn_int w d t k k' a b h
theorem ei_bool {P : Program} {w : World} {d : Nat} {t : TypeId} {a b : Bool} (h : P.underlying t = some .bool) : (Op.equalIn (d + 1) t (.bool a) (.bool b)).run P w = .ok (a == b) w := run_equalIn_bool' w d t a b h
theorem ei_struct {P : Program} {w : World} {d : Nat} {t : TypeId} {xs ys : Array Value} {fs : Array Field} {b : Bool} (hst : P.stoodInHeld t = false) (hu : P.underlying t = some (.struct fs)) (hb : (Op.eqFields d xs ys (match P.underlying t with | some (.struct fs) => fs | _ => #[]).toList).run P w = .ok b w) : (Op.equalIn (d + 1) t (.agg xs) (.agg ys)).run P w = .ok b w := by
  grind [Program.fieldsOf, run_equalIn_struct]

/-! ### Regions whose order is drawn -/
def AnyH (P : Program) (ops : Array Oper) (Q : Exit → Act → World → Prop) (S : World → Prop) (fuel : Nat) (listed : Array Bool) (n : Nat) (e : Env) (w : World) : Prop := ∀ a, AEnv n e a → wpAnyH P .any ops Q S fuel listed a w
/-- What stays through the region. -/
abbrev Keeps (c : Ctx) (L : List Chunk) (R : List Fact) : World → Prop := fun w => ∃ L', St c w (L ++ L') R
section
variable {P : Program} {ops : Array Oper} {N : Act → World → Prop} {X : Nat → Act → World → Prop} {T : Act → World → Prop} {S : World → Prop} {fuel n d i : Nat} {listed : Array Bool} {e : Env} {w w' : World} {o : Oper} {v : Value}
theorem cw_any {id : Nat} {a : Act} {c : Ctx} {L : List Chunk} {R : List Fact} (S : World → Prop) (hm : P.follows .mixedOrders = true) (hA : AEnv n e a) (hS : St c w L R) (h : ∀ w', St c w' L R → AnyH P ops (mkQ N X T) S ops.size (Array.replicate ops.size false) n e w') : CW P (.region id ops true) N X T a w :=
  wp_region_any hm (wpAny_of_held _ _ _ _ (h _ (hS.same (Keep.drew F0 w)) a hA))
theorem any_done (hr : Region.ready .any ops listed = []) (h : ∀ a, AEnv n e a → N a w) : AnyH P ops (mkQ N X T) S fuel listed n e w := fun a hA => wpAnyH_done hr (h a hA) fuel
theorem any_case {s : Nat} {b : Bool} {Q : Exit → Act → World → Prop} (_hv : lk e s = some (.bool b)) (ht : b = true → AnyH P ops Q S fuel listed n e w) (hf : b = false → AnyH P ops Q S fuel listed n e w) : AnyH P ops Q S fuel listed n e w := by
  grind
theorem any_v (i : Nat) (hs : Region.noSelect ops = true) (hi : ops[i]? = some o) (hf : Region.free .any ops listed i = true) (hr : (Region.ready .any ops listed).contains i = true) (hS : S w) (hv : ∀ w', S w' → RunV P o e w' v w') (hw : Want ops o e true) (hd : o.dst = some d) (hn : Nat.blt d n = true)
    (k : AnyH P ops (mkQ N X T) S fuel (listed.setIfInBounds i true) n ((d, v) :: e) w) : AnyH P ops (mkQ N X T) S (fuel + 1) listed n e w := fun a hA => by
  refine wpAnyH_take (v := v) hi hs hf hr (fun _ _ _ h => h.elim) (.inl ⟨hw n a hA, fun w' hS' => hv w' hS' n a hA⟩) hS ?_
  rw [hd]
  exact k _ (hA.put (by simp_all) v)
theorem any_off (i : Nat) (hs : Region.noSelect ops = true) (hi : ops[i]? = some o) (hf : Region.free .any ops listed i = true) (hr : (Region.ready .any ops listed).contains i = true) (hS : S w) (hw : Want ops o e false) (hd : o.dst = some d) (hn : Nat.blt d n = true)
    (k : AnyH P ops (mkQ N X T) S fuel (listed.setIfInBounds i true) n ((d, undef) :: e) w) : AnyH P ops (mkQ N X T) S (fuel + 1) listed n e w := fun a hA => by
  refine wpAnyH_take (v := undef) hi hs hf hr (fun _ _ _ h => h.elim) (.inr ⟨hw n a hA, rfl⟩) hS ?_
  rw [hd]
  exact k _ (hA.put (by simp_all) undef)
/-- One of those that may come up. -/
def AStep (P : Program) (ops : Array Oper) (Q : Exit → Act → World → Prop) (S : World → Prop) (fuel : Nat) (listed : Array Bool) (n : Nat) (e : Env) (w : World) (i : Nat) : Prop := ∀ a, AEnv n e a → wpOp P ops Q i (fun a' w' => S w' ∧ wpAnyH P .any ops Q S fuel (listed.setIfInBounds i true) a' w') a w
theorem any_1 {Q : Exit → Act → World → Prop} (hr : Region.ready .any ops listed = [i]) (h : AStep P ops Q S fuel listed n e w i) : AnyH P ops Q S (fuel + 1) listed n e w := fun a hA =>
  wpAnyH_all hr (by simp) fun j hj => by simp at hj; subst hj; exact h a hA
theorem any_2 {Q : Exit → Act → World → Prop} {i j : Nat} (hr : Region.ready .any ops listed = [i, j]) (h : AStep P ops Q S fuel listed n e w i) (h2 : AStep P ops Q S fuel listed n e w j) : AnyH P ops Q S (fuel + 1) listed n e w := fun a hA =>
  wpAnyH_all hr (by simp) fun k hk => by
    simp at hk
    rcases hk with hk | hk
    · subst hk; exact h a hA
    · subst hk; exact h2 a hA
theorem any_3 {Q : Exit → Act → World → Prop} {i j m : Nat} (hr : Region.ready .any ops listed = [i, j, m]) (h : AStep P ops Q S fuel listed n e w i) (h2 : AStep P ops Q S fuel listed n e w j) (h3 : AStep P ops Q S fuel listed n e w m) : AnyH P ops Q S (fuel + 1) listed n e w := fun a hA =>
  wpAnyH_all hr (by simp) fun k hk => by
    simp at hk
    rcases hk with hk | hk | hk
    · subst hk; exact h a hA
    · subst hk; exact h2 a hA
    · subst hk; exact h3 a hA
theorem as_v {Q : Exit → Act → World → Prop} (hi : ops[i]? = some o) (hr : RunV P o e w v w') (hw : Want ops o e true) (hd : o.dst = some d) (hn : Nat.blt d n = true) (hS : S w') (k : AnyH P ops Q S fuel (listed.setIfInBounds i true) n ((d, v) :: e) w') : AStep P ops Q S fuel listed n e w i := fun a hA => by
  unfold wpOp
  simp only [hi, hw n a hA, if_true]
  refine .inl ?_
  unfold Oper.wp
  rw [hr n a hA, Oper.upon_value, hd]
  exact ⟨hS, k _ (hA.put (by simp_all) v)⟩
theorem as_mv {Q : Exit → Act → World → Prop} {K : Value → World → Prop} (hi : ops[i]? = some o) (hr : ∃ v w', RunV P o e w v w' ∧ K v w') (hw : Want ops o e true) (hd : o.dst = some d) (hn : Nat.blt d n = true) (k : ∀ v w', K v w' → S w' ∧ AnyH P ops Q S fuel (listed.setIfInBounds i true) n ((d, v) :: e) w') : AStep P ops Q S fuel listed n e w i := by
  grind [as_v]
theorem as_ms {Q : Exit → Act → World → Prop} {K : World → Prop} (hi : ops[i]? = some o) (hr : ∃ w', RunS P o e w w' ∧ K w') (hw : Want ops o e true) (hd : o.dst = none) (k : ∀ w', K w' → S w' ∧ AnyH P ops Q S fuel (listed.setIfInBounds i true) n e w') : AStep P ops Q S fuel listed n e w i := fun a hA => by
  obtain ⟨w', hr, hK⟩ := hr
  unfold wpOp
  simp only [hi, hw n a hA, if_true]
  refine .inl ?_
  unfold Oper.wp
  rw [hr n a hA, Oper.upon_skip, hd]
  exact ⟨(k w' hK).1, (k w' hK).2 _ hA⟩
theorem as_c {Q : Exit → Act → World → Prop} {f : FuncId} {args : Array Value} {K : Value → World → Prop} (hi : ops[i]? = some o) (hr : RunC P o e w f args) (hw : Want ops o e true) (hd : o.dst = some d) (hn : Nat.blt d n = true) (hc : Calls P f args w (Ret K)) (k : ∀ v w', K v w' → S w' ∧ AnyH P ops Q S fuel (listed.setIfInBounds i true) n ((d, v) :: e) w') : AStep P ops Q S fuel listed n e w i := fun a hA => by
  unfold wpOp
  simp only [hi, hw n a hA, if_true]
  refine .inl ?_
  unfold Oper.wp
  rw [hr n a hA, Oper.upon_enter]
  refine hc.mono fun en w' ⟨v, hv, h⟩ => ?_
  subst hv
  rw [hd]
  exact ⟨(k v w' h).1, (k v w' h).2 _ (hA.put (by simp_all) v)⟩
theorem as_c0 {Q : Exit → Act → World → Prop} {f : FuncId} {args : Array Value} {K : Value → World → Prop} (hi : ops[i]? = some o) (hr : RunC P o e w f args) (hw : Want ops o e true) (hd : o.dst = none) (hc : Calls P f args w (Ret K)) (k : ∀ v w', K v w' → S w' ∧ AnyH P ops Q S fuel (listed.setIfInBounds i true) n e w') : AStep P ops Q S fuel listed n e w i := fun a hA => by
  unfold wpOp
  simp only [hi, hw n a hA, if_true]
  refine .inl ?_
  unfold Oper.wp
  rw [hr n a hA, Oper.upon_enter]
  refine hc.mono fun en w' ⟨v, hv, h⟩ => ?_
  subst hv
  rw [hd]
  exact ⟨(k v w' h).1, (k v w' h).2 _ hA⟩
/-- An operation that is not carried out, in its turn. -/
theorem as_off {Q : Exit → Act → World → Prop} (hi : ops[i]? = some o) (hw : Want ops o e false) (hd : o.dst = some d) (hn : Nat.blt d n = true) (hS : S w) (k : AnyH P ops Q S fuel (listed.setIfInBounds i true) n ((d, undef) :: e) w) : AStep P ops Q S fuel listed n e w i := fun a hA => by
  unfold wpOp
  simp only [hi, hw n a hA, Bool.false_eq_true, if_false, hd]
  exact ⟨hS, k _ (hA.put (by simp_all) undef)⟩
end
end Go.Gv
end
section
/-
  make, append, stores into elements, for slices of ours. Nothing of a program here.
-/
namespace Go.Gv

/-- A type without memory behind it. -/
class Flat (α : Type) [Rep α] : Prop where
  own_of : ∀ {S : Foot} {w w' : World} {cs : List Value} {d : α}, Rep.rd S w cs d → Rep.own w' cs d F0
  no : ∀ {w : World} {cs : List Value} {d : α} {F : Foot}, Rep.own w cs d F → ∀ b o, ¬ F b o
instance : Flat Int := ⟨fun h => ⟨h, fun _ _ h => h⟩, fun h => h.2⟩
instance : Flat Bool := ⟨fun h => ⟨h, fun _ _ h => h⟩, fun h => h.2⟩
instance : Flat UInt8 := ⟨fun h => ⟨h, fun _ _ h => h⟩, fun h => h.2⟩
instance : Flat GStr := ⟨fun h => ⟨h, fun _ _ h => h⟩, fun h => h.2⟩
instance {α β : Type} [Rep α] [Rep β] [Flat α] [Flat β] : Flat (α × β) := ⟨by
  rintro S w w' cs d ⟨c1, c2, rfl, h1, h2⟩
  exact ⟨c1, c2, F0, F0, rfl, Flat.own_of h1, Flat.own_of h2, fun _ _ h _ => h, fun _ _ => by simp [F0]⟩, by
  rintro w cs d F ⟨c1, c2, F1, F2, _, h1, h2, _, hF⟩ b o h
  exact ((hF b o).1 h).elim (Flat.no h1 b o) (Flat.no h2 b o)⟩
/-- What has no memory behind it owns none. -/
theorem flat_own {α : Type} [Rep α] [Flat α] {w w' : World} {cs : List Value} {d : α} {F : Foot} (h : Rep.own w cs d F) : Rep.own w' cs d F0 := Flat.own_of (Rep.own_rd h)

/-- The cells of a slice's elements, one behind the other. -/
def seg (cc : List Value) (n i : Nat) : List Value := (cc.drop (i * n)).take n
theorem seg_get {cc : List Value} {n i j : Nat} (hj : j < n) : (seg cc n i)[j]? = cc[i * n + j]? := by
  simp_all [seg]
theorem seg_length {cc : List Value} {n i len : Nat} (hc : cc.length = len * n) (hi : i < len) : (seg cc n i).length = n := by
  unfold seg
  rw [List.length_take, List.length_drop, hc]
  have : (i + 1) * n ≤ len * n := Nat.mul_le_mul_right n (by omega)
  grind
theorem cells_some {w : World} {b off : Nat} : ∀ (k : Nat), (∀ j, j < k → (w.cell? ⟨b, off + j, none⟩).isSome = true) → ∃ cc : List Value, cc.length = k ∧ CellsAt w b off cc
  | 0, _ => ⟨[], rfl, fun j v h => by simp at h⟩
  | k + 1, h => by
    obtain ⟨cc, h1, h2⟩ := cells_some k fun j hj => h j (by omega)
    obtain ⟨v, hv⟩ := Option.isSome_iff_exists.1 (h k (by omega))
    refine ⟨cc ++ [v], by simp [h1], fun j u hj => ?_⟩
    rw [List.getElem?_append] at hj
    split at hj
    · exact h2 j u hj
    grind
theorem cells_eq {w : World} {b off n i : Nat} {cc ec : List Value} (h : CellsAt w b off cc) (h2 : CellsAt w b (off + i * n) ec) (he : ec.length = n) (hc : (i + 1) * n ≤ cc.length) : seg cc n i = ec := by
  rw [Nat.add_mul] at hc
  apply List.ext_getElem?
  intro j
  by_cases hj : j < n
  · rw [seg_get hj]
    have h3 := h (i * n + j) cc[i * n + j] (List.getElem?_eq_getElem (by omega))
    have h4 := h2 j ec[j] (List.getElem?_eq_getElem (by omega))
    grind
  grind [seg]
/-- All cells of a slice that reads as l. -/
theorem rd_cells {α : Type} [Rep α] {S : Foot} {w : World} {s : Value} {l : List α} (h : Rep.rd S w [s] l) : ∃ ad c cc, s = .slice ad l.length c ∧ cc.length = l.length * Rep.n α ∧ (l = [] ∨ ∃ b off, ad = some ⟨b, off, none⟩ ∧ CellsAt w b off cc) ∧ ∀ i x, l[i]? = some x → Rep.rd S w (seg cc (Rep.n α) i) x := by
  obtain ⟨ad, c, h1, h2, h3, h4⟩ := (show rdSlice S w [s] l from h)
  simp at h1; subst h1
  rcases h4 with h4 | ⟨b, off, rfl, h4⟩
  · simp_all
  · have hs : ∀ j, j < l.length * Rep.n α → (w.cell? ⟨b, off + j, none⟩).isSome = true := fun j hj => by
      have hn : 0 < Rep.n α := by grind
      have hi : j / Rep.n α < l.length := (Nat.div_lt_iff_lt_mul hn).2 hj
      obtain ⟨ec, e1, _, e2⟩ := h4 _ hi
      have hm := Nat.mod_lt j hn
      have hl := Rep.rd_len e2
      have := e1 (j % Rep.n α) ec[j % Rep.n α] (List.getElem?_eq_getElem (by omega))
      grind [Nat.div_add_mod]
    obtain ⟨cc, c1, c2⟩ := cells_some _ hs
    grind [cells_eq, Rep.rd_len, Nat.mul_le_mul_right]
section
variable {P : Program} {o : Oper} {e : Env} {w w' : World} {c : Ctx} {L : List Chunk} {R : List Fact} {x y : Operand} {t el : TypeId}

theorem one_seg {α : Type} [Rep α] {S : Foot} {cc : List Value} {l : List α} (hc : cc.length = l.length * Rep.n α) (h : ∀ i x, l[i]? = some x → Rep.rd S w (seg cc (Rep.n α) i) x) : ∀ v ∈ cc, v.oneCell' = true := by
  intro v hv
  obtain ⟨j, hj, rfl⟩ := List.getElem_of_mem hv
  have hn : 0 < Rep.n α := by grind
  have hi : j / Rep.n α < l.length := (Nat.div_lt_iff_lt_mul hn).2 (by omega)
  have hm := Nat.mod_lt j hn
  refine Rep.rd_one (h _ _ (List.getElem?_eq_getElem hi)) _ (List.mem_of_getElem? (i := j % Rep.n α) ?_)
  grind [seg_get, Nat.div_add_mod]

/-- A row of ours, of flat elements. -/
theorem own_row {α : Type} [Rep α] [Flat α] {S : Foot} {w w0 : World} {b off cap : Nat} {cc : List Value} {l : List α} (hc : CellsAt w b off cc) (hcl : cc.length = l.length * Rep.n α) (hr : ∀ i x, l[i]? = some x → Rep.rd S w0 (seg cc (Rep.n α) i) x) (hlen : l.length ≤ cap) (hmax : cap ≤ maxLen)
    (hrow : ∀ o, inRow b off (cap * Rep.n α) b o → (w.cell? ⟨b, o, none⟩).isSome = true ∧ w.frozen? ⟨b, o, none⟩ = false) : Rep.own w [.slice (some ⟨b, off, none⟩) l.length cap] l (inRow b off (cap * Rep.n α)) := by
  refine ⟨_, cap, rfl, hlen, hmax, .inr ⟨b, off, fun _ => F0, rfl, hrow, fun i hi => ⟨seg cc (Rep.n α) i, ?_, Flat.own_of (hr i l[i] (List.getElem?_eq_getElem hi))⟩, fun _ _ _ _ _ _ _ h _ => h, fun _ _ _ _ h _ => h, fun b' o => by simp [F0]⟩⟩
  intro j v hj
  have hlt := (List.getElem?_eq_some_iff.1 hj).1
  rw [seg_length hcl hi] at hlt
  rw [seg_get hlt] at hj
  have := hc _ v hj
  grind

/-- The nil slice is ours. -/
theorem St.nilOwn (h : St c w L R) {α : Type} [Rep α] : St c w (L ++ [cOwn [.slice none 0 0] ([] : List α)]) R :=
  h.more (Keep.refl _ _) ⟨F0, ⟨none, 0, rfl, Nat.le_refl _, Nat.zero_le _, .inl ⟨rfl, rfl, fun _ _ h => h⟩⟩, fun _ _ h => h.elim⟩

/-- A new row. -/
theorem new_row {α : Type} [Rep α] [Flat α] {S : Foot} (w0 : World) (hS : St c w L R) (cells : List Value) (rest : List Value) (l : List α) (cap : Nat) (ty : TypeId) (hc : cells.length = l.length * Rep.n α) (hr : ∀ i x, l[i]? = some x → Rep.rd S w0 (seg cells (Rep.n α) i) x) (hcap : (cells ++ rest).length = cap * Rep.n α) (hlen : l.length ≤ cap) (hmax : cap ≤ maxLen) :
    St c (w.alloc (.cells (cells ++ rest).toArray ty)) (L ++ [cOwn [.slice (some ⟨w.heap.size, 0, none⟩) l.length cap] l]) R := by
  have hcell : ∀ j, (w.alloc (.cells (cells ++ rest).toArray ty)).cell? ⟨w.heap.size, j, none⟩ = (cells ++ rest)[j]? := fun j => by simp
  refine hS.more (Keep.alloc _ _ _) ⟨_, own_row (w0 := w0) (cc := cells) (fun j v hj => ?_) hc hr hlen hmax (fun o' ho => ?_), fun b o' hb => Nat.le_of_eq hb.1.symm⟩
  · grind
  · obtain ⟨_, _, h3⟩ := ho
    simp_all

/-- What is known of an element type. -/
def Inf (P : Program) (el : TypeId) (m : Nat) (z : Value) : Prop := ∃ ti, P.info? el = some ti ∧ ti.zero = some z ∧ ti.size = m ∧ ti.bytes ≤ 65536
theorem inf_of {el m b : Nat} {z : Value} (h : (P.info? el).map (fun i => (i.zero, i.size, i.bytes)) = some (some z, m, b)) (hb : Nat.ble b 65536 = true) : Inf P el m z := by
  cases hi : P.info? el with
  | none => grind
  | some ti =>
    rw [hi] at h
    simp at h
    exact ⟨ti, hi, h.1, h.2.1, by simp_all⟩

theorem seg_made {z : Value} {m k i : Nat} (hz : z.cells.size = m) (hi : i < k) : seg (madeCells z.cells (k * m)).toList m i = z.cells.toList := by
  apply List.ext_getElem?
  intro j
  by_cases hj : j < m
  · rw [seg_get hj]
    have h1 : i * m + j < k * m := by
      have : (i + 1) * m ≤ k * m := Nat.mul_le_mul_right m (by omega)
      grind
    simp_all [Nat.mod_eq_of_lt, madeCells]
  grind [seg]

/-- make([]T, n). -/
theorem rv_make {α : Type} [Rep α] [Flat α] {i : Int} {z : Value} {m : Nat} (zd : α) (hS : St c w L R) (hn : Rep.n α = m) (hu : P.underlying t = some (.slice el)) (hinf : Inf P el m z) (hzs : z.cells.size = m) (hzd : ∀ w, Rep.rd F0 w z.cells.toList zd)
    (h01 : 0 ≤ i ∧ i ≤ 4294967296) (ho : o.op = .makeSlice t x y) (hx : ev e x = some (.int .i64 i)) (hy : ev e y = some (.int .i64 i)) :
    ∃ v w', RunV P o e w v w' ∧ St c w' (L ++ [cOwn [v] (List.replicate i.toNat zd)]) R := by
  obtain ⟨h0, h1⟩ := h01
  subst hn
  obtain ⟨ti, hi, hz, hsz, hby⟩ := hinf
  have hb : (ti.bytes : Int) * i ≤ 281474976710656 := by
    have : (ti.bytes : Int) * i ≤ 65536 * 4294967296 := Int.mul_le_mul (by omega) h1 h0 (by omega)
    omega
  have hr := run_make (P := P) w t el ti z hu hi hz .i64 .i64 i i h0 (Int.le_refl _) hb (by omega)
  rw [hsz] at hr
  refine ⟨.slice (some ⟨w.heap.size, 0, none⟩) i.toNat i.toNat, w.alloc (.cells (madeCells z.cells (i.toNat * Rep.n α)) el), fun _ a hA => ?_, ?_⟩
  rotate_left 1
  · have h := new_row (S := F0) w hS (madeCells z.cells (i.toNat * Rep.n α)).toList [] (List.replicate i.toNat zd) i.toNat el (by simp [size_madeCells]) (fun j q hj => by
      simp_all [List.getElem?_replicate, seg_made]) (by simp [size_madeCells]) (by simp) (by grind [maxLen])
    simp_all
  · simp [execOp, ho, hA.eval hx, hA.eval hy, hr]

theorem run_first {α : Type} [Rep α] {ad : Option Addr} {n k : Nat} {cc : List Value} {m : Nat} (hc : cc.length = n * m) (h : n = 0 ∨ ∃ b off, ad = some ⟨b, off, none⟩ ∧ CellsAt w b off cc) : (Builtin.firstCells m n (.slice ad n k)).run P w = .ok cc.toArray w := by
  rcases h with h | ⟨b, off, rfl, h⟩
  · subst h
    have : cc = [] := List.eq_nil_of_length_eq_zero (by omega)
    subst this
    cases ad <;> simp [Builtin.firstCells, loadCells, loadCellsFrom]
  grind [run_loadCells_at, Builtin.firstCells]

theorem rv_append {α : Type} [Rep α] [Flat α] {s s2 z : Value} {l xs : List α} {m : Nat} (i : Nat) (hS : St c w L R) (hi : L[i]? = some (cOwn [s] l)) (hsrc : Rep.rd (All w) w [s2] xs) (hn : Rep.n α = m) (hu : P.underlying t = some (.slice el)) (hinf : Inf P el m z) (hzs : z.cells.size = m)
    (hb : l.length + xs.length ≤ 1073741824) (ho : o.op = .call { callee := .builtin .append, args := #[x, y], argTypes := #[t, t] }) (hx : ev e x = some s) (hy : ev e y = some s2) :
    ∃ v w', RunV P o e w v w' ∧ St c w' (L.set i (cOwn [v] (l ++ xs))) R := by
  subst hn
  obtain ⟨ti, hti, hz, hsz, hby⟩ := hinf
  obtain ⟨ad2, c2, cc2, rfl, hl2, hc2, hr2⟩ := rd_cells hsrc
  obtain ⟨F, hF⟩ := hS.chunk i hi
  have hF : Rep.own w [s] l F := hF
  obtain ⟨ad, cap, cc, rfl, hl1, hc1, hr1⟩ := rd_cells (Rep.own_rd hF)
  obtain ⟨ad', cap', he, hlc, hcm, hrest⟩ := (show ownSlice w [_] l F from hF)
  simp at he
  obtain ⟨rfl, rfl⟩ := he
  have hone2 := one_seg hl2 hr2
  have hsegs : ∀ j q, (l ++ xs)[j]? = some q → Rep.rd (fun b o => True) w (seg (cc ++ cc2) (Rep.n α) j) q := by
    intro j q hj
    rw [List.getElem?_append] at hj
    split at hj
    · rename_i hlt
      have : seg (cc ++ cc2) (Rep.n α) j = seg cc (Rep.n α) j := by
        have hle : (j + 1) * Rep.n α ≤ l.length * Rep.n α := Nat.mul_le_mul_right _ (by omega)
        rw [Nat.add_mul] at hle
        apply List.ext_getElem?
        intro p
        by_cases hp : p < Rep.n α
        · rw [seg_get hp, seg_get hp, List.getElem?_append_left (by omega)]
        · rw [List.getElem?_eq_none (by unfold seg; simp; omega), List.getElem?_eq_none (by unfold seg; simp; omega)]
      rw [this]; exact Rep.rd_mono (hr1 j q hj) fun _ _ _ => trivial
    · rename_i hge
      have : seg (cc ++ cc2) (Rep.n α) j = seg cc2 (Rep.n α) (j - l.length) := by
        apply List.ext_getElem?
        intro p
        by_cases hp : p < Rep.n α
        · have hj2 : j * Rep.n α = l.length * Rep.n α + (j - l.length) * Rep.n α := by rw [← Nat.add_mul]; grind
          rw [seg_get hp, seg_get hp, List.getElem?_append_right (by omega)]
          congr 1; omega
        grind [seg]
      rw [this]; exact Rep.rd_mono (hr2 _ q hj) fun _ _ _ => trivial
  have hlen : (cc ++ cc2).length = (l ++ xs).length * Rep.n α := by grind
  have hsrc' : xs.length = 0 ∨ ∃ b off, ad2 = some ⟨b, off, none⟩ ∧ CellsAt w b off cc2 := hc2.imp (fun h => by simp [h]) id
  have hf2 := run_first (P := P) (α := α) (k := c2) hl2 hsrc'
  have hexec : ∀ (v : Value) (w' : World), (Builtin.append_ #[t, t] o.type #[.slice ad l.length cap, .slice ad2 xs.length c2]).run P w = .ok v w' → RunV P o e w v w' := by
    intro v w' h _ a hA
    simp [execOp, ho, resolve, invoke, builtin, hA.eval hx, hA.eval hy, h]
  by_cases hroom : l.length + xs.length ≤ cap
  · -- in its place
    rcases hrest with ⟨rfl, rfl, _⟩ | ⟨b, off, Fs, rfl, hrow, hel, hd1, hd2, hFF⟩
    · have hl0 : l = [] := List.eq_nil_of_length_eq_zero (by omega)
      have hx0 : xs = [] := List.eq_nil_of_length_eq_zero (by omega)
      subst hl0; subst hx0
      refine ⟨.slice none 0 0, w, hexec _ _ ?_, ?_⟩
      · have hf2 : (Builtin.firstCells (Rep.n α) 0 (.slice ad2 0 c2)).run P w = .ok cc2.toArray w := hf2
        simp [Builtin.append_, run_underlying hu, sizeOf, typeInfo, hti, Builtin.lenOf, hsz, hf2]
      · rw [List.append_nil]
        refine hS.turn i hi fun F hF => ⟨F, F0, Keep.refl _ _, fun _ _ h => h.elim, hF, fun _ _ h => .inl h⟩
    · have hcc : CellsAt w b off cc := by
        rcases hc1 with h | ⟨b', off', h, hc⟩
        · subst h
          have : cc = [] := List.eq_nil_of_length_eq_zero (by grind)
          subst this; intro j v hj; simp at hj
        grind
      have hmul : (l.length + xs.length) * Rep.n α ≤ cap * Rep.n α := Nat.mul_le_mul_right _ hroom
      rw [Nat.add_mul] at hmul
      obtain ⟨w', hst, hk, hws, hcell⟩ := run_storeCells_in (b := b) P cc2 w (off + l.length * Rep.n α) 0 hone2 (fun q _ hq => hrow _ ⟨rfl, by omega, by omega⟩)
      refine ⟨_, w', hexec _ _ (by
        have hadd : (⟨b, off, none⟩ : Addr).add (l.length * Rep.n α) = ⟨b, off + l.length * Rep.n α, none⟩ := by simp [Addr.add]
        simp [Builtin.append_, run_underlying hu, sizeOf, typeInfo, hti, Builtin.lenOf, hsz, hf2, hroom, hadd, hst]
        rfl), ?_⟩
      refine hS.turn i hi fun F2 hF2 => ?_
      have hF2 : ownSlice w [_] l F2 := hF2
      obtain ⟨_, _, he2, _, _, hr⟩ := hF2
      simp at he2
      obtain ⟨rfl, rfl⟩ := he2
      rcases hr with ⟨h, _, _⟩ | ⟨b', off', Fs', h, _, _, _, _, hFF2⟩
      · cases h
      simp at h
      obtain ⟨rfl, rfl⟩ := h
      refine ⟨inRow b off (cap * Rep.n α), _, hk, fun b' o' h => (hFF2 b' o').2 (.inl ?_), ?_, fun b' o' h => .inl ((hFF2 b' o').2 (.inl h))⟩
      · obtain ⟨e1, e2, e3⟩ := h
        exact ⟨e1, by omega, by omega⟩
      · have hcc' : CellsAt w' b off (cc ++ cc2) := by
          intro j v hj
          rw [List.getElem?_append] at hj
          split at hj
          · rename_i hlt
            have hc := hcc j v hj
            rw [hk.cell b (off + j) (World.block_lt_of_cell? w _ hc) (fun hh => by obtain ⟨_, e2, _⟩ := hh; omega)]
            exact hc
          · rename_i hge
            have := hcell _ v hj
            rw [show off + l.length * Rep.n α + 0 + (j - cc.length) = off + j from by omega] at this
            exact this
        have hll : l.length + xs.length = (l ++ xs).length := by simp
        rw [hll]
        exact own_row hcc' hlen hsegs (by simp; omega) hcm (fun o' ho' => ⟨hk.stay b o' (hrow o' ho').1, (hk.frz b o' (lt_of_cell (hrow o' ho').1)).trans (hrow o' ho').2⟩)
  · -- in a new row
    have hbytes : (l.length + xs.length) * ti.bytes ≤ 140737488355328 := by
      have : (l.length + xs.length) * ti.bytes ≤ 1073741824 * 65536 := Nat.mul_le_mul hb hby
      omega
    have hfit := growslice_fits (need := l.length + xs.length) (old := cap) (bytes := ti.bytes) (by omega) hbytes
    obtain ⟨hge, hle⟩ : l.length + xs.length ≤ grownCap w (l.length + xs.length) cap el ∧ grownCap w (l.length + xs.length) cap el ≤ maxLen := ⟨grownCap_ge _ _ _ _, grownCap_le_maxLen _ _ _ _ (by grind [maxLen])⟩
    have hrun : (Builtin.append_ #[t, t] o.type #[.slice ad l.length cap, .slice ad2 xs.length c2]).run P w = .ok (.slice (some ⟨w.heap.size, 0, none⟩) (l.length + xs.length) (grownCap w (l.length + xs.length) cap el)) (w.drew.alloc (.cells (cc.toArray ++ cc2.toArray ++ Builtin.zeroCells z.cells (grownCap w (l.length + xs.length) cap el - (l.length + xs.length))) el)) := by
      have hn1 : ¬ (l.length + xs.length ≤ cap) := hroom
      have h63' : ¬ (9223372036854775807 < ((l.length : Int) + (xs.length : Int))) := by omega
      have h48' : ¬ (281474976710656 < Builtin.nextslicecap (l.length + xs.length) cap * ti.bytes) := by omega
      have hf1 : (Builtin.firstCells (Rep.n α) l.length (.slice ad l.length cap)).run P w.drew = .ok cc.toArray w.drew := run_first (α := α) hl1 (hc1.imp (fun h => by simp [h]) id)
      have hf2 : (Builtin.firstCells (Rep.n α) xs.length (.slice ad2 xs.length c2)).run P w.drew = .ok cc2.toArray w.drew := run_first (α := α) hl2 hsrc'
      simp [Builtin.append_, run_underlying hu, sizeOf, typeInfo, zeroValue, hti, hz, hsz, Builtin.lenOf, hn1, h63', h48', Question.forced, hf1, hf2, newRow, grownCap]
      grind
    refine ⟨_, _, hexec _ _ hrun, ?_⟩
    refine hS.turn i hi fun F2 hF2 => ?_
    have hz2 : (Builtin.zeroCells z.cells (grownCap w (l.length + xs.length) cap el - (l.length + xs.length))).size = (grownCap w (l.length + xs.length) cap el - (l.length + xs.length)) * Rep.n α := by grind [size_zeroCells]
    have htot : ((cc ++ cc2) ++ (Builtin.zeroCells z.cells (grownCap w (l.length + xs.length) cap el - (l.length + xs.length))).toList).length = grownCap w (l.length + xs.length) cap el * Rep.n α := by
      have hz3 : (Builtin.zeroCells z.cells (grownCap w (l.length + xs.length) cap el - (l.length + xs.length))).toList.length = (grownCap w (l.length + xs.length) cap el - (l.length + xs.length)) * Rep.n α := by omega
      rw [List.length_append, hlen, hz3, List.length_append, ← Nat.add_mul]
      grind
    have hst0 : St (cxAll w) w [] [] := St.enter (by simp)
    have hnew := new_row (S := fun b o => True) w (hst0.same (Keep.drew F0 w)) (cc ++ cc2) (Builtin.zeroCells z.cells (grownCap w (l.length + xs.length) cap el - (l.length + xs.length))).toList (l ++ xs) (grownCap w (l.length + xs.length) cap el) el hlen hsegs htot (by simp; omega) hle
    obtain ⟨Fn, hFn⟩ := hnew.chunk 0 rfl
    obtain ⟨Ft, St', ⟨Fa, Fb, ha, _, _, hFab⟩, _, hFt, _⟩ := hnew.sep
    have heq : ((cc ++ cc2) ++ (Builtin.zeroCells z.cells (grownCap w (l.length + xs.length) cap el - (l.length + xs.length))).toList).toArray = cc.toArray ++ cc2.toArray ++ Builtin.zeroCells z.cells (grownCap w (l.length + xs.length) cap el - (l.length + xs.length)) := by
      simp
    rw [heq] at ha
    have hll : l.length + xs.length = (l ++ xs).length := by simp
    refine ⟨Fa, F0, (Keep.drew F0 w).trans (Keep.alloc F0 _ _) (fun _ _ _ h => h), fun _ _ h => h.elim, ?_, fun b' o' h => .inr ?_⟩
    · have ha : Rep.own _ _ (l ++ xs) Fa := ha
      have hsz2 : w.drew.heap.size = w.heap.size := rfl
      grind
    · rcases hFt b' o' ((hFab b' o').2 (.inl h)) with h | h
      · exact h.elim
      · exact h

theorem one_rd {α : Type} [Rep α] {S : Foot} {v : Value} {l : List α} (h : Rep.rd S w [v] l) : v.oneCell' = true := Rep.rd_one h v (by simp)
theorem all1 {v : Value} {l : List Value} (h : v.oneCell' = true) (hl : l.all Value.oneCell' = true) : (v :: l).all Value.oneCell' = true := by grind
theorem cells_rd {α : Type} [Rep α] {S : Foot} {v : Value} {l : List α} (h : Rep.rd S w [v] l) : v.cells.toList = [v] := by
  obtain ⟨a, c, h1, _⟩ := (show rdSlice S w [v] l from h)
  simp at h1; subst h1; rfl

/-- A store into an element, or into a part of one. -/
theorem rs_elem {α : Type} [Rep α] [Flat α] {s v : Value} {l : List α} {q xd : α} {k : Int} {m f i j : Nat} {ecs vs : List Value} (hS : St c w L R) (hi : L[i]? = some (cOwn [s] l)) (hq : idx l k = some q) (hn : Rep.n α = m) (hec : CellsAt w (elB s) (elO m k.toNat s) ecs) (hel : ecs.length = m) (hrd : Rep.rd F0 w (setN ecs f vs) xd)
    (hz : ∀ w, (sizeOf t).run P w = .ok j w) (hj : vs.length = j) (hf : Nat.ble (f + j) m = true) (h1 : vs.all Value.oneCell' = true) (ho : o.op = .store t x y) (hx : ev e x = some (.pointer (some ⟨elB s, elO m k.toNat s + f, none⟩))) (hy : ev e y = some v) (hvs : v.cells.toList = vs) :
    ∃ w', RunS P o e w w' ∧ St c w' (L.set i (cOwn [s] (l.set k.toNat xd))) R := by
  subst hj; subst hn
  have hf' : f + vs.length ≤ Rep.n α := Nat.le_of_ble_eq_true hf
  have h1' : ∀ v ∈ vs, v.oneCell' = true := fun v hv => by grind
  obtain ⟨hk0, hk1, hk2⟩ := idx_some hq
  have hkl : k.toNat < l.length := by omega
  obtain ⟨F, hF⟩ := hS.chunk i hi
  have hF : ownSlice w [s] l F := hF
  obtain ⟨ad, cap, he, hlc, hcm, hrest⟩ := hF
  simp at he; subst he
  rcases hrest with ⟨_, h0, _⟩ | ⟨b, off, Fs, rfl, hrow, hels, hd1, hd2, hFF⟩
  · omega
  simp only [elB, elO] at hec hx
  have hmul : (k.toNat + 1) * Rep.n α ≤ cap * Rep.n α := Nat.mul_le_mul_right _ (by omega)
  rw [Nat.add_mul] at hmul
  obtain ⟨w', hst, hkp, hws, hcell⟩ := run_storeCells_in (b := b) P vs w (off + k.toNat * Rep.n α + f) 0 h1' (fun q _ hq => hrow _ ⟨rfl, by omega, by omega⟩)
  refine ⟨w', fun _ a hA => ?_, ?_⟩
  · have hsize : v.cells.size = vs.length := by grind
    have hr' : (storeCells ⟨b, off + k.toNat * Rep.n α + f, none⟩ v.cells.toList).run P w = .ok () w' := by grind
    simp [execOp, ho, Instr.storeAt, Instr.sureAddr, hA.eval hx, hA.eval hy, storeVar, hz, hsize, hr']
  · refine hS.turn i hi fun F2 hF2 => ?_
    have hF2 : ownSlice w [_] l F2 := hF2
    obtain ⟨_, _, he2, _, _, hr⟩ := hF2
    simp at he2
    obtain ⟨rfl, rfl⟩ := he2
    rcases hr with ⟨h, _, _⟩ | ⟨b', off', Fs', h, _, _, _, _, hFF2⟩
    · cases h
    simp at h
    obtain ⟨rfl, rfl⟩ := h
    refine ⟨inRow b off (cap * Rep.n α), _, hkp, fun b' o' h => (hFF2 b' o').2 (.inl ?_), ?_, fun b' o' h => .inl ((hFF2 b' o').2 (.inl h))⟩
    · obtain ⟨e1, e2, e3⟩ := h
      exact ⟨e1, by omega, by omega⟩
    · refine ⟨_, cap, by simp, by simp; omega, hcm, .inr ⟨b, off, fun _ => F0, rfl, fun o' ho' => ⟨hkp.stay b o' (hrow o' ho').1, (hkp.frz b o' (lt_of_cell (hrow o' ho').1)).trans (hrow o' ho').2⟩, fun p hp => ?_, fun _ _ _ _ _ _ _ h _ => h, fun _ _ _ _ h _ => h, fun b' o => by simp [F0]⟩⟩
      have hpl : p < l.length := by grind
      by_cases hpk : p = k.toNat
      · subst hpk
        refine ⟨setN ecs f vs, fun q u hq => ?_, ?_⟩
        · rw [setN_get vs ecs f q (by omega)] at hq
          split at hq
          · have := hcell _ u hq
            rw [show off + k.toNat * Rep.n α + f + 0 + (q - f) = off + k.toNat * Rep.n α + q from by omega] at this
            exact this
          · have hc := hec q u hq
            rw [hkp.cell b _ (World.block_lt_of_cell? w _ hc) (fun hh => by obtain ⟨_, e2, e3⟩ := hh; omega)]
            exact hc
        grind [Flat.own_of]
      · obtain ⟨ec, c1, c2⟩ := hels p hpl
        have hecl := Rep.rd_len (Rep.own_rd c2)
        refine ⟨ec, c1.agree fun o' h3 h4 => ?_, ?_⟩
        · have hin : b < w.heap.size := by
            have h5 := c1 (o' - (off + p * Rep.n α)) ec[o' - (off + p * Rep.n α)] (List.getElem?_eq_getElem (by omega))
            exact World.block_lt_of_cell? w _ h5
          refine hkp.cell b o' hin fun hh => ?_
          obtain ⟨_, e2, e3⟩ := hh
          rcases Nat.lt_or_gt_of_ne hpk with hlt | hgt
          · have := Nat.mul_le_mul_right (Rep.n α) (show p + 1 ≤ k.toNat from hlt)
            grind
          · have := Nat.mul_le_mul_right (Rep.n α) (show k.toNat + 1 ≤ p from hgt)
            grind
        · rw [List.getElem_set_ne (Ne.symm hpk)]
          exact flat_own c2

/-- All elements read. -/
def RdAll {α : Type} [Rep α] (m : Nat) : List Value → List α → Prop
  | cs, [] => cs = []
  | cs, x :: r => Rep.rd F0 default (cs.take m) x ∧ RdAll m (cs.drop m) r
theorem RdAll.get {α : Type} [Rep α] {m : Nat} (hn : Rep.n α = m) : ∀ {l : List α} {cs : List Value}, RdAll m cs l → cs.length = l.length * m ∧ ∀ i x, l[i]? = some x → Rep.rd F0 default (seg cs m i) x
  | [], cs, h => by
    have h : cs = [] := h
    grind
  | y :: r, cs, ⟨h1, h2⟩ => by
    obtain ⟨h3, h4⟩ := RdAll.get hn h2
    have h5 := Rep.rd_len h1
    rw [List.length_take, hn] at h5
    rw [List.length_drop] at h3
    refine ⟨by simp [Nat.add_mul]; omega, fun i x hx => ?_⟩
    cases i with
    | zero => grind [seg]
    | succ i =>
      grind [seg, List.drop_drop]
/-- A slice that is written out. -/
theorem rv_lit {α : Type} [Rep α] [Flat α] {z : Value} {m len : Nat} {ps : List (Nat × Operand)} {vs cells : List Value} (l : List α) (hS : St c w L R) (hn : Rep.n α = m) (hu : P.underlying t = some (.slice el)) (hinf : Inf P el m z) (hl : l.length = len) (hm : Nat.ble 1 m = true) (hsmall : Nat.ble (len * m) 16777216 = true) (hrd : RdAll m cells l)
    (ho : o.op = .buildSlice t len ps.toArray) (hv : evs e (ps.map (·.2)) = some vs) (hc : Instr.fill (fun i => some (i * m, m)) ((Array.range (len * m)).map (fun i => (if len * m = 0 then #[] else z.cells)[i % (if len * m = 0 then #[] else z.cells).size]!)) ((ps.map (·.1)).zip vs) = some cells.toArray) :
    ∃ v w', RunV P o e w v w' ∧ St c w' (L ++ [cOwn [v] l]) R := by
  subst hl
  obtain ⟨ti, hi, hz, hsz, hby⟩ := hinf
  obtain ⟨h1, h2⟩ := hrd.get hn
  have hsm : ¬ l.length * m > 2 ^ 24 := by simp_all
  have hlm : l.length ≤ 16777216 := by
    have := Nat.le_mul_of_pos_right l.length (Nat.le_of_ble_eq_true hm)
    omega
  have hlmax : l.length ≤ maxLen := by grind [maxLen]
  have hnew := new_row (S := F0) default hS cells [] l l.length el (by grind) (by grind) (by grind) (Nat.le_refl _) hlmax
  rw [List.append_nil] at hnew
  refine ⟨_, _, fun _ a hA => ?_, hnew⟩
  have hps : ps.map (fun p => (p.1, a.eval p.2)) = (ps.map (·.1)).zip vs := by
    rw [← evs_map hA hv]
    grind
  by_cases h0 : l.length * m = 0
  · simp only [h0, if_true] at hc
    simp [execOp, ho, Instr.buildSlice, run_underlying hu, sizeOf, typeInfo, hi, hsz, h0, hps]
    simp_all [newRow]
  · simp only [h0, if_false] at hc
    simp [execOp, ho, Instr.buildSlice, run_underlying hu, sizeOf, typeInfo, zeroValue, hi, hz, hsz, h0, hsm, hps]
    simp_all [newRow]
end
end Go.Gv
end
section
/-
  Slices whose elements have memory behind them: what is ours, opened at an element and shut again. Nothing of a program here.
-/
set_option linter.unusedVariables false
namespace Go.Gv

/-- All elements of a row of cells are ours. -/
def OwnAll {α : Type} [Rep α] (w : World) : List Value → List α → Foot → Prop
  | cs, [], F => cs = [] ∧ ∀ b o, ¬ F b o
  | cs, x :: r, F => ∃ c1 c2 F1 F2, cs = c1 ++ c2 ∧ Rep.own w c1 x F1 ∧ OwnAll w c2 r F2 ∧ Foot.disj F1 F2 ∧ ∀ b o, F b o ↔ F1 b o ∨ F2 b o

theorem OwnAll.congr {α : Type} [Rep α] {w : World} {cs : List Value} {l : List α} {F G : Foot} (h : OwnAll w cs l F) (hFG : ∀ b o, F b o ↔ G b o) : OwnAll w cs l G := by
  have : F = G := by grind
  grind
theorem OwnAll.length {α : Type} [Rep α] {w : World} : ∀ {l : List α} {cs : List Value} {F : Foot}, OwnAll w cs l F → cs.length = l.length * Rep.n α
  | [], cs, F, h => by simp [h.1]
  | x :: r, cs, F, ⟨c1, c2, F1, F2, e, h1, h2, _, _⟩ => by
    have a := Rep.rd_len (Rep.own_rd h1)
    have b := OwnAll.length h2
    grind
theorem OwnAll.keep {α : Type} [Rep α] {w w' : World} {G : Foot} (hk : Keep G w w') : ∀ {l : List α} {cs : List Value} {F : Foot}, OwnAll w cs l F → F.disj G → OwnAll w' cs l F
  | [], cs, F, h, _ => h
  | x :: r, cs, F, ⟨c1, c2, F1, F2, e, h1, h2, hd, hF⟩, hg =>
    ⟨c1, c2, F1, F2, e, Rep.own_keep h1 hk fun b o h g => hg b o ((hF b o).2 (.inl h)) g, OwnAll.keep hk h2 fun b o h g => hg b o ((hF b o).2 (.inr h)) g, hd, hF⟩
theorem OwnAll.lt {α : Type} [Rep α] {w : World} : ∀ {l : List α} {cs : List Value} {F : Foot} {b o : Nat}, OwnAll w cs l F → F b o → b < w.heap.size
  | [], _, _, b, o, h, hf => (h.2 b o hf).elim
  | x :: r, cs, F, b, o, ⟨c1, c2, F1, F2, e, h1, h2, hd, hF⟩, hf => by
    rcases (hF b o).1 hf with h | h
    · exact Rep.own_lt h1 h
    · exact OwnAll.lt h2 h
theorem OwnAll.app {α : Type} [Rep α] {w : World} : ∀ {l m : List α} {cs ds : List Value} {F G H : Foot}, OwnAll w cs l F → OwnAll w ds m G → F.disj G → (∀ b o, H b o ↔ F b o ∨ G b o) → OwnAll w (cs ++ ds) (l ++ m) H
  | [], m, cs, ds, F, G, H, h, k, _, hH => by
    rw [h.1]
    exact OwnAll.congr k fun b o => by rw [hH]; exact ⟨.inr, fun q => q.elim (fun q => (h.2 b o q).elim) id⟩
  | x :: r, m, cs, ds, F, G, H, ⟨c1, c2, F1, F2, e, h1, h2, hd, hF⟩, k, hdj, hH => by
    subst e
    refine ⟨c1, c2 ++ ds, F1, fun b o => F2 b o ∨ G b o, by simp, h1, OwnAll.app h2 k (fun b o p q => hdj b o ((hF b o).2 (.inr p)) q) fun _ _ => Iff.rfl, ?_, fun b o => by grind⟩
    rintro b o p (q | q)
    · exact hd b o p q
    · exact hdj b o ((hF b o).2 (.inl p)) q
theorem OwnAll.split {α : Type} [Rep α] {w : World} : ∀ {l m : List α} {cs : List Value} {H : Foot}, OwnAll w cs (l ++ m) H → ∃ c1 c2 F G, cs = c1 ++ c2 ∧ OwnAll w c1 l F ∧ OwnAll w c2 m G ∧ F.disj G ∧ ∀ b o, H b o ↔ F b o ∨ G b o
  | [], m, cs, H, h => ⟨[], cs, F0, H, rfl, ⟨rfl, fun _ _ h => h⟩, h, fun _ _ h => h.elim, fun b o => by simp [F0]⟩
  | x :: r, m, cs, H, ⟨c1, c2, F1, F2, e, h1, h2, hd, hF⟩ => by
    obtain ⟨d1, d2, G1, G2, e2, k1, k2, kd, kF⟩ := OwnAll.split h2
    subst e; subst e2
    refine ⟨c1 ++ d1, d2, fun b o => F1 b o ∨ G1 b o, G2, by simp, ⟨c1, d1, F1, G1, rfl, h1, k1, fun b o p q => hd b o p ((kF b o).2 (.inl q)), fun _ _ => Iff.rfl⟩, k2, ?_, fun b o => by grind⟩
    rintro b o (p | p) q
    · exact hd b o p ((kF b o).2 (.inr q))
    · exact kd b o p q
theorem OwnAll.one {α : Type} [Rep α] {w : World} {c : List Value} {x : α} {F : Foot} : OwnAll w c [x] F ↔ Rep.own w c x F := by
  constructor
  · rintro ⟨c1, c2, F1, F2, e, h1, ⟨h2, h3⟩, hd, hF⟩
    subst e; subst h2
    have : F = F1 := by grind
    grind
  · intro h
    exact ⟨c, [], F, F0, by simp, h, ⟨rfl, fun _ _ h => h⟩, fun _ _ _ h => h, fun b o => by simp [F0]⟩
theorem OwnAll.rd {α : Type} [Rep α] {w : World} : ∀ {l : List α} {cs : List Value} {F : Foot}, OwnAll w cs l F → ∀ i x, l[i]? = some x → Rep.rd F w (seg cs (Rep.n α) i) x
  | [], cs, F, _, i, x, h => by simp at h
  | y :: r, cs, F, ⟨c1, c2, F1, F2, e, h1, h2, hd, hF⟩, i, x, h => by
    have a := Rep.rd_len (Rep.own_rd h1)
    subst e
    cases i with
    | zero =>
      simp at h; subst h
      have : seg (c1 ++ c2) (Rep.n α) 0 = c1 := by grind [seg]
      rw [this]; exact Rep.rd_mono (Rep.own_rd h1) fun b o q => (hF b o).2 (.inl q)
    | succ i =>
      have : seg (c1 ++ c2) (Rep.n α) (i + 1) = seg c2 (Rep.n α) i := by
        grind [seg, Nat.add_mul, List.drop_drop, List.drop_left]
      rw [this]; exact Rep.rd_mono (OwnAll.rd h2 i x (by grind)) fun b o q => (hF b o).2 (.inr q)

/-- A slice is ours: its row, and what its elements have behind them. -/
def Row (w : World) (b off n : Nat) : Prop := ∀ o, inRow b off n b o → (w.cell? ⟨b, o, none⟩).isSome = true ∧ w.frozen? ⟨b, o, none⟩ = false

theorem els_all {α : Type} [Rep α] {w : World} {b : Nat} : ∀ {l : List α} {off : Nat} {Fs : Nat → Foot}, (∀ i (h : i < l.length), ∃ ec, CellsAt w b (off + i * Rep.n α) ec ∧ Rep.own w ec l[i] (Fs i)) →
    (∀ i j, i < l.length → j < l.length → i ≠ j → Foot.disj (Fs i) (Fs j)) → ∃ cc, CellsAt w b off cc ∧ OwnAll w cc l (fun b' o => ∃ i, i < l.length ∧ Fs i b' o)
  | [], off, Fs, _, _ => ⟨[], fun j v h => by simp at h, rfl, fun b o ⟨i, h, _⟩ => by simp at h⟩
  | x :: r, off, Fs, h, hd => by
    obtain ⟨ec, h1, h2⟩ := h 0 (by simp)
    obtain ⟨cc, h3, h4⟩ := els_all (l := r) (off := off + Rep.n α) (Fs := fun i => Fs (i + 1)) (fun i hi => by
      obtain ⟨ec, k1, k2⟩ := h (i + 1) (by simp; omega)
      exact ⟨ec, by rw [show off + Rep.n α + i * Rep.n α = off + (i + 1) * Rep.n α by grind]; exact k1, by grind⟩)
      fun i j hi hj hij => hd (i + 1) (j + 1) (by simp; omega) (by simp; omega) (by omega)
    have hl := Rep.rd_len (Rep.own_rd h2)
    refine ⟨ec ++ cc, fun j v hj => ?_, ec, cc, Fs 0, _, rfl, by grind, h4, ?_, fun b' o => ?_⟩
    · rw [List.getElem?_append] at hj
      split at hj
      · have := h1 j v hj; grind
      · have := h3 _ v hj
        grind
    · rintro b' o p ⟨i, hi, q⟩
      exact hd 0 (i + 1) (by simp) (by simp; omega) (by omega) b' o p q
    · constructor
      · rintro ⟨i, hi, q⟩
        cases i with
        | zero => exact .inl q
        | succ i => grind
      grind
theorem all_els {α : Type} [Rep α] {w : World} {b : Nat} : ∀ {l : List α} {off : Nat} {cc : List Value} {F : Foot}, CellsAt w b off cc → OwnAll w cc l F →
    ∃ Fs : Nat → Foot, (∀ i (h : i < l.length), ∃ ec, CellsAt w b (off + i * Rep.n α) ec ∧ Rep.own w ec l[i] (Fs i)) ∧ (∀ i j, i < l.length → j < l.length → i ≠ j → Foot.disj (Fs i) (Fs j)) ∧ ∀ b' o, F b' o ↔ ∃ i, i < l.length ∧ Fs i b' o
  | [], off, cc, F, _, h => ⟨fun _ => F0, fun i h => by simp at h, fun i j h => by simp at h, fun b o => ⟨fun q => (h.2 b o q).elim, fun ⟨i, h, _⟩ => by simp at h⟩⟩
  | x :: r, off, cc, F, hc, ⟨c1, c2, F1, F2, e, h1, h2, hd, hF⟩ => by
    have hl := Rep.rd_len (Rep.own_rd h1)
    subst e
    have k1 : CellsAt w b off c1 := fun j v hj => hc j v (by grind)
    have k2 : CellsAt w b (off + Rep.n α) c2 := fun j v hj => by
      have := hc (c1.length + j) v (by grind)
      grind
    obtain ⟨Fs, a1, a2, a3⟩ := all_els k2 h2
    refine ⟨fun i => match i with | 0 => F1 | i + 1 => Fs i, fun i hi => ?_, fun i j hi hj hij => ?_, fun b' o => ?_⟩
    · cases i with
      | zero => grind
      | succ i =>
        obtain ⟨ec, q1, q2⟩ := a1 i (by grind)
        grind
    · cases i with
      | zero =>
        cases j with
        | zero => omega
        | succ j => exact fun b o p q => hd b o p ((a3 b o).2 ⟨j, by grind, q⟩)
      | succ i =>
        cases j with
        | zero => exact fun b o p q => hd b o q ((a3 b o).2 ⟨i, by grind, p⟩)
        | succ j => grind
    · rw [hF, a3]
      constructor
      · rintro (q | ⟨i, hi, q⟩)
        · exact ⟨0, by simp, q⟩
        · exact ⟨i + 1, by simp; omega, q⟩
      · rintro ⟨i, hi, q⟩
        cases i with
        | zero => exact .inl q
        | succ i => grind

theorem own_iff {α : Type} [Rep α] {w : World} {s : Value} {l : List α} {F : Foot} : Rep.own w [s] l F ↔ ∃ a c, s = .slice a l.length c ∧ l.length ≤ c ∧ c ≤ maxLen ∧
    ((a = none ∧ c = 0 ∧ ∀ b o, ¬ F b o) ∨ ∃ b off cc Fe, a = some ⟨b, off, none⟩ ∧ Row w b off (c * Rep.n α) ∧ CellsAt w b off cc ∧ OwnAll w cc l Fe ∧ Foot.disj Fe (inRow b off (c * Rep.n α)) ∧ ∀ b' o, F b' o ↔ inRow b off (c * Rep.n α) b' o ∨ Fe b' o) := by
  show ownSlice w [s] l F ↔ _
  constructor
  · rintro ⟨a, c, e, h1, h2, h3⟩
    simp at e
    refine ⟨a, c, e, h1, h2, h3.imp id ?_⟩
    rintro ⟨b, off, Fs, e2, hr, he, hd1, hd2, hF⟩
    obtain ⟨cc, k1, k2⟩ := els_all he hd1
    exact ⟨b, off, cc, _, e2, hr, k1, k2, fun b o ⟨i, hi, q⟩ p => hd2 i hi b o q p, hF⟩
  · rintro ⟨a, c, e, h1, h2, h3⟩
    refine ⟨a, c, by rw [e], h1, h2, h3.imp id ?_⟩
    rintro ⟨b, off, cc, Fe, e2, hr, k1, k2, hd, hF⟩
    obtain ⟨Fs, a1, a2, a3⟩ := all_els k1 k2
    exact ⟨b, off, Fs, e2, hr, a1, a2, fun i hi b o q p => hd b o ((a3 b o).2 ⟨i, hi, q⟩) p, fun b' o => by rw [hF, a3]⟩

/-! ### Some chunks for others -/
def blank (L : List Chunk) : List Nat → List Chunk
  | [] => L
  | i :: r => blank (L.set i cNo) r
theorem Sep.blank {w : World} : ∀ {is : List Nat} {L : List Chunk} {F : Foot}, apartB is = true → Sep w L F → Sep w (Gv.pick L is ++ Gv.blank L is) F
  | [], L, F, _, h => h
  | i :: r, L, F, ha, h => by
    simp only [apartB, Bool.and_eq_true] at ha
    have hp := pick_set (L := L) ha.1
    show Sep w ((L[i]?).getD cNo :: (Gv.pick L r ++ Gv.blank (L.set i cNo) r)) F
    cases hi : L[i]? with
    | none =>
      have : L.set i cNo = L := List.set_eq_of_length_le (by grind)
      rw [this]
      exact ⟨F0, F, fun _ _ h => h, Sep.blank ha.2 h, fun _ _ h => h.elim, fun b o => by simp [F0]⟩
    | some ch =>
      obtain ⟨F1, F2, h1, h2, hd, hF⟩ := (Sep.take hi).1 h
      exact ⟨F1, F2, h1, by rw [← hp]; exact Sep.blank ha.2 h2, hd, hF⟩
section
variable {c : Ctx} {w w' : World} {L : List Chunk} {R : List Fact}
theorem St.front (h : St c w L R) (is : List Nat) (ha : apartB is = true) : St c w (pick L is ++ blank L is) R := by
  obtain ⟨F, S, hsep, rest⟩ := h.sep
  exact ⟨h.keep, ⟨F, S, Sep.blank ha hsep, rest⟩, h.apart⟩
theorem St.repl (h : St c w L R) (is : List Nat) (ha : apartB is = true) {A' : List Chunk} (hs : ∀ F, Sep w (pick L is) F → ∃ F' G, Keep G w w' ∧ (∀ b o, G b o → F b o) ∧ Sep w' A' F' ∧ ∀ b o, F' b o → F b o ∨ w.heap.size ≤ b) :
    St c w' (blank L is ++ A') R := St.rot (St.step (h.front is ha) hs)
theorem St.shift (h : St c w L R) (is : List Nat) (ha : apartB is = true) {A' : List Chunk} (hs : ∀ F, Sep w (pick L is) F → Sep w A' F) : St c w (blank L is ++ A') R :=
  h.repl is ha fun F hF => ⟨F, F0, Keep.refl _ _, fun _ _ h => h.elim, hs F hF, fun _ _ h => .inl h⟩
end

theorem Sep.one {w : World} {ch : Chunk} {F : Foot} : Sep w [ch] F ↔ ch.P w F := by
  constructor
  · rintro ⟨F1, F2, h1, h2, _, hF⟩
    have : F = F1 := by funext b o; exact propext ((hF b o).trans ⟨fun q => q.elim id fun q => (h2 b o q).elim, .inl⟩)
    grind
  · intro h
    exact ⟨F, F0, h, fun _ _ h => h, fun _ _ _ h => h, fun b o => by simp [F0]⟩

/-! ### An element taken out, and put back -/
/-- The slice but for element k. -/
def cHole {α : Type} [Rep α] (s : Value) (l : List α) (k : Nat) : Chunk where
  P := fun w F => ∃ a c b off c1 c2 F1 F2, s = .slice a l.length c ∧ l.length ≤ c ∧ c ≤ maxLen ∧ k < l.length ∧ a = some ⟨b, off, none⟩ ∧
    (∀ o, inRow b off (c * Rep.n α) b o → ¬ inRow b (off + k * Rep.n α) (Rep.n α) b o → (w.cell? ⟨b, o, none⟩).isSome = true ∧ w.frozen? ⟨b, o, none⟩ = false) ∧
    CellsAt w b off c1 ∧ CellsAt w b (off + (k + 1) * Rep.n α) c2 ∧ OwnAll w c1 (l.take k) F1 ∧ OwnAll w c2 (l.drop (k + 1)) F2 ∧ F1.disj F2 ∧ F1.disj (inRow b off (c * Rep.n α)) ∧ F2.disj (inRow b off (c * Rep.n α)) ∧
    ∀ b' o, F b' o ↔ (inRow b off (c * Rep.n α) b' o ∧ ¬ inRow b (off + k * Rep.n α) (Rep.n α) b' o) ∨ F1 b' o ∨ F2 b' o
  keep := by
    rintro w w' F G ⟨a, c, b, off, c1, c2, F1, F2, e, h1, h2, h3, e2, hr, k1, k2, o1, o2, d1, d2, d3, hF⟩ hk hd
    have hcell : ∀ o, inRow b off (c * Rep.n α) b o → ¬ inRow b (off + k * Rep.n α) (Rep.n α) b o → b < w.heap.size → w'.cell? ⟨b, o, none⟩ = w.cell? ⟨b, o, none⟩ := fun o p q hb => hk.cell b o hb fun g => hd b o ((hF b o).2 (.inl ⟨p, q⟩)) g
    have hn : (k + 1) * Rep.n α ≤ c * Rep.n α := Nat.mul_le_mul_right _ (by omega)
    rw [Nat.add_mul] at hn
    have l1 := o1.length
    have l2 := o2.length
    rw [List.length_take, Nat.min_eq_left (by omega)] at l1
    rw [List.length_drop] at l2
    have hn2 : (l.length - (k + 1)) * Rep.n α + (k + 1) * Rep.n α ≤ c * Rep.n α := by rw [← Nat.add_mul]; exact Nat.mul_le_mul_right _ (by omega)
    refine ⟨a, c, b, off, c1, c2, F1, F2, e, h1, h2, h3, e2, fun o p q => ?_, ?_, ?_, o1.keep hk fun b o p g => hd b o ((hF b o).2 (.inr (.inl p))) g, o2.keep hk fun b o p g => hd b o ((hF b o).2 (.inr (.inr p))) g, d1, d2, d3, hF⟩
    · have := hr o p q
      exact ⟨hk.stay b o this.1, (hk.frz b o (lt_of_cell this.1)).trans this.2⟩
    · by_cases hc : c1 = []
      · subst hc; intro j v h; simp at h
      · refine k1.agree fun o p q => hcell o ⟨rfl, p, by omega⟩ (fun ⟨_, p2, _⟩ => by omega) (k1.lt hc)
    · by_cases hc : c2 = []
      · subst hc; intro j v h; simp at h
      · rw [Nat.add_mul] at k2 hn2
        refine CellsAt.agree (by rw [Nat.add_mul]; exact k2) fun o p q => ?_
        rw [Nat.add_mul] at p q
        exact hcell o ⟨rfl, by omega, by omega⟩ (fun ⟨_, _, p3⟩ => by omega) (k2.lt hc)
  lt := by
    rintro w F b' o ⟨a, c, b, off, c1, c2, F1, F2, e, h1, h2, h3, e2, hr, k1, k2, o1, o2, d1, d2, d3, hF⟩ hf
    rcases (hF b' o).1 hf with ⟨p, q⟩ | p | p
    · have : b' = b := p.1
      subst this
      exact lt_of_cell (hr o p q).1
    · exact o1.lt p
    · exact o2.lt p
theorem cells_split {w : World} {b off : Nat} {c1 c2 : List Value} (h : CellsAt w b off (c1 ++ c2)) : CellsAt w b off c1 ∧ CellsAt w b (off + c1.length) c2 :=
  ⟨fun j v hj => h j v (by grind), fun j v hj => by
    have := h (c1.length + j) v (by grind)
    grind⟩
theorem cells_join {w : World} {b off : Nat} {c1 c2 : List Value} (h1 : CellsAt w b off c1) (h2 : CellsAt w b (off + c1.length) c2) : CellsAt w b off (c1 ++ c2) := fun j v hj => by
  rw [List.getElem?_append] at hj
  split at hj
  · exact h1 j v hj
  · have := h2 _ v hj
    grind
theorem list_cut {α : Type} {l : List α} {k : Nat} {x : α} (h : l[k]? = some x) : l = l.take k ++ ([x] ++ l.drop (k + 1)) := by
  obtain ⟨hk, rfl⟩ := List.getElem?_eq_some_iff.1 h
  simp
theorem list_put {α : Type} {l : List α} {k : Nat} {x : α} (h : k < l.length) : l.set k x = l.take k ++ ([x] ++ l.drop (k + 1)) := by
  rw [List.set_eq_take_append_cons_drop, if_pos h]; simp

theorem own_open {α : Type} [Rep α] {w : World} {s : Value} {l : List α} {k : Nat} {x : α} {F : Foot} (h : Rep.own w [s] l F) (hx : l[k]? = some x) :
    ∃ ec : List Value, Sep w [cHole s l k, cAt (elB s) (elO (Rep.n α) k s) ec, cOwn ec x] F := by
  obtain ⟨a, c, e, h1, h2, h3⟩ := own_iff.1 h
  obtain ⟨hk, _⟩ := List.getElem?_eq_some_iff.1 hx
  rcases h3 with ⟨_, h3, _⟩ | ⟨b, off, cc, Fe, rfl, hr, hc, ho, hd, hF⟩
  · omega
  rw [list_cut hx] at ho
  obtain ⟨c1, c23, F1, F23, rfl, o1, o23, d1, e1⟩ := ho.split
  obtain ⟨ec, c2, F2, F3, rfl, o2, o3, d2, e2⟩ := o23.split
  have l1 := o1.length
  have l2 := o2.length
  have l3 := o3.length
  rw [List.length_take, Nat.min_eq_left (by omega)] at l1
  rw [List.length_drop] at l3
  simp only [List.length_cons, List.length_nil, Nat.zero_add, Nat.one_mul] at l2
  obtain ⟨k1, k23⟩ := cells_split hc
  obtain ⟨k2, k3⟩ := cells_split k23
  rw [l1] at k2 k3
  rw [l2] at k3
  have hn : (k + 1) * Rep.n α ≤ c * Rep.n α := Nat.mul_le_mul_right _ (by omega)
  have hn' := hn
  rw [Nat.add_mul] at hn'
  subst e
  refine ⟨ec, _, fun b' o => inRow b (off + k * Rep.n α) (Rep.n α) b' o ∨ F2 b' o, ⟨some ⟨b, off, none⟩, c, b, off, c1, c2, F1, F3, rfl, h1, h2, hk, rfl, fun o p q => hr o p, k1, ?_, o1, o3, ?_, ?_, ?_, fun _ _ => Iff.rfl⟩, ?_⟩
  · grind
  · exact fun b o p q => d1 b o p ((e2 b o).2 (.inr q))
  · exact fun b o p q => hd b o ((e1 b o).2 (.inl p)) q
  · exact fun b o p q => hd b o ((e1 b o).2 (.inr ((e2 b o).2 (.inr p)))) q
  · refine ⟨⟨inRow b (off + k * Rep.n α) (Rep.n α), F2, ⟨k2, fun o p => (hr o ?_).2, fun b' o => by grind [elB, elO]⟩, Sep.one.2 (OwnAll.one.1 o2), ?_, fun _ _ => Iff.rfl⟩, ?_, fun b' o => ?_⟩
    · obtain ⟨_, p1, p2⟩ := p
      simp only [elO, l2] at p1 p2
      exact ⟨rfl, by omega, by omega⟩
    · rintro b' o ⟨rfl, p1, p2⟩ q
      exact hd b' o ((e1 b' o).2 (.inr ((e2 b' o).2 (.inl q)))) ⟨rfl, by omega, by omega⟩
    · rintro b' o (⟨p, q⟩ | p | p) (u | u)
      · exact q u
      · exact hd b' o ((e1 b' o).2 (.inr ((e2 b' o).2 (.inl u)))) p
      · obtain ⟨rfl, u1, u2⟩ := u
        exact hd b' o ((e1 b' o).2 (.inl p)) ⟨rfl, by omega, by omega⟩
      · exact d1 b' o p ((e2 b' o).2 (.inl u))
      · obtain ⟨rfl, u1, u2⟩ := u
        exact hd b' o ((e1 b' o).2 (.inr ((e2 b' o).2 (.inr p)))) ⟨rfl, by omega, by omega⟩
      · exact d2 b' o u p
    grind [inRow]
theorem own_close {α : Type} [Rep α] {w : World} {s : Value} {l : List α} {k : Nat} {x : α} {ec : List Value} {F : Foot} (h : Sep w [cHole s l k, cAt (elB s) (elO (Rep.n α) k s) ec, cOwn ec x] F) : Rep.own w [s] (l.set k x) F := by
  obtain ⟨G1, G2, ⟨a, c, b, off, c1, c2, F1, F3, e, h1, h2, hk, rfl, hr, k1, k3, o1, o3, d1, d2, d3, hG1⟩, ⟨H1, H2, ⟨k2, hz, hH1⟩, hs, dH, hG2⟩, dG, hF⟩ := h
  have ho : Rep.own w ec x H2 := Sep.one.1 hs
  subst e
  simp only [elB, elO] at k2 hz hH1
  have l1 := o1.length
  have l2 := Rep.rd_len (Rep.own_rd ho)
  have l3 := o3.length
  rw [List.length_take, Nat.min_eq_left (by omega)] at l1
  have hn : (k + 1) * Rep.n α ≤ c * Rep.n α := Nat.mul_le_mul_right _ (by omega)
  have hn' := hn
  rw [Nat.add_mul] at hn'
  rw [l2] at hH1
  refine own_iff.2 ⟨some ⟨b, off, none⟩, c, by simp, by grind, h2, .inr ⟨b, off, c1 ++ (ec ++ c2), fun b' o => F1 b' o ∨ (H2 b' o ∨ F3 b' o), rfl, fun o p => ?_, ?_, ?_, ?_, fun b' o => ?_⟩⟩
  · by_cases q : inRow b (off + k * Rep.n α) (Rep.n α) b o
    · refine ⟨?_, hz o (by grind)⟩
      obtain ⟨_, q1, q2⟩ := q
      have := k2 (o - (off + k * Rep.n α)) _ (List.getElem?_eq_getElem (by omega))
      grind
    grind
  · grind [cells_join]
  · rw [list_put hk]
    refine OwnAll.app o1 (OwnAll.app (OwnAll.one.2 ho) o3 ?_ fun _ _ => Iff.rfl) ?_ fun _ _ => Iff.rfl
    · exact fun b' o p q => dG b' o ((hG1 b' o).2 (.inr (.inr q))) ((hG2 b' o).2 (.inr p))
    · rintro b' o p (q | q)
      · exact dG b' o ((hG1 b' o).2 (.inr (.inl p))) ((hG2 b' o).2 (.inr q))
      · exact d1 b' o p q
  · rintro b' o (p | p | p) q
    · exact d2 b' o p q
    · by_cases u : inRow b (off + k * Rep.n α) (Rep.n α) b' o
      · exact dH b' o ((hH1 b' o).2 u) p
      · exact dG b' o ((hG1 b' o).2 (.inl ⟨q, u⟩)) ((hG2 b' o).2 (.inr p))
    · exact d3 b' o p q
  grind [inRow]
end Go.Gv
end
section
/-
  make, append, literals, packing and unpacking for slices whose elements have memory behind them.
-/
set_option linter.unusedVariables false
namespace Go.Gv

/-- What is ours of the cells cs as d is these chunks. -/
def OP {α : Type} [Rep α] (cs : List Value) (d : α) (A : List Chunk) : Prop := ∀ w F, Rep.own w cs d F ↔ Sep w A F
theorem op_flat {α : Type} [Rep α] [Flat α] {cs : List Value} {d : α} (h : Rep.rd F0 default cs d) : OP cs d [] := fun w F => by
  constructor
  · intro k; exact Flat.no k
  · intro k
    have : F = F0 := by funext b o; exact propext ⟨fun q => (k b o q).elim, fun q => q.elim⟩
    grind [Flat.own_of]
theorem op_own {α : Type} [Rep α] {cs : List Value} {d : α} : OP cs d [cOwn cs d] := fun w F => (Sep.one (ch := cOwn cs d)).symm
theorem op_pair {α β : Type} [Rep α] [Rep β] {c1 c2 : List Value} {d : α × β} {A B : List Chunk} (h1 : OP c1 d.1 A) (h2 : OP c2 d.2 B) (hl : c1.length = Rep.n α) : OP (c1 ++ c2) d (A ++ B) := fun w F => by
  constructor
  · rintro ⟨e1, e2, F1, F2, e, k1, k2, hd, hF⟩
    have hl2 := Rep.rd_len (Rep.own_rd k1)
    obtain ⟨rfl, rfl⟩ := List.append_inj e (by omega)
    exact Sep.append.2 ⟨F1, F2, (h1 w F1).1 k1, (h2 w F2).1 k2, hd, hF⟩
  · intro k
    obtain ⟨F1, F2, k1, k2, hd, hF⟩ := Sep.append.1 k
    exact ⟨c1, c2, F1, F2, rfl, (h1 w F1).2 k1, (h2 w F2).2 k2, hd, hF⟩

section
variable {P : Program} {o : Oper} {e : Env} {w w' : World} {c : Ctx} {L : List Chunk} {R : List Fact} {x y : Operand} {t el : TypeId}

theorem St.open (h : St c w L R) {α : Type} [Rep α] {s : Value} {l : List α} {k : Nat} {q : α} (i : Nat) (hi : L[i]? = some (cOwn [s] l)) (hq : l[k]? = some q) :
    ∃ ec, St c w (L.set i cNo ++ [cHole s l k, cAt (elB s) (elO (Rep.n α) k s) ec, cOwn ec q]) R := by
  have h1 : St c w ([cOwn [s] l] ++ L.set i cNo) R := h.take i hi
  obtain ⟨F, S, hsep, rest⟩ := h1.sep
  obtain ⟨F1, F2, g1, g2, gd, gF⟩ := Sep.append.1 hsep
  obtain ⟨ec, hec⟩ := own_open (Sep.one.1 g1) hq
  exact ⟨ec, St.rot ⟨h1.keep, ⟨F, S, Sep.append.2 ⟨F1, F2, hec, g2, gd, gF⟩, rest⟩, h1.apart⟩⟩
theorem St.unpack (h : St c w L R) {α : Type} [Rep α] {cs : List Value} {d : α} {A' : List Chunk} (i : Nat) (hi : L[i]? = some (cOwn cs d)) (ho : OP cs d A') : St c w (L.set i cNo ++ A') R := by
  have h1 : St c w ([cOwn cs d] ++ L.set i cNo) R := h.take i hi
  obtain ⟨F, S, hsep, rest⟩ := h1.sep
  obtain ⟨F1, F2, g1, g2, gd, gF⟩ := Sep.append.1 hsep
  exact St.rot ⟨h1.keep, ⟨F, S, Sep.append.2 ⟨F1, F2, (ho w F1).1 (Sep.one.1 g1), g2, gd, gF⟩, rest⟩, h1.apart⟩
theorem St.pack (h : St c w L R) {α : Type} [Rep α] {cs : List Value} {d : α} {A' : List Chunk} (is : List Nat) (ha : apartB is = true) (hp : pick L is = A') (ho : OP cs d A') : St c w (blank L is ++ [cOwn cs d]) R :=
  h.shift is ha fun F hF => Sep.one.2 ((ho w F).2 (hp ▸ hF))
theorem St.close (h : St c w L R) {α : Type} [Rep α] {s : Value} {l : List α} {k : Nat} {q : α} {ec : List Value} (is : List Nat) (ha : apartB is = true) (hp : pick L is = [cHole s l k, cAt (elB s) (elO (Rep.n α) k s) ec, cOwn ec q]) : St c w (blank L is ++ [cOwn [s] (l.set k q)]) R :=
  h.shift is ha fun F hF => Sep.one.2 (own_close (hp ▸ hF))
theorem St.close_same (h : St c w L R) {α : Type} [Rep α] {s : Value} {l : List α} {k : Nat} {q : α} {ec : List Value} (is : List Nat) (ha : apartB is = true) (hp : pick L is = [cHole s l k, cAt (elB s) (elO (Rep.n α) k s) ec, cOwn ec q]) (hq : l[k]? = some q) : St c w (blank L is ++ [cOwn [s] l]) R := by
  have := h.close is ha hp
  have e : l.set k q = l := by
    obtain ⟨hk, rfl⟩ := List.getElem?_eq_some_iff.1 hq
    simp
  grind

theorem cells_uniq {b off : Nat} {c1 c2 : List Value} (h1 : CellsAt w b off c1) (h2 : CellsAt w b off c2) (hl : c1.length = c2.length) : c1 = c2 := by
  apply List.ext_getElem?
  intro j
  by_cases hj : j < c1.length
  · have a := h1 j _ (List.getElem?_eq_getElem hj)
    have b := h2 j _ (List.getElem?_eq_getElem (by omega))
    grind
  grind
theorem own_of_row {α : Type} [Rep α] {b off cap : Nat} {cc : List Value} {l : List α} {Fe : Foot} (hr : Row w b off (cap * Rep.n α)) (hc : CellsAt w b off cc) (ho : OwnAll w cc l Fe) (hd : Fe.disj (inRow b off (cap * Rep.n α))) (hlen : l.length ≤ cap) (hmax : cap ≤ maxLen) :
    Rep.own w [.slice (some ⟨b, off, none⟩) l.length cap] l (fun b' o => inRow b off (cap * Rep.n α) b' o ∨ Fe b' o) :=
  own_iff.2 ⟨_, cap, rfl, hlen, hmax, .inr ⟨b, off, cc, Fe, rfl, hr, hc, ho, hd, fun _ _ => Iff.rfl⟩⟩

/-- A new row, of elements that were ours. -/
theorem new_rowN {α : Type} [Rep α] (hS : St c w L R) (is : List Nat) (ha : apartB is = true) {A : List Chunk} (hp : pick L is = A) (cells rest : List Value) (l : List α) (cap : Nat) (ty : TypeId)
    (hA : ∀ F, Sep w A F → ∃ Fe, OwnAll w cells l Fe ∧ ∀ b o, Fe b o → F b o) (hcap : (cells ++ rest).length = cap * Rep.n α) (hlen : l.length ≤ cap) (hmax : cap ≤ maxLen) :
    St c (w.alloc (.cells (cells ++ rest).toArray ty)) (blank L is ++ [cOwn [.slice (some ⟨w.heap.size, 0, none⟩) l.length cap] l]) R := by
  have hcell : ∀ j, (w.alloc (.cells (cells ++ rest).toArray ty)).cell? ⟨w.heap.size, j, none⟩ = (cells ++ rest)[j]? := fun j => by simp
  refine hS.repl is ha fun F hF => ?_
  obtain ⟨Fe, h1, h2⟩ := hA F (hp ▸ hF)
  have hk := Keep.alloc F0 w (.cells (cells ++ rest).toArray ty)
  refine ⟨_, F0, hk, fun _ _ h => h.elim, Sep.one.2 (own_of_row (fun o' ho => ?_) (fun j v hj => ?_) (h1.keep hk fun _ _ _ h => h) (fun b o' p q => ?_) hlen hmax), ?_⟩
  · obtain ⟨_, _, h3⟩ := ho
    simp_all
  · grind
  · have := h1.lt p
    obtain ⟨rfl, _⟩ := q
    omega
  · rintro b o' (p | p)
    · exact .inr (Nat.le_of_eq p.1.symm)
    grind

/-- make([]T, n). -/
theorem rv_makeN {α : Type} [Rep α] {i : Int} {z : Value} {m : Nat} (zd : α) (hS : St c w L R) (hn : Rep.n α = m) (hu : P.underlying t = some (.slice el)) (hinf : Inf P el m z) (hzs : z.cells.size = m) (hzd : ∀ w, Rep.own w z.cells.toList zd F0)
    (h01 : 0 ≤ i ∧ i ≤ 4294967296) (ho : o.op = .makeSlice t x y) (hx : ev e x = some (.int .i64 i)) (hy : ev e y = some (.int .i64 i)) :
    ∃ v w', RunV P o e w v w' ∧ St c w' (L ++ [cOwn [v] (List.replicate i.toNat zd)]) R := by
  obtain ⟨h0, h1⟩ := h01
  subst hn
  obtain ⟨ti, hi, hz, hsz, hby⟩ := hinf
  have hb : (ti.bytes : Int) * i ≤ 281474976710656 := by
    have : (ti.bytes : Int) * i ≤ 65536 * 4294967296 := Int.mul_le_mul (by omega) h1 h0 (by omega)
    omega
  have hr := run_make (P := P) w t el ti z hu hi hz .i64 .i64 i i h0 (Int.le_refl _) hb (by omega)
  rw [hsz] at hr
  refine ⟨.slice (some ⟨w.heap.size, 0, none⟩) i.toNat i.toNat, w.alloc (.cells (madeCells z.cells (i.toNat * Rep.n α)) el), fun _ a hA => ?_, ?_⟩
  rotate_left 1
  · have all : ∀ (k : Nat) (cc : List Value), cc.length = k * Rep.n α → (∀ j, j < k → seg cc (Rep.n α) j = z.cells.toList) → OwnAll w cc (List.replicate k zd) F0 := by
      intro k
      induction k with
      | zero => intro cc h _; exact ⟨List.eq_nil_of_length_eq_zero (by omega), fun _ _ h => h⟩
      | succ k ih =>
        intro cc h hs
        rw [Nat.add_mul] at h
        refine ⟨cc.take (Rep.n α), cc.drop (Rep.n α), F0, F0, by simp, ?_, ih _ (by grind) fun j hj => ?_, fun _ _ h _ => h, fun b o => by simp [F0]⟩
        · have := hs 0 (by omega)
          grind [seg]
        grind [seg, List.drop_drop]
    have h := new_rowN hS [] rfl rfl (madeCells z.cells (i.toNat * Rep.n α)).toList [] (List.replicate i.toNat zd) i.toNat el (fun F _ => ⟨F0, all _ _ (by simp [size_madeCells]) fun j hj => seg_made hzs hj, fun _ _ h => h.elim⟩) (by simp [size_madeCells]) (by simp) (by grind [maxLen])
    simp only [List.append_nil, List.length_replicate] at h
    exact h
  · simp [execOp, ho, hA.eval hx, hA.eval hy, hr]

/-- All elements, each packed. -/
def OPs {α : Type} [Rep α] (m : Nat) : List Value → List α → List Chunk → Prop
  | cs, [], A => cs = [] ∧ A = []
  | cs, x :: r, A => ∃ B, A = cOwn (cs.take m) x :: B ∧ (cs.take m).length = m ∧ OPs m (cs.drop m) r B
theorem OPs.all {α : Type} [Rep α] {m : Nat} (hn : Rep.n α = m) : ∀ {l : List α} {cs : List Value} {A : List Chunk} {F : Foot}, OPs m cs l A → Sep w A F → OwnAll w cs l F
  | [], cs, A, F, ⟨h1, h2⟩, h => by subst h1; subst h2; exact ⟨rfl, h⟩
  | x :: r, cs, A, F, ⟨B, h1, _, h2⟩, h => by
    subst h1
    obtain ⟨F1, F2, k1, k2, kd, kF⟩ := h
    exact ⟨cs.take m, cs.drop m, F1, F2, by simp, k1, OPs.all hn h2 k2, kd, kF⟩
theorem OPs.len {α : Type} [Rep α] {m : Nat} : ∀ {l : List α} {cs : List Value} {A : List Chunk}, OPs m cs l A → cs.length = l.length * m
  | [], cs, A, ⟨h1, h2⟩ => by simp [h1]
  | x :: r, cs, A, ⟨B, h1, h3, h2⟩ => by
    have := OPs.len h2
    grind [Nat.add_mul]
/-- A slice that is written out, of elements packed. -/
theorem rv_litN {α : Type} [Rep α] {z : Value} {m len : Nat} {ps : List (Nat × Operand)} {vs cells : List Value} (l : List α) (hS : St c w L R) (is : List Nat) (ha : apartB is = true) (hrd : OPs m cells l (pick L is)) (hn : Rep.n α = m) (hu : P.underlying t = some (.slice el)) (hinf : Inf P el m z) (hl : l.length = len) (hm : Nat.ble 1 m = true) (hsmall : Nat.ble (len * m) 16777216 = true)
    (ho : o.op = .buildSlice t len ps.toArray) (hv : evs e (ps.map (·.2)) = some vs) (hc : Instr.fill (fun i => some (i * m, m)) ((Array.range (len * m)).map (fun i => (if len * m = 0 then #[] else z.cells)[i % (if len * m = 0 then #[] else z.cells).size]!)) ((ps.map (·.1)).zip vs) = some cells.toArray) :
    ∃ v w', RunV P o e w v w' ∧ St c w' (blank L is ++ [cOwn [v] l]) R := by
  subst hl
  obtain ⟨ti, hi, hz, hsz, hby⟩ := hinf
  have h1 := hrd.len
  have hsm : ¬ l.length * m > 2 ^ 24 := by simp_all
  have hlm : l.length ≤ 16777216 := by
    have := Nat.le_mul_of_pos_right l.length (Nat.le_of_ble_eq_true hm)
    omega
  have hlmax : l.length ≤ maxLen := by grind [maxLen]
  have hnew := new_rowN hS is ha rfl cells [] l l.length el (fun F hF => ⟨F, hrd.all hn hF, fun _ _ h => h⟩) (by grind) (Nat.le_refl _) hlmax
  rw [List.append_nil] at hnew
  refine ⟨_, _, fun _ a hA => ?_, hnew⟩
  have hps : ps.map (fun p => (p.1, a.eval p.2)) = (ps.map (·.1)).zip vs := by
    rw [← evs_map hA hv]
    grind
  by_cases h0 : l.length * m = 0
  · simp only [h0, if_true] at hc
    simp [execOp, ho, Instr.buildSlice, run_underlying hu, sizeOf, typeInfo, hi, hsz, h0, hps]
    simp_all [newRow]
  · simp only [h0, if_false] at hc
    simp [execOp, ho, Instr.buildSlice, run_underlying hu, sizeOf, typeInfo, zeroValue, hi, hz, hsz, h0, hsm, hps]
    simp_all [newRow]

/-- append(a, b..) of what is ours, both. -/
theorem rv_appN {α : Type} [Rep α] {s s2 z : Value} {l xs : List α} {m : Nat} (is : List Nat) (hS : St c w L R) (ha : apartB is = true) (hp : pick L is = [cOwn [s] l, cOwn [s2] xs]) (hn : Rep.n α = m) (hu : P.underlying t = some (.slice el)) (hinf : Inf P el m z) (hzs : z.cells.size = m)
    (hb : l.length + xs.length ≤ 1073741824) (ho : o.op = .call { callee := .builtin .append, args := #[x, y], argTypes := #[t, t] }) (hx : ev e x = some s) (hy : ev e y = some s2) :
    ∃ v w', RunV P o e w v w' ∧ St c w' (blank L is ++ [cOwn [v] (l ++ xs)]) R := by
  subst hn
  obtain ⟨ti, hti, hz, hsz, hby⟩ := hinf
  have h12 : St c w ([cOwn [s] l, cOwn [s2] xs] ++ blank L is) R := hp ▸ hS.front is ha
  obtain ⟨F, hF⟩ := h12.chunk 0 rfl
  obtain ⟨G, hG⟩ := h12.chunk 1 rfl
  have hF : Rep.own w [s] l F := hF
  have hG : Rep.own w [s2] xs G := hG
  obtain ⟨ad2, c2, cc2, rfl, hl2, hc2, hr2⟩ := rd_cells (Rep.own_rd hG)
  obtain ⟨ad, cap, cc, rfl, hl1, hc1, hr1⟩ := rd_cells (Rep.own_rd hF)
  have hone2 := one_seg hl2 hr2
  have hlen : (cc ++ cc2).length = (l ++ xs).length * Rep.n α := by grind
  have hsrc' : xs.length = 0 ∨ ∃ b off, ad2 = some ⟨b, off, none⟩ ∧ CellsAt w b off cc2 := hc2.imp (fun h => by simp [h]) id
  have hf2 := run_first (P := P) (α := α) (k := c2) hl2 hsrc'
  have hexec : ∀ (v : Value) (w' : World), (Builtin.append_ #[t, t] o.type #[.slice ad l.length cap, .slice ad2 xs.length c2]).run P w = .ok v w' → RunV P o e w v w' := by
    intro v w' h _ a hA
    simp [execOp, ho, resolve, invoke, builtin, hA.eval hx, hA.eval hy, h]
  -- what the cells of either hold
  have hall : ∀ {s : Value} {l : List α} {F : Foot} {ad : Option Addr} {cap : Nat} {cc : List Value}, s = .slice ad l.length cap → Rep.own w [s] l F → cc.length = l.length * Rep.n α → (l = [] ∨ ∃ b off, ad = some ⟨b, off, none⟩ ∧ CellsAt w b off cc) → ∃ Fe, OwnAll w cc l Fe ∧ ∀ b o, Fe b o → F b o := by
    intro s l F ad cap cc e h hl hc
    obtain ⟨a', c', e', _, _, h3⟩ := own_iff.1 h
    rw [e] at e'
    simp at e'
    obtain ⟨rfl, rfl⟩ := e'
    rcases hc with hc | ⟨b, off, rfl, hc⟩
    · subst hc
      exact ⟨F0, ⟨List.eq_nil_of_length_eq_zero (by grind), fun _ _ h => h⟩, fun _ _ h => h.elim⟩
    · rcases h3 with ⟨h, _⟩ | ⟨b', off', cc', Fe, h, _, k1, k2, _, hF⟩
      · cases h
      simp at h
      obtain ⟨rfl, rfl⟩ := h
      have : cc' = cc := cells_uniq k1 hc (by rw [k2.length, hl])
      grind
  by_cases hroom : l.length + xs.length ≤ cap
  · -- in its place
    obtain ⟨a', cap', e', hlc, hcm, h3⟩ := own_iff.1 hF
    simp at e'
    obtain ⟨rfl, rfl⟩ := e'
    rcases h3 with ⟨rfl, h0, _⟩ | ⟨b, off, cc', Fe0, rfl, hrow, hcc', hoA, hdj0, hFF0⟩
    · have hl0 : l = [] := List.eq_nil_of_length_eq_zero (by omega)
      have hx0 : xs = [] := List.eq_nil_of_length_eq_zero (by omega)
      subst hl0; subst hx0
      refine ⟨.slice none 0 0, w, hexec _ _ ?_, ?_⟩
      · have hf2 : (Builtin.firstCells (Rep.n α) 0 (.slice ad2 0 c2)).run P w = .ok cc2.toArray w := hf2
        simp [h0, Builtin.append_, run_underlying hu, sizeOf, typeInfo, hti, Builtin.lenOf, hsz, hf2]
      · rw [List.append_nil]
        refine hS.repl is ha fun F hF => ?_
        rw [hp] at hF
        obtain ⟨F1, F2, k1, k2, kd, kF⟩ := hF
        subst h0
        exact ⟨F1, F0, Keep.refl _ _, fun _ _ h => h.elim, Sep.one.2 k1, fun b o h => .inl ((kF b o).2 (.inl h))⟩
    · have hcc : CellsAt w b off cc := by
        rcases hc1 with h | ⟨b', off', h, hc⟩
        · subst h
          have : cc = [] := List.eq_nil_of_length_eq_zero (by grind)
          subst this; intro j v hj; simp at hj
        grind
      have hmul : (l.length + xs.length) * Rep.n α ≤ cap * Rep.n α := Nat.mul_le_mul_right _ hroom
      rw [Nat.add_mul] at hmul
      obtain ⟨w', hst, hk, hws, hcell⟩ := run_storeCells_in (b := b) P cc2 w (off + l.length * Rep.n α) 0 hone2 (fun q _ hq => hrow _ ⟨rfl, by omega, by omega⟩)
      refine ⟨_, w', hexec _ _ (by
        have hadd : (⟨b, off, none⟩ : Addr).add (l.length * Rep.n α) = ⟨b, off + l.length * Rep.n α, none⟩ := by simp [Addr.add]
        simp [Builtin.append_, run_underlying hu, sizeOf, typeInfo, hti, Builtin.lenOf, hsz, hf2, hroom, hadd, hst]
        rfl), ?_⟩
      refine hS.repl is ha fun F2 hF2 => ?_
      rw [hp] at hF2
      obtain ⟨Fa, Fb, ka, kb, kd, kF⟩ := hF2
      have ka : Rep.own w [_] l Fa := ka
      have kb : Rep.own w [_] xs Fb := Sep.one.1 kb
      obtain ⟨_, _, he2, _, _, hr⟩ := own_iff.1 ka
      simp at he2
      obtain ⟨rfl, rfl⟩ := he2
      rcases hr with ⟨h, _, _⟩ | ⟨b', off', cc'', Fe, h, hrow2, k1, k2, hdj, hFF⟩
      · cases h
      simp at h
      obtain ⟨rfl, rfl⟩ := h
      have ecc : cc'' = cc := cells_uniq k1 hcc (by rw [k2.length, hl1])
      subst ecc
      obtain ⟨Fe2, o2, hFe2⟩ := hall rfl kb hl2 hc2
      have hkd : ∀ {G : Foot}, (∀ b' o', G b' o' → ¬ inRow b off (cap * Rep.n α) b' o') → G.disj (fun b' o' => b' = b ∧ off + l.length * Rep.n α + 0 ≤ o' ∧ o' < off + l.length * Rep.n α + 0 + cc2.length) := by
        rintro G hG b' o' g ⟨e1, e2, e3⟩
        exact hG b' o' g ⟨e1, by omega, by omega⟩
      have hcc2 : CellsAt w' b off (cc'' ++ cc2) := by
        intro j v hj
        rw [List.getElem?_append] at hj
        split at hj
        · rename_i hlt
          have hc := hcc j v hj
          rw [hk.cell b (off + j) (World.block_lt_of_cell? w _ hc) (fun hh => by obtain ⟨_, e2, _⟩ := hh; omega)]
          exact hc
        · rename_i hge
          have := hcell _ v hj
          grind
      refine ⟨fun b' o' => inRow b off (cap * Rep.n α) b' o' ∨ (Fe b' o' ∨ Fe2 b' o'), _, hk, ?_, Sep.one.2 ?_, ?_⟩
      · rintro b' o' ⟨e1, e2, e3⟩
        exact (kF b' o').2 (.inl ((hFF b' o').2 (.inl ⟨e1, by omega, by omega⟩)))
      · have hll : l.length + xs.length = (l ++ xs).length := by simp
        rw [hll]
        refine own_of_row (fun o' ho' => ⟨hk.stay b o' (hrow o' ho').1, (hk.frz b o' (lt_of_cell (hrow o' ho').1)).trans (hrow o' ho').2⟩) hcc2 (OwnAll.app (k2.keep hk (hkd fun b' o' g q => hdj b' o' g q)) (o2.keep hk (hkd fun b' o' g q => ?_)) (fun b' o' p q => ?_) fun _ _ => Iff.rfl) ?_ (by simp; omega) hcm
        · exact kd b' o' ((hFF b' o').2 (.inl q)) (hFe2 b' o' g)
        · exact kd b' o' ((hFF b' o').2 (.inr p)) (hFe2 b' o' q)
        · rintro b' o' (p | p) q
          · exact hdj b' o' p q
          · exact kd b' o' ((hFF b' o').2 (.inl q)) (hFe2 b' o' p)
      grind
  · -- in a new row
    have hbytes : (l.length + xs.length) * ti.bytes ≤ 140737488355328 := by
      have : (l.length + xs.length) * ti.bytes ≤ 1073741824 * 65536 := Nat.mul_le_mul hb hby
      omega
    have hfit := growslice_fits (need := l.length + xs.length) (old := cap) (bytes := ti.bytes) (by omega) hbytes
    obtain ⟨hge, hle⟩ : l.length + xs.length ≤ grownCap w (l.length + xs.length) cap el ∧ grownCap w (l.length + xs.length) cap el ≤ maxLen := ⟨grownCap_ge _ _ _ _, grownCap_le_maxLen _ _ _ _ (by grind [maxLen])⟩
    have hrun : (Builtin.append_ #[t, t] o.type #[.slice ad l.length cap, .slice ad2 xs.length c2]).run P w = .ok (.slice (some ⟨w.heap.size, 0, none⟩) (l.length + xs.length) (grownCap w (l.length + xs.length) cap el)) (w.drew.alloc (.cells (cc.toArray ++ cc2.toArray ++ Builtin.zeroCells z.cells (grownCap w (l.length + xs.length) cap el - (l.length + xs.length))) el)) := by
      have hn1 : ¬ (l.length + xs.length ≤ cap) := hroom
      have h63' : ¬ (9223372036854775807 < ((l.length : Int) + (xs.length : Int))) := by omega
      have h48' : ¬ (281474976710656 < Builtin.nextslicecap (l.length + xs.length) cap * ti.bytes) := by omega
      have hf1 : (Builtin.firstCells (Rep.n α) l.length (.slice ad l.length cap)).run P w.drew = .ok cc.toArray w.drew := run_first (α := α) hl1 (hc1.imp (fun h => by simp [h]) id)
      have hf2 : (Builtin.firstCells (Rep.n α) xs.length (.slice ad2 xs.length c2)).run P w.drew = .ok cc2.toArray w.drew := run_first (α := α) hl2 hsrc'
      simp [Builtin.append_, run_underlying hu, sizeOf, typeInfo, zeroValue, hti, hz, hsz, Builtin.lenOf, hn1, h63', h48', Question.forced, hf1, hf2, newRow, grownCap]
      grind
    refine ⟨_, _, hexec _ _ hrun, ?_⟩
    have hz3 : (Builtin.zeroCells z.cells (grownCap w (l.length + xs.length) cap el - (l.length + xs.length))).toList.length = (grownCap w (l.length + xs.length) cap el - (l.length + xs.length)) * Rep.n α := by grind [size_zeroCells]
    have htot : ((cc ++ cc2) ++ (Builtin.zeroCells z.cells (grownCap w (l.length + xs.length) cap el - (l.length + xs.length))).toList).length = grownCap w (l.length + xs.length) cap el * Rep.n α := by
      rw [List.length_append, hlen, hz3, List.length_append, ← Nat.add_mul]
      grind
    have hS' : St c w.drew L R := hS.same (Keep.drew F0 w)
    have hnew := new_rowN hS' is ha hp (cc ++ cc2) (Builtin.zeroCells z.cells (grownCap w (l.length + xs.length) cap el - (l.length + xs.length))).toList (l ++ xs) (grownCap w (l.length + xs.length) cap el) el (fun F2 hF2 => by
      obtain ⟨Fa, Fb, ka, kb, kd, kF⟩ := hF2
      have ka : Rep.own w.drew [_] l Fa := ka
      have kb : Rep.own w.drew [_] xs Fb := Sep.one.1 kb
      have drop : Keep F0 w.drew w := ⟨rfl, rfl, rfl, Nat.le_refl _, fun _ _ _ => rfl, fun _ _ _ _ => rfl, fun _ _ _ => rfl, fun _ _ h => h⟩
      obtain ⟨Fe, o1, h1⟩ := hall rfl (Rep.own_keep ka drop fun _ _ _ h => h) hl1 hc1
      obtain ⟨Fe2, o2, h2⟩ := hall rfl (Rep.own_keep kb drop fun _ _ _ h => h) hl2 hc2
      have hk := Keep.drew F0 w
      exact ⟨_, OwnAll.app (o1.keep hk fun _ _ _ h => h) (o2.keep hk fun _ _ _ h => h) (fun b o p q => kd b o (h1 b o p) (h2 b o q)) fun _ _ => Iff.rfl, fun b o p => (kF b o).2 (p.imp (h1 b o) (h2 b o))⟩) htot (by simp; omega) hle
    have heq : ((cc ++ cc2) ++ (Builtin.zeroCells z.cells (grownCap w (l.length + xs.length) cap el - (l.length + xs.length))).toList).toArray = cc.toArray ++ cc2.toArray ++ Builtin.zeroCells z.cells (grownCap w (l.length + xs.length) cap el - (l.length + xs.length)) := by
      simp
    rw [heq] at hnew
    simp_all
end
end Go.Gv
end
section
/-
  Cells of ours at any place; calls that write to chunks of ours; parts of slices of ours.
-/
set_option linter.unusedVariables false
namespace Go.Gv
section
variable {v : Value} {k : IntKind} {i : Int} {P : Program} {o : Oper} {e : Env} {w w' : World} {c : Ctx} {L : List Chunk} {R : List Fact} {x y : Operand} {t el : TypeId}

theorem St.acell (h : St c w L R) {b q : Nat} {cs : List Value} (i : Nat) {j : Nat} (hi : L[i]? = some (cAt b q cs)) (hj : cs[j]? = some v) : w.cell? ⟨b, q + j, none⟩ = some v := by
  obtain ⟨F, h1, _⟩ := h.chunk i hi
  exact h1 j v hj
theorem St.acells (h : St c w L R) {b q : Nat} {cs cs' : List Value} (i j : Nat) (hi : L[i]? = some (cAt b q cs)) (hj : (cs.drop j).take cs'.length = cs') : CellsAt w b (q + j) cs' := by
  intro m u hm
  have hlt := (List.getElem?_eq_some_iff.1 hm).1
  rw [Nat.add_assoc]
  refine h.acell i hi ?_
  grind
theorem rs_at {b q j m i : Nat} {cs vs : List Value} (hS : St c w L R) (hi : L[i]? = some (cAt b q cs)) (ho : o.op = .store t x y) (hx : ev e x = some (.pointer (some ⟨b, q + j, none⟩))) (hy : ev e y = some v) (hvs : v.cells.toList = vs) (hz : ∀ w, (sizeOf t).run P w = .ok m w) (hm : vs.length = m) (hj : Nat.ble (j + m) cs.length = true) (h1 : vs.all Value.oneCell' = true) :
    ∃ w', RunS P o e w w' ∧ St c w' (L.set i (cAt b q (setN cs j vs))) R := by
  subst hm
  have hj' : j + vs.length ≤ cs.length := Nat.le_of_ble_eq_true hj
  have h1' : ∀ v ∈ vs, v.oneCell' = true := fun v hv => by grind
  obtain ⟨F, hF⟩ := hS.chunk i hi
  obtain ⟨hc, hfz, _⟩ := hF
  obtain ⟨w', hr, hk, hsz, hcell⟩ := run_storeCells_in (b := b) P vs w (q + j) 0 h1' (fun p _ hp => by
    refine ⟨?_, hfz (q + j + p) ⟨rfl, by omega, by omega⟩⟩
    have := hc (j + p) _ (List.getElem?_eq_getElem (by omega))
    grind)
  refine ⟨w', fun _ a hA => ?_, ?_⟩
  · have hsize : v.cells.size = vs.length := by grind
    have hr' : (storeCells ⟨b, q + j, none⟩ v.cells.toList).run P w = .ok () w' := by grind
    simp [execOp, ho, Instr.storeAt, Instr.sureAddr, hA.eval hx, hA.eval hy, storeVar, hz, hsize, hr']
  · refine hS.turn i hi fun F2 hF2 => ?_
    obtain ⟨k1, k2, kF⟩ := hF2
    have hlen : (setN cs j vs).length = cs.length := setN_length vs cs j
    refine ⟨F2, _, hk, ?_, ⟨?_, fun o' ho' => ?_, fun b' o' => by grind⟩, fun _ _ h => .inl h⟩
    · rintro b' o' ⟨e1, e2, e3⟩
      exact (kF b' o').2 ⟨e1, by omega, by omega⟩
    · intro p u hp
      rw [setN_get vs cs j p (by omega)] at hp
      split at hp
      · have := hcell _ u hp
        grind
      · have h3 := k1 p u hp
        rw [hk.cell b (q + p) (World.block_lt_of_cell? w _ h3) (fun hh => by obtain ⟨_, e2, e3⟩ := hh; omega)]
        exact h3
    · rw [hlen] at ho'
      obtain ⟨_, e2, e3⟩ := ho'
      have h3 := k1 (o' - q) _ (List.getElem?_eq_getElem (by omega))
      rw [show q + (o' - q) = o' by omega] at h3
      exact (hk.frz b o' (World.block_lt_of_cell? w _ h3)).trans (k2 o' ⟨rfl, e2, e3⟩)

/-- The length of a slice that is open. -/
theorem hole_rd (h : St c w L R) {α : Type} [Rep α] {s : Value} {l : List α} {k : Nat} (i : Nat) (hi : L[i]? = some (cHole s l k)) : ∃ b off m, s = .slice (some ⟨b, off, none⟩) l.length m ∧ l.length ≤ maxLen := by
  obtain ⟨F, a, cp, b, off, c1, c2, F1, F2, e, h1, h2, h3, rfl, _⟩ := h.chunk i hi
  grind
theorem rv_lenH {α : Type} [Rep α] {s : Value} {l : List α} {el : TypeId} (h : ∃ b off m, s = .slice (some ⟨b, off, none⟩) l.length m ∧ l.length ≤ maxLen) (hu : P.underlying t = some (.slice el)) (ho : o.op = .call { callee := .builtin .len, args := #[x], argTypes := #[t] }) (hx : ev e x = some s) : RunV P o e w (.int .i64 (l.length : Int)) w := by
  grind [rv_len]
theorem rv_idxH {α : Type} [Rep α] {s : Value} {l : List α} {el m : Nat} {q : α} (h : ∃ b off m, s = .slice (some ⟨b, off, none⟩) l.length m ∧ l.length ≤ maxLen) (_hn : Rep.n α = m) (hq : idx l i = some q) (hu : P.underlying t = some (.slice el)) (hz : ∀ w, (sizeOf el).run P w = .ok m w) (ho : o.op = .indexAddr t x y) (hx : ev e x = some s) (hy : ev e y = some (.int k i)) : RunV P o e w (.pointer (some ⟨elB s, elO m i.toNat s, none⟩)) w := by
  obtain ⟨h0, h1, h2⟩ := idx_some hq
  obtain ⟨b, off, cp, rfl, _⟩ := h
  intro _ a hA
  have h5 : (⟨b, off, none⟩ : Addr).add (i.toNat * m) = ⟨b, off + i.toNat * m, none⟩ := by grind [Addr.add]
  simp [execOp, ho, Instr.indexAt, hA.eval hx, hA.eval hy, asIntOf, run_underlying hu, h0, h1, hz, h5, elB, elO]

theorem idx_set {α : Type} {l : List α} {i : Int} {x y : α} (h : idx l i = some x) : idx (l.set i.toNat y) i = some y := by
  simp_all [idx_some, idx]
theorem zown_nil {α : Type} [Rep α] {w : World} : Rep.own w [.slice none 0 0] ([] : List α) F0 := ⟨none, 0, rfl, Nat.le_refl _, Nat.zero_le _, .inl ⟨rfl, rfl, fun _ _ h => h⟩⟩
theorem znil {w : World} : ∀ ch ∈ ([] : List Chunk), ch.P w F0 := fun _ h => nomatch h
theorem zcons {w : World} {α : Type} [Rep α] {A : List Chunk} (h : ∀ ch ∈ A, ch.P w F0) : ∀ ch ∈ cOwn [.slice none 0 0] ([] : List α) :: A, ch.P w F0 := fun ch hc => by
  rcases List.mem_cons.1 hc with rfl | hc
  · exact zown_nil
  grind
theorem op_zero {w : World} {α : Type} [Rep α] {cs : List Value} {d : α} {A : List Chunk} (h : OP cs d A) (hz : ∀ ch ∈ A, ch.P w F0) : Rep.own w cs d F0 := by
  refine (h w F0).2 ?_
  clear h
  induction A with
  | nil => exact fun _ _ h => h
  | cons a A ih => exact ⟨F0, F0, hz a (by simp), ih fun ch hc => hz ch (by simp [hc]), fun _ _ h => h.elim, fun b o => by simp [F0]⟩

/-! ### Calls -/
theorem blank_get : ∀ {is : List Nat} {L : List Chunk} {j : Nat}, (is.all fun i => !Nat.beq i j) = true → (blank L is)[j]? = L[j]?
  | [], L, j, _ => rfl
  | i :: r, L, j, h => by
    simp only [List.all_cons, Bool.and_eq_true, Bool.not_eq_true'] at h
    have hne : i ≠ j := fun e => by simp_all
    show (blank (L.set i cNo) r)[j]? = _
    rw [blank_get h.2, List.getElem?_set_ne hne]
/-- What a callee may look at: a fact, or a chunk that it is not given. -/
def Lent (L : List Chunk) (R : List Fact) (is : List Nat) (f : Fact) : Prop := (∃ g ∈ R, ∀ S w, g.P S w → f.P S w) ∨ (∃ (j : Nat) (ch : Chunk), (is.all fun i => !Nat.beq i j) = true ∧ L[j]? = some ch ∧ ∀ w F, ch.P w F → f.P F w) ∨ ∀ w, f.P F0 w
theorem lent_fact {is : List Nat} {f : Fact} (i : Nat) (h : R[i]? = some f) : Lent L R is f := .inl ⟨f, List.mem_of_getElem? h, fun _ _ h => h⟩
theorem lent_own {is : List Nat} {α : Type} [Rep α] {cs : List Value} {d : α} (j : Nat) (h : L[j]? = some (cOwn cs d)) (hj : (is.all fun i => !Nat.beq i j) = true) : Lent L R is (fRd cs d) := .inr (.inl ⟨j, _, hj, h, fun _ _ hF => Rep.own_rd hF⟩)
theorem lent_nil {is : List Nat} {α : Type} [Rep α] : Lent L R is (fRd [.slice none 0 0] ([] : List α)) := .inr (.inr fun w => ⟨none, 0, rfl, Nat.le_refl _, Nat.zero_le _, .inl rfl⟩)
theorem all_nil {Q : Fact → Prop} : ∀ f ∈ ([] : List Fact), Q f := fun _ h => nomatch h
theorem all_cons {Q : Fact → Prop} {f : Fact} {l : List Fact} (h : Q f) (hl : ∀ f ∈ l, Q f) : ∀ g ∈ f :: l, Q g := by
  grind
/-- A call that is given some chunks, and hands chunks back. -/
theorem St.give (h : St c w L R) (is : List Nat) (ha : apartB is = true) {A : List Chunk} (hp : pick L is = A) :
    ∃ c', (∀ RA, (∀ f ∈ RA, Lent L R is f) → St c' w A RA) ∧ ∀ w' A' R', St c' w' A' R' → St c w' (blank L is ++ A') R := by
  have h0 : St c w (A ++ blank L is) R := hp ▸ h.front is ha
  obtain ⟨F, S, hsep, hFS, hFW, hSS, hSlt, hR⟩ := h0.sep
  obtain ⟨F1, F2, h1, h2, hd, hF⟩ := Sep.append.1 hsep
  refine ⟨⟨w, F1, fun b o => S b o ∨ F2 b o⟩, fun RA hRA => ⟨Keep.refl _ _, ⟨F1, fun b o => S b o ∨ F2 b o, h1, ?_, fun _ _ h => .inl h, fun _ _ h => .inl h, ?_, fun f hf => ?_⟩, ?_⟩, ?_⟩
  · rintro b o p (q | q)
    · exact hFS b o ((hF b o).2 (.inl p)) q
    · exact hd b o p q
  · rintro b o (q | q)
    · grind
    · exact Sep.lt h2 q
  · rcases hRA f hf with ⟨g, k, kg⟩ | ⟨j, ch, kj, kl, kf⟩ | k
    rotate_left 2
    · exact f.mono (k w) fun _ _ q => q.elim
    · exact f.mono (kg _ _ (hR g k)) fun _ _ q => .inl q
    · have : (blank L is)[j]? = some ch := by grind [blank_get]
      obtain ⟨G1, G2, g1, _, _, gF⟩ := (Sep.take this).1 h2
      exact f.mono (kf w G1 g1) fun b o q => .inr ((gF b o).2 (.inl q))
  · rintro b o p (q | q)
    · exact hFS b o ((hF b o).2 (.inl p)) q
    · exact hd b o p q
  · intro w' A' R' k
    obtain ⟨F', S', b1, b2, b3, b4, b5, b6⟩ := k.sep
    have hk : Keep F1 w w' := k.keep
    have hGW : ∀ b o, b < c.w0.heap.size → F1 b o → c.W b o := fun b o hb g => by
      grind
    refine ⟨h0.keep.trans hk hGW, ⟨fun b o => F2 b o ∨ F' b o, S, Sep.append.2 ⟨F2, F', Sep.keep hk h2 fun b o hf g => hd b o g hf, b1, ?_, fun _ _ => Iff.rfl⟩, ?_, ?_, hSS, fun b o hS => Nat.lt_of_lt_of_le (hSlt b o hS) hk.size, ?_⟩, h0.apart⟩
    · intro b o hf hg
      rcases b3 b o hg with h | h
      · exact hd b o h hf
      · have h : w.heap.size ≤ b := h
        have := Sep.lt h2 hf; omega
    · rintro b o (hf | hf) hS
      · exact hFS b o ((hF b o).2 (.inr hf)) hS
      · rcases b3 b o hf with h | h
        · exact hFS b o ((hF b o).2 (.inl h)) hS
        grind
    · rintro b o (hf | hf)
      · grind
      · rcases b3 b o hf with h' | h'
        · grind
        · exact .inr (Nat.le_trans h0.keep.size h')
    · intro f hf
      exact f.agree (hR f hf) fun b o hS => hk.cell b o (hSlt b o hS) fun g => hFS b o ((hF b o).2 (.inl g)) hS

/-! ### A part of a box -/
theorem sep_split {b q : Nat} {A B C : List Value} {F : Foot} (h : (cAt b q (A ++ (B ++ C))).P w F) : Sep w [cAt b q A, cAt b (q + A.length) B, cAt b (q + A.length + B.length) C] F := by
  obtain ⟨h1, h2, hF⟩ := h
  obtain ⟨k1, k23⟩ := cells_split h1
  obtain ⟨k2, k3⟩ := cells_split k23
  simp only [List.length_append] at h2 hF
  refine ⟨inRow b q A.length, fun b' o => inRow b (q + A.length) B.length b' o ∨ inRow b (q + A.length + B.length) C.length b' o, ⟨k1, fun o p => h2 o ⟨rfl, by have := p.2; omega, by have := p.2; omega⟩, fun _ _ => Iff.rfl⟩,
    ⟨inRow b (q + A.length) B.length, inRow b (q + A.length + B.length) C.length, ⟨k2, fun o p => h2 o ⟨rfl, by have := p.2; omega, by have := p.2; omega⟩, fun _ _ => Iff.rfl⟩, Sep.one.2 ⟨k3, fun o p => h2 o ⟨rfl, by have := p.2; omega, by have := p.2; omega⟩, fun _ _ => Iff.rfl⟩, ?_, fun _ _ => Iff.rfl⟩, ?_, fun b' o => ?_⟩
  · rintro b' o ⟨_, p1, p2⟩ ⟨_, q1, q2⟩; omega
  · rintro b' o ⟨_, p1, p2⟩ (⟨_, q1, q2⟩ | ⟨_, q1, q2⟩) <;> omega
  · rw [hF]
    constructor
    · rintro ⟨e, p1, p2⟩
      by_cases x1 : o < q + A.length
      · exact .inl ⟨e, p1, x1⟩
      · by_cases x2 : o < q + A.length + B.length
        · exact .inr (.inl ⟨e, by omega, x2⟩)
        · exact .inr (.inr ⟨e, by omega, by omega⟩)
    · rintro (⟨e, p1, p2⟩ | ⟨e, p1, p2⟩ | ⟨e, p1, p2⟩) <;> exact ⟨e, by omega, by omega⟩
theorem sep_join {b q : Nat} {A B C : List Value} {F : Foot} (h : Sep w [cAt b q A, cAt b (q + A.length) B, cAt b (q + A.length + B.length) C] F) : (cAt b q (A ++ (B ++ C))).P w F := by
  obtain ⟨F1, F23, ⟨a1, a2, aF⟩, ⟨F2, F3, ⟨b1, b2, bF⟩, h3, _, f23⟩, _, f⟩ := h
  obtain ⟨c1, c2, cF⟩ := Sep.one.1 h3
  refine ⟨cells_join a1 (cells_join b1 c1), fun o p => ?_, fun b' o => ?_⟩
  · obtain ⟨_, p1, p2⟩ := p
    simp only [List.length_append] at p2
    by_cases x1 : o < q + A.length
    · exact a2 o ⟨rfl, p1, x1⟩
    · by_cases x2 : o < q + A.length + B.length
      · exact b2 o ⟨rfl, by omega, x2⟩
      · exact c2 o ⟨rfl, by omega, by omega⟩
  · rw [f, f23, aF, bF, cF]
    simp only [List.length_append]
    constructor
    · rintro (⟨e, p1, p2⟩ | ⟨e, p1, p2⟩ | ⟨e, p1, p2⟩) <;> exact ⟨e, by omega, by omega⟩
    · rintro ⟨e, p1, p2⟩
      by_cases x1 : o < q + A.length
      · exact .inl ⟨e, p1, x1⟩
      · by_cases x2 : o < q + A.length + B.length
        · exact .inr (.inl ⟨e, by omega, x2⟩)
        · exact .inr (.inr ⟨e, by omega, by omega⟩)
theorem St.splitAt (h : St c w L R) {b q : Nat} {A B C : List Value} (i : Nat) (hi : L[i]? = some (cAt b q (A ++ (B ++ C)))) : St c w (L.set i cNo ++ [cAt b q A, cAt b (q + A.length) B, cAt b (q + A.length + B.length) C]) R := by
  have h1 : St c w ([cAt b q (A ++ (B ++ C))] ++ L.set i cNo) R := h.take i hi
  obtain ⟨F, S, hsep, rest⟩ := h1.sep
  obtain ⟨F1, F2, g1, g2, gd, gF⟩ := Sep.append.1 hsep
  exact St.rot ⟨h1.keep, ⟨F, S, Sep.append.2 ⟨F1, F2, sep_split (Sep.one.1 g1), g2, gd, gF⟩, rest⟩, h1.apart⟩
theorem St.joinAt (h : St c w L R) {b q : Nat} {A B C : List Value} (is : List Nat) (ha : apartB is = true) (hp : pick L is = [cAt b q A, cAt b (q + A.length) B, cAt b (q + A.length + B.length) C]) : St c w (blank L is ++ [cAt b q (A ++ (B ++ C))]) R :=
  h.shift is ha fun F hF => Sep.one.2 (sep_join (hp ▸ hF))
end
end Go.Gv
end
section
/-
  Parts of slices and strings, their elements, conversions, min and max. Nothing of a program here.
-/
set_option linter.unusedVariables false
set_option linter.unusedSimpArgs false
namespace Go.Gv

/-- s[l:h]. -/
def subV (n l h : Nat) : Value → Value
  | .slice a _ cap => .slice (if cap = l then a else a.map (·.add (l * n))) (h - l) (cap - l)
  | v => v
theorem sub_len {α : Type} {l : List α} {a b : Nat} (h1 : a ≤ b) (h2 : b ≤ l.length) : ((l.take b).drop a).length = b - a := by simp; omega
theorem sub_get {α : Type} {l : List α} {a b i : Nat} (h2 : b ≤ l.length) (hi : i < b - a) : ((l.take b).drop a)[i]? = l[a + i]? := by
  grind
theorem rd_sub {α : Type} [Rep α] {S : Foot} {w : World} {s : Value} {l : List α} {n a b : Nat} (hn : Rep.n α = n) (h : Rep.rd S w [s] l) (h1 : a ≤ b) (h2 : b ≤ l.length) : Rep.rd S w [subV n a b s] ((l.take b).drop a) := by
  subst hn
  obtain ⟨ad, c, e, k1, k2, k3⟩ := (show rdSlice S w [s] l from h)
  simp at e; subst e
  have hl := sub_len h1 h2
  refine ⟨if c = a then ad else ad.map (·.add (a * Rep.n α)), c - a, by grind [subV], by omega, by omega, ?_⟩
  by_cases h0 : b = a
  · grind
  · right
    rcases k3 with k3 | ⟨bl, off, rfl, k3⟩
    · grind
    · have hadd : (⟨bl, off, none⟩ : Addr).add (a * Rep.n α) = ⟨bl, off + a * Rep.n α, none⟩ := by
        grind [Addr.add]
      refine ⟨bl, off + a * Rep.n α, by grind, fun i hi => ?_⟩
      rw [hl] at hi
      have hg := sub_get h2 hi
      grind
theorem own_sub {α : Type} [Rep α] {w : World} {s : Value} {l : List α} {n a b : Nat} {F : Foot} (hn : Rep.n α = n) (h : Rep.own w [s] l F) (h1 : a ≤ b) (h2 : b ≤ l.length) : ∃ F', Rep.own w [subV n a b s] ((l.take b).drop a) F' ∧ ∀ b o, F' b o → F b o := by
  subst hn
  obtain ⟨ad, c, e, k1, k2, k3⟩ := own_iff.1 h
  subst e
  have hl := sub_len h1 h2
  rcases k3 with ⟨rfl, rfl, hF⟩ | ⟨bl, off, cc, Fe, rfl, hr, hc, ho, hd, hF⟩
  · have : l = [] := List.eq_nil_of_length_eq_zero (by omega)
    subst this
    have ha : a = 0 := by omega
    have hb : b = 0 := by omega
    subst ha; subst hb
    exact ⟨F0, ⟨none, 0, rfl, Nat.le_refl _, Nat.zero_le _, .inl ⟨rfl, rfl, fun _ _ h => h⟩⟩, fun _ _ h => h.elim⟩
  · have e3 : l = l.take a ++ ((l.take b).drop a ++ l.drop b) := by
      grind [List.take_append_drop]
    rw [e3] at ho
    obtain ⟨c1, c23, F1, F23, rfl, o1, o23, d1, f1⟩ := ho.split
    obtain ⟨c2, c3, F2, F3, rfl, o2, o3, d2, f2⟩ := o23.split
    have l1 := o1.length
    rw [List.length_take, Nat.min_eq_left (by omega)] at l1
    obtain ⟨q1, q23⟩ := cells_split hc
    obtain ⟨q2, q3⟩ := cells_split q23
    rw [l1] at q2
    by_cases hca : c = a
    · have hab : b = a := by omega
      have hz : (l.take b).drop a = [] := by grind
      refine ⟨F0, ?_, fun _ _ h => h.elim⟩
      rw [hz]
      simp only [subV, hca, hab, Nat.sub_self, if_true]
      exact own_iff.2 ⟨some ⟨bl, off, none⟩, 0, rfl, Nat.le_refl _, Nat.zero_le _, .inr ⟨bl, off, [], F0, rfl, fun o p => by obtain ⟨_, p1, p2⟩ := p; omega, fun j v h => by simp at h, ⟨rfl, fun _ _ h => h⟩, fun _ _ h => h.elim, fun b' o => by
        simp [F0, inRow]⟩⟩
    · have hmul : a * Rep.n α + (c - a) * Rep.n α = c * Rep.n α := by rw [← Nat.add_mul]; grind
      refine ⟨fun b' o => inRow bl (off + a * Rep.n α) ((c - a) * Rep.n α) b' o ∨ F2 b' o, ?_, ?_⟩
      · have e4 : subV (Rep.n α) a b (.slice (some ⟨bl, off, none⟩) l.length c) = .slice (some ⟨bl, off + a * Rep.n α, none⟩) ((l.take b).drop a).length (c - a) := by
          have hadd : (⟨bl, off, none⟩ : Addr).add (a * Rep.n α) = ⟨bl, off + a * Rep.n α, none⟩ := by
            simp [Addr.add]
          simp only [subV, hl, if_neg hca, Option.map_some, hadd]
        rw [e4]
        refine own_of_row (fun o p => hr o ?_) q2 o2 (fun b' o p q => hd b' o ((f1 b' o).2 (.inr ((f2 b' o).2 (.inl p)))) ?_) (by omega) (by omega)
        · obtain ⟨_, p1, p2⟩ := p; exact ⟨rfl, by omega, by omega⟩
        · obtain ⟨p0, p1, p2⟩ := q; exact ⟨p0, by omega, by omega⟩
      · rintro b' o (p | p)
        · obtain ⟨p0, p1, p2⟩ := p
          exact (hF b' o).2 (.inl ⟨p0, by omega, by omega⟩)
        grind
theorem lent_sub {α : Type} [Rep α] {L : List Chunk} {R : List Fact} {is : List Nat} {s : Value} {l : List α} {n a b : Nat} (h : Lent L R is (fRd [s] l)) (hn : Rep.n α = n) (h1 : a ≤ b) (h2 : b ≤ l.length) : Lent L R is (fRd [subV n a b s] ((l.take b).drop a)) := by
  rcases h with ⟨g, k, kg⟩ | ⟨j, ch, kj, kl, kf⟩ | k
  · exact .inl ⟨g, k, fun S w q => rd_sub hn (kg S w q) h1 h2⟩
  · exact .inr (.inl ⟨j, ch, kj, kl, fun w F q => rd_sub hn (kf w F q) h1 h2⟩)
  · exact .inr (.inr fun w => rd_sub hn (k w) h1 h2)
section
variable {v : Value} {k k2 : IntKind} {i j : Int} {P : Program} {o : Oper} {e : Env} {w w' : World} {c : Ctx} {L : List Chunk} {R : List Fact} {x y z : Operand} {t el : TypeId}

theorem St.subF (h : St c w L R) {α : Type} [Rep α] {s : Value} {l : List α} {n a b : Nat} (m : Nat) (hm : R[m]? = some (fRd [s] l)) (hn : Rep.n α = n) (h1 : a ≤ b) (h2 : b ≤ l.length) : St c w L (R ++ [fRd [subV n a b s] ((l.take b).drop a)]) :=
  h.derive m hm fun S hS g hg => by simp at hg; subst hg; exact rd_sub hn hS h1 h2
theorem St.subOwn (h : St c w L R) {α : Type} [Rep α] {s : Value} {l : List α} {n a b : Nat} (m : Nat) (hm : L[m]? = some (cOwn [s] l)) (hn : Rep.n α = n) (h1 : a ≤ b) (h2 : b ≤ l.length) : St c w (L.set m (cOwn [subV n a b s] ((l.take b).drop a))) R :=
  h.turn m hm fun F hF => by
    obtain ⟨F', k1, k2⟩ := own_sub hn hF h1 h2
    exact ⟨F', F0, Keep.refl _ _, fun _ _ h => h.elim, k1, fun b o q => .inl (k2 b o q)⟩

/-- What a slice's shape says of its bounds. -/
theorem rd_cap {α : Type} [Rep α] {S : Foot} {s : Value} {l : List α} (h : Rep.rd S w [s] l) : ∃ ad cp, s = .slice ad l.length cp ∧ l.length ≤ cp := by
  obtain ⟨ad, cp, e, k1, _⟩ := (show rdSlice S w [s] l from h)
  grind
theorem rv_sub_lh {α : Type} [Rep α] {S : Foot} {s : Value} {l : List α} {n : Nat} (h : Rep.rd S w [s] l) (hn : Rep.n α = n) (hu : P.underlying t = some (.slice el)) (hz : ∀ w, (sizeOf el).run P w = .ok n w) (hb : 0 ≤ i ∧ i ≤ j ∧ j ≤ l.length) (ho : o.op = .slice t x (some y) (some z) none) (hx : ev e x = some s) (hy : ev e y = some (.int k i)) (hw : ev e z = some (.int k2 j)) : RunV P o e w (subV n i.toNat j.toNat s) w := fun _ a hA => by
  obtain ⟨ad, cp, rfl, hc⟩ := rd_cap h
  obtain ⟨b0, b1, b2⟩ := hb
  have h1 : j ≤ (cp : Int) := by omega
  have h3 : 0 ≤ j := by omega
  have h2 : max j 0 = j := by omega
  simp [execOp, ho, Instr.sliceAt, Instr.slice, run_underlying hu, Instr.sliceBounds, hA.eval hx, hA.eval hy, hA.eval hw, Instr.sliceBound, asIntOf, hz, b0, b1, h1, h2, h3, subV]
theorem rv_sub_l {α : Type} [Rep α] {S : Foot} {s : Value} {l : List α} {n : Nat} (h : Rep.rd S w [s] l) (hn : Rep.n α = n) (hu : P.underlying t = some (.slice el)) (hz : ∀ w, (sizeOf el).run P w = .ok n w) (hb : 0 ≤ i ∧ i ≤ l.length) (ho : o.op = .slice t x (some y) none none) (hx : ev e x = some s) (hy : ev e y = some (.int k i)) : RunV P o e w (subV n i.toNat l.length s) w := fun _ a hA => by
  obtain ⟨ad, cp, rfl, hc⟩ := rd_cap h
  obtain ⟨b0, b1⟩ := hb
  simp [execOp, ho, Instr.sliceAt, Instr.slice, run_underlying hu, Instr.sliceBounds, hA.eval hx, hA.eval hy, Instr.sliceBound, asIntOf, hz, b0, b1, subV]
theorem rv_sub_h {α : Type} [Rep α] {S : Foot} {s : Value} {l : List α} {n : Nat} (h : Rep.rd S w [s] l) (hn : Rep.n α = n) (hu : P.underlying t = some (.slice el)) (hz : ∀ w, (sizeOf el).run P w = .ok n w) (hb : 0 ≤ j ∧ j ≤ l.length) (ho : o.op = .slice t x none (some z) none) (hx : ev e x = some s) (hw : ev e z = some (.int k2 j)) : RunV P o e w (subV n 0 j.toNat s) w := fun _ a hA => by
  obtain ⟨ad, cp, rfl, hc⟩ := rd_cap h
  obtain ⟨b0, b1⟩ := hb
  have h1 : j ≤ (cp : Int) := by omega
  simp [execOp, ho, Instr.sliceAt, Instr.slice, run_underlying hu, Instr.sliceBounds, hA.eval hx, hA.eval hw, Instr.sliceBound, asIntOf, hz, b0, h1, subV]
theorem rv_sub_n {α : Type} [Rep α] {S : Foot} {s : Value} {l : List α} {n : Nat} (h : Rep.rd S w [s] l) (hn : Rep.n α = n) (hu : P.underlying t = some (.slice el)) (hz : ∀ w, (sizeOf el).run P w = .ok n w) (ho : o.op = .slice t x none none none) (hx : ev e x = some s) : RunV P o e w (subV n 0 l.length s) w := fun _ a hA => by
  obtain ⟨ad, cp, rfl, hc⟩ := rd_cap h
  simp [execOp, ho, Instr.sliceAt, Instr.slice, run_underlying hu, Instr.sliceBounds, hA.eval hx, Instr.sliceBound, asIntOf, hz, subV]

/-! ### Strings -/
theorem ext_list (l : List UInt8) (a b : Nat) : (⟨l.toArray⟩ : ByteArray).extract a b = ⟨((l.take b).drop a).toArray⟩ := by
  apply ByteArray.ext
  grind [ByteArray.data_extract, List.drop_take]
theorem rv_str_lh {l : List UInt8} (hu : P.underlying t = some .string) (hb : 0 ≤ i ∧ i ≤ j ∧ j ≤ l.length) (ho : o.op = .slice t x (some y) (some z) none) (hx : ev e x = some (sv l)) (hy : ev e y = some (.int k i)) (hw : ev e z = some (.int k2 j)) : RunV P o e w (sv ((l.take j.toNat).drop i.toNat)) w := fun _ a hA => by
  obtain ⟨b0, b1, b2⟩ := hb
  have h1 : j ≤ ((⟨l.toArray⟩ : ByteArray).size : Int) := by grind [ByteArray.size]
  have h3 : 0 ≤ j := by omega
  have h2 : max j 0 = j := by omega
  simp [execOp, ho, Instr.sliceAt, Instr.slice, run_underlying hu, Instr.sliceBounds, hA.eval hx, hA.eval hy, hA.eval hw, Instr.sliceBound, asIntOf, b0, b1, h1, h2, h3, ext_list]
theorem rv_str_l {l : List UInt8} (hu : P.underlying t = some .string) (hb : 0 ≤ i ∧ i ≤ l.length) (ho : o.op = .slice t x (some y) none none) (hx : ev e x = some (sv l)) (hy : ev e y = some (.int k i)) : RunV P o e w (sv (l.drop i.toNat)) w := fun _ a hA => by
  obtain ⟨b0, b2⟩ := hb
  have h1 : i ≤ ((⟨l.toArray⟩ : ByteArray).size : Int) := by grind [ByteArray.size]
  have h4 : (⟨l.toArray⟩ : ByteArray).size = l.length := by simp [ByteArray.size]
  simp [execOp, ho, Instr.sliceAt, Instr.slice, run_underlying hu, Instr.sliceBounds, hA.eval hx, hA.eval hy, Instr.sliceBound, asIntOf, b0, b2, h1, ext_list, h4]
theorem rv_str_h {l : List UInt8} (hu : P.underlying t = some .string) (hb : 0 ≤ j ∧ j ≤ l.length) (ho : o.op = .slice t x none (some z) none) (hx : ev e x = some (sv l)) (hw : ev e z = some (.int k2 j)) : RunV P o e w (sv (l.take j.toNat)) w := fun _ a hA => by
  obtain ⟨b0, b2⟩ := hb
  have h1 : j ≤ ((⟨l.toArray⟩ : ByteArray).size : Int) := by grind [ByteArray.size]
  simp [execOp, ho, Instr.sliceAt, Instr.slice, run_underlying hu, Instr.sliceBounds, hA.eval hx, hA.eval hw, Instr.sliceBound, asIntOf, b0, h1, ext_list]
theorem rv_stri {l : List UInt8} {q : UInt8} (hu : P.underlying t = some .string) (hq : idx l i = some q) (ho : o.op = .index t x y) (hx : ev e x = some (sv l)) (hy : ev e y = some (.int k i)) : RunV P o e w (.int .u8 (q.toNat : Int)) w := fun _ a hA => by
  obtain ⟨h0, h1, h2⟩ := idx_some hq
  have h3 : (⟨l.toArray⟩ : ByteArray)[i.toNat]? = some q := by
    rw [getElem?_pos _ _ (by simp [ByteArray.size]; omega)]
    rw [List.getElem?_eq_getElem (by omega)] at h2
    simp only [Option.some.injEq] at h2
    rw [← h2]; rfl
  simp [execOp, ho, Instr.index, run_underlying hu, hA.eval hx, hA.eval hy, asIntOf, h0, h3]
theorem rv_min (ho : o.op = .call { callee := .builtin .min, args := #[x, y], argTypes := #[t, el] }) (hx : ev e x = some (.int .i64 i)) (hy : ev e y = some (.int k j)) : RunV P o e w (.int .i64 (if j < i then j else i)) w := fun _ a hA => by
  simp [execOp, ho, resolve, invoke, builtin, Builtin.min_, Builtin.min2, hA.eval hx, hA.eval hy]
theorem rv_max (ho : o.op = .call { callee := .builtin .max, args := #[x, y], argTypes := #[t, el] }) (hx : ev e x = some (.int .i64 i)) (hy : ev e y = some (.int k j)) : RunV P o e w (.int .i64 (if i < j then j else i)) w := fun _ a hA => by
  simp [execOp, ho, resolve, invoke, builtin, Builtin.max_, Builtin.max2, hA.eval hx, hA.eval hy]
theorem push_bytes : ∀ (l : List UInt8) (s : ByteArray), (l.map fun q => (q.toNat : Int)).foldl (fun r n => r.push (UInt8.ofNat n.toNat)) s = ⟨s.data ++ l.toArray⟩
  | [], s => by simp
  | q :: l, s => by
    rw [List.map_cons, List.foldl_cons, push_bytes l]
    simp
theorem rv_b2s {S : Foot} {s : Value} {l : List UInt8} {t' : TypeId} (h : Rep.rd S w [s] l) (hu : P.underlying t = some (.slice el)) (he : P.underlying el = some (.int .u8)) (hu' : P.underlying t' = some .string) (ho : o.op = .convert t t' x) (hx : ev e x = some s) : RunV P o e w (sv l) w := fun _ a hA => by
  obtain ⟨ad, cp, cc, rfl, h1, h2, h3⟩ := rd_cells h
  have hcc : cc = (l.map fun q => (q.toNat : Int)).map (Value.int .u8) := by
    have h1 : cc.length = l.length * 1 := h1
    apply List.ext_getElem?
    intro i
    by_cases hi : i < l.length
    · have := h3 i l[i] (List.getElem?_eq_getElem hi)
      have : seg cc 1 i = [.int .u8 (l[i].toNat : Int)] := this
      have h5 : (seg cc 1 i)[0]? = cc[i * 1 + 0]? := seg_get (by omega)
      grind
    grind
  have key : (Conv.bytesToString (.slice ad l.length cp)).run P w = .ok (sv l) w := by
    rcases h2 with h2 | ⟨b, off, rfl, h2⟩
    · subst h2
      cases ad with
      | none => rfl
      | some a =>
        rw [show ([] : List UInt8).length = 0 from rfl, run_bytesToString w a 0 cp [] (by simp [loadCells, loadCellsFrom])]
        rfl
    · rw [run_bytesToString w _ _ cp _ (by
        have := run_loadCells_at h2 P
        have h1 : cc.length = l.length * 1 := h1
        rw [h1, Nat.mul_one] at this
        rw [← hcc]; exact this), push_bytes]
      simp [sv]
  simp [execOp, ho, convert, run_underlying hu, run_underlying hu', run_underlying he, hA.eval hx, key]

/-- An element of an array value, of one cell. -/
theorem rv_arr {α : Type} (f : α → Value) {l : List α} {q : α} {cs : Array Value} {n : Nat} (hu : P.underlying t = some (.array n el)) (hz : ∀ w, (sizeOf el).run P w = .ok 1 w) (hg : ∀ w, (isAgg el).run P w = .ok false w) (hq : idx l i = some q) (hn : l.length = n) (hcs : cs = (l.map f).toArray) (ho : o.op = .index t x y) (hx : ev e x = some (.agg cs)) (hy : ev e y = some (.int k i)) : RunV P o e w (f q) w := fun _ a hA => by
  obtain ⟨h0, h1, h2⟩ := idx_some hq
  subst hn; subst hcs
  have h3 := h2
  rw [List.getElem?_eq_getElem (by omega)] at h3
  simp only [Option.some.injEq] at h3
  simp [execOp, ho, Instr.index, run_underlying hu, hA.eval hx, hA.eval hy, asIntOf, h0, h1, hz, part, hg, h3]
theorem rv_buildA {zv : Value} {n m : Nat} {ps : List (Nat × Operand)} {vs : List Value} {cells : Array Value} (ho : o.op = .build t ps.toArray) (hz : ∀ w, (zeroValue t).run P w = .ok zv w) (hu : P.underlying t = some (.array n el))
    (hp : ∀ w, (sizeOf el).run P w = .ok m w) (hv : evs e (ps.map (·.2)) = some vs) (hc : Instr.fill (fun i => some (i * m, m)) zv.cells ((ps.map (·.1)).zip vs) = some cells) : RunV P o e w (.agg cells) w := fun _ a hA => by
  have h1 : ps.map (fun p => (p.1, a.eval p.2)) = (ps.map (·.1)).zip vs := by
    rw [← evs_map hA hv]
    grind
  simp_all [execOp, Instr.build, run_underlying]
/-- T{} of a slice type. -/
theorem rv_lit0 {α : Type} [Rep α] {zv : Value} {m : Nat} (hS : St c w L R) (hn : Rep.n α = m) (hu : P.underlying t = some (.slice el)) (hinf : Inf P el m zv) (ho : o.op = .buildSlice t 0 #[]) :
    ∃ v w', RunV P o e w v w' ∧ St c w' (L ++ [cOwn [v] ([] : List α)]) R := by
  obtain ⟨ti, hi, hz, hsz, hby⟩ := hinf
  have hnew := new_rowN (α := α) hS [] rfl rfl [] [] [] 0 el (fun F _ => ⟨F0, ⟨rfl, fun _ _ h => h⟩, fun _ _ h => h.elim⟩) (by simp) (Nat.le_refl _) (Nat.zero_le _)
  refine ⟨_, _, fun _ a hA => ?_, hnew⟩
  simp_all [Array.eq_empty_of_size_eq_zero, execOp, Instr.buildSlice, run_underlying, sizeOf, typeInfo, Instr.fill, newRow]
theorem fill_one {zv v c0 : Value} (hc : v.cells = #[c0]) : Instr.fill (fun i => some (i * 1, 1)) ((Array.range (1 * 1)).map (fun i => (if 1 * 1 = 0 then #[] else zv.cells)[i % (if 1 * 1 = 0 then #[] else zv.cells).size]!)) [(0, v)] = some #[c0] := by
  have h1 : Array.range 1 = #[0] := rfl
  simp_all [Instr.fill]
/-- T{x} of a slice type whose elements are one cell each. -/
theorem rv_lit1 {α : Type} [Rep α] [Flat α] (q : α) {x : Operand} {v c0 zv : Value} (hS : St c w L R) (hn : Rep.n α = 1) (hu : P.underlying t = some (.slice el)) (hinf : Inf P el 1 zv) (hrd : Rep.rd F0 default [c0] q)
    (ho : o.op = .buildSlice t 1 #[(0, x)]) (hv : ev e x = some v) (hc : v.cells = #[c0]) :
    ∃ v w', RunV P o e w v w' ∧ St c w' (L ++ [cOwn [v] [q]]) R := by
  refine rv_lit (ps := [(0, x)]) (vs := [v]) (cells := [c0]) [q] hS hn hu hinf rfl (by rfl) (by rfl) ⟨hrd, rfl⟩ ho (by simp [evs, hv]) ?_
  exact fill_one hc
/-- T{x} of a slice type whose elements are one cell each, with memory behind it. -/
theorem rv_litN1 {α : Type} [Rep α] (q : α) {x : Operand} {v c0 zv : Value} (hS : St c w L R) (is : List Nat) (ha : apartB is = true) (hrd : OPs 1 [c0] [q] (pick L is)) (hn : Rep.n α = 1) (hu : P.underlying t = some (.slice el)) (hinf : Inf P el 1 zv)
    (ho : o.op = .buildSlice t 1 #[(0, x)]) (hv : ev e x = some v) (hc : v.cells = #[c0]) :
    ∃ v w', RunV P o e w v w' ∧ St c w' (blank L is ++ [cOwn [v] [q]]) R := by
  refine rv_litN (ps := [(0, x)]) (vs := [v]) (cells := [c0]) [q] hS is ha hrd hn hu hinf rfl (by rfl) (by rfl) ho (by simp [evs, hv]) ?_
  exact fill_one hc

/-! ### Array variables -/
theorem rv_idxA {n b : Nat} (hu : P.underlying t = some (.array n el)) (hz : ∀ w, (sizeOf el).run P w = .ok 1 w) (hb : 0 ≤ i ∧ i < n) (ho : o.op = .indexAddr t x y) (hx : ev e x = some (.pointer (some ⟨b, 0, none⟩))) (hy : ev e y = some (.int k i)) : RunV P o e w (.pointer (some ⟨b, i.toNat, none⟩)) w := fun _ a hA => by
  have h5 : (⟨b, 0, none⟩ : Addr).add i.toNat = ⟨b, i.toNat, none⟩ := by
    grind [Addr.add]
  simp [execOp, ho, Instr.indexAt, hA.eval hx, hA.eval hy, asIntOf, run_underlying hu, Instr.sureAddr, hb.1, hb.2, hz, h5]
theorem St.arrcell {α : Type} {f : α → Value} {l : List α} {q : α} {b : Nat} (h : St c w L R) (m : Nat) (hm : L[m]? = some (cBox b (l.map f))) (hq : idx l i = some q) : w.cell? ⟨b, i.toNat, none⟩ = some (f q) :=
  h.cell m hm (by simp_all [idx_some])
theorem setN_map {α : Type} {f : α → Value} {l : List α} {k : Nat} {q : α} : setN (l.map f) k [f q] = (l.set k q).map f := by
  show (l.map f).set k (f q) = _
  simp
theorem rs_arr {α : Type} {f : α → Value} {l : List α} {q xd : α} {b m : Nat} (hS : St c w L R) (hm : L[m]? = some (cBox b (l.map f))) (hq : idx l i = some q) (hz : ∀ w, (sizeOf t).run P w = .ok 1 w) (ho : o.op = .store t x y) (hx : ev e x = some (.pointer (some ⟨b, i.toNat, none⟩))) (hy : ev e y = some v) (hv : v = f xd) (h1 : (f xd).cells = #[f xd]) (h2 : (f xd).oneCell' = true) :
    ∃ w', RunS P o e w w' ∧ St c w' (L.set m (cBox b ((l.set i.toNat xd).map f))) R := by
  obtain ⟨k0, k1, k2⟩ := idx_some hq
  have := rs_box (i := m) (vs := [f xd]) hS hm ho hx hy (by rw [hv, h1]) hz rfl (by (simp_all;omega)) (by simp [h2])
  grind [setN_map]
theorem nil_split {α : Type} [Rep α] {S : Foot} {s : Value} {l : List α} {Q : Prop} (h : Rep.rd S w [s] l) (h1 : (∃ n m, s = .slice none n m) → l = [] → Q) (h2 : (∃ a n m, s = .slice (some a) n m) → Q) : Q := by
  obtain ⟨ad, cp, e, k1, k2, k3⟩ := (show rdSlice S w [s] l from h)
  simp at e
  cases ad with
  | none =>
    grind
  | some ad => grind
theorem ei_nil_t {D n m : Nat} (hu : P.underlying t = some (.slice el)) : (Op.equalIn (D + 1) t (.slice none n m) (.slice none 0 0)).run P w = .ok true w := by
  simp [Op.equalIn, run_underlying hu]
theorem ei_nil_f {D n m : Nat} {ad : Addr} (hu : P.underlying t = some (.slice el)) : (Op.equalIn (D + 1) t (.slice (some ad) n m) (.slice none 0 0)).run P w = .ok false w := by
  simp [Op.equalIn, run_underlying hu]
theorem rv_eqnil_t {s : Value} {t' : TypeId} (hu : P.underlying t = some (.slice el)) (h : ∃ n m, s = .slice none n m) (ho : o.op = .binOp .eql t x y t') (hx : ev e x = some s) (hy : ev e y = some (.slice none 0 0)) : RunV P o e w (.bool true) w := fun _ a hA => by
  obtain ⟨n, m, rfl⟩ := h
  have h1 : binOp .eql t (.slice none n m) (.slice none 0 0) = (do pure (.bool (← Op.equal t (.slice none n m) (.slice none 0 0)))) := rfl
  have h2 : (Op.equal t (.slice none n m) (.slice none 0 0)).run P w = .ok true w := ei_nil_t (D := 9999) hu
  simp [execOp, ho, hA.eval hx, hA.eval hy, eqGuard, h1, h2]
theorem rv_eqnil_f {s : Value} {t' : TypeId} (hu : P.underlying t = some (.slice el)) (h : ∃ a n m, s = .slice (some a) n m) (ho : o.op = .binOp .eql t x y t') (hx : ev e x = some s) (hy : ev e y = some (.slice none 0 0)) : RunV P o e w (.bool false) w := fun _ a hA => by
  obtain ⟨ad, n, m, rfl⟩ := h
  have h1 : binOp .eql t (.slice (some ad) n m) (.slice none 0 0) = (do pure (.bool (← Op.equal t (.slice (some ad) n m) (.slice none 0 0)))) := rfl
  have h2 : (Op.equal t (.slice (some ad) n m) (.slice none 0 0)).run P w = .ok false w := ei_nil_f (D := 9999) hu
  simp [execOp, ho, hA.eval hx, hA.eval hy, eqGuard, h1, h2]
end
end Go.Gv
end
