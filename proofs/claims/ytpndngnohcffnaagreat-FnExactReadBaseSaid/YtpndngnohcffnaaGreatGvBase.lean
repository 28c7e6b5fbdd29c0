/-
  Readings and ownership of Go values in the model's memory, and one assertion 'St' that a walk carries along. Nothing of a program here.
-/
import Derived.WalkKit
import Derived.OrdersHeld
namespace Go.Gv

abbrev Foot := Nat → Nat → Prop
def Foot.disj (F G : Foot) : Prop := ∀ b o, F b o → G b o → False
def F0 : Foot := fun _ _ => False

theorem Foot.disj_symm {F G : Foot} (h : F.disj G) : G.disj F := fun b o hg hf => h b o hf hg

/-- From w to w' nothing turned outside F; nothing went. -/
structure Keep (F : Foot) (w w' : World) : Prop where
  os : w'.os = w.os
  tape : w'.tape = w.tape
  output : w'.output = w.output
  size : w.heap.size ≤ w'.heap.size
  block : ∀ b, b < w.heap.size → (∀ o, ¬ F b o) → w'.heap[b]? = w.heap[b]?
  cell : ∀ b o, b < w.heap.size → ¬ F b o → w'.cell? ⟨b, o, none⟩ = w.cell? ⟨b, o, none⟩
  frz : ∀ b o, b < w.heap.size → w'.frozen? ⟨b, o, none⟩ = w.frozen? ⟨b, o, none⟩
  stay : ∀ b o, (w.cell? ⟨b, o, none⟩).isSome = true → (w'.cell? ⟨b, o, none⟩).isSome = true

theorem lt_of_cell {w : World} {b o : Nat} (h : (w.cell? ⟨b, o, none⟩).isSome = true) : b < w.heap.size := by
  obtain ⟨v, hv⟩ := Option.isSome_iff_exists.1 h
  exact World.block_lt_of_cell? w ⟨b, o, none⟩ hv

theorem Keep.refl (F : Foot) (w : World) : Keep F w w := ⟨rfl, rfl, rfl, Nat.le_refl _, fun _ _ _ => rfl, fun _ _ _ _ => rfl, fun _ _ _ => rfl, fun _ _ h => h⟩

theorem Keep.mono {F G : Foot} {w w' : World} (h : Keep F w w') (hs : ∀ b o, b < w.heap.size → F b o → G b o) : Keep G w w' :=
  ⟨h.os, h.tape, h.output, h.size, fun b hb hg => h.block b hb fun o hf => hg o (hs b o hb hf), fun b o hb hg => h.cell b o hb fun hf => hg (hs b o hb hf), h.frz, h.stay⟩

theorem Keep.trans {F G : Foot} {w w1 w2 : World} (h : Keep F w w1) (k : Keep G w1 w2) (hs : ∀ b o, b < w.heap.size → G b o → F b o) : Keep F w w2 :=
  ⟨k.os.trans h.os, k.tape.trans h.tape, k.output.trans h.output, Nat.le_trans h.size k.size,
   fun b hb hf => (k.block b (Nat.lt_of_lt_of_le hb h.size) fun o hg => hf o (hs b o hb hg)).trans (h.block b hb hf),
   fun b o hb hf => (k.cell b o (Nat.lt_of_lt_of_le hb h.size) fun hg => hf (hs b o hb hg)).trans (h.cell b o hb hf),
   fun b o hb => (k.frz b o (Nat.lt_of_lt_of_le hb h.size)).trans (h.frz b o hb), fun b o hc => k.stay b o (h.stay b o hc)⟩

theorem Keep.drew (F : Foot) (w : World) : Keep F w w.drew := ⟨rfl, rfl, rfl, Nat.le_refl _, fun _ _ _ => rfl, fun _ _ _ _ => rfl, fun _ _ _ => rfl, fun _ _ h => h⟩

theorem Keep.alloc (F : Foot) (w : World) (ob : Obj) : Keep F w (w.alloc ob) := by
  have hb : ∀ b, b < w.heap.size → (w.alloc ob).heap[b]? = w.heap[b]? := fun b hb => by apply heap_alloc_old; exact hb
  have hc : ∀ b o, b < w.heap.size → (w.alloc ob).cell? ⟨b, o, none⟩ = w.cell? ⟨b, o, none⟩ := fun b o h => World.cell?_of_block (hb b h)
  exact ⟨rfl, rfl, rfl, by simp, fun b h _ => hb b h, fun b o h _ => hc b o h, fun b o h => World.frozen?_of_block (hb b h),
    fun b o h => by rw [hc b o (lt_of_cell h)]; exact h⟩

theorem Keep.setCell (F : Foot) (w : World) (a : Addr) (v : Value) (hf : F a.block a.off) (ha : a.spot = none) : Keep F w (w.setCell a v) := by
  have hsz : (w.setCell a v).heap.size = w.heap.size := by simp
  refine ⟨rfl, rfl, rfl, by simp, fun b _ hn => ?_, fun b o _ hn => ?_, fun b o _ => by simp, fun b o h => ?_⟩
  · exact heap_setCell_other w a b v (fun e => hn a.off (e ▸ hf))
  · refine World.cell?_setCell_other (h := fun e => hn ?_) ..
    rw [e] at hf; exact hf
  · by_cases e : a = ⟨b, o, none⟩
    · subst e
      obtain ⟨u, hu⟩ := Option.isSome_iff_exists.1 h
      rw [World.cell?_setCell_same (h := hu)]; rfl
    · rw [World.cell?_setCell_other (h := e)]; exact h

/-- The cells from b, off on are cs. -/
def CellsAt (w : World) (b off : Nat) (cs : List Value) : Prop := ∀ j v, cs[j]? = some v → w.cell? ⟨b, off + j, none⟩ = some v

/-- A Go type whose values read as a Lean type. 'rd S': the cells cs read as d, and all that is looked at lies in S; 'own': and all memory behind them (F) is ours. -/
class Rep (α : Type) where
  n : Nat
  rd : Foot → World → List Value → α → Prop
  own : World → List Value → α → Foot → Prop
  rd_len : ∀ {S w cs d}, rd S w cs d → cs.length = n
  rd_one : ∀ {S w cs d}, rd S w cs d → ∀ v ∈ cs, v.oneCell' = true
  rd_agree : ∀ {S w w' cs d}, rd S w cs d → (∀ b o, S b o → w'.cell? ⟨b, o, none⟩ = w.cell? ⟨b, o, none⟩) → rd S w' cs d
  rd_mono : ∀ {S S' w cs d}, rd S w cs d → (∀ b o, S b o → S' b o) → rd S' w cs d
  own_rd : ∀ {w cs d F}, own w cs d F → rd F w cs d
  own_keep : ∀ {w w' cs d F G}, own w cs d F → Keep G w w' → F.disj G → own w' cs d F
  own_lt : ∀ {w cs d F b o}, own w cs d F → F b o → b < w.heap.size

/-- A one-cell type without memory behind it. -/
@[reducible] def Rep.flat {α : Type} (f : α → Value) (hf : ∀ x, (f x).oneCell' = true) : Rep α where
  n := 1
  rd := fun _ _ cs x => cs = [f x]
  own := fun _ cs x F => cs = [f x] ∧ ∀ b o, ¬ F b o
  rd_len := fun h => by simp [h]
  rd_one := fun h v hv => by simp [h] at hv; rw [hv]; exact hf _
  rd_agree := fun h _ => h
  rd_mono := fun h _ => h
  own_rd := fun h => h.1
  own_keep := fun h _ _ => h
  own_lt := fun h hf => (h.2 _ _ hf).elim

instance : Rep Int := Rep.flat (fun x => .int .i64 x) fun _ => rfl
instance : Rep Bool := Rep.flat (fun x => .bool x) fun _ => rfl
instance : Rep UInt8 := Rep.flat (fun x => .int .u8 (x.toNat : Int)) fun _ => rfl
/-- A Go string. -/
structure GStr where
  b : List UInt8
  deriving DecidableEq, Inhabited
instance : Rep GStr := Rep.flat (fun x => .string ⟨x.b.toArray⟩) fun _ => rfl

instance {α β : Type} [Rep α] [Rep β] : Rep (α × β) where
  n := Rep.n α + Rep.n β
  rd := fun S w cs d => ∃ c1 c2, cs = c1 ++ c2 ∧ Rep.rd S w c1 d.1 ∧ Rep.rd S w c2 d.2
  own := fun w cs d F => ∃ c1 c2 F1 F2, cs = c1 ++ c2 ∧ Rep.own w c1 d.1 F1 ∧ Rep.own w c2 d.2 F2 ∧ Foot.disj F1 F2 ∧ ∀ b o, F b o ↔ F1 b o ∨ F2 b o
  rd_len := by rintro S w cs d ⟨c1, c2, rfl, h1, h2⟩; simp [Rep.rd_len h1, Rep.rd_len h2]
  rd_one := by
    rintro S w cs d ⟨c1, c2, rfl, h1, h2⟩ v hv
    rcases List.mem_append.1 hv with h | h
    · exact Rep.rd_one h1 v h
    · exact Rep.rd_one h2 v h
  rd_agree := by rintro S w w' cs d ⟨c1, c2, rfl, h1, h2⟩ ha; exact ⟨c1, c2, rfl, Rep.rd_agree h1 ha, Rep.rd_agree h2 ha⟩
  rd_mono := by rintro S S' w cs d ⟨c1, c2, rfl, h1, h2⟩ ha; exact ⟨c1, c2, rfl, Rep.rd_mono h1 ha, Rep.rd_mono h2 ha⟩
  own_rd := by
    rintro w cs d F ⟨c1, c2, F1, F2, rfl, h1, h2, _, hF⟩
    exact ⟨c1, c2, rfl, Rep.rd_mono (Rep.own_rd h1) fun b o h => (hF b o).2 (.inl h), Rep.rd_mono (Rep.own_rd h2) fun b o h => (hF b o).2 (.inr h)⟩
  own_keep := by
    rintro w w' cs d F G ⟨c1, c2, F1, F2, rfl, h1, h2, hd, hF⟩ hk hdj
    exact ⟨c1, c2, F1, F2, rfl, Rep.own_keep h1 hk fun b o h g => hdj b o ((hF b o).2 (.inl h)) g, Rep.own_keep h2 hk fun b o h g => hdj b o ((hF b o).2 (.inr h)) g, hd, hF⟩
  own_lt := by
    rintro w cs d F b o ⟨c1, c2, F1, F2, rfl, h1, h2, hd, hF⟩ hf
    rcases (hF b o).1 hf with h | h
    · exact Rep.own_lt h1 h
    · exact Rep.own_lt h2 h

/-- A struct, by the product of its fields. -/
@[reducible] def Rep.via {σ τ : Type} [Rep τ] (f : σ → τ) : Rep σ where
  n := Rep.n τ
  rd := fun S w cs d => Rep.rd S w cs (f d)
  own := fun w cs d F => Rep.own w cs (f d) F
  rd_len := fun h => Rep.rd_len h
  rd_one := fun h => Rep.rd_one h
  rd_agree := fun h ha => Rep.rd_agree h ha
  rd_mono := fun h ha => Rep.rd_mono h ha
  own_rd := fun h => Rep.own_rd h
  own_keep := fun h hk hd => Rep.own_keep h hk hd
  own_lt := fun h hf => Rep.own_lt h hf

theorem CellsAt.agree {w w' : World} {b off : Nat} {cs : List Value} (h : CellsAt w b off cs) (ha : ∀ o, off ≤ o → o < off + cs.length → w'.cell? ⟨b, o, none⟩ = w.cell? ⟨b, o, none⟩) : CellsAt w' b off cs := by
  intro j v hj
  have hlt := (List.getElem?_eq_some_iff.1 hj).1
  rw [ha _ (by omega) (by omega)]
  exact h j v hj

theorem CellsAt.lt {w : World} {b off : Nat} {cs : List Value} (h : CellsAt w b off cs) (hc : cs ≠ []) : b < w.heap.size := by
  cases cs with
  | nil => exact absurd rfl hc
  | cons v r => exact World.block_lt_of_cell? w ⟨b, off + 0, none⟩ (h 0 v rfl)

def inRow (b off n : Nat) : Foot := fun b' o => b' = b ∧ off ≤ o ∧ o < off + n
/-- A slice. -/
def rdSlice {α : Type} [Rep α] (S : Foot) (w : World) (cs : List Value) (l : List α) : Prop :=
  ∃ a c, cs = [.slice a l.length c] ∧ l.length ≤ c ∧ c ≤ maxLen ∧
    (l = [] ∨ ∃ b off, a = some ⟨b, off, none⟩ ∧ ∀ i (h : i < l.length), ∃ ec, CellsAt w b (off + i * Rep.n α) ec ∧ (∀ o, inRow b (off + i * Rep.n α) ec.length b o → S b o) ∧ Rep.rd S w ec l[i])
def ownSlice {α : Type} [Rep α] (w : World) (cs : List Value) (l : List α) (F : Foot) : Prop :=
  ∃ a c, cs = [.slice a l.length c] ∧ l.length ≤ c ∧ c ≤ maxLen ∧
    ((a = none ∧ c = 0 ∧ ∀ b o, ¬ F b o) ∨
     ∃ b off, ∃ Fs : Nat → Foot, a = some ⟨b, off, none⟩ ∧ (∀ o, inRow b off (c * Rep.n α) b o → (w.cell? ⟨b, o, none⟩).isSome = true ∧ w.frozen? ⟨b, o, none⟩ = false) ∧
       (∀ i (h : i < l.length), ∃ ec, CellsAt w b (off + i * Rep.n α) ec ∧ Rep.own w ec l[i] (Fs i)) ∧
       (∀ i j, i < l.length → j < l.length → i ≠ j → Foot.disj (Fs i) (Fs j)) ∧ (∀ i, i < l.length → Foot.disj (Fs i) (inRow b off (c * Rep.n α))) ∧
       ∀ b' o, F b' o ↔ inRow b off (c * Rep.n α) b' o ∨ ∃ i, i < l.length ∧ Fs i b' o)

theorem rowIn {i len c n j : Nat} (hi : i < len) (hc : len ≤ c) (hj : j < n) : i * n + j < c * n := by
  have : (i + 1) * n ≤ c * n := Nat.mul_le_mul_right n (by omega)
  rw [Nat.add_mul] at this
  omega

instance instRepList {α : Type} [Rep α] : Rep (List α) where
  n := 1
  rd := rdSlice
  own := ownSlice
  rd_len := by rintro S w cs d ⟨a, c, rfl, _⟩; rfl
  rd_one := by rintro S w cs d ⟨a, c, rfl, _⟩ v hv; simp at hv; subst hv; rfl
  rd_agree := by
    rintro S w w' cs l ⟨a, c, rfl, h1, h2, h3⟩ ha
    refine ⟨a, c, rfl, h1, h2, ?_⟩
    rcases h3 with h | ⟨b, off, rfl, h⟩
    · exact .inl h
    · refine .inr ⟨b, off, rfl, fun i hi => ?_⟩
      obtain ⟨ec, hc, hr, hd⟩ := h i hi
      exact ⟨ec, hc.agree fun o a1 a2 => ha b o (hr o ⟨rfl, a1, a2⟩), hr, Rep.rd_agree hd ha⟩
  rd_mono := by
    rintro S S' w cs l ⟨a, c, rfl, h1, h2, h3⟩ ha
    refine ⟨a, c, rfl, h1, h2, ?_⟩
    rcases h3 with h | ⟨b, off, rfl, h⟩
    · exact .inl h
    · refine .inr ⟨b, off, rfl, fun i hi => ?_⟩
      obtain ⟨ec, hc, hr, hd⟩ := h i hi
      exact ⟨ec, hc, fun o a1 => ha b o (hr o a1), Rep.rd_mono hd ha⟩
  own_rd := by
    rintro w cs l F ⟨a, c, rfl, h1, h2, h3⟩
    refine ⟨a, c, rfl, h1, h2, ?_⟩
    rcases h3 with ⟨rfl, hc, _⟩ | ⟨b, off, Fs, rfl, hrow, hel, _, _, hF⟩
    · subst hc; exact .inl (List.eq_nil_of_length_eq_zero (by omega))
    · refine .inr ⟨b, off, rfl, fun i hi => ?_⟩
      obtain ⟨ec, hc, ho⟩ := hel i hi
      refine ⟨ec, hc, fun o h4 => (hF b o).2 (.inl ⟨rfl, ?_, ?_⟩), Rep.rd_mono (Rep.own_rd ho) fun b' o hf => (hF b' o).2 (.inr ⟨i, hi, hf⟩)⟩
      · have := h4.2.1; omega
      · have hl := Rep.rd_len (Rep.own_rd ho)
        obtain ⟨_, h5, h6⟩ := h4
        rw [hl] at h6
        have := rowIn (j := o - (off + i * Rep.n α)) (n := Rep.n α) hi h1 (by omega)
        omega
  own_keep := by
    rintro w w' cs l F G ⟨a, c, rfl, h1, h2, h3⟩ hk hd
    refine ⟨a, c, rfl, h1, h2, ?_⟩
    rcases h3 with h | ⟨b, off, Fs, rfl, hrow, hel, h4, h5, hF⟩
    · exact .inl h
    · refine .inr ⟨b, off, Fs, rfl, fun o ho => ?_, fun i hi => ?_, h4, h5, hF⟩
      · have hs := hrow o ho
        exact ⟨hk.stay b o hs.1, (hk.frz b o (lt_of_cell hs.1)).trans hs.2⟩
      · obtain ⟨ec, hc, ho⟩ := hel i hi
        refine ⟨ec, hc.agree fun o h6 h7 => ?_, Rep.own_keep ho hk fun b' o hf hg => hd b' o ((hF b' o).2 (.inr ⟨i, hi, hf⟩)) hg⟩
        have hin : inRow b off (c * Rep.n α) b o := by
          refine ⟨rfl, by omega, ?_⟩
          have hl := Rep.rd_len (Rep.own_rd ho)
          rw [hl] at h7
          have := rowIn (j := o - (off + i * Rep.n α)) (n := Rep.n α) hi h1 (by omega)
          omega
        exact hk.cell b o (lt_of_cell (hrow o hin).1) fun hg => hd b o ((hF b o).2 (.inl hin)) hg
  own_lt := by
    rintro w cs l F b' o ⟨a, c, rfl, h1, h2, h3⟩ hf
    rcases h3 with ⟨_, _, h⟩ | ⟨b, off, Fs, rfl, hrow, hel, h4, h5, hF⟩
    · exact (h _ _ hf).elim
    · rcases (hF b' o).1 hf with h | ⟨i, hi, h⟩
      · have e : b' = b := h.1
        subst e
        exact lt_of_cell (hrow o h).1
      · obtain ⟨ec, hc, ho⟩ := hel i hi
        exact Rep.own_lt ho h

/-! ### Chunks, facts, and what a walk carries -/
structure Chunk where
  P : World → Foot → Prop
  keep : ∀ {w w' F G}, P w F → Keep G w w' → F.disj G → P w' F
  lt : ∀ {w F b o}, P w F → F b o → b < w.heap.size

/-- Nothing. -/
def cNo : Chunk := ⟨fun _ F => ∀ b o, ¬ F b o, fun h _ _ => h, fun h hf => (h _ _ hf).elim⟩
/-- The cells from b, off on are cs, and ours. -/
def cAt (b off : Nat) (cs : List Value) : Chunk where
  P := fun w F => CellsAt w b off cs ∧ (∀ o, inRow b off cs.length b o → w.frozen? ⟨b, o, none⟩ = false) ∧ ∀ b' o, F b' o ↔ inRow b off cs.length b' o
  keep := by
    rintro w w' F G ⟨h1, h2, hF⟩ hk hd
    have hlt : ∀ o, inRow b off cs.length b o → b < w.heap.size := fun o ho => by
      obtain ⟨_, h3, h4⟩ := ho
      exact World.block_lt_of_cell? w _ (h1 (o - off) cs[o - off] (List.getElem?_eq_getElem (by omega)))
    refine ⟨h1.agree fun o h3 h4 => ?_, fun o ho => (hk.frz b o (hlt o ho)).trans (h2 o ho), hF⟩
    have hin : inRow b off cs.length b o := ⟨rfl, h3, h4⟩
    exact hk.cell b o (hlt o hin) fun hg => hd b o ((hF b o).2 hin) hg
  lt := by
    rintro w F b' o ⟨h1, h2, hF⟩ hf
    obtain ⟨rfl, h3, h4⟩ := (hF b' o).1 hf
    exact World.block_lt_of_cell? w _ (h1 (o - off) cs[o - off] (List.getElem?_eq_getElem (by omega)))
/-- The cells cs (in a temporary) read as d, and the memory behind them is ours. -/
def cOwn {α : Type} [Rep α] (cs : List Value) (d : α) : Chunk := ⟨fun w F => Rep.own w cs d F, fun h hk hd => Rep.own_keep h hk hd, fun h hf => Rep.own_lt h hf⟩

/-- A list of chunks, apart. -/
def Sep (w : World) : List Chunk → Foot → Prop
  | [], F => ∀ b o, ¬ F b o
  | c :: L, F => ∃ F1 F2, c.P w F1 ∧ Sep w L F2 ∧ F1.disj F2 ∧ ∀ b o, F b o ↔ F1 b o ∨ F2 b o

theorem Sep.keep {w w' : World} {G : Foot} (hk : Keep G w w') : ∀ {L : List Chunk} {F : Foot}, Sep w L F → F.disj G → Sep w' L F
  | [], _, h, _ => h
  | c :: _, _, ⟨F1, F2, h1, h2, hd, hF⟩, hdj =>
    ⟨F1, F2, c.keep h1 hk fun b o h g => hdj b o ((hF b o).2 (.inl h)) g, Sep.keep hk h2 fun b o h g => hdj b o ((hF b o).2 (.inr h)) g, hd, hF⟩

theorem Sep.lt {w : World} : ∀ {L : List Chunk} {F : Foot} {b o : Nat}, Sep w L F → F b o → b < w.heap.size
  | [], _, _, _, h, hf => (h _ _ hf).elim
  | c :: L, F, b, o, ⟨F1, F2, h1, h2, hd, hF⟩, hf => by
    rcases (hF b o).1 hf with h | h
    · exact c.lt h1 h
    · exact Sep.lt h2 h

theorem Sep.congr {w : World} {L : List Chunk} {F G : Foot} (h : Sep w L F) (hFG : ∀ b o, F b o ↔ G b o) : Sep w L G := by
  have : F = G := by funext b o; exact propext (hFG b o)
  rw [← this]; exact h

theorem Sep.append {w : World} : ∀ {A B : List Chunk} {F : Foot}, Sep w (A ++ B) F ↔ ∃ F1 F2, Sep w A F1 ∧ Sep w B F2 ∧ F1.disj F2 ∧ ∀ b o, F b o ↔ F1 b o ∨ F2 b o
  | [], B, F => by
    constructor
    · intro h; exact ⟨F0, F, fun _ _ h => h, h, fun _ _ h _ => h, fun b o => by simp [F0]⟩
    · rintro ⟨F1, F2, h1, h2, _, hF⟩
      exact Sep.congr h2 fun b o => by rw [hF]; exact ⟨.inr, fun h => h.elim (fun h => (h1 _ _ h).elim) id⟩
  | c :: A, B, F => by
    constructor
    · rintro ⟨F1, F2, h1, h2, hd, hF⟩
      obtain ⟨G1, G2, g1, g2, gd, hG⟩ := Sep.append.1 h2
      exact ⟨fun b o => F1 b o ∨ G1 b o, G2, ⟨F1, G1, h1, g1, fun b o h g => hd b o h ((hG b o).2 (.inl g)), fun _ _ => Iff.rfl⟩, g2,
        fun b o h g => h.elim (fun h => hd b o h ((hG b o).2 (.inr g))) (fun h => gd b o h g), fun b o => by rw [hF, hG, or_assoc]⟩
    · rintro ⟨F1, F2, ⟨G1, G2, g1, g2, gd, hG⟩, h2, hd, hF⟩
      exact ⟨G1, fun b o => G2 b o ∨ F2 b o, g1, Sep.append.2 ⟨G2, F2, g2, h2, fun b o h g => hd b o ((hG b o).2 (.inr h)) g, fun _ _ => Iff.rfl⟩,
        fun b o h g => g.elim (fun g => gd b o h g) (fun g => hd b o ((hG b o).2 (.inl h)) g), fun b o => by rw [hF, hG, or_assoc]⟩

theorem Sep.swap {w : World} {A B : List Chunk} {F : Foot} (h : Sep w (A ++ B) F) : Sep w (B ++ A) F := by
  obtain ⟨F1, F2, h1, h2, hd, hF⟩ := Sep.append.1 h
  exact Sep.append.2 ⟨F2, F1, h2, h1, Foot.disj_symm hd, fun b o => by rw [hF, or_comm]⟩

/-- Chunk number i stands in front, nothing in its place. -/
theorem Sep.take {w : World} {c : Chunk} : ∀ {L : List Chunk} {i : Nat} {F : Foot}, L[i]? = some c → (Sep w L F ↔ Sep w (c :: L.set i cNo) F)
  | [], i, F, h => by simp at h
  | d :: L, 0, F, h => by
    simp at h; subst h
    show (∃ F1 F2, _) ↔ ∃ F1 F2, d.P w F1 ∧ (∃ G1 G2, cNo.P w G1 ∧ Sep w L G2 ∧ G1.disj G2 ∧ _) ∧ _
    constructor
    · rintro ⟨F1, F2, h1, h2, hd, hF⟩
      exact ⟨F1, F2, h1, ⟨F0, F2, fun _ _ h => h, h2, fun _ _ h _ => h, fun b o => by simp [F0]⟩, hd, hF⟩
    · rintro ⟨F1, F2, h1, ⟨G1, G2, g1, g2, _, hG⟩, hd, hF⟩
      exact ⟨F1, G2, h1, g2, fun b o h g => hd b o h ((hG b o).2 (.inr g)), fun b o => by
        rw [hF, hG]
        constructor
        · rintro (h | h | h)
          · exact .inl h
          · exact (g1 _ _ h).elim
          · exact .inr h
        · rintro (h | h)
          · exact .inl h
          · exact .inr (.inr h)⟩
  | d :: L, i + 1, F, h => by
    have h' : L[i]? = some c := by simpa using h
    show (∃ F1 F2, d.P w F1 ∧ Sep w L F2 ∧ _) ↔ Sep w (c :: d :: L.set i cNo) F
    have step : ∀ G, Sep w L G ↔ Sep w (c :: L.set i cNo) G := fun G => Sep.take h'
    constructor
    · rintro ⟨F1, F2, h1, h2, hd, hF⟩
      obtain ⟨G1, G2, g1, g2, gd, hG⟩ := (step F2).1 h2
      exact ⟨G1, fun b o => F1 b o ∨ G2 b o, g1, ⟨F1, G2, h1, g2, fun b o h g => hd b o h ((hG b o).2 (.inr g)), fun _ _ => Iff.rfl⟩,
        fun b o g h => h.elim (fun h => hd b o h ((hG b o).2 (.inl g))) (fun h => gd b o g h), fun b o => by rw [hF, hG, or_left_comm]⟩
    · rintro ⟨G1, H, g1, ⟨F1, G2, h1, g2, hd, hH⟩, gd, hF⟩
      exact ⟨F1, fun b o => G1 b o ∨ G2 b o, h1, (step _).2 ⟨G1, G2, g1, g2, fun b o g h => gd b o g ((hH b o).2 (.inr h)), fun _ _ => Iff.rfl⟩,
        fun b o h g => g.elim (fun g => gd b o g ((hH b o).2 (.inl h))) (fun g => hd b o h g), fun b o => by rw [hF, hH, or_left_comm]⟩

/-- The context of a call: the world at its beginning, what it may write, what it may look at. -/
structure Ctx where
  w0 : World
  W : Foot
  S0 : Foot

structure Fact where
  P : Foot → World → Prop
  agree : ∀ {S w w'}, P S w → (∀ b o, S b o → w'.cell? ⟨b, o, none⟩ = w.cell? ⟨b, o, none⟩) → P S w'
  mono : ∀ {S S' w}, P S w → (∀ b o, S b o → S' b o) → P S' w
/-- The cells cs read as d. -/
def fRd {α : Type} [Rep α] (cs : List Value) (d : α) : Fact := ⟨fun S w => Rep.rd S w cs d, fun h ha => Rep.rd_agree h ha, fun h ha => Rep.rd_mono h ha⟩
/-- All that there is. -/
def All (w : World) : Foot := fun b _ => b < w.heap.size

structure St (c : Ctx) (w : World) (L : List Chunk) (R : List Fact) : Prop where
  keep : Keep c.W c.w0 w
  sep : ∃ F S, Sep w L F ∧ F.disj S ∧ (∀ b o, F b o → c.W b o ∨ c.w0.heap.size ≤ b) ∧ (∀ b o, S b o → c.S0 b o ∨ c.W b o ∨ c.w0.heap.size ≤ b) ∧
    (∀ b o, S b o → b < w.heap.size) ∧ ∀ f ∈ R, f.P S w
  apart : c.W.disj c.S0

section
variable {c : Ctx} {w w' : World} {L : List Chunk} {R : List Fact}

theorem St.fact (h : St c w L R) {f : Fact} (i : Nat) (hi : R[i]? = some f) : f.P (All w) w := by
  obtain ⟨F, S, _, _, _, _, h5, hR⟩ := h.sep
  exact f.mono (hR f (List.mem_of_getElem? hi)) h5
theorem St.rd {α : Type} [Rep α] {cs : List Value} {d : α} (h : St c w L R) (i : Nat) (hi : R[i]? = some (fRd cs d)) : Rep.rd (All w) w cs d := h.fact i hi

theorem St.chunk (h : St c w L R) {ch : Chunk} (i : Nat) (hi : L[i]? = some ch) : ∃ F, ch.P w F := by
  obtain ⟨F, S, hs, _⟩ := h.sep
  obtain ⟨F1, F2, h1, _⟩ := (Sep.take hi).1 hs
  exact ⟨F1, h1⟩

theorem St.rdOwn {α : Type} [Rep α] {cs : List Value} {d : α} (h : St c w L R) (i : Nat) (hi : L[i]? = some (cOwn cs d)) : Rep.rd (All w) w cs d := by
  obtain ⟨F, hF⟩ := h.chunk i hi
  have hF : Rep.own w cs d F := hF
  exact Rep.rd_mono (Rep.own_rd hF) fun b o hf => Rep.own_lt hF hf

/-- Some chunks in front are turned; new memory may be theirs. -/
theorem St.step {A A' B : List Chunk} (h : St c w (A ++ B) R) (hs : ∀ F, Sep w A F → ∃ F' G, Keep G w w' ∧ (∀ b o, G b o → F b o) ∧ Sep w' A' F' ∧ ∀ b o, F' b o → F b o ∨ w.heap.size ≤ b) :
    St c w' (A' ++ B) R := by
  obtain ⟨F, S, hsep, hFS, hFW, hSS, hSlt, hR⟩ := h.sep
  obtain ⟨F1, F2, h1, h2, hd, hF⟩ := Sep.append.1 hsep
  obtain ⟨F', G, hk, hG, h1', hF'⟩ := hs F1 h1
  have hGW : ∀ b o, b < c.w0.heap.size → G b o → c.W b o := fun b o hb g => by
    rcases hFW b o ((hF b o).2 (.inl (hG b o g))) with h | h
    · exact h
    · omega
  refine ⟨h.keep.trans hk hGW, ⟨fun b o => F' b o ∨ F2 b o, S, Sep.append.2 ⟨F', F2, h1', Sep.keep hk h2 fun b o hf g => hd b o (hG b o g) hf, ?_, fun _ _ => Iff.rfl⟩, ?_, ?_, hSS, fun b o hS => Nat.lt_of_lt_of_le (hSlt b o hS) hk.size, ?_⟩, h.apart⟩
  · intro b o hf hg
    rcases hF' b o hf with h | h
    · exact hd b o h hg
    · have := Sep.lt h2 hg; omega
  · rintro b o (hf | hf) hS
    · rcases hF' b o hf with h | h
      · exact hFS b o ((hF b o).2 (.inl h)) hS
      · have := hSlt b o hS; omega
    · exact hFS b o ((hF b o).2 (.inr hf)) hS
  · rintro b o (hf | hf)
    · rcases hF' b o hf with h' | h'
      · exact hFW b o ((hF b o).2 (.inl h'))
      · exact .inr (Nat.le_trans h.keep.size h')
    · exact hFW b o ((hF b o).2 (.inr hf))
  · intro f hf
    exact f.agree (hR f hf) fun b o hS => hk.cell b o (hSlt b o hS) fun g => hFS b o ((hF b o).2 (.inl (hG b o g))) hS

theorem St.rot {A B : List Chunk} (h : St c w (A ++ B) R) : St c w (B ++ A) R := by
  obtain ⟨F, S, hsep, rest⟩ := h.sep
  exact ⟨h.keep, ⟨F, S, hsep.swap, rest⟩, h.apart⟩

theorem St.take (h : St c w L R) {ch : Chunk} (i : Nat) (hi : L[i]? = some ch) : St c w (ch :: L.set i cNo) R := by
  obtain ⟨F, S, hsep, rest⟩ := h.sep
  exact ⟨h.keep, ⟨F, S, (Sep.take hi).1 hsep, rest⟩, h.apart⟩

theorem Sep.put {w : World} {ch : Chunk} : ∀ {L : List Chunk} {i : Nat} {F : Foot}, i < L.length → Sep w (ch :: L.set i cNo) F → Sep w (L.set i ch) F
  | L, i, F, hi, h => (Sep.take (c := ch) (L := L.set i ch) (i := i) (by simp [hi])).2 (by rw [List.set_set]; exact h)

theorem St.put {ch : Chunk} {i : Nat} (h : St c w (ch :: L.set i cNo) R) (hi : i < L.length) : St c w (L.set i ch) R := by
  obtain ⟨F, S, hsep, rest⟩ := h.sep
  exact ⟨h.keep, ⟨F, S, Sep.put hi hsep, rest⟩, h.apart⟩

/-- Chunk i is turned in its place. -/
theorem St.turn (h : St c w L R) {ch ch' : Chunk} (i : Nat) (hi : L[i]? = some ch) (hs : ∀ F, ch.P w F → ∃ F' G, Keep G w w' ∧ (∀ b o, G b o → F b o) ∧ ch'.P w' F' ∧ ∀ b o, F' b o → F b o ∨ w.heap.size ≤ b) :
    St c w' (L.set i ch') R := by
  have h1 : St c w ([ch] ++ L.set i cNo) R := h.take i hi
  have h2 : St c w' ([ch'] ++ L.set i cNo) R := h1.step fun F hF => by
    obtain ⟨F1, F2, p1, p2, pd, pF⟩ := hF
    obtain ⟨F', G, hk, hG, hp, hF'⟩ := hs F1 p1
    refine ⟨F', G, hk, fun b o g => (pF b o).2 (.inl (hG b o g)), ⟨F', F0, hp, fun _ _ h => h, fun _ _ _ h => h, fun b o => by simp [F0]⟩, fun b o hf => ?_⟩
    rcases hF' b o hf with h | h
    · exact .inl ((pF b o).2 (.inl h))
    · exact .inr h
  exact St.put h2 (List.getElem?_eq_some_iff.1 hi).1

/-- New memory. -/
theorem St.more (h : St c w L R) {ch : Chunk} (hk : Keep F0 w w') (hp : ∃ F, ch.P w' F ∧ ∀ b o, F b o → w.heap.size ≤ b) : St c w' (L ++ [ch]) R := by
  obtain ⟨F, hp, hF⟩ := hp
  have h2 : St c w' ([ch] ++ L) R := St.step (A := []) (by simpa using h) fun G _ => ⟨F, F0, hk, fun _ _ h => h.elim, ⟨F, F0, hp, fun _ _ h => h, fun _ _ _ h => h, fun b o => by simp [F0]⟩, fun b o hf => .inr (hF b o hf)⟩
  exact St.rot h2

theorem St.same (h : St c w L R) (hk : Keep F0 w w') : St c w' L R :=
  St.step (A := []) (A' := []) (B := L) h fun _ _ => ⟨F0, F0, hk, fun _ _ h => h.elim, fun _ _ h => h, fun _ _ h => h.elim⟩

theorem St.weaken (h : St c w L R) {R' : List Fact} (hs : ∀ f ∈ R', f ∈ R) : St c w L R' := by
  obtain ⟨F, S, a1, a2, a3, a4, a5, a6⟩ := h.sep
  exact ⟨h.keep, ⟨F, S, a1, a2, a3, a4, a5, fun f hf => a6 f (hs f hf)⟩, h.apart⟩

theorem St.drop {A : List Chunk} (h : St c w (A ++ L) R) : St c w L R :=
  St.step (A := A) (A' := []) h fun _ _ => ⟨F0, F0, Keep.refl _ _, fun _ _ h => h.elim, fun _ _ h => h, fun _ _ h => h.elim⟩

/-- Facts that follow from one. -/
theorem St.derive (h : St c w L R) {f : Fact} {Gs : List Fact} (i : Nat) (hi : R[i]? = some f) (hfg : ∀ S, f.P S w → ∀ g ∈ Gs, g.P S w) : St c w L (R ++ Gs) := by
  obtain ⟨F, S, a1, a2, a3, a4, a5, a6⟩ := h.sep
  refine ⟨h.keep, ⟨F, S, a1, a2, a3, a4, a5, fun g hg => ?_⟩, h.apart⟩
  rcases List.mem_append.1 hg with hg | hg
  · exact a6 g hg
  · exact hfg S (a6 f (List.mem_of_getElem? hi)) g hg

/-- What is ours is given to all to look at. -/
theorem St.leak {α : Type} [Rep α] {cs : List Value} {d : α} (h : St c w L R) (i : Nat) (hi : L[i]? = some (cOwn cs d)) : St c w (L.set i cNo) (R ++ [fRd cs d]) := by
  have h1 := h.take i hi
  obtain ⟨F, S, ⟨F1, F2, h1, h2, hd, hF⟩, a2, a3, a4, a5, a6⟩ := h1.sep
  have h1 : Rep.own w cs d F1 := h1
  refine ⟨h.keep, ⟨F2, fun b o => S b o ∨ F1 b o, h2, ?_, fun b o hf => a3 b o ((hF b o).2 (.inr hf)), ?_, ?_, ?_⟩, h.apart⟩
  · rintro b o hf (hs | hs)
    · exact a2 b o ((hF b o).2 (.inr hf)) hs
    · exact hd b o hs hf
  · rintro b o (hs | hs)
    · exact a4 b o hs
    · rcases a3 b o ((hF b o).2 (.inl hs)) with h | h
      · exact .inr (.inl h)
      · exact .inr (.inr h)
  · rintro b o (hs | hs)
    · exact a5 b o hs
    · exact Rep.own_lt h1 hs
  · intro f hf
    rcases List.mem_append.1 hf with hf | hf
    · exact f.mono (a6 f hf) fun b o hs => .inl hs
    · simp at hf; subst hf
      exact Rep.rd_mono (Rep.own_rd h1) fun b o hs => .inr hs

/-- A call that looks at what it is handed and makes new memory alone. -/
def cxAll (w : World) : Ctx := ⟨w, F0, All w⟩

theorem St.enter {RA : List Fact} (hR : ∀ f ∈ RA, f.P (All w) w) : St (cxAll w) w [] RA :=
  ⟨Keep.refl _ _, ⟨F0, All w, fun _ _ h => h, fun _ _ h => h.elim, fun _ _ h => h.elim, fun _ _ h => .inl h, fun _ _ h => h, hR⟩, fun _ _ h => h.elim⟩

/-- Behind such a call. -/
theorem St.after {A' : List Chunk} {RA : List Fact} (h : St c w L R) (k : St (cxAll w) w' A' RA) : St c w' (L ++ A') R := by
  obtain ⟨F, S, a1, a2, a3, a4, a5, a6⟩ := k.sep
  have h2 : St c w' (A' ++ L) R := St.step (w := w) (A := []) (by simpa using h) fun G _ => ⟨F, F0, k.keep, fun _ _ h => h.elim, a1, fun b o hf => (a3 b o hf).elim (fun h => h.elim) .inr⟩
  exact St.rot h2

/-- A call that writes to chunks of ours (A, in front) and looks at facts of ours. -/
theorem St.call {A : List Chunk} {RA : List Fact} (h : St c w (A ++ L) R) (hRA : ∀ f ∈ RA, f ∈ R) :
    ∃ c', c'.w0 = w ∧ St c' w A RA ∧ ∀ w' A' R', St c' w' A' R' → St c w' (L ++ A') (R ++ R') := by
  obtain ⟨F, S, hsep, hFS, hFW, hSS, hSlt, hR⟩ := h.sep
  obtain ⟨F1, F2, h1, h2, hd, hF⟩ := Sep.append.1 hsep
  refine ⟨⟨w, F1, S⟩, rfl, ⟨Keep.refl _ _, ⟨F1, S, h1, fun b o hf => hFS b o ((hF b o).2 (.inl hf)), fun _ _ h => .inl h, fun _ _ h => .inl h, hSlt, fun f hf => hR f (hRA f hf)⟩, fun b o hf => hFS b o ((hF b o).2 (.inl hf))⟩, ?_⟩
  intro w' A' R' k
  obtain ⟨F', S', b1, b2, b3, b4, b5, b6⟩ := k.sep
  have hk := k.keep
  have hGW : ∀ b o, b < c.w0.heap.size → F1 b o → c.W b o := fun b o hb g => by
    rcases hFW b o ((hF b o).2 (.inl g)) with h | h
    · exact h
    · omega
  refine ⟨h.keep.trans hk hGW, ⟨fun b o => F2 b o ∨ F' b o, fun b o => S b o ∧ True ∨ S' b o, Sep.append.2 ⟨F2, F', Sep.keep hk h2 fun b o hf g => hd b o g hf, b1, ?_, fun _ _ => Iff.rfl⟩, ?_, ?_, ?_, ?_, ?_⟩, h.apart⟩
  · intro b o hf hg
    rcases b3 b o hg with h | h
    · exact hd b o h hf
    · have h : w.heap.size ≤ b := h
      have := Sep.lt h2 hf; omega
  · rintro b o (hf | hf) (⟨hs, _⟩ | hs)
    · exact hFS b o ((hF b o).2 (.inr hf)) hs
    · rcases b4 b o hs with h | h | h
      · exact hFS b o ((hF b o).2 (.inr hf)) h
      · exact hd b o h hf
      · have h : w.heap.size ≤ b := h
        have := Sep.lt h2 hf; omega
    · rcases b3 b o hf with h | h
      · exact hFS b o ((hF b o).2 (.inl h)) hs
      · have h : w.heap.size ≤ b := h
        have := hSlt b o hs; omega
    · exact b2 b o hf hs
  · rintro b o (hf | hf)
    · exact hFW b o ((hF b o).2 (.inr hf))
    · rcases b3 b o hf with h' | h'
      · exact hFW b o ((hF b o).2 (.inl h'))
      · exact .inr (Nat.le_trans h.keep.size h')
  · rintro b o (⟨hs, _⟩ | hs)
    · exact hSS b o hs
    · rcases b4 b o hs with h' | h' | h'
      · exact hSS b o h'
      · rcases hFW b o ((hF b o).2 (.inl h')) with h'' | h''
        · exact .inr (.inl h'')
        · exact .inr (.inr h'')
      · exact .inr (.inr (Nat.le_trans h.keep.size h'))
  · rintro b o (⟨hs, _⟩ | hs)
    · exact Nat.lt_of_lt_of_le (hSlt b o hs) hk.size
    · exact b5 b o hs
  · intro f hf
    rcases List.mem_append.1 hf with hf | hf
    · exact f.mono (f.agree (hR f hf) fun b o hs => hk.cell b o (hSlt b o hs) fun g => hFS b o ((hF b o).2 (.inl g)) hs) fun b o hs => .inl ⟨hs, trivial⟩
    · exact f.mono (b6 f hf) fun b o hs => .inr hs
end
end Go.Gv
