/-
  What comes in by a row's reading is read by 'Rep.rd': each type once. And what a row asks of old memory out of 'St'. Nothing of a program here.
-/
import Derived.Test.YtpndngnohcffnaaGreatGvRaw
import Derived.ProofKit
import Derived.OpenShut
import Derived.ShutString
import Derived.ChangeOld
import Derived.Below
import Derived.Carry
import Derived.Deep.Slices
namespace Go.Gv
open Go.ChangeShapes Go.WideShapes Go.ChangeAt Go.RowKit

class Fits (α : Type) where
  fit : α → Prop
abbrev fit {α : Type} [Fits α] (x : α) : Prop := Fits.fit x
instance : Fits Int := ⟨fun x => -9223372036854775808 ≤ x ∧ x ≤ 9223372036854775807⟩
instance : Fits Bool := ⟨fun _ => True⟩
instance : Fits UInt8 := ⟨fun _ => True⟩
instance : Fits GStr := ⟨fun s => s.b.length ≤ maxLen⟩
instance {α β : Type} [Fits α] [Fits β] : Fits (α × β) := ⟨fun p => fit p.1 ∧ fit p.2⟩
instance {α : Type} [Fits α] : Fits (List α) := ⟨fun l => l.length ≤ maxLen ∧ ∀ x ∈ l, fit x⟩
@[reducible] def Fits.via {α β : Type} [Fits β] (f : α → β) : Fits α := ⟨fun x => fit (f x)⟩

def OpensAt (P : Program) (t : TypeId) (α : Type) [Rep α] [Fits α] : Prop :=
  ∀ {H : Type} {enc : TypeId × Value → H} {w : World} {spare : Nat → Bool} {held : Bool} {fuel : Nat} {cs : List Value} {x : DataW H × List MemPlace},
    DataW.trod enc P w 0 spare held fuel t cs = some x → ∃ d : α, Rep.rd (All w) w cs d ∧ fit d

theorem opens_int {P : Program} {t : TypeId} (hu : P.underlying t = some (.int .i64)) : OpensAt P t Int := fun h => by
  obtain ⟨n, rfl, _, hf⟩ := DataW.trod_int hu h
  refine ⟨n, rfl, ?_⟩
  show -9223372036854775808 ≤ n ∧ n ≤ 9223372036854775807
  simpa [Lit.wf, show IntKind.i64.min = -9223372036854775808 by decide, show IntKind.i64.max = 9223372036854775807 by decide] using hf
theorem opens_u8 {P : Program} {t : TypeId} (hu : P.underlying t = some (.int .u8)) : OpensAt P t UInt8 := fun h => by
  obtain ⟨n, rfl, _, hf⟩ := DataW.trod_int hu h
  have hn : 0 ≤ n ∧ n ≤ 255 := by simpa [Lit.wf, show IntKind.u8.min = 0 by decide, show IntKind.u8.max = 255 by decide] using hf
  refine ⟨UInt8.ofNat n.toNat, ?_, trivial⟩
  show [Value.int .u8 n] = [Value.int .u8 ((UInt8.ofNat n.toNat).toNat : Int)]
  have e : (((UInt8.ofNat n.toNat).toNat : Nat) : Int) = n := by
    rw [UInt8.toNat_ofNat']; omega
  rw [e]
theorem opens_bool {P : Program} {t : TypeId} (hu : P.underlying t = some .bool) : OpensAt P t Bool := fun h => by
  obtain ⟨b, rfl, _⟩ := DataW.trod_bool hu h
  exact ⟨b, rfl, trivial⟩
theorem opens_str {P : Program} {t : TypeId} (hu : P.underlying t = some .string) : OpensAt P t GStr := fun h => by
  obtain ⟨s, rfl, _, hs⟩ := DataW.trod_string hu h
  refine ⟨⟨s.data.toList⟩, ?_, ?_⟩
  · show [Value.string s] = [Value.string ⟨s.data.toList.toArray⟩]
    simp
  · show s.data.toList.length ≤ maxLen
    simpa using hs
theorem opens_slice {P : Program} {t e : TypeId} {α : Type} [Rep α] [Fits α] (hu : P.underlying t = some (.slice e)) (hc : P.cellsOf e = Rep.n α) (hn : 0 < Rep.n α) (he : OpensAt P e α) : OpensAt P t (List α) := fun {H enc w spare held fuel cs x} h => by
  rcases Go.Deep.open_slice hu h with ⟨rfl, _⟩ | ⟨a, len, cap, m, n, D, Pl, rfl, _, hl, hm, hmm, _, hx⟩
  · exact ⟨[], ⟨none, 0, rfl, Nat.le_refl _, Nat.zero_le _, .inl rfl⟩, Nat.zero_le _, fun _ h => nomatch h⟩
  · have hlm : len ≤ m := by rw [hmm]; split <;> omega
    rw [hc] at hx
    by_cases h0 : len = 0
    · subst h0
      exact ⟨[], ⟨some a, cap, rfl, Nat.zero_le _, hm, .inl rfl⟩, Nat.zero_le _, fun _ h => nomatch h⟩
    have one : ∀ i, i < len → ∃ d : α, (∃ ec, w.cells? 0 (a.add (i * Rep.n α)) (Rep.n α) = some ec ∧ Rep.rd (All w) w ec d) ∧ fit d := fun i hi => by
      obtain ⟨ec, h1, h2⟩ := hx i (by omega)
      obtain ⟨d, h3, h4⟩ := he h2
      exact ⟨d, ⟨ec, h1, h3⟩, h4⟩
    obtain ⟨d0, _⟩ := one 0 (by omega)
    haveI : Inhabited α := ⟨d0⟩
    obtain ⟨f, hf⟩ := Go.Deep.choose_lt one
    obtain ⟨b, off, sp⟩ := a
    refine ⟨(List.range len).map f, ⟨some ⟨b, off, sp⟩, cap, by simp, by simpa using hl, hm, ?_⟩, by simp; omega, fun x hx => by
      obtain ⟨i, hi, rfl⟩ := List.mem_map.1 hx
      exact (hf i (by simpa using hi)).2⟩
    right
    have sp0 : sp = none := by
      obtain ⟨ec, h1, _⟩ := hx 0 (by omega)
      obtain ⟨_, h2, h3⟩ := World.cells?_some h1
      have h4 := h3 0 hn
      rw [List.getElem?_eq_getElem (by omega)] at h4
      have h5 := World.cell?_spot h4
      simpa [Addr.add] using h5
    subst sp0
    refine ⟨b, off, rfl, fun i hi => ?_⟩
    have hi' : i < len := by simpa using hi
    obtain ⟨ec, h1, h2⟩ := (hf i hi').1
    obtain ⟨_, h3, h4⟩ := World.cells?_some h1
    have hcell : CellsAt w b (off + i * Rep.n α) ec := fun j v hj => by
      obtain ⟨hj', _⟩ := List.getElem?_eq_some_iff.1 hj
      have h5 := h4 j (by omega)
      rw [hj] at h5
      have e : ((⟨b, off, none⟩ : Addr).add (i * Rep.n α)).add j = ⟨b, off + i * Rep.n α + j, none⟩ := by
        rw [Go.Deep.add_add]; unfold Addr.add; split <;> simp_all <;> omega
      rw [e] at h5; exact h5
    refine ⟨ec, hcell, fun o _ => ?_, by simpa using h2⟩
    exact hcell.lt (fun e => by subst e; simp at h3; omega)

def OpensFields (P : Program) (fs : List Field) (o total : Nat) (β : Type) [Rep β] [Fits β] : Prop :=
  ∀ {H : Type} {enc : TypeId × Value → H} {w : World} {spare : Nat → Bool} {held : Bool} {n : Nat} {cs : List Value}, cs.length = total →
    (∀ f ∈ fs, ∃ y, DataW.trod enc P w 0 spare held n f.type ((cs.drop f.offset).take (P.cellsOf f.type)) = some y) → ∃ d : β, Rep.rd (All w) w (cs.drop o) d ∧ fit d

theorem of_one {P : Program} {f : Field} {o k total : Nat} {α : Type} [Rep α] [Fits α] (h : OpensAt P f.type α) (ho : f.offset = o) (hk : P.cellsOf f.type = k) (ht : total = o + k) : OpensFields P [f] o total α := fun hl hf => by
  obtain ⟨y, hy⟩ := hf f (by simp)
  obtain ⟨d, h1, h2⟩ := h hy
  refine ⟨d, ?_, h2⟩
  rw [ho, hk, List.take_of_length_le (by simp; omega)] at h1
  exact h1
theorem of_cons {P : Program} {f : Field} {fs : List Field} {o k total : Nat} {α β : Type} [Rep α] [Fits α] [Rep β] [Fits β] (h : OpensAt P f.type α) (ho : f.offset = o) (hk : P.cellsOf f.type = k) (hr : OpensFields P fs (o + k) total β) : OpensFields P (f :: fs) o total (α × β) := fun hl hf => by
  obtain ⟨y, hy⟩ := hf f (by simp)
  obtain ⟨d, h1, h2⟩ := h hy
  obtain ⟨d', h3, h4⟩ := hr hl fun g hg => hf g (by simp [hg])
  refine ⟨(d, d'), ?_, h2, h4⟩
  rw [ho, hk] at h1
  exact ⟨_, _, by rw [← List.drop_drop, List.take_append_drop], h1, h3⟩
theorem opens_struct {P : Program} {t : TypeId} {fs : Array Field} {total : Nat} {α β : Type} [Rep α] [Fits α] [Rep β] [Fits β] (hu : P.underlying t = some (.struct fs)) (hc : P.cellsOf t = total) (h : OpensFields P fs.toList 0 total β)
    (f : α → β) (hf : ∀ p, ∃ d, f d = p) (hrd : ∀ {S w cs} {d : α}, Rep.rd S w cs (f d) → Rep.rd S w cs d) (hft : ∀ {d : α}, fit (f d) → fit d) : OpensAt P t α := fun hh => by
  obtain ⟨xs, n, _, rfl, hl, hlen, hx⟩ := DataW.trod_struct hu hh
  obtain ⟨p, h1, h2⟩ := h (n := n) (hl.trans hc) fun g hg => by
    obtain ⟨i, hi, rfl⟩ := List.getElem_of_mem hg
    have hi' : i < fs.size := by simpa using hi
    have := hx i fs[i] (by simp [hi'])
    simp only [Array.getElem_toList]
    exact ⟨xs[i]'(by omega), by rw [this]; simp⟩
  obtain ⟨d, rfl⟩ := hf p
  exact ⟨d, hrd h1, hft h2⟩

/-- The value that came in, by its cells. -/
theorem Trod.opens {H : Type} {enc : TypeId × Value → H} {P : Program} {w : World} {spare : Nat → Bool} {held : Bool} {t : TypeId} {v : Value} {x : DataW H} {ps : List MemPlace} {α : Type} [Rep α] [Fits α] (ho : OpensAt P t α) (h : DataW.Trod enc P w 0 spare held t v x ps) :
    ∃ d : α, Rep.rd (All w) w v.cells.toList d ∧ fit d := by
  obtain ⟨fuel, hf⟩ := h
  exact ho hf

theorem St.below {w0 w' : World} {L : List Chunk} {R : List Fact} (h : St (cxAll w0) w' L R) : Below w0.heap.size w0 w' :=
  ⟨h.keep.os, h.keep.tape, h.keep.output, h.keep.size, fun k hk => h.keep.block k hk fun _ hf => hf⟩
end Go.Gv
