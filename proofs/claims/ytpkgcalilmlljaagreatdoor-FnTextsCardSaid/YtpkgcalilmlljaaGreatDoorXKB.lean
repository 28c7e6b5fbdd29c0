import Derived.Test.YtpkgcalilmlljaaGreatDoorXKA
import Derived.Deep.Slices
import Derived.ProofKit
import Derived.OpenShut
import Derived.ShutString
import Derived.ChangeOld
import Derived.Below
import Derived.Carry
set_option linter.unusedVariables false
set_option linter.unusedSimpArgs false
set_option linter.unusedSectionVars false
set_option linter.unnecessarySimpa false
set_option linter.constructorNameAsVariable false
section
/-
  One-cell values taken raw, and the row that a Grow makes. Nothing of a program here.
-/
set_option linter.unusedVariables false
set_option linter.unusedSimpArgs false
namespace Go.Gv

/-- A one-cell value, whatever it leads to. -/
structure Raw where
  v : Value
instance : Inhabited Raw := ⟨⟨.slice none 0 0⟩⟩
instance : Rep Raw where
  n := 1
  rd := fun _ _ cs x => cs = [x.v] ∧ x.v.oneCell' = true
  own := fun _ cs x F => (cs = [x.v] ∧ x.v.oneCell' = true) ∧ ∀ b o, ¬ F b o
  rd_len := fun h => by simp [h.1]
  rd_one := fun h v hv => by grind
  rd_agree := fun h _ => h
  rd_mono := fun h _ => h
  own_rd := fun h => h.1
  own_keep := fun h _ _ => h
  own_lt := fun h hf => (h.2 _ _ hf).elim
instance : Flat Raw := ⟨fun h => ⟨h, fun _ _ h => h⟩, fun h => h.2⟩

/-- Values that read as l, one by one. -/
def RawRel {α : Type} [Rep α] (S : Foot) (w : World) (us : List Raw) (l : List α) : Prop := us.length = l.length ∧ ∀ (i : Nat) (u : Raw) (x : α), us[i]? = some u → l[i]? = some x → Rep.rd S w [u.v] x
theorem RawRel.append {α : Type} [Rep α] {S : Foot} {w : World} {us vs : List Raw} {l m : List α} (h : RawRel S w us l) (k : RawRel S w vs m) : RawRel S w (us ++ vs) (l ++ m) := by
  refine ⟨by simp [h.1, k.1], fun i u x hu hx => ?_⟩
  rw [List.getElem?_append] at hu hx
  rw [h.1] at hu
  split at hu
  · rename_i hlt; rw [if_pos hlt] at hx; exact h.2 i u x hu hx
  · rename_i hlt; rw [if_neg hlt] at hx; exact k.2 _ u x hu hx
/-- A slice of one-cell elements, read raw. -/
theorem rd_raw {α : Type} [Rep α] (hn : Rep.n α = 1) {S : Foot} {w : World} {s : Value} {l : List α} (h : Rep.rd S w [s] l) : ∃ us : List Raw, Rep.rd S w [s] us ∧ RawRel S w us l := by
  obtain ⟨ad, c, e, h1, h2, h3⟩ := (show rdSlice S w [s] l from h)
  rcases h3 with h3 | ⟨b, off, rfl, h3⟩
  · subst h3
    exact ⟨[], ⟨ad, c, e, h1, h2, .inl rfl⟩, rfl, fun i u x hu => by simp at hu⟩
  · have hv : ∀ i, i < l.length → ∃ v : Value, CellsAt w b (off + i * 1) [v] ∧ (∀ o, inRow b (off + i * 1) 1 b o → S b o) ∧ v.oneCell' = true ∧ ∀ x, l[i]? = some x → Rep.rd S w [v] x := fun i hi => by
      obtain ⟨ec, q1, q2, q3⟩ := h3 i hi
      have hl := Rep.rd_len q3
      rw [hn] at hl q1 q2
      grind [List.length_eq_one_iff, Rep.rd_one]
    obtain ⟨f, hf⟩ := Go.Deep.choose_lt (α := Value) hv
    refine ⟨(List.range l.length).map fun i => ⟨f i⟩, ⟨_, c, by rw [e]; simp, by grind, h2, .inr ⟨b, off, rfl, fun i hi => ?_⟩⟩, by simp, fun i u x hu hx => ?_⟩
    · have hi' : i < l.length := by grind
      refine ⟨[f i], (hf i hi').1, (hf i hi').2.1, ?_⟩
      simp only [List.getElem_map, List.getElem_range]
      exact ⟨rfl, (hf i hi').2.2.1⟩
    grind
/-- .. and back. -/
theorem rd_unraw {α : Type} [Rep α] (hn : Rep.n α = 1) {S : Foot} {w : World} {s : Value} {us : List Raw} {l : List α} (h : Rep.rd S w [s] us) (hr : RawRel S w us l) : Rep.rd S w [s] l := by
  obtain ⟨ad, c, e, h1, h2, h3⟩ := (show rdSlice S w [s] us from h)
  have hl : us.length = l.length := hr.1
  refine ⟨ad, c, by rw [e, hl], hl ▸ h1, h2, ?_⟩
  rcases h3 with h3 | ⟨b, off, rfl, h3⟩
  · grind
  · right
    refine ⟨b, off, rfl, fun i hi => ?_⟩
    obtain ⟨ec, q1, q2, q3⟩ := h3 i (by omega)
    have q3 : ec = [(us[i]'(by omega)).v] ∧ _ := q3
    refine ⟨ec, by rw [hn]; exact q1, by rw [hn]; exact q2, ?_⟩
    rw [q3.1]
    exact hr.2 i _ _ (List.getElem?_eq_getElem _) (List.getElem?_eq_getElem hi)

/-- A row of ours, whatever its cells hold. -/
def cRow (s : Value) (n : Nat) : Chunk where
  P := fun w F => ∃ b off len c, s = .slice (some ⟨b, off, none⟩) len c ∧ c ≤ maxLen ∧ Row w b off (c * n) ∧ ∀ b' o, F b' o ↔ inRow b off (c * n) b' o
  keep := by
    rintro w w' F G ⟨b, off, len, c, e, h1, h2, hF⟩ hk hd
    exact ⟨b, off, len, c, e, h1, fun o p => ⟨hk.stay b o (h2 o p).1, (hk.frz b o (lt_of_cell (h2 o p).1)).trans (h2 o p).2⟩, hF⟩
  lt := by
    rintro w F b' o ⟨b, off, len, c, e, h1, h2, hF⟩ hf
    have p := (hF b' o).1 hf
    obtain rfl : b' = b := p.1
    exact lt_of_cell (h2 o p).1
section
variable {v : Value} {k k2 : IntKind} {i j : Int} {P : Program} {o : Oper} {e : Env} {w w' : World} {c : Ctx} {L : List Chunk} {R : List Fact} {x y z : Operand} {t t2 el : TypeId}
theorem St.el_Slice {α : Type} [Rep α] {s : Value} {l : List (List α)} {n : Nat} {q : List α} (h : St c w L R) (m : Nat) (hm : R[m]? = some (fRd [s] l)) (hq : l[n]? = some q) : ∃ v0 : Value, CellsAt w (elB s) (elO 1 n s) [v0] ∧ St c w L (R ++ [fRd [v0] q]) := by
  obtain ⟨S, hS, hk⟩ := h.factS hm
  obtain ⟨ec, h1, h2⟩ := rd_el hS hq
  obtain ⟨v0, rfl⟩ := rd_one_cell h2
  exact ⟨v0, h1, hk _ (by intro f hf; simp only [List.mem_cons, List.not_mem_nil, or_false] at hf; subst hf; exact h2)⟩
theorem St.rowNil (h : St c w L R) {α : Type} [Rep α] {s : Value} {n : Nat} (m : Nat) (hm : L[m]? = some (cRow s n)) (hn : Rep.n α = n) : St c w (L.set m (cOwn [subV n 0 0 s] ([] : List α))) R :=
  h.turn m hm fun F hF => by
    obtain ⟨b, off, len, cp, rfl, h1, h2, hF⟩ := hF
    have e : subV n 0 0 (.slice (some ⟨b, off, none⟩) len cp) = .slice (some ⟨b, off, none⟩) 0 cp := by
      simp [subV, Addr.add]
    subst hn
    refine ⟨fun b' o' => inRow b off (cp * Rep.n α) b' o' ∨ F0 b' o', F0, Keep.refl _ _, fun _ _ h => h.elim, ?_, fun b' o' q => .inl ((hF b' o').2 (q.elim id fun q => q.elim))⟩
    show Rep.own w [_] ([] : List α) _
    rw [e]
    exact own_of_row (l := ([] : List α)) (cc := []) (Fe := F0) h2 (fun j v h => by simp at h) ⟨rfl, fun _ _ h => h⟩ (fun _ _ h => h.elim) (Nat.zero_le _) h1
theorem rv_capnil (hu : P.underlying t = some (.slice el)) (ho : o.op = .call { callee := .builtin .cap, args := #[x], argTypes := #[t] }) (hx : ev e x = some (.slice none 0 0)) : RunV P o e w (.int .i64 0) w := fun _ a hA => by
  simp [execOp, ho, resolve, invoke, builtin, Builtin.cap_, hA.eval hx, run_underlying hu, goInt]
/-- append(nil, make([]T, n)...) -/
theorem rv_appZ {z : Value} {m : Nat} (hS : St c w L R) (hu : P.underlying t = some (.slice el)) (hut : P.underlying t2 = some (.int k)) (hinf : Inf P el m z) (hzs : z.cells.size = m) (hm : Nat.ble 1 m = true)
    (hb : 1 ≤ i ∧ i ≤ 1073741824) (ho : o.op = .call { callee := .builtin .append, args := #[x, y], argTypes := #[t, t2] }) (hx : ev e x = some (.slice none 0 0)) (hy : ev e y = some (.int .i64 i)) :
    ∃ v w', RunV P o e w v w' ∧ St c w' (L ++ [cRow v m]) R ∧ ∃ ad cp, v = .slice ad i.toNat cp := by
  obtain ⟨ti, hti, hz, hsz, hby⟩ := hinf
  obtain ⟨b0, b1⟩ := hb
  have hw : IntKind.i64.wrap i = i := by grind [IntKind.wrap, IntKind.bits]
  have hn0 : ¬ (i.toNat ≤ 0) := by omega
  have hbytes : i.toNat * ti.bytes ≤ 140737488355328 := by
    have : i.toNat * ti.bytes ≤ 1073741824 * 65536 := Nat.mul_le_mul (by omega) hby
    omega
  have hfit := growslice_fits (need := i.toNat) (old := 0) (bytes := ti.bytes) (by omega) hbytes
  obtain ⟨hge, hle⟩ : i.toNat ≤ grownCap w i.toNat 0 el ∧ grownCap w i.toNat 0 el ≤ maxLen := ⟨grownCap_ge _ _ _ _, grownCap_le_maxLen _ _ _ _ (by grind [maxLen])⟩
  have hrun : ∃ cs : Array Value, cs.size = grownCap w i.toNat 0 el * m ∧ (Builtin.append_ #[t, t2] o.type #[.slice none 0 0, .int .i64 i]).run P w = .ok (.slice (some ⟨w.heap.size, 0, none⟩) i.toNat (grownCap w i.toNat 0 el)) (w.drew.alloc (.cells cs el)) := by
    have hn2 : ¬ (i ≤ 0) := by omega
    have hi : (i.toNat : Int) = i := by omega
    have h63' : ¬ (9223372036854775807 < i) := by omega
    have h48' : ¬ (281474976710656 < Builtin.nextslicecap i.toNat 0 * ti.bytes) := by omega
    have h48 : ¬ (281474976710656 < i * (ti.bytes : Int)) := by
      grind
    have hneg : ¬ (i < 0) := by omega
    have hmax : max i 0 = i := by omega
    have hm1 := Nat.le_of_ble_eq_true hm
    have hnm : ¬ (i.toNat * m = 0) := by
      grind [Nat.mul_eq_zero]
    refine ⟨Builtin.zeroCells z.cells i.toNat ++ Builtin.zeroCells z.cells (grownCap w i.toNat 0 el - i.toNat), ?_, ?_⟩
    rotate_left 1
    · have hf1 : (Builtin.firstCells m 0 (.slice none 0 0)).run P w.drew = .ok #[] w.drew := rfl
      simp [Builtin.append_, run_underlying hu, run_underlying hut, sizeOf, typeInfo, zeroValue, hti, hz, hsz, Builtin.lenOf, asInt, asIntOf, hw, hneg, h48, hn0, h63', h48', Question.forced, newRow, grownCap, hf1, hnm, hi, hn2, hmax]
    · rw [Array.size_append, size_zeroCells, size_zeroCells, hzs, ← Nat.add_mul]
      grind
  obtain ⟨cs, hcs, hrun⟩ := hrun
  refine ⟨.slice (some ⟨w.heap.size, 0, none⟩) i.toNat (grownCap w i.toNat 0 el), w.drew.alloc (.cells cs el), fun _ a hA => ?_, ?_, _, _, rfl⟩
  rotate_left 1
  · refine (hS.same (Keep.drew F0 w)).more (Keep.alloc _ _ _) ⟨inRow w.heap.size 0 (grownCap w i.toNat 0 el * m), ⟨_, _, _, _, rfl, hle, fun o' p => ?_, fun _ _ => Iff.rfl⟩, fun b o' p => Nat.le_of_eq p.1.symm⟩
    obtain ⟨_, _, h3⟩ := p
    refine ⟨?_, World.frozen?_alloc_at (hn := rfl) ..⟩
    have h4 : (w.drew.alloc (.cells cs el)).cell? ⟨w.drew.heap.size, o', none⟩ = cs[o']? := by grind [World.cell?_alloc_at]
    simp_all
  · simp [execOp, ho, resolve, invoke, builtin, hA.eval hx, hA.eval hy, hrun]
theorem rv_sub0 {s : Value} {n : Nat} (h : ∃ ad len cp, s = .slice ad len cp) (hu : P.underlying t = some (.slice el)) (hz : ∀ w, (sizeOf el).run P w = .ok n w) (ho : o.op = .slice t x none (some z) none) (hx : ev e x = some s) (hw : ev e z = some (.int k2 0)) : RunV P o e w (subV n 0 0 s) w := fun _ a hA => by
  obtain ⟨ad, len, cp, rfl⟩ := h
  simp [execOp, ho, Instr.sliceAt, Instr.slice, run_underlying hu, Instr.sliceBounds, hA.eval hx, hA.eval hw, Instr.sliceBound, asIntOf, hz, subV]
theorem St.rowShape (h : St c w L R) {s : Value} {n : Nat} (m : Nat) (hm : L[m]? = some (cRow s n)) : ∃ ad len cp, s = .slice ad len cp := by
  obtain ⟨F, b, off, len, cp, e, _⟩ := h.chunk m hm
  grind
/-- A row of raw values that is a fact, read as the slices that they lead to: two of them. -/
theorem St.concat2_in (h : St c w L R) {α : Type} [Rep α] (hn : Rep.n α = 1) {s s1 s2 : Value} {a b : List α} (m m1 m2 : Nat) (hm : R[m]? = some (fRd [s] ([⟨s1⟩, ⟨s2⟩] : List Raw))) (hm1 : R[m1]? = some (fRd [s1] a)) (hm2 : R[m2]? = some (fRd [s2] b)) :
    ∃ u1 u2 : List Raw, Rep.rd (All w) w [s] ([u1, u2] : List (List Raw)) ∧ RawRel (All w) w (u1 ++ u2) (a ++ b) ∧ u1.length = a.length ∧ u2.length = b.length := by
  have h0 := h.rd m hm
  obtain ⟨u1, k1, r1⟩ := rd_raw hn (h.rd m1 hm1)
  obtain ⟨u2, k2, r2⟩ := rd_raw hn (h.rd m2 hm2)
  refine ⟨u1, u2, rd_unraw rfl h0 ⟨rfl, fun i u q hu hq => ?_⟩, r1.append r2, r1.1, r2.1⟩
  grind
/-- .. that stays so. -/
def fRel {α : Type} [Rep α] (us : List Raw) (l : List α) : Fact where
  P := fun S w => RawRel S w us l
  agree := fun h ha => ⟨h.1, fun i u x hu hx => Rep.rd_agree (h.2 i u x hu hx) ha⟩
  mono := fun h ha => ⟨h.1, fun i u x hu hx => Rep.rd_mono (h.2 i u x hu hx) ha⟩
theorem St.factsS (h : St c w L R) : ∃ S, (∀ f ∈ R, f.P S w) ∧ (∀ b o, S b o → b < w.heap.size) ∧ ∀ Gs : List Fact, (∀ g ∈ Gs, g.P S w) → St c w L (R ++ Gs) := by
  obtain ⟨F, S, a1, a2, a3, a4, a5, a6⟩ := h.sep
  refine ⟨S, a6, a5, fun Gs hG => ⟨h.keep, ⟨F, S, a1, a2, a3, a4, a5, fun g hg => ?_⟩, h.apart⟩⟩
  grind
/-- A row of raw values that is a fact, read as the slices that they lead to: two of them; what they hold stays known. -/
theorem St.concat2 (h : St c w L R) {α : Type} [Rep α] (hn : Rep.n α = 1) {s s1 s2 : Value} {a b : List α} (m m1 m2 : Nat) (hm : R[m]? = some (fRd [s] ([⟨s1⟩, ⟨s2⟩] : List Raw))) (hm1 : R[m1]? = some (fRd [s1] a)) (hm2 : R[m2]? = some (fRd [s2] b)) :
    ∃ u1 u2 : List Raw, Rep.rd (All w) w [s] ([u1, u2] : List (List Raw)) ∧ (u1.length = a.length ∧ u2.length = b.length) ∧ St c w L (R ++ [fRel (u1 ++ u2) (a ++ b)]) := by
  obtain ⟨S, hS, hlt, hk⟩ := h.factsS
  have h0 : Rep.rd S w [s] ([⟨s1⟩, ⟨s2⟩] : List Raw) := hS _ (List.mem_of_getElem? hm)
  obtain ⟨u1, k1, r1⟩ := rd_raw hn (show Rep.rd S w [s1] a from hS _ (List.mem_of_getElem? hm1))
  obtain ⟨u2, k2, r2⟩ := rd_raw hn (show Rep.rd S w [s2] b from hS _ (List.mem_of_getElem? hm2))
  refine ⟨u1, u2, Rep.rd_mono (rd_unraw rfl h0 ⟨rfl, fun i u q hu hq => ?_⟩) hlt, ⟨r1.1, r2.1⟩, hk _ fun g hg => ?_⟩
  · grind
  · simp only [List.mem_cons, List.not_mem_nil, or_false] at hg; subst hg; exact r1.append r2
theorem St.unraw (h : St c w L R) {α : Type} [Rep α] (hn : Rep.n α = 1) {s : Value} {us : List Raw} {l : List α} (m m' : Nat) (hm : R[m]? = some (fRd [s] us)) (hm' : R[m']? = some (fRel us l)) : St c w L (R ++ [fRd [s] l]) := by
  obtain ⟨S, hS, hlt, hk⟩ := h.factsS
  refine hk _ fun g hg => ?_
  simp only [List.mem_cons, List.not_mem_nil, or_false] at hg; subst hg
  exact rd_unraw hn (show Rep.rd S w [s] us from hS _ (List.mem_of_getElem? hm)) (hS _ (List.mem_of_getElem? hm'))
theorem fill_two {zv v c0 v' c1 : Value} (hc : v.cells = #[c0]) (hc' : v'.cells = #[c1]) : Instr.fill (fun i => some (i * 1, 1)) ((Array.range (2 * 1)).map (fun i => (if 2 * 1 = 0 then #[] else zv.cells)[i % (if 2 * 1 = 0 then #[] else zv.cells).size]!)) [(0, v), (1, v')] = some #[c0, c1] := by
  have h1 : Array.range 2 = #[0, 1] := rfl
  simp_all [Instr.fill]
theorem cells_of_rd {α : Type} [Rep α] {S : Foot} {w : World} {v : Value} {l : List α} (h : Rep.rd S w [v] l) : v.cells = #[v] := Array.toList_inj.1 (by grind [cells_rd])
/-- [][]T{x, y} of two slices that others hold: a row of raw values. -/
theorem rv_litRaw2 {α β : Type} [Rep α] [Rep β] {S : Foot} {x y : Operand} {v1 v2 zv : Value} {a : List α} {b : List β} (hS : St c w L R) (h1 : Rep.rd S w [v1] a) (h2 : Rep.rd S w [v2] b) (hu : P.underlying t = some (.slice el)) (hinf : Inf P el 1 zv)
    (ho : o.op = .buildSlice t 2 #[(0, x), (1, y)]) (hx : ev e x = some v1) (hy : ev e y = some v2) :
    ∃ v w', RunV P o e w v w' ∧ St c w' (L ++ [cOwn [v] ([⟨v1⟩, ⟨v2⟩] : List Raw)]) R := by
  refine rv_lit (α := Raw) (ps := [(0, x), (1, y)]) (vs := [v1, v2]) (cells := [v1, v2]) [⟨v1⟩, ⟨v2⟩] hS rfl hu hinf rfl (by rfl) (by rfl) ⟨⟨rfl, one_rd h1⟩, ⟨rfl, one_rd h2⟩, rfl⟩ ho (by grind [evs]) ?_
  exact fill_two (cells_of_rd h1) (cells_of_rd h2)
end
end Go.Gv
end
section
/-
  What comes in by a row's reading is read by 'Rep.rd': each type once. And what a row asks of old memory out of 'St'. Nothing of a program here.
-/
namespace Go.Gv
open Go.ChangeShapes Go.WideShapes Go.ChangeAt Go.RowKit

class Fits (α : Type) where
  fit : α → Prop
abbrev fit {α : Type} [Fits α] (x : α) : Prop := Fits.fit x
instance : Fits Int := ⟨fun x => -9223372036854775808 ≤ x ∧ x ≤ 9223372036854775807⟩
instance : Fits Bool := ⟨fun _ => True⟩
instance : Fits UInt8 := ⟨fun _ => True⟩
instance : Fits GStr := ⟨fun s => s.b.length ≤ maxLen⟩
instance {α β : Type} [Fits α] [Fits β] : Fits (α × β) := ⟨fun p => fit p.1 ∧ fit p.2⟩
instance {α : Type} [Fits α] : Fits (List α) := ⟨fun l => l.length ≤ maxLen ∧ ∀ x ∈ l, fit x⟩
@[reducible] def Fits.via {α β : Type} [Fits β] (f : α → β) : Fits α := ⟨fun x => fit (f x)⟩

def OpensAt (P : Program) (t : TypeId) (α : Type) [Rep α] [Fits α] : Prop :=
  ∀ {H : Type} {enc : TypeId × Value → H} {w : World} {spare : Nat → Bool} {held : Bool} {fuel : Nat} {cs : List Value} {x : DataW H × List MemPlace},
    DataW.trod enc P w 0 spare held fuel t cs = some x → ∃ d : α, Rep.rd (All w) w cs d ∧ fit d

theorem opens_int {P : Program} {t : TypeId} (hu : P.underlying t = some (.int .i64)) : OpensAt P t Int := fun h => by
  obtain ⟨n, rfl, _, hf⟩ := DataW.trod_int hu h
  refine ⟨n, rfl, ?_⟩
  show -9223372036854775808 ≤ n ∧ n ≤ 9223372036854775807
  simpa [Lit.wf, show IntKind.i64.min = -9223372036854775808 by decide, show IntKind.i64.max = 9223372036854775807 by decide] using hf
theorem opens_u8 {P : Program} {t : TypeId} (hu : P.underlying t = some (.int .u8)) : OpensAt P t UInt8 := fun h => by
  obtain ⟨n, rfl, _, hf⟩ := DataW.trod_int hu h
  have hn : 0 ≤ n ∧ n ≤ 255 := by simpa [Lit.wf, show IntKind.u8.min = 0 by decide, show IntKind.u8.max = 255 by decide] using hf
  refine ⟨UInt8.ofNat n.toNat, ?_, trivial⟩
  show [Value.int .u8 n] = [Value.int .u8 ((UInt8.ofNat n.toNat).toNat : Int)]
  (simp_all;omega)
theorem opens_bool {P : Program} {t : TypeId} (hu : P.underlying t = some .bool) : OpensAt P t Bool := fun h => by
  obtain ⟨b, rfl, _⟩ := DataW.trod_bool hu h
  exact ⟨b, rfl, trivial⟩
theorem opens_str {P : Program} {t : TypeId} (hu : P.underlying t = some .string) : OpensAt P t GStr := fun h => by
  obtain ⟨s, rfl, _, hs⟩ := DataW.trod_string hu h
  refine ⟨⟨s.data.toList⟩, ?_, ?_⟩
  · show [Value.string s] = [Value.string ⟨s.data.toList.toArray⟩]
    simp
  · show s.data.toList.length ≤ maxLen
    simp_all
theorem opens_slice {P : Program} {t e : TypeId} {α : Type} [Rep α] [Fits α] (hu : P.underlying t = some (.slice e)) (hc : P.cellsOf e = Rep.n α) (hn : 0 < Rep.n α) (he : OpensAt P e α) : OpensAt P t (List α) := fun {H enc w spare held fuel cs x} h => by
  rcases Go.Deep.open_slice hu h with ⟨rfl, _⟩ | ⟨a, len, cap, m, n, D, Pl, rfl, _, hl, hm, hmm, _, hx⟩
  · exact ⟨[], ⟨none, 0, rfl, Nat.le_refl _, Nat.zero_le _, .inl rfl⟩, Nat.zero_le _, fun _ h => nomatch h⟩
  · have hlm : len ≤ m := by grind
    rw [hc] at hx
    by_cases h0 : len = 0
    · subst h0
      exact ⟨[], ⟨some a, cap, rfl, Nat.zero_le _, hm, .inl rfl⟩, Nat.zero_le _, fun _ h => nomatch h⟩
    have one : ∀ i, i < len → ∃ d : α, (∃ ec, w.cells? 0 (a.add (i * Rep.n α)) (Rep.n α) = some ec ∧ Rep.rd (All w) w ec d) ∧ fit d := fun i hi => by
      obtain ⟨ec, h1, h2⟩ := hx i (by omega)
      obtain ⟨d, h3, h4⟩ := he h2
      grind
    obtain ⟨d0, _⟩ := one 0 (by omega)
    haveI : Inhabited α := ⟨d0⟩
    obtain ⟨f, hf⟩ := Go.Deep.choose_lt one
    obtain ⟨b, off, sp⟩ := a
    refine ⟨(List.range len).map f, ⟨some ⟨b, off, sp⟩, cap, by simp, by grind, hm, ?_⟩, by simp; omega, fun x hx => by
      grind⟩
    right
    have sp0 : sp = none := by
      obtain ⟨ec, h1, _⟩ := hx 0 (by omega)
      obtain ⟨_, h2, h3⟩ := World.cells?_some h1
      have h4 := h3 0 hn
      rw [List.getElem?_eq_getElem (by omega)] at h4
      have h5 := World.cell?_spot h4
      grind [Addr.add]
    subst sp0
    refine ⟨b, off, rfl, fun i hi => ?_⟩
    have hi' : i < len := by grind
    obtain ⟨ec, h1, h2⟩ := (hf i hi').1
    obtain ⟨_, h3, h4⟩ := World.cells?_some h1
    have hcell : CellsAt w b (off + i * Rep.n α) ec := fun j v hj => by
      obtain ⟨hj', _⟩ := List.getElem?_eq_some_iff.1 hj
      have h5 := h4 j (by omega)
      rw [hj] at h5
      have e : ((⟨b, off, none⟩ : Addr).add (i * Rep.n α)).add j = ⟨b, off + i * Rep.n α + j, none⟩ := by
        rw [Go.Deep.add_add]; grind [Addr.add]
      grind
    refine ⟨ec, hcell, fun o _ => ?_, by grind⟩
    exact hcell.lt (fun e => by grind)

def OpensFields (P : Program) (fs : List Field) (o total : Nat) (β : Type) [Rep β] [Fits β] : Prop :=
  ∀ {H : Type} {enc : TypeId × Value → H} {w : World} {spare : Nat → Bool} {held : Bool} {n : Nat} {cs : List Value}, cs.length = total →
    (∀ f ∈ fs, ∃ y, DataW.trod enc P w 0 spare held n f.type ((cs.drop f.offset).take (P.cellsOf f.type)) = some y) → ∃ d : β, Rep.rd (All w) w (cs.drop o) d ∧ fit d

theorem of_one {P : Program} {f : Field} {o k total : Nat} {α : Type} [Rep α] [Fits α] (h : OpensAt P f.type α) (ho : f.offset = o) (hk : P.cellsOf f.type = k) (ht : total = o + k) : OpensFields P [f] o total α := fun hl hf => by
  obtain ⟨y, hy⟩ := hf f (by simp)
  obtain ⟨d, h1, h2⟩ := h hy
  grind [List.take_of_length_le]
theorem of_cons {P : Program} {f : Field} {fs : List Field} {o k total : Nat} {α β : Type} [Rep α] [Fits α] [Rep β] [Fits β] (h : OpensAt P f.type α) (ho : f.offset = o) (hk : P.cellsOf f.type = k) (hr : OpensFields P fs (o + k) total β) : OpensFields P (f :: fs) o total (α × β) := fun hl hf => by
  obtain ⟨y, hy⟩ := hf f (by simp)
  obtain ⟨d, h1, h2⟩ := h hy
  obtain ⟨d', h3, h4⟩ := hr hl fun g hg => hf g (by simp [hg])
  refine ⟨(d, d'), ?_, h2, h4⟩
  rw [ho, hk] at h1
  exact ⟨_, _, by rw [← List.drop_drop, List.take_append_drop], h1, h3⟩
theorem opens_struct {P : Program} {t : TypeId} {fs : Array Field} {total : Nat} {α β : Type} [Rep α] [Fits α] [Rep β] [Fits β] (hu : P.underlying t = some (.struct fs)) (hc : P.cellsOf t = total) (h : OpensFields P fs.toList 0 total β)
    (f : α → β) (hf : ∀ p, ∃ d, f d = p) (hrd : ∀ {S w cs} {d : α}, Rep.rd S w cs (f d) → Rep.rd S w cs d) (hft : ∀ {d : α}, fit (f d) → fit d) : OpensAt P t α := fun hh => by
  obtain ⟨xs, n, _, rfl, hl, hlen, hx⟩ := DataW.trod_struct hu hh
  obtain ⟨p, h1, h2⟩ := h (n := n) (hl.trans hc) fun g hg => by
    obtain ⟨i, hi, rfl⟩ := List.getElem_of_mem hg
    have hi' : i < fs.size := by omega
    have := hx i fs[i] (by simp [hi'])
    simp only [Array.getElem_toList]
    exact ⟨xs[i]'(by omega), by rw [this]; simp⟩
  obtain ⟨d, rfl⟩ := hf p
  grind

/-- The value that came in, by its cells. -/
theorem Trod.opens {H : Type} {enc : TypeId × Value → H} {P : Program} {w : World} {spare : Nat → Bool} {held : Bool} {t : TypeId} {v : Value} {x : DataW H} {ps : List MemPlace} {α : Type} [Rep α] [Fits α] (ho : OpensAt P t α) (h : DataW.Trod enc P w 0 spare held t v x ps) :
    ∃ d : α, Rep.rd (All w) w v.cells.toList d ∧ fit d := by
  obtain ⟨fuel, hf⟩ := h
  exact ho hf

theorem St.below {w0 w' : World} {L : List Chunk} {R : List Fact} (h : St (cxAll w0) w' L R) : Below w0.heap.size w0 w' :=
  ⟨h.keep.os, h.keep.tape, h.keep.output, h.keep.size, fun k hk => h.keep.block k hk fun _ hf => hf⟩
end Go.Gv
end
section
/- Short forms of what the printed walks say most often; elements that are looked at whenever. -/
set_option linter.unusedVariables false
set_option linter.unusedSimpArgs false
namespace Go.Gv
section
variable {P : Program} {op : Op} {ty : TypeId} {ps : String} {af : Array Edge} {ops : Array Oper} {rest : List Oper} {Q : Exit → Act → World → Prop} {n d : Nat} {e : Env} {v : Value} {w w' : World} {c : Ctx} {L : List Chunk} {R : List Fact}
/-- An operation without a guard. -/
theorem oy (hr : RunV P ⟨some d, op, ty, ps, af, none⟩ e w v w') (hn : Nat.blt d n = true) (k : Ops P ops Q rest n ((d, v) :: e) w') : Ops P ops Q (⟨some d, op, ty, ps, af, none⟩ :: rest) n e w :=
  ops_v hr (want_yes rfl) rfl hn k
theorem om {x : Operand} (hx : ev e x = some v) (hn : Nat.blt d n = true) (k : Ops P ops Q rest n ((d, v) :: e) w) : Ops P ops Q (⟨some d, .move x, ty, ps, af, none⟩ :: rest) n e w := oy (rv_move rfl hx) hn k
theorem oa {x : Operand} (hx : ev e x = some v) (hn : Nat.blt d n = true) (k : Ops P ops Q rest n ((d, v) :: e) w) : Ops P ops Q (⟨some d, .assign x, ty, ps, af, none⟩ :: rest) n e w := oy (rv_assign rfl hx) hn k
theorem keepsI (h : St c w L R) : Keeps c L R w := ⟨[], by grind⟩
/-- One that may be carried out whenever. -/
theorem ey {N : Act → World → Prop} {X : Nat → Act → World → Prop} {T : Act → World → Prop} {fuel : Nat} {listed : Array Bool} (i : Nat) (hi : ops[i]? = some ⟨some d, op, ty, ps, af, none⟩)
    (hc : (Region.noSelect ops && (Region.free .any ops listed i && (Region.ready .any ops listed).contains i)) = true) (hK : Keeps c L R w) (hv : ∀ (L' : List Chunk) (w' : World), St c w' (L ++ L') R → RunV P ⟨some d, op, ty, ps, af, none⟩ e w' v w') (hn : Nat.blt d n = true)
    (k : AnyH P ops (mkQ N X T) (Keeps c L R) fuel (listed.setIfInBounds i true) n ((d, v) :: e) w) : AnyH P ops (mkQ N X T) (Keeps c L R) (fuel + 1) listed n e w := by
  rw [Bool.and_eq_true, Bool.and_eq_true] at hc
  grind [any_v, want_yes]
theorem fy {fn : Func} {s : Tmp} {a' : Act} (hf : fn.results = #[.tmp s]) (hA : AEnv n e a') (hl : lk e s = some v) (hS : St c w L R) : Fin P fn (fun u w' => u = v ∧ St c w' [] []) a' w :=
  fin1 hf hA (res_tmp hl) ⟨rfl, (hS.sel [] rfl).weaken (R' := []) (fun _ h => nomatch h)⟩
end
/-- Cells that are never written again. -/
def fAt (b off : Nat) (cs : List Value) : Fact where
  P := fun S w => CellsAt w b off cs ∧ ∀ o, inRow b off cs.length b o → S b o
  agree := fun ⟨h1, h2⟩ ha => ⟨h1.agree fun o h3 h4 => ha b o (h2 o ⟨rfl, h3, h4⟩), h2⟩
  mono := fun ⟨h1, h2⟩ ha => ⟨h1, fun o h => ha b o (h2 o h)⟩
theorem rd_elF {α : Type} [Rep α] {S : Foot} {w : World} {s : Value} {l : List α} (h : Rep.rd S w [s] l) {k : Nat} {x : α} (hk : l[k]? = some x) : ∃ ec, (fAt (elB s) (elO (Rep.n α) k s) ec).P S w ∧ Rep.rd S w ec x := by
  obtain ⟨ad, m, h1, h2, h3, h4⟩ := (show rdSlice S w [s] l from h)
  obtain ⟨hlt, hx⟩ := List.getElem?_eq_some_iff.1 hk
  simp at h1; subst h1
  rcases h4 with h4 | ⟨b, off, rfl, h4⟩
  · grind
  · obtain ⟨ec, a1, a0, a2⟩ := h4 k hlt
    have hn : ec.length = Rep.n α := Rep.rd_len a2
    exact ⟨ec, ⟨a1, fun o ho => a0 o ho⟩, hx ▸ a2⟩
theorem St.fat {c : Ctx} {w : World} {L : List Chunk} {R : List Fact} {b off : Nat} {cs : List Value} (h : St c w L R) (j : Nat) (hj : R[j]? = some (fAt b off cs)) : CellsAt w b off cs := (h.fact j hj).1
/-! ### Literals whose elements are several cells -/
theorem blit (off : Nat) : ∀ (l : List Value) (k : Nat) (cells : Array Value), off + k + l.length ≤ cells.size →
    ((l.zipIdx k).foldl (fun cs (q : Value × Nat) => cs.setIfInBounds (off + q.2) q.1) cells).toList = cells.toList.take (off + k) ++ l ++ cells.toList.drop (off + k + l.length)
  | [], k, cells, h => by simp
  | c :: r, k, cells, h => by
    have h' : off + k < cells.size := by grind
    rw [List.zipIdx_cons, List.foldl_cons, blit off r (k + 1) _ (by grind)]
    simp only [Array.toList_setIfInBounds]
    have e1 : (cells.toList.set (off + k) c).take (off + (k + 1)) = cells.toList.take (off + k) ++ [c] := by
      rw [show off + (k + 1) = (off + k) + 1 by omega, List.take_succ_eq_append_getElem (by grind), List.take_set_of_le (Nat.le_refl _), List.getElem_set_self]
    have e2 : (cells.toList.set (off + k) c).drop (off + (k + 1) + r.length) = cells.toList.drop (off + k + (c :: r).length) := by
      rw [List.drop_set_of_lt (by omega)]; grind
    grind
theorem fill_all (n : Nat) : ∀ (vs : List Value) (i : Nat) (cells : Array Value), (∀ v ∈ vs, v.cells.size = n) → cells.size = (i + vs.length) * n →
    Instr.fill (fun i => some (i * n, n)) cells ((List.range' i vs.length).zip vs) = some (cells.toList.take (i * n) ++ vs.flatMap fun v => v.cells.toList).toArray
  | [], i, cells, _, h => by
    simp_all [List.take_of_length_le, Instr.fill]
  | v :: r, i, cells, hv, h => by
    have hn := hv v List.mem_cons_self
    have hlen : (i + (r.length + 1)) * n = i * n + n + r.length * n := by grind
    have hsz : i * n + n ≤ cells.size := by grind
    have hb := blit (i * n) v.cells.toList 0 cells (by simp; omega)
    have hf : v.cells.zipIdx.foldl (fun cs (q : Value × Nat) => cs.setIfInBounds (i * n + q.2) q.1) cells = (v.cells.toList.zipIdx 0).foldl (fun cs (q : Value × Nat) => cs.setIfInBounds (i * n + q.2) q.1) cells := by
      grind [Array.toList_zipIdx]
    rw [← hf] at hb
    simp only [List.length_cons, List.range'_succ, List.zip_cons_cons, Instr.fill, hn]
    rw [if_neg (by simp; omega)]
    have hsize : (v.cells.zipIdx.foldl (fun cs (q : Value × Nat) => cs.setIfInBounds (i * n + q.2) q.1) cells).size = cells.size := by
      grind [Array.length_toList]
    rw [fill_all n r (i + 1) _ (fun x hx => hv x (List.mem_cons_of_mem _ hx)) (by grind), hb]
    congr 2
    have e : (i + 1) * n = i * n + n := by grind
    rw [e, Nat.add_zero, List.take_append_of_le_length (by simp; omega)]
    grind
theorem lit_fill {ps : List (Nat × Operand)} {vs cells : List Value} {m len : Nat} {F : Nat → Value} (h1 : ps.map (·.1) = List.range' 0 len) (h0 : vs.length = len) (h2 : vs.all (fun v => v.cells.size == m) = true) (h3 : (vs.flatMap fun v => v.cells.toList) = cells) :
    Instr.fill (fun i => some (i * m, m)) ((Array.range (len * m)).map F) ((ps.map (·.1)).zip vs) = some cells.toArray := by
  subst h0; simp_all [fill_all]
end Go.Gv
end
section
/-
  A stepper over core code: what a walk carries as data (temporaries, boxes), carried on by evaluation. Nothing of a program here.
-/
namespace Go.Gv

/-- Where a slice's cells are, and its capacity. -/
structure AC where
  a : Option Addr
  c : Nat
abbrev AC.v (s : AC) (n : Nat) : Value := .slice s.a n s.c
/-- What a temporary or a cell holds. -/
inductive SV where
  | i (k : IntKind) (x : Int)
  | y (b : UInt8)
  | b (c : Bool)
  | l (c : Bool)
  | s (l : List UInt8)
  | p (n o : Nat)
  | h (s : AC) (n : Nat)
  | e (s : AC) (n i o : Nat)
  | k (x : Value)
  | g (cs : List SV)
  | t (cs : List SV)
  | f (f : FuncId) (cs : List Nat)
  | u
abbrev SE := List (Nat × SV)
inductive Ch where
  | box (n : Nat) (cs : List SV)
  | ro (n : Nat) (cs : List SV)
  | o (c : Chunk)
  | f (f : Fact)
  | no
  | w (n b z : Nat)
/-- What is known of a type: its kind (of a struct: offset and size of each field), whether it is an aggregate, its size, its zero cells. -/
inductive TK where
  | i (k : IntKind)
  | b
  | st (fs : List (Nat × Nat))
  | s
  | sl (el : Nat)
  | x
structure TI where
  d : TK
  a : Bool
  n : Nat
  z : List SV
abbrev TT := List (Nat × TI)
def lkT : TT → Nat → Option TI
  | [], _ => none
  | (k, v) :: r, n => match Nat.beq n k with
    | true => some v
    | false => lkT r n
def lkS : SE → Nat → Option SV
  | [], _ => none
  | (k, v) :: r, n => match Nat.beq n k with
    | true => some v
    | false => lkS r n
def mapO {α β : Type} (f : α → Option β) : List α → Option (List β)
  | [] => some []
  | x :: r => match f x with
    | none => none
    | some y => match mapO f r with
      | none => none
      | some ys => some (y :: ys)
def one? (v : Value) : Option SV := match v.oneCell' with
  | true => some (.k v)
  | false => none
def byte? (n : Nat) : Option SV := match Nat.blt n 256 with
  | true => some (.y (UInt8.ofNat n))
  | false => none
def ofC : Value → Option SV
  | .int .u8 (.ofNat n) => byte? n
  | .int k n => some (.i k n)
  | .bool c => some (.l c)
  | .string s => some (.s s.data.toList)
  | .slice a n c => some (.h ⟨a, c⟩ n)
  | .agg _ => none
  | v => one? v
def evS (e : SE) : Operand → Option SV
  | .tmp t => lkS e t
  | .const v => ofC v
  | .global _ => none
  | .func f => some (.f f [])
def numI : SV → Option (IntKind × Int)
  | .i k x => some (k, x)
  | .y b => some (.u8, (b.toNat : Int))
  | _ => none
def binI (op : BinOp) (k : IntKind) (x y : Int) (yo : Operand) : Option SV := match op with
  | .add => some (.i k (k.wrap (x + y)))
  | .sub => some (.i k (k.wrap (x - y)))
  | .mul => some (.i k (k.wrap (x * y)))
  | .lss => some (.b (decide (x < y)))
  | .leq => some (.b (decide (x ≤ y)))
  | .gtr => some (.b (decide (y < x)))
  | .geq => some (.b (decide (y ≤ x)))
  | .eql => some (.b (x == y))
  | .neq => some (.b (x != y))
  | .and => some (.i k (bitsOp .and k x y))
  | .or => some (.i k (bitsOp .or k x y))
  | .xor => some (.i k (bitsOp .xor k x y))
  | .andNot => some (.i k (bitsOp .andNot k x y))
  | .quo => match yo with
    | .const (.int _ (.ofNat (_ + 1))) => some (.i k (k.wrap (x.tdiv y)))
    | .const (.int _ (.negSucc _)) => some (.i k (k.wrap (x.tdiv y)))
    | _ => none
  | .rem => match yo with
    | .const (.int _ (.ofNat (_ + 1))) => some (.i k (x.tmod y))
    | .const (.int _ (.negSucc _)) => some (.i k (x.tmod y))
    | _ => none
  | _ => none
def shI (op : BinOp) (k : IntKind) (x y : Int) (yo : Operand) : Option SV := match op with
  | .shl => match yo with
    | .const (.int _ (.ofNat _)) => some (.i k (shlOp k x y))
    | _ => none
  | .shr => match yo with
    | .const (.int _ (.ofNat _)) => some (.i k (shrOp k x y))
    | _ => none
  | _ => none
def boolS : SV → Option Bool
  | .b c => some c
  | .l c => some c
  | _ => none
def bin (T : TT) (op : BinOp) (t : TypeId) (x y : SV) (yo : Operand) : Option SV :=
  match numI x, numI y with
  | some (k, a), some (k', c) => match op with
    | .shl => shI op k a c yo
    | .shr => shI op k a c yo
    | _ => match decEq k k' with
      | .isTrue _ => binI op k a c yo
      | .isFalse _ => none
  | _, _ => match x, y with
    | .s a, .s c => match op with
      | .eql => some (.b (a == c))
      | .neq => some (.b (!(a == c)))
      | _ => none
    | _, _ => match boolS x, boolS y, lkT T t with
      | some a, some c, some ⟨.b, _, _, _⟩ => match op with
        | .eql => some (.b (a == c))
        | .neq => some (.b (!(a == c)))
        | _ => none
      | _, _, _ => none
def conv (T : TT) (s t : TypeId) (x : SV) : Option SV := match lkT T s, lkT T t with
  | some _, some ⟨.i k', _, _, _⟩ => match x with
    | .i _ a => match k' with
      | .u8 => some (.y (u8 a))
      | _ => some (.i k' (k'.wrap a))
    | .y b => match k' with
      | .i64 => some (.i .i64 (b.toNat : Int))
      | _ => none
    | _ => none
  | _, _ => none
def fldS (T : TT) (t : TypeId) (ix : Nat) : Option Nat := match lkT T t with
  | some ⟨.st fs, _, _, _⟩ => match fs[ix]? with
    | some (o, _ + 1) => some o
    | _ => none
  | _ => none
def fldAt (T : TT) (t : TypeId) (x : SV) (ix : Nat) : Option SV := match x with
  | .p n o => match fldS T t ix with
    | some k => some (.p n (o + k))
    | none => none
  | .e s n i o => match fldS T t ix with
    | some k => some (.e s n i (o + k))
    | none => none
  | _ => none
def boxOf (n : Nat) : List Ch → Option (List SV)
  | [] => none
  | .box k cs :: L => match Nat.beq n k with
    | true => some cs
    | false => boxOf n L
  | .ro k cs :: L => match Nat.beq n k with
    | true => some cs
    | false => boxOf n L
  | _ :: L => boxOf n L
/-- A list, looked at as a whole. -/
def frc {α : Type} : List α → Option (List α)
  | [] => some []
  | x :: r => match frc r with
    | some s => some (x :: s)
    | none => none
def cellsS : SV → List SV
  | .g cs => cs
  | x => [x]
/-- May it lie in cells? -/
def isCells : SV → Bool
  | .t _ => false
  | .f _ _ => false
  | .u => false
  | _ => true
def loadS (T : TT) (t : TypeId) (p : SV) (L : List Ch) : Option SV := match p with
  | .p n o => match boxOf n L, lkT T t with
    | some cs, some ⟨_, true, m, _⟩ => match Nat.ble (o + m) cs.length with
      | true => match frc ((cs.drop o).take m) with
        | some ds => some (.g ds)
        | none => none
      | false => none
    | some cs, some ⟨_, false, _, _⟩ => cs[o]?
    | _, _ => none
  | _ => none
def putS (cs : List SV) (o : Nat) : List SV → List SV
  | [] => cs
  | v :: vs => putS (cs.set o v) (o + 1) vs
/-- The same, in one pass. -/
def ovw : List SV → Nat → List SV → List SV
  | [], _, _ => []
  | c :: cs, n + 1, vs => c :: ovw cs n vs
  | c :: cs, 0, vs => match vs with
    | [] => c :: cs
    | v :: vs => v :: ovw cs 0 vs
def buildS (e : SE) (fs : List (Nat × Nat)) : List (Nat × Operand) → List SV → Option (List SV)
  | [], cs => some cs
  | (ix, o) :: r, cs => match fs[ix]?, evS e o with
    | some (f, m), some v => match isCells v, Nat.beq (cellsS v).length m, Nat.ble (f + m) cs.length with
      | true, true, true => match frc (ovw cs f (cellsS v)) with
        | some cs' => buildS e fs r cs'
        | none => none
      | _, _, _ => none
    | _, _ => none
def builtS (T : TT) (e : SE) (t : TypeId) (ps : List (Nat × Operand)) : Option SV := match lkT T t with
  | some ⟨.st fs, true, _, z⟩ => match buildS e fs ps z with
    | some cs => some (.g cs)
    | none => none
  | _ => none
def lenS (k : TK) (x : SV) : Option SV := match x with
  | .h _ n => match k with
    | .sl _ => some (.i .i64 (n : Int))
    | _ => none
  | .s l => match k with
    | .s => some (.i .i64 (l.length : Int))
    | _ => none
  | _ => none
/-- An operation that yields a value, without a question. -/
def ev1 (T : TT) (e : SE) (L : List Ch) : Op → Option SV
  | .move x => evS e x
  | .assign x => evS e x
  | .nilCheck x => match evS e x with
    | some (.p n o) => some (.p n o)
    | some (.e s n i o) => some (.e s n i o)
    | some (.f f cs) => some (.f f cs)
    | some (.k (.func (.func f) a b)) => some (.k (.func (.func f) a b))
    | _ => none
  | .pick c a b => match evS e c with
    | some (.l true) => evS e a
    | some (.l false) => evS e b
    | _ => none
  | .unOp .not _ x => match evS e x with
    | some (.b c) => some (.b (!c))
    | some (.l c) => some (.l (!c))
    | _ => none
  | .unOp .neg _ x => match evS e x with
    | some (.i k a) => some (.i k (k.wrap (0 - a)))
    | _ => none
  | .binOp op t x y _ => match evS e x, evS e y with
    | some a, some b => bin T op t a b y
    | _, _ => none
  | .convert s t x => match evS e x with
    | some a => conv T s t a
    | none => none
  | .extract x ix => match evS e x with
    | some (.t xs) => xs[ix]?
    | _ => none
  | .fieldAddr t x ix => match evS e x with
    | some a => fldAt T t a ix
    | none => none
  | .load t p => match evS e p with
    | some a => loadS T t a L
    | none => none
  | .build t ps => builtS T e t ps.toList
  | .call { callee := .builtin .len, args := ⟨[x]⟩, argTypes := ⟨[t]⟩ } => match evS e x, lkT T t with
    | some a, some ⟨k, _, _, _⟩ => lenS k a
    | _, _ => none
  | _ => none

abbrev Bl := List (Nat × Nat)
inductive Fr where
  | s (y : Code)
  | k (id : Nat)
inductive Cfg where
  | n
  | c (x : Code)
  | r (ops : Array Oper) (l : List Oper)
  | d (B1 : Bl) (ops : Array Oper) (l : List Bool) (is : List Nat) (Lf Lv : List Ch)
  | o (B1 : Bl) (ops : Array Oper) (l : List Bool) (is : List Nat) (Lf Lv : List Ch) (i : Nat)
/-- More that is never written. -/
def Cfg.ext (Ln : List Ch) : Cfg → Cfg
  | .d B1 ops l is Lf Lv => .d B1 ops l is Lf (Lv ++ Ln)
  | .o B1 ops l is Lf Lv i => .o B1 ops l is Lf (Lv ++ Ln) i
  | x => x
/-- Where the stepper stands still. -/
inductive Stop where
  | ret (m : Nat) (e : SE) (L : List Ch)
  | fin (m : Nat) (e : SE) (L : List Ch)
  | ex (id m : Nat) (e : SE) (L : List Ch)
  | cond (o : Operand) (b : Bool) (x y : Code) (K : List Fr) (m : Nat) (e : SE) (L : List Ch)
  | case (b : Bool) (cf : Cfg) (K : List Fr) (m : Nat) (e : SE) (L : List Ch)
  | loop (id : Nat) (x : Code) (K : List Fr) (m : Nat) (e : SE) (L : List Ch)
  | idx (o : Oper) (d t : Nat) (s : AC) (n : Nat) (i : Int) (Lv : List Ch) (cf cf' : Cfg) (K : List Fr) (m : Nat) (e : SE) (L : List Ch)
  | call (o : Oper) (d : Option Nat) (f : FuncId) (xs : List SV) (cf cf' : Cfg) (K : List Fr) (m : Nat) (e : SE) (L : List Ch)
  | callp (o : Oper) (d : Option Nat) (f : FuncId) (xs : List SV) (cf cf' : Cfg) (K : List Fr) (m : Nat) (e : SE) (L : List Ch)
  | opp (o : Oper) (Lv : List Ch) (cf cf' : Cfg) (K : List Fr) (m : Nat) (e : SE) (L : List Ch)
  | op (o : Oper) (Lv : List Ch) (cf cf' : Cfg) (K : List Fr) (m : Nat) (e : SE) (L : List Ch)
  | rgn (id : Nat) (ops : Array Oper) (K : List Fr) (m : Nat) (e : SE) (L : List Ch)
  | alt (cf : Cfg) (K : List Fr) (m : Nat) (e : SE) (L : List Ch)
  | stuck
def pop : List Fr → Option (Code × List Fr)
  | [] => none
  | .s y :: K => some (y, K)
  | .k _ :: K => pop K
def xit (id : Nat) : List Fr → Option (List Fr)
  | [] => none
  | .s _ :: K => xit id K
  | .k j :: K => match Nat.beq id j with
    | true => some K
    | false => xit id K
inductive Gd where
  | yes | no | ask (b : Bool) | bad
def guardS (ops : Array Oper) (e : SE) : Option (Nat × Bool) → Gd
  | none => .yes
  | some (j, w) => match ops.toList[j]? with
    | some q => match q.dst with
      | some s => match lkS e s with
        | some (.l c) => match c, w with
          | true, true => .yes
          | false, false => .yes
          | _, _ => .no
        | some .u => .no
        | some (.b c) => .ask c
        | _ => .bad
      | none => .bad
    | none => .bad
def setBox (n : Nat) (cs : List SV) : List Ch → List Ch
  | [] => []
  | .box k c :: L => match Nat.beq n k with
    | true => .box k cs :: L
    | false => .box k c :: setBox n cs L
  | x :: L => x :: setBox n cs L
def isBox (n : Nat) : List Ch → Bool
  | [] => false
  | .box k _ :: L => match Nat.beq n k with
    | true => true
    | false => isBox n L
  | .ro k _ :: L => match Nat.beq n k with
    | true => false
    | false => isBox n L
  | _ :: L => isBox n L
def storeS (T : TT) (t : TypeId) (p v : SV) (L : List Ch) : Option (List Ch) := match p with
  | .p n o => match isBox n L with
    | true => match boxOf n L, lkT T t with
      | some cs, some ⟨_, _, m, _⟩ => match isCells v, Nat.beq (cellsS v).length m, Nat.ble (o + m) cs.length with
        | true, true, true => match frc (ovw cs o (cellsS v)) with
          | some cs' => match frc (setBox n cs' L) with
            | some L' => some L'
            | none => none
          | none => none
        | _, _, _ => none
      | _, _ => none
    | false => none
  | _ => none
inductive Ef where
  | val (v : SV)
  | box (cs : List SV)
  | st (L : List Ch)
  | no
def eff (T : TT) (e : SE) (L : List Ch) (o : Op) : Ef := match ev1 T e L o with
  | some v => .val v
  | none => match o with
    | .alloc t => match lkT T t with
      | some ⟨_, _, _, z⟩ => .box z
      | none => .no
    | .box _ v => match evS e v with
      | some a => match isCells a with
        | true => .box (cellsS a)
        | false => .no
      | none => .no
    | .store t p v => match evS e p, evS e v with
      | some a, some b => match storeS T t a b L with
        | some L' => .st L'
        | none => .no
      | _, _ => .no
    | _ => .no
def okN (m : Nat) : SV → Bool
  | .p n _ => Nat.blt n m
  | .g cs => okC m cs
  | .t cs => okT m cs
  | .f _ cs => okF m cs
  | _ => true
where
  okC (m : Nat) : List SV → Bool
    | [] => true
    | x :: r => match x with
      | .p n _ => match Nat.blt n m with
        | true => okC m r
        | false => false
      | .g _ => false
      | _ => okC m r
  okT (m : Nat) : List SV → Bool
    | [] => true
    | x :: r => match x with
      | .p n _ => match Nat.blt n m with
        | true => okT m r
        | false => false
      | .g cs => match okC m cs with
        | true => okT m r
        | false => false
      | _ => okT m r
  okF (m : Nat) : List Nat → Bool
    | [] => true
    | n :: r => match Nat.blt n m with
      | true => okF m r
      | false => false
/-- Known Bools as Bools. -/
def nb1 : SV → SV
  | .l c => .b c
  | x => x
def nbL : List SV → List SV
  | [] => []
  | x :: r => nb1 x :: nbL r
def nbG : SV → SV
  | .g cs => .g (nbL cs)
  | x => nb1 x
def nbT : List SV → List SV
  | [] => []
  | x :: r => nbG x :: nbT r
def nbS : SV → SV
  | .t xs => .t (nbT xs)
  | x => nbG x
/-- Arguments of a call. -/
def nbA : List SV → List SV
  | [] => []
  | x :: r => match x with
    | .f g [] => .k (.func (.func g) #[] #[]) :: nbA r
    | y => nbG y :: nbA r
/-- No block is named. -/
def okA : List SV → Bool
  | [] => true
  | x :: r => match okN 0 x with
    | true => okA r
    | false => false
/-- What is asked of the walk at an operation. -/
def askS (e : SE) (o : Oper) (Lv : List Ch) (cf cf' : Cfg) (K : List Fr) (m : Nat) (L : List Ch) : Op → Stop
  | .pick c _ _ => match evS e c with
    | some (.b b) => .case b cf K m e L
    | _ => .stuck
  | .indexAddr t x y => match evS e x, evS e y, o.dst with
    | some (.h s n), some (.i .i64 i), some d => .idx o d t s n i Lv cf cf' K m e L
    | _, _, _ => .op o Lv cf cf' K m e L
  | .call { callee := .value f, args, .. } => match evS e f, mapO (evS e) args.toList with
    | some (.f g []), some xs => match okA (nbA xs) with
      | true => .call o o.dst g (nbA xs) cf cf' K m e L
      | false => .callp o o.dst g (nbA xs) cf cf' K m e L
    | _, _ => .op o Lv cf cf' K m e L
  | _ => .op o Lv cf cf' K m e L
/-- The same of one that yields a value, whatever the world. -/
def askP (e : SE) (o : Oper) (Lv : List Ch) (cf cf' : Cfg) (K : List Fr) (m : Nat) (L : List Ch) : Op → Stop
  | .pick c _ _ => match evS e c with
    | some (.b b) => .case b cf K m e L
    | _ => .stuck
  | .indexAddr t x y => match evS e x, evS e y, o.dst with
    | some (.h s n), some (.i .i64 i), some d => .idx o d t s n i Lv cf cf' K m e L
    | _, _, _ => .opp o Lv cf cf' K m e L
  | _ => .opp o Lv cf cf' K m e L
def opS : Stop → Option (Oper × List Ch × Cfg × Cfg × List Fr × Nat × SE × List Ch)
  | .op o Lv cf cf' K m e L => some (o, Lv, cf, cf', K, m, e, L)
  | .opp o Lv cf cf' K m e L => some (o, Lv, cf, cf', K, m, e, L)
  | _ => none
def dstOk (n : Nat) : Option Nat → Bool
  | none => true
  | some d => Nat.blt d n
/-! Regions whose order is drawn -/
def bndG : Ground → Bool
  | .textOnly _ => false
  | .gcOnly _ => false
  | _ => true
def rdyE (l : List Bool) : List Edge → Bool
  | [] => true
  | ⟨on, g⟩ :: r => match bndG g with
    | true => match l[on]? with
      | some true => rdyE l r
      | _ => false
    | false => rdyE l r
/-- Is i alone ready? -/
def onlyR (l : List Bool) (i : Nat) : List Oper → Nat → Bool
  | [], _ => true
  | o :: r, j => match l[j]? with
    | some false => match Nat.beq j i with
      | true => match rdyE l o.after.toList with
        | true => onlyR l i r (j + 1)
        | false => false
      | false => match rdyE l o.after.toList with
        | true => false
        | false => onlyR l i r (j + 1)
    | some true => onlyR l i r (j + 1)
    | none => false
/-- Does it yield a value, whatever the world, if it is asked for one? -/
def pureO : Op → Bool
  | .pick .. => true
  | .indexAddr .. => true
  | .index .. => true
  | .binOp .. => true
  | .slice .. => true
  | .convert .. => true
  | .call { callee := .builtin .len, .. } => true
  | .call { callee := .builtin .min, .. } => true
  | .call { callee := .builtin .max, .. } => true
  | _ => false
inductive Ps where
  | fin (l : List Bool) (e : SE) (q : List (Nat × Oper))
  | ask (b : Bool) (l : List Bool) (e : SE)
  | pur (i : Nat) (o : Oper) (l : List Bool) (e : SE)
  | bad
def pass (T : TT) (n : Nat) (ops : Array Oper) (Lv : List Ch) : List Oper → Nat → List Bool → SE → List (Nat × Oper) → Ps
  | [], _, l, e, q => .fin l e q
  | o :: r, i, l, e, q => match l[i]? with
    | some true => pass T n ops Lv r (i + 1) l e q
    | some false => match rdyE l o.after.toList with
      | false => pass T n ops Lv r (i + 1) l e q
      | true => match guardS ops e o.guard with
        | .bad => .bad
        | .ask c => .ask c l e
        | .no => match o.dst with
          | some d => match Nat.blt d n with
            | true => pass T n ops Lv r (i + 1) (l.set i true) ((d, .u) :: e) q
            | false => .bad
          | none => .bad
        | .yes => match ev1 T e Lv o.op with
          | some v => match o.dst with
            | some d => match Nat.blt d n with
              | true => pass T n ops Lv r (i + 1) (l.set i true) ((d, v) :: e) q
              | false => .bad
            | none => .bad
          | none => match pureO o.op with
            | true => .pur i o l e
            | false => pass T n ops Lv r (i + 1) l e ((i, o) :: q)
    | none => .bad
/-- Those that are ready. -/
def readyA (l : List Bool) : List Oper → Nat → List Nat
  | [], _ => []
  | o :: r, j => match l[j]? with
    | some false => match rdyE l o.after.toList with
      | true => j :: readyA l r (j + 1)
      | false => readyA l r (j + 1)
    | _ => readyA l r (j + 1)
def allT : List Bool → Bool
  | [] => true
  | b :: l => match b with
    | true => allT l
    | false => false
/-- Where a box stands. -/
def posB (n : Nat) : List Ch → Nat → Nat
  | [], i => i
  | .box k _ :: L, i => match Nat.beq n k with
    | true => i
    | false => posB n L (i + 1)
  | _ :: L, i => posB n L (i + 1)
def notIn (i : Nat) : List Nat → Bool
  | [] => true
  | j :: r => match Nat.beq i j with
    | true => false
    | false => notIn i r
def frzO (e : SE) (L : List Ch) (is : List Nat) : Op → Bool
  | .store _ p _ => match evS e p with
    | some (.p n _) => notIn (posB n L 0) is
    | _ => false
  | _ => true
def stp (T : TT) (n : Nat) : Nat → List Fr → Cfg → Nat → SE → List Ch → Stop
  | 0, _, _, _, _, _ => .stuck
  | F + 1, K, .c x, m, e, L => match x with
    | .skip => match pop K with
      | some (y, K') => stp T n F K' (.c y) m e L
      | none => .fin m e L
    | .seq a b => stp T n F (.s b :: K) (.c a) m e L
    | .block id b => match b with
      | .loop y => .loop id y K m e L
      | b => stp T n F (.k id :: K) (.c b) m e L
    | .exit id => match xit id K with
      | some K' => match pop K' with
        | some (y, K'') => stp T n F K'' (.c y) m e L
        | none => .fin m e L
      | none => .ex id m e L
    | .ret => .ret m e L
    | .cond o x y => match evS e o with
      | some (.l c) => match c with
        | true => stp T n F K (.c x) m e L
        | false => stp T n F K (.c y) m e L
      | some (.b c) => .cond o c x y K m e L
      | _ => .stuck
    | .region id ops d => match d with
      | false => stp T n F K (.r ops ops.toList) m e L
      | true => .rgn id ops K m e L
    | _ => .stuck
  | F + 1, K, .n, m, e, L => match pop K with
    | some (y, K') => stp T n F K' (.c y) m e L
    | none => .fin m e L
  | F + 1, K, .r _ [], m, e, L => match pop K with
    | some (y, K') => stp T n F K' (.c y) m e L
    | none => .fin m e L
  | F + 1, K, .r ops (⟨dst, op, ty, ps, af, gd⟩ :: l), m, e, L => match guardS ops e gd with
    | .bad => .stuck
    | .ask c => .case c (.r ops (⟨dst, op, ty, ps, af, gd⟩ :: l)) K m e L
    | .no => match dst with
      | some d => match Nat.blt d n with
        | true => stp T n F K (.r ops l) m ((d, .u) :: e) L
        | false => .stuck
      | none => .stuck
    | .yes => match eff T e L op, dst with
      | .val v, some d => match Nat.blt d n with
        | true => stp T n F K (.r ops l) m ((d, v) :: e) L
        | false => .stuck
      | .box cs, some d => match Nat.blt d n with
        | true => stp T n F K (.r ops l) (m + 1) ((d, .p m 0) :: e) (L ++ [.box m cs])
        | false => .stuck
      | .st L', none => stp T n F K (.r ops l) m e L'
      | .no, _ => match dstOk n dst with
        | true => askS e ⟨dst, op, ty, ps, af, gd⟩ L (.r ops (⟨dst, op, ty, ps, af, gd⟩ :: l)) (.r ops l) K m L op
        | false => .stuck
      | _, _ => .stuck
  | F + 1, K, .d B1 ops l is Lf Lv, m, e, L => match pass T n ops Lv ops.toList 0 l e [] with
    | .bad => .stuck
    | .ask c l' e' => .case c (.d B1 ops l' is Lf Lv) K m e' L
    | .pur i o l' e' => match dstOk n o.dst with
      | true => askP e' o Lv (.d B1 ops l' is Lf Lv) (.d B1 ops (l'.set i true) is Lf Lv) K m L o.op
      | false => .stuck
    | .fin l' e' [] => match allT l' with
      | true => stp T n F K .n m e' L
      | false => .stuck
    | .fin l' e' [(i, _)] => match onlyR l' i ops.toList 0 with
      | true => stp T n F K (.o B1 ops l' is Lf Lv i) m e' L
      | false => .stuck
    | .fin l' e' _ => .alt (.d B1 ops l' is Lf Lv) K m e' L
  | F + 1, K, .o B1 ops l is Lf Lv i, m, e, L => match ops.toList[i]? with
    | some ⟨dst, op, ty, ps, af, gd⟩ => match rdyE l af.toList, l[i]?, guardS ops e gd with
      | true, some false, .yes => match eff T e L op, dst with
        | .val v, some d => match Nat.blt d n with
          | true => stp T n F K (.d B1 ops (l.set i true) is Lf Lv) m ((d, v) :: e) L
          | false => .stuck
        | .box cs, some d => match Nat.blt d n with
          | true => stp T n F K (.d B1 ops (l.set i true) is Lf Lv) (m + 1) ((d, .p m 0) :: e) (L ++ [.box m cs])
          | false => .stuck
        | .st L', none => match frzO e L is op with
          | true => stp T n F K (.d B1 ops (l.set i true) is Lf Lv) m e L'
          | false => .stuck
        | .no, _ => match dstOk n dst with
          | true => askS e ⟨dst, op, ty, ps, af, gd⟩ Lv (.o B1 ops l is Lf Lv i) (.d B1 ops (l.set i true) is Lf Lv) K m L op
          | false => .stuck
        | _, _ => .stuck
      | _, _, _ => .stuck
    | none => .stuck
def frcE : SE → Option SE
  | [] => some []
  | (k, v) :: r => match frcE r with
    | some s => some ((k, v) :: s)
    | none => none
def frcL : List Ch → Option (List Ch)
  | [] => some []
  | x :: r => match frcL r with
    | some s => match x with
      | .box n cs => match frc cs with
        | some ds => some (.box n ds :: s)
        | none => none
      | .ro n cs => match frc cs with
        | some ds => some (.ro n ds :: s)
        | none => none
      | y => some (y :: s)
    | none => none
/-- The stepper, from a state looked at as a whole. -/
def stq (T : TT) (n : Nat) (K : List Fr) (cf : Cfg) (m : Nat) (e : SE) (L : List Ch) : Stop := match frcE e, frcL L with
  | some e', some L' => stp T n 9999 K cf m e' L'
  | _, _ => .stuck
/-! ### What is kept -/
def kp (e : SE) : List Nat → SE
  | [] => []
  | k :: ks => match lkS e k with
    | some x => (k, x) :: kp e ks
    | none => kp e ks
def kl (L : List Ch) : List Nat → List Ch
  | [] => []
  | i :: is => match L[i]? with
    | some x => x :: kl L is
    | none => kl L is
/-- As what is expected. -/
def re1 : SV → SV → SV
  | .b _, .l c => .b c
  | _, x => x
def reC : List SV → List SV → List SV
  | x :: xs, y :: ys => re1 x y :: reC xs ys
  | _, ys => ys
/-- The same temporaries as they are now. -/
def reE (e : SE) : SE → Option SE
  | [] => some []
  | (k, z) :: r => match lkS e k with
    | some x => match reE e r with
      | some s => some ((k, re1 z x) :: s)
      | none => none
    | none => none
def reL : List Ch → List Ch → List Ch
  | .box _ cs :: M, .box n ds :: L => .box n (reC cs ds) :: reL M L
  | _ :: M, x :: L => x :: reL M L
  | [], L => L
  | _, [] => []
def okE (m : Nat) : SE → Bool
  | [] => true
  | (_, x) :: e => match okN m x with
    | true => okE m e
    | false => false
def okL (m : Nat) : List Ch → Bool
  | [] => true
  | .box n cs :: L => match Nat.blt n m, okN.okC m cs with
    | true, true => okL m L
    | _, _ => false
  | .ro n cs :: L => match Nat.blt n m, okN.okC m cs with
    | true, true => okL m L
    | _, _ => false
  | .w n _ _ :: L => match Nat.blt n m with
    | true => okL m L
    | false => false
  | _ :: L => okL m L
/-- The state as another one: the temporaries that e' names, the chunks is, m blocks. -/
def asS (e : SE) (L : List Ch) (is : List Nat) (m : Nat) (e' : SE) (L' : List Ch) : Option (SE × List Ch) := match reE e e' with
  | some s => match okE m s, okL m (reL L' (kl L is)) with
    | true, true => some (s, reL L' (kl L is))
    | _, _ => none
  | none => none
def asT (b m : Nat) (e : SE) (L : List Ch) (is : List Nat) (m' : Nat) (e' : SE) (L' : List Ch) : Option (SE × List Ch) := match Nat.ble b m', Nat.ble m' m, apartB is with
  | true, true, true => asS e L is m' e' L'
  | _, _, _ => none
def ovr (c : Bool) (e : SE) : List Nat → SE
  | [] => e
  | s :: ss => (s, .l c) :: ovr c e ss
/-- The place of the code where the stepper stands. -/
def cfgS : Stop → Option (List Fr × Cfg × Nat × SE × List Ch)
  | .cond o _ x y K m e L => some (K, .c (.cond o x y), m, e, L)
  | .case _ cf K m e L => some (K, cf, m, e, L)
  | .loop id y K m e L => some (K, .c (.block id (.loop y)), m, e, L)
  | .idx _ _ _ _ _ _ _ cf _ K m e L => some (K, cf, m, e, L)
  | .call _ _ _ _ cf _ K m e L => some (K, cf, m, e, L)
  | .callp _ _ _ _ cf _ K m e L => some (K, cf, m, e, L)
  | .op _ _ cf _ K m e L => some (K, cf, m, e, L)
  | .opp _ _ cf _ K m e L => some (K, cf, m, e, L)
  | .rgn id ops K m e L => some (K, .c (.region id ops true), m, e, L)
  | .alt cf K m e L => some (K, cf, m, e, L)
  | _ => none
/-- May the operations be taken in any order that the waits leave? -/
def edgeTo (i : Nat) : List Edge → Bool
  | [] => false
  | ⟨on, g⟩ :: r => match bndG g with
    | true => match Nat.beq on i with
      | true => true
      | false => edgeTo i r
    | false => edgeTo i r
def freeA (ops : Array Oper) : Bool := Region.noSelect ops && ops.toList.zipIdx.all fun p => ops.toList.zipIdx.all fun q => Nat.beq p.2 q.2 || edgeTo p.2 q.1.after.toList || edgeTo q.2 p.1.after.toList || p.1.apart ops q.1
def resV (T : TT) (e : SE) (L : List Ch) : ResultVar → Option SV
  | .tmp t => lkS e t
  | .cell t ty => match lkS e t with
    | some p => loadS T ty p L
    | none => none
def resG (T : TT) (e : SE) (L : List Ch) (r : ResultVar) : Option SV := match resV T e L r with
  | some x => match isCells x with
    | true => some x
    | false => none
  | none => none
def resS (T : TT) (e : SE) (L : List Ch) : List ResultVar → Option SV
  | [] => some (.t [])
  | [r] => resV T e L r
  | [r, s] => match resG T e L r, resG T e L s with
    | some x, some y => some (.t [x, y])
    | _, _ => none
  | [r, s, t] => match resG T e L r, resG T e L s, resG T e L t with
    | some x, some y, some z => some (.t [x, y, z])
    | _, _, _ => none
  | _ => none
end Go.Gv
end
section
/-
  What the stepper's symbols stand for, and that each operation does what the stepper says. Nothing of a program here.
-/
namespace Go.Gv
def cellV (B : Bl) : SV → Option Value
  | .i k x => some (.int k x)
  | .y b => some (.int .u8 (b.toNat : Int))
  | .b c => some (.bool c)
  | .l c => some (.bool c)
  | .s l => some (sv l)
  | .p n o => match B[n]? with
    | some (b, z) => some (.pointer (some ⟨b, z + o, none⟩))
    | none => none
  | .h s n => some (s.v n)
  | .e s n i o => some (.pointer (some ⟨elB (s.v 0), elO n i (s.v 0) + o, none⟩))
  | .k x => match x.oneCell' with
    | true => some x
    | false => none
  | _ => none
def gV (B : Bl) : SV → Option Value
  | .g cs => match mapO (cellV B) cs with
    | some vs => some (.agg vs.toArray)
    | none => none
  | x => cellV B x
def capV (B : Bl) (n : Nat) : Option Value := match B[n]? with
  | some (b, z) => some (.pointer (some ⟨b, z, none⟩))
  | none => none
def toV (B : Bl) : SV → Option Value
  | .t xs => match mapO (gV B) xs with
    | some vs => some (.tuple vs.toArray)
    | none => none
  | .f f cs => match mapO (capV B) cs with
    | some vs => some (.func (.func f) #[] vs.toArray)
    | none => none
  | .u => some undef
  | x => gV B x
theorem cell_one {B : Bl} {x : SV} {v : Value} (h : cellV B x = some v) : v.oneCell' = true := by
  cases x <;> simp only [cellV] at h <;> try (simp at h; done)
  all_goals try (cases h; rfl)
  · split at h <;> cases h; rfl
  grind
theorem mapO_len {α β : Type} {f : α → Option β} : ∀ {l : List α} {r : List β}, mapO f l = some r → r.length = l.length
  | [], r, h => by cases h; rfl
  | x :: l, r, h => by
    simp only [mapO] at h
    split at h
    · cases h
    · split at h
      · cases h
      · rename_i h2; cases h; simp [mapO_len h2]
theorem mapO_get {α β : Type} {f : α → Option β} : ∀ {l : List α} {r : List β} {i : Nat} {x : α}, mapO f l = some r → l[i]? = some x → ∃ y, f x = some y ∧ r[i]? = some y
  | [], _, _, _, _, h => by simp at h
  | x :: l, r, i, z, h, hi => by
    simp only [mapO] at h
    split at h
    · cases h
    · rename_i h1
      split at h
      · cases h
      · rename_i h2; cases h
        cases i with
        | zero => grind
        | succ i => obtain ⟨y, h3, h4⟩ := mapO_get h2 (by simpa using hi); grind
theorem mapO_drop {α β : Type} {f : α → Option β} : ∀ {l : List α} {r : List β} (k : Nat), mapO f l = some r → mapO f (l.drop k) = some (r.drop k)
  | l, r, 0, h => h
  | [], r, k + 1, h => by cases h; rfl
  | x :: l, r, k + 1, h => by
    simp only [mapO] at h
    split at h
    · cases h
    · split at h
      · cases h
      · rename_i h2; cases h; exact mapO_drop k h2
theorem mapO_take {α β : Type} {f : α → Option β} : ∀ {l : List α} {r : List β} (k : Nat), mapO f l = some r → mapO f (l.take k) = some (r.take k)
  | l, r, 0, h => rfl
  | [], r, k + 1, h => by cases h; rfl
  | x :: l, r, k + 1, h => by
    simp only [mapO] at h
    split at h
    · cases h
    · rename_i h1
      split at h
      · cases h
      · rename_i h2; cases h; simp [mapO, h1, mapO_take k h2]
theorem mapO_mono {α β : Type} {f g : α → Option β} (hfg : ∀ x y, f x = some y → g x = some y) : ∀ {l : List α} {r : List β}, mapO f l = some r → mapO g l = some r
  | [], r, h => h
  | x :: l, r, h => by
    simp only [mapO] at h
    split at h
    · cases h
    · rename_i h1
      split at h
      · cases h
      · rename_i h2; cases h; simp [mapO, hfg _ _ h1, mapO_mono hfg h2]
theorem mapO_set {α β : Type} {f : α → Option β} : ∀ {l : List α} {r : List β} {x : α} {y : β} (k : Nat), mapO f l = some r → f x = some y → mapO f (l.set k x) = some (r.set k y)
  | [], r, _, _, k, h, _ => by cases h; rfl
  | z :: l, r, x, y, k, h, hx => by
    simp only [mapO] at h
    split at h
    · cases h
    · rename_i h1
      split at h
      · cases h
      · rename_i h2; cases h
        cases k with
        | zero => grind [mapO]
        | succ k => simp [mapO, h1, mapO_set k h2 hx]
theorem mapO_put {f : SV → Option Value} : ∀ {ds : List SV} {vs : List Value} {cs : List SV} {r : List Value} (k : Nat), mapO f cs = some r → mapO f ds = some vs → mapO f (putS cs k ds) = some (setN r k vs)
  | [], vs, cs, r, k, h, h2 => by cases h2; exact h
  | d :: ds, vs, cs, r, k, h, h2 => by
    simp only [mapO] at h2
    split at h2
    · cases h2
    · rename_i h3
      split at h2
      · cases h2
      · rename_i h4; cases h2
        exact mapO_put (k + 1) (mapO_set k h h3) h4
theorem Bl.app {B : Bl} (B' : Bl) {n : Nat} {q : Nat × Nat} (h : B[n]? = some q) : (B ++ B')[n]? = some q := by
  grind
theorem cellV_app {B : Bl} (B' : Bl) {x : SV} {v : Value} (h : cellV B x = some v) : cellV (B ++ B') x = some v := by
  cases x <;> simp only [cellV] at h ⊢ <;> try exact h
  grind
theorem gV_app {B : Bl} (B' : Bl) {x : SV} {v : Value} (h : gV B x = some v) : gV (B ++ B') x = some v := by
  cases x <;> simp only [gV] at h ⊢ <;> try exact cellV_app B' h
  grind [mapO_mono, cellV_app]
theorem capV_app {B : Bl} (B' : Bl) {x : Nat} {v : Value} (h : capV B x = some v) : capV (B ++ B') x = some v := by
  grind [capV]
theorem toV_app {B : Bl} (B' : Bl) {x : SV} {v : Value} (h : toV B x = some v) : toV (B ++ B') x = some v := by
  cases x <;> simp only [toV] at h ⊢ <;> try exact gV_app B' h
  · split at h
    · rename_i h1; rw [mapO_mono (fun _ _ => gV_app B') h1]; exact h
    · cases h
  · split at h
    · rename_i h1; rw [mapO_mono (fun _ _ => capV_app B') h1]; exact h
    · cases h
  · exact h
theorem toV_g {B : Bl} {x : SV} {v : Value} (h : gV B x = some v) : toV B x = some v := by
  cases x <;> first | exact h | grind [gV, cellV]
theorem toV_c {B : Bl} {x : SV} {v : Value} (h : cellV B x = some v) : toV B x = some v := by
  cases x <;> first | exact h | grind [cellV]

structure AEnvS (n : Nat) (B : Bl) (e : SE) (a : Act) : Prop where
  d : a.defers = []
  size : a.tmps.size = n
  get : ∀ k x, lkS e k = some x → ∃ v, toV B x = some v ∧ a.tmps[k]? = some v
def vE (B : Bl) : SE → Env
  | [] => []
  | (k, x) :: e => (k, (toV B x).getD undef) :: vE B e
theorem lk_vE {B : Bl} {k : Nat} {v : Value} : ∀ {e : SE}, lk (vE B e) k = some v → ∃ x, lkS e k = some x ∧ v = (toV B x).getD undef
  | [], h => by simp [vE, lk] at h
  | (j, x) :: e, h => by
    simp only [vE, lk] at h
    simp only [lkS]
    cases hb : Nat.beq k j with
    | true => grind
    | false => rw [hb] at h; exact lk_vE h
theorem vE_lk {B : Bl} {k : Nat} {x : SV} : ∀ {e : SE}, lkS e k = some x → lk (vE B e) k = some ((toV B x).getD undef)
  | [], h => by simp [lkS] at h
  | (j, y) :: e, h => by
    simp only [lkS] at h
    simp only [vE, lk]
    cases hb : Nat.beq k j with
    | true => grind
    | false => rw [hb] at h; exact vE_lk h
section
variable {n : Nat} {B : Bl} {e : SE} {a : Act}
theorem AEnvS.env (h : AEnvS n B e a) : AEnv n (vE B e) a := ⟨h.d, h.size, fun k v hk => by
  obtain ⟨x, h1, h2⟩ := lk_vE hk
  obtain ⟨u, h3, h4⟩ := h.get k x h1
  grind⟩
theorem AEnvS.of {a' : Act} (h : AEnvS n B e a) {d : Nat} {x : SV} {v : Value} (hx : toV B x = some v) (h2 : AEnv n ((d, v) :: vE B e) a') : AEnvS n B ((d, x) :: e) a' := ⟨h2.d, h2.size, fun k y hk => by
  simp only [lkS] at hk
  cases hb : Nat.beq k d with
  | true =>
    rw [hb] at hk; cases hk
    exact ⟨v, hx, h2.get k v (by grind [lk])⟩
  | false =>
    rw [hb] at hk
    obtain ⟨u, h3, h4⟩ := h.get k y hk
    refine ⟨u, h3, h2.get k u ?_⟩
    grind [lk, vE_lk]⟩
theorem AEnvS.app (h : AEnvS n B e a) (B' : Bl) : AEnvS n (B ++ B') e a := ⟨h.d, h.size, fun k x hk => by
  obtain ⟨v, h1, h2⟩ := h.get k x hk
  grind [toV_app]⟩
theorem byte_ok {m : Nat} {x : SV} (h : byte? m = some x) : toV B x = some (.int .u8 (m : Int)) ∧ numI x = some (.u8, (m : Int)) := by
  grind [byte?, Nat.blt_eq, UInt8.toNat_ofNat', toV, gV, cellV, numI]
theorem one_ok {v : Value} {x : SV} (h : one? v = some x) : toV B x = some v := by
  grind [one?, toV, gV, cellV]
theorem ofC_ok {v : Value} {x : SV} (h : ofC v = some x) : toV B x = some v := by
  unfold ofC at h
  split at h
  · exact (byte_ok h).1
  · cases h; rfl
  · cases h; rfl
  · cases h; rename_i s; cases s; simp [toV, gV, cellV]
  · cases h; rfl
  · cases h
  · exact one_ok h
theorem evS_ok (hA : AEnvS n B e a) {o : Operand} {x : SV} (h : evS e o = some x) : ∃ v, toV B x = some v ∧ ev (vE B e) o = some v := by
  cases o with
  | tmp t =>
    obtain ⟨v, h1, _⟩ := hA.get t x h
    exact ⟨v, h1, by simp only [ev]; rw [vE_lk h, h1]; rfl⟩
  | const v => exact ⟨v, ofC_ok h, rfl⟩
  | global g => cases h
  | func f => cases h; exact ⟨_, rfl, rfl⟩
theorem num_ok {x : SV} {k : IntKind} {i : Int} {v : Value} (h : numI x = some (k, i)) (hv : toV B x = some v) : v = .int k i := by
  cases x <;> simp only [numI] at h <;> cases h
  · cases hv; rfl
  · cases hv; rfl
theorem bool_ok {x : SV} {c : Bool} {v : Value} (h : boolS x = some c) (hv : toV B x = some v) : v = .bool c := by
  cases x <;> simp only [boolS] at h <;> cases h
  · cases hv; rfl
  · cases hv; rfl
theorem numC {k k' : IntKind} {j i : Int} {x : SV} (h : evS e (.const (.int k' j)) = some x) (h2 : numI x = some (k, i)) : j = i := by
  simp only [evS] at h
  unfold ofC at h
  split at h
  · rename_i heq; cases heq
    have := (byte_ok (B := []) h).2
    rw [this] at h2; cases h2; rfl
  · rename_i heq; cases heq; cases h; cases h2; rfl
  all_goals (rename_i heq; first | (cases heq; done) | skip)
  rename_i h1 h2 h3 h4 h5
  exact absurd rfl (h2 _ _)
end
structure TOk (P : Program) (T : TT) : Prop where
  und : ∀ t i, lkT T t = some i → ∃ d, P.underlying t = some d ∧ match i.d with
    | .i k => d = .int k
    | .b => d = .bool
    | .st fs => ∃ Fs : Array Field, d = .struct Fs ∧ Fs.toList.map (·.offset) = fs.map (·.1) ∧ (∀ (j : Nat) F, Fs[j]? = some F → ∃ m, fs[j]? = some (F.offset, m) ∧ ∀ w, (sizeOf F.type).run P w = .ok m w) ∧ ∀ w, (Fs.mapM fun f => (do pure (f.offset, ← sizeOf f.type) : Sem (Nat × Nat))).run P w = .ok fs.toArray w
    | .s => d = .string
    | .sl el => d = .slice el
    | .x => True
  agg : ∀ t i, lkT T t = some i → ∀ w, (isAgg t).run P w = .ok i.a w
  size : ∀ t i, lkT T t = some i → ∀ w, (sizeOf t).run P w = .ok i.n w
  zero : ∀ t i, lkT T t = some i → ∃ z, (∀ w, (zeroValue t).run P w = .ok z w) ∧ mapO (cellV []) i.z = some z.cells.toList
section
variable {P : Program} {T : TT} {n : Nat} {B : Bl} {e : SE} {E : Env} {o : Oper} {w : World} {x y : Operand}
theorem binI_ok {op : BinOp} {t z : TypeId} {k : IntKind} {i j : Int} {yv r : SV} (ho : o.op = .binOp op t x y z) (hx : ev E x = some (.int k i)) (hy : ev E y = some (.int k j)) (hyc : evS e y = some yv) (hyn : numI yv = some (k, j)) (h : binI op k i j y = some r) : ∃ v, toV B r = some v ∧ RunV P o E w v w := by
  have h0 : ∀ k' m, y = .const (.int k' (.ofNat (m + 1))) → j ≠ 0 := fun k' m e1 => by
    grind [numC]
  have h1 : ∀ k' m, y = .const (.int k' (.negSucc m)) → j ≠ 0 := fun k' m e1 => by
    grind [numC]
  cases op with
  | add => cases h; exact ⟨_, rfl, rv_add ho hx hy⟩
  | sub => cases h; exact ⟨_, rfl, rv_sub ho hx hy⟩
  | mul => cases h; exact ⟨_, rfl, rv_mul ho hx hy⟩
  | lss => cases h; exact ⟨_, rfl, rv_lss ho hx hy⟩
  | leq => cases h; exact ⟨_, rfl, rv_leq ho hx hy⟩
  | gtr => cases h; exact ⟨_, rfl, rv_gtr ho hx hy⟩
  | geq => cases h; exact ⟨_, rfl, rv_geq ho hx hy⟩
  | eql => cases h; exact ⟨_, rfl, rv_eql ho hx hy⟩
  | neq => cases h; exact ⟨_, rfl, rv_neq ho hx hy⟩
  | and => cases h; exact ⟨_, rfl, rv_and ho hx hy⟩
  | or => cases h; exact ⟨_, rfl, rv_or ho hx hy⟩
  | xor => cases h; exact ⟨_, rfl, rv_xor ho hx hy⟩
  | andNot => cases h; exact ⟨_, rfl, rv_andNot ho hx hy⟩
  | quo =>
    simp only [binI] at h
    split at h
    · cases h; exact ⟨_, rfl, rv_quo ho hx hy (h0 _ _ rfl)⟩
    · cases h; exact ⟨_, rfl, rv_quo ho hx hy (h1 _ _ rfl)⟩
    · cases h
  | rem =>
    simp only [binI] at h
    split at h
    · cases h; exact ⟨_, rfl, rv_rem ho hx hy (h0 _ _ rfl)⟩
    · cases h; exact ⟨_, rfl, rv_rem ho hx hy (h1 _ _ rfl)⟩
    · cases h
  | _ => cases h
theorem shI_ok {op : BinOp} {t z : TypeId} {k k' : IntKind} {i j : Int} {yv r : SV} (ho : o.op = .binOp op t x y z) (hx : ev E x = some (.int k i)) (hy : ev E y = some (.int k' j)) (hyc : evS e y = some yv) (hyn : numI yv = some (k', j)) (h : shI op k i j y = some r) : ∃ v, toV B r = some v ∧ RunV P o E w v w := by
  have h0 : ∀ k' m, y = .const (.int k' (.ofNat m)) → ¬ j < 0 := fun k' m e1 => by
    grind [numC]
  cases op <;> simp only [shI] at h <;> try (cases h; done)
  · split at h
    · cases h; exact ⟨_, rfl, rv_shl ho hx hy (h0 _ _ rfl)⟩
    · cases h
  · split at h
    · cases h; exact ⟨_, rfl, rv_shr ho hx hy (h0 _ _ rfl)⟩
    · cases h
theorem bin_ok (hT : TOk P T) {op : BinOp} {t z : TypeId} {a c r : SV} {va vc : Value} (ho : o.op = .binOp op t x y z) (hx : ev E x = some va) (hy : ev E y = some vc) (ha : toV B a = some va) (hc : toV B c = some vc) (hyc : evS e y = some c) (h : bin T op t a c y = some r) : ∃ v, toV B r = some v ∧ RunV P o E w v w := by
  unfold bin at h
  split at h
  · rename_i k i k' j h1 h2
    have e1 := num_ok h1 ha
    have e2 := num_ok h2 hc
    subst e1; subst e2
    split at h
    · exact shI_ok ho hx hy hyc h2 h
    · exact shI_ok ho hx hy hyc h2 h
    · split at h
      · rename_i hk _; subst hk; exact binI_ok ho hx hy hyc h2 h
      · cases h
  · split at h
    · cases ha; cases hc
      split at h
      · cases h; exact ⟨_, rfl, rv_eqls ho hx hy⟩
      · cases h; exact ⟨_, rfl, rv_neqs ho hx hy⟩
      · cases h
    · split at h
      · rename_i h1 h2 h3
        have e1 := bool_ok h1 ha
        have e2 := bool_ok h2 hc
        subst e1; subst e2
        obtain ⟨d, hd, hd2⟩ := hT.und _ _ h3
        simp only at hd2; subst hd2
        split at h
        · cases h; exact ⟨_, rfl, rv_eqlb hd ho hx hy⟩
        · cases h; exact ⟨_, rfl, rv_neqb hd ho hx hy⟩
        · cases h
      · cases h
theorem conv_ok (hT : TOk P T) {s t : TypeId} {a r : SV} {va : Value} (ho : o.op = .convert s t x) (hx : ev E x = some va) (ha : toV B a = some va) (h : conv T s t a = some r) : ∃ v, toV B r = some v ∧ RunV P o E w v w := by
  unfold conv at h
  split at h
  · rename_i i k' _ _ _ h1 h2
    obtain ⟨ds, hs, _⟩ := hT.und _ _ h1
    obtain ⟨d, hd, hd2⟩ := hT.und _ _ h2
    simp only at hd2; subst hd2
    split at h
    · cases ha
      split at h
      · cases h; exact ⟨_, rfl, rv_conv8 hs hd ho hx⟩
      · cases h; exact ⟨_, rfl, rv_conv hs hd ho hx⟩
    · cases ha
      split at h
      · cases h; exact ⟨_, rfl, rv_convU hs hd ho hx⟩
      · cases h
    · cases h
  · cases h
theorem fldS_ok (hT : TOk P T) {t ix k : Nat} (h : fldS T t ix = some k) : ∃ (fs : Array Field) (f : Field) (m : Nat), P.underlying t = some (.struct fs) ∧ fs[ix]? = some f ∧ f.offset = k ∧ ∀ w, (sizeOf f.type).run P w = .ok (m + 1) w := by
  unfold fldS at h
  split at h
  · rename_i fs _ _ _ h1
    obtain ⟨d, hd, Fs, rfl, hoff, hall, _⟩ := hT.und _ _ h1
    split at h
    · rename_i k' m h2
      cases h
      have hlen : Fs.size = fs.length := by have := congrArg List.length hoff; grind
      have hlt : ix < Fs.size := by grind
      obtain ⟨m', h3, h4⟩ := hall ix Fs[ix] (by simp [hlt])
      rw [h2] at h3; cases h3
      exact ⟨Fs, Fs[ix], m, hd, by simp [hlt], rfl, h4⟩
    · cases h
  · cases h
theorem fldAt_ok (hT : TOk P T) {t ix : Nat} {a r : SV} {va : Value} (ho : o.op = .fieldAddr t x ix) (hx : ev E x = some va) (ha : toV B a = some va) (h : fldAt T t a ix = some r) : ∃ v, toV B r = some v ∧ RunV P o E w v w := by
  unfold fldAt at h
  split at h
  · split at h
    · rename_i n0 o0 k hk
      cases h
      obtain ⟨fs, f, m, h1, h2, h3, h4⟩ := fldS_ok hT hk
      simp only [toV, gV, cellV] at ha ⊢
      split at ha
      · rename_i b z hb
        cases ha
        exact ⟨_, rfl, rv_fld h1 ho h2 h4 hx (by omega)⟩
      · cases ha
    · cases h
  · split at h
    · rename_i s0 n0 i0 o0 k hk
      cases h
      obtain ⟨fs, f, m, h1, h2, h3, h4⟩ := fldS_ok hT hk
      cases ha
      exact ⟨_, rfl, rv_fld h1 ho h2 h4 hx (by omega)⟩
    · cases h
  · cases h
end
end Go.Gv
end
section
/-
  The stepper's memory, and that every operation does what the stepper says. Nothing of a program here.
-/
namespace Go.Gv
def boxC (B : Bl) (n : Nat) (cs : List SV) : Chunk where
  P := fun w F => ∃ b z vs, B[n]? = some (b, z) ∧ mapO (cellV B) cs = some vs ∧ (cAt b z vs).P w F
  keep := fun ⟨b, z, vs, h1, h2, h3⟩ hk hd => ⟨b, z, vs, h1, h2, (cAt b z vs).keep h3 hk hd⟩
  lt := fun ⟨b, z, vs, _, _, h3⟩ hf => (cAt b z vs).lt h3 hf
def chd (B : Bl) : Ch → Chunk
  | .box n cs => boxC B n cs
  | .o c => c
  | _ => cNo
/-- A fact that a list of chunks tells. -/
def roF (B : Bl) (R : List Fact) : Ch → Prop
  | .ro n cs => ∃ b z vs, B[n]? = some (b, z) ∧ mapO (cellV B) cs = some vs ∧ fAt b z vs ∈ R
  | .f f => f ∈ R
  | .w n b z => B[n]? = some (b, z)
  | _ => True
structure StS (c : Ctx) (w : World) (B : Bl) (L : List Ch) : Prop where
  ex : ∃ R, St c w (L.map (chd B)) R ∧ ∀ x ∈ L, roF B R x
  s0 : ∀ b o, c.S0 b o → b < c.w0.heap.size
/-- Chunk by chunk. -/
inductive ImpL (w : World) : List Chunk → List Chunk → Prop where
  | nil : ImpL w [] []
  | cons {a b : Chunk} {A B : List Chunk} (h : ∀ F, a.P w F → b.P w F) (t : ImpL w A B) : ImpL w (a :: A) (b :: B)
theorem Sep.imp {w : World} : ∀ {A B : List Chunk} {F : Foot}, ImpL w A B → Sep w A F → Sep w B F
  | _, _, _, .nil, h => h
  | _, _, _, .cons h t, ⟨F1, F2, h1, h2, hd, hF⟩ => ⟨F1, F2, h F1 h1, Sep.imp t h2, hd, hF⟩
theorem St.imp {c : Ctx} {w : World} {A B : List Chunk} {R : List Fact} (h : St c w A R) (hi : ImpL w A B) : St c w B R := by
  obtain ⟨F, S, hsep, rest⟩ := h.sep
  exact ⟨h.keep, ⟨F, S, Sep.imp hi hsep, rest⟩, h.apart⟩
theorem ImpL.refl {w : World} : ∀ (A : List Chunk), ImpL w A A
  | [] => .nil
  | _ :: A => .cons (fun _ h => h) (ImpL.refl A)
theorem ImpL.append {w : World} : ∀ {A B A' B' : List Chunk}, ImpL w A B → ImpL w A' B' → ImpL w (A ++ A') (B ++ B')
  | _, _, _, _, .nil, h => h
  | _, _, _, _, .cons h t, h2 => .cons h (ImpL.append t h2)
theorem ImpL.set {w : World} {a b : Chunk} : ∀ {A B : List Chunk} (i : Nat), ImpL w A B → (∀ F, a.P w F → b.P w F) → ImpL w (A.set i a) (B.set i b)
  | _, _, _, .nil, _ => .nil
  | _, _, 0, .cons _ t, h => .cons h t
  | _, _, i + 1, .cons g t, h => .cons g (ImpL.set i t h)
theorem ImpL.put {w : World} {a b : Chunk} : ∀ {A : List Chunk} (i : Nat), A[i]? = some a → (∀ F, a.P w F → b.P w F) → ImpL w A (A.set i b)
  | [], _, h, _ => by simp at h
  | x :: A, 0, h, g => by simp at h; subst h; exact .cons g (ImpL.refl A)
  | x :: A, i + 1, h, g => .cons (fun _ h => h) (ImpL.put i (by grind) g)
theorem boxC_app {B : Bl} (B' : Bl) {n : Nat} {cs : List SV} {w : World} {F : Foot} (h : (boxC B n cs).P w F) : (boxC (B ++ B') n cs).P w F := by
  obtain ⟨b, z, vs, h1, h2, h3⟩ := h
  exact ⟨b, z, vs, Bl.app B' h1, mapO_mono (fun _ _ => cellV_app B') h2, h3⟩
theorem chd_app {B : Bl} (B' : Bl) {x : Ch} {w : World} {F : Foot} (h : (chd B x).P w F) : (chd (B ++ B') x).P w F := by
  cases x <;> first | exact boxC_app B' h | exact h
theorem imp_app {B : Bl} (B' : Bl) {w : World} : ∀ (L : List Ch), ImpL w (L.map (chd B)) (L.map (chd (B ++ B')))
  | [] => .nil
  | _ :: L => .cons (fun _ h => chd_app B' h) (imp_app B' L)
theorem roF_app {B : Bl} (B' : Bl) {R : List Fact} {x : Ch} (h : roF B R x) : roF (B ++ B') R x := by
  cases x <;> try exact h
  · obtain ⟨b, z, vs, h1, h2, h3⟩ := h
    exact ⟨b, z, vs, Bl.app B' h1, mapO_mono (fun _ _ => cellV_app B') h2, h3⟩
  · exact Bl.app B' h
theorem roF_mono {B : Bl} {R R' : List Fact} (hR : ∀ f ∈ R, f ∈ R') {x : Ch} (h : roF B R x) : roF B R' x := by
  cases x <;> try exact h
  · obtain ⟨b, z, vs, h1, h2, h3⟩ := h
    exact ⟨b, z, vs, h1, h2, hR _ h3⟩
  · exact hR _ h
section
variable {P : Program} {T : TT} {n : Nat} {B : Bl} {e : SE} {E : Env} {o : Oper} {w w' : World} {x y : Operand} {c : Ctx} {L : List Ch}
theorem StS.app (h : StS c w B L) (B' : Bl) : StS c w (B ++ B') L := by
  obtain ⟨⟨R, h1, h2⟩, h3⟩ := h
  exact ⟨⟨R, h1.imp (imp_app B' L), fun x hx => roF_app B' (h2 x hx)⟩, h3⟩
theorem boxOf_mem {n : Nat} {cs : List SV} : ∀ {L : List Ch}, boxOf n L = some cs → Ch.box n cs ∈ L ∨ Ch.ro n cs ∈ L
  | [], h => by cases h
  | x :: L, h => by
    have ih : boxOf n L = some cs → Ch.box n cs ∈ x :: L ∨ Ch.ro n cs ∈ x :: L := fun h => by
      rcases boxOf_mem h with h | h
      · exact .inl (List.mem_cons_of_mem _ h)
      · exact .inr (List.mem_cons_of_mem _ h)
    cases x <;> simp only [boxOf] at h <;> try exact ih h
    · split at h
      · rename_i hb; cases h; rw [Nat.eq_of_beq_eq_true hb]; exact .inl (List.mem_cons_self ..)
      · exact ih h
    · split at h
      · rename_i hb; cases h; rw [Nat.eq_of_beq_eq_true hb]; exact .inr (List.mem_cons_self ..)
      · exact ih h
/-- The cells of a box. -/
theorem StS.cells (h : StS c w B L) {n : Nat} {cs : List SV} (hb : boxOf n L = some cs) : ∃ b z vs, B[n]? = some (b, z) ∧ mapO (cellV B) cs = some vs ∧ CellsAt w b z vs := by
  obtain ⟨⟨R, h1, h2⟩, _⟩ := h
  rcases boxOf_mem hb with hm | hm
  · obtain ⟨i, hi⟩ := List.getElem?_of_mem hm
    obtain ⟨F, b, z, vs, h3, h4, h5⟩ := h1.chunk (ch := boxC B n cs) i (by rw [List.getElem?_map, hi]; rfl)
    exact ⟨b, z, vs, h3, h4, h5.1⟩
  · obtain ⟨b, z, vs, h3, h4, h5⟩ := h2 _ hm
    obtain ⟨i, hi⟩ := List.getElem?_of_mem h5
    exact ⟨b, z, vs, h3, h4, h1.fat i hi⟩
theorem cellsAt_part {b z o m : Nat} {vs : List Value} (h : CellsAt w b z vs) (_hm : o + m ≤ vs.length) : CellsAt w b (z + o) ((vs.drop o).take m) := by
  intro q u hq
  rw [List.getElem?_take] at hq
  split at hq
  · rw [List.getElem?_drop] at hq
    have := h (o + q) u hq
    grind
  · cases hq
theorem ovw_set : ∀ (cs : List SV) (o : Nat) (v : SV) (vs : List SV), o < cs.length → ovw cs o (v :: vs) = ovw (cs.set o v) (o + 1) vs
  | [], o, v, vs, h => by simp at h
  | c :: cs, 0, v, vs, _ => by simp [ovw]
  | c :: cs, o + 1, v, vs, h => by
    simp only [ovw, List.set_cons_succ]
    rw [ovw_set cs o v vs (by grind)]
theorem ovw_nil : ∀ (cs : List SV) (o : Nat), ovw cs o [] = cs
  | [], o => by simp [ovw]
  | c :: cs, 0 => by simp [ovw]
  | c :: cs, o + 1 => by simp [ovw, ovw_nil cs o]
theorem ovw_eq : ∀ (vs cs : List SV) (o : Nat), o + vs.length ≤ cs.length → ovw cs o vs = putS cs o vs
  | [], cs, o, _ => by rw [ovw_nil]; rfl
  | v :: vs, cs, o, h => by
    simp at h
    rw [ovw_set cs o v vs (by omega), ovw_eq vs _ _ (by simp; omega)]; rfl
theorem frc_eq {α : Type} : ∀ {l r : List α}, frc l = some r → r = l
  | [], r, h => by cases h; rfl
  | x :: l, r, h => by
    simp only [frc] at h
    split at h
    · rename_i s hs; cases h; rw [frc_eq hs]
    · cases h
theorem loadS_ok (hT : TOk P T) {t : TypeId} {a r : SV} {va : Value} (hS : StS c w B L) (ho : o.op = .load t x) (hx : ev E x = some va) (ha : toV B a = some va) (h : loadS T t a L = some r) : ∃ v, toV B r = some v ∧ RunV P o E w v w := by
  unfold loadS at h
  split at h
  · rename_i n0 o0
    split at h
    · rename_i cs _ m _ hb hl
      split at h
      · rename_i hle
        split at h
        case h_2 => cases h
        rename_i ds hds
        cases h
        have := frc_eq hds
        subst this
        obtain ⟨b, z, vs, h1, h2, h3⟩ := hS.cells hb
        have hlen := mapO_len h2
        have hle := Nat.le_of_ble_eq_true hle
        simp only [toV, gV, cellV, h1] at ha
        cases ha
        have h4 := mapO_take m (mapO_drop o0 h2)
        refine ⟨_, by grind [toV, gV], rv_loadN (cs := (vs.drop o0).take m) ho hx (hT.agg _ _ hl) (hT.size _ _ hl) (by simp; omega) (cellsAt_part h3 (by omega))⟩
      · cases h
    · rename_i cs _ _ _ hb hl
      obtain ⟨b, z, vs, h1, h2, h3⟩ := hS.cells hb
      simp only [toV, gV, cellV, h1] at ha
      cases ha
      obtain ⟨v, h4, h5⟩ := mapO_get h2 h
      exact ⟨v, toV_c h4, rv_load1 ho hx (hT.agg _ _ hl) (h3 o0 v h5)⟩
    · cases h
  · cases h
theorem cellsS_ok {a : SV} {v : Value} {vs : List Value} (ha : toV B a = some v) (h : mapO (cellV B) (cellsS a) = some vs) : v.cells.toList = vs := by
  cases a
  case g cs =>
    simp only [cellsS] at h
    simp only [toV, gV, h] at ha
    cases ha; rfl
  all_goals
    simp only [cellsS, mapO] at h
    split at h
    · cases h
    · rename_i u hu
      cases h
      have h2 := toV_c hu
      rw [ha] at h2; cases h2
      have := cell_one hu
      cases v <;> first | rfl | cases this
end
theorem atomC {B : Bl} {a : SV} {v : Value} (h : cellV B a = some v) (hc : cellsS a = [a]) : ∃ vs, mapO (cellV B) (cellsS a) = some vs := ⟨[v], by grind [mapO]⟩
theorem isCells_ok {B : Bl} {a : SV} {v : Value} (h : isCells a = true) (ha : toV B a = some v) : ∃ vs, mapO (cellV B) (cellsS a) = some vs := by
  cases a
  case g cs =>
    simp only [toV, gV] at ha
    split at ha
    · rename_i vs hv; exact ⟨vs, hv⟩
    · cases ha
  case t => cases h
  case f => cases h
  case u => cases h
  all_goals exact atomC ha rfl
theorem blitN (off : Nat) : ∀ (vs : List Value) (k : Nat) (cells : Array Value), ((vs.zipIdx k).foldl (fun cs (q : Value × Nat) => cs.setIfInBounds (off + q.2) q.1) cells).toList = setN cells.toList (off + k) vs
  | [], k, cells => rfl
  | v :: vs, k, cells => by
    simp only [List.zipIdx_cons, List.foldl_cons, setN]
    rw [blitN off vs (k + 1)]
    grind
theorem buildS_ok {n : Nat} {B : Bl} {e : SE} {a : Act} (hA : AEnvS n B e a) {fs : List (Nat × Nat)} : ∀ (ps : List (Nat × Operand)) {cs r : List SV} {cells : Array Value}, mapO (cellV B) cs = some cells.toList → buildS e fs ps cs = some r →
    ∃ vs rs, evs (vE B e) (ps.map (·.2)) = some vs ∧ mapO (cellV B) r = some rs ∧ Instr.fill (fs.toArray[·]?) cells ((ps.map (·.1)).zip vs) = some rs.toArray
  | [], cs, r, cells, hc, h => by
    cases h
    exact ⟨[], cells.toList, rfl, hc, by simp [Instr.fill]⟩
  | (ix, o) :: ps, cs, r, cells, hc, h => by
    simp only [buildS] at h
    split at h
    · rename_i f m v h1 h2
      split at h
      · rename_i h3 h4 h5
        split at h
        case h_2 => cases h
        rename_i ds hds
        have h4 := Nat.eq_of_beq_eq_true h4
        have h5 := Nat.le_of_ble_eq_true h5
        have := frc_eq hds
        rw [ovw_eq _ _ _ (by omega)] at this
        subst this
        obtain ⟨u, h6, h7⟩ := evS_ok hA h2
        obtain ⟨ws, h8⟩ := isCells_ok h3 h6
        have h9 := cellsS_ok h6 h8
        have hl := mapO_len h8
        have hl2 := mapO_len hc
        have hu : u.cells.size = m := by grind
        have hcs : cells.size = cs.length := by omega
        have h10 : mapO (cellV B) (putS cs f (cellsS v)) = some ((u.cells.zipIdx.foldl (fun cs (q : Value × Nat) => cs.setIfInBounds (f + q.2) q.1) cells).toList) := by
          have := blitN f u.cells.toList 0 cells
          grind [Array.toList_zipIdx, mapO_put]
        obtain ⟨vs, rs, g1, g2, g3⟩ := buildS_ok hA ps h10 h
        simp_all [evs, Instr.fill]
      · cases h
    · cases h
section
variable {P : Program} {T : TT} {n : Nat} {B : Bl} {e : SE} {a : Act} {o : Oper} {w w' : World} {x y : Operand} {c : Ctx} {L : List Ch}
theorem builtS_ok (hT : TOk P T) (hA : AEnvS n B e a) {t : TypeId} {ps : Array (Nat × Operand)} {r : SV} (ho : o.op = .build t ps) (h : builtS T e t ps.toList = some r) : ∃ v, toV B r = some v ∧ RunV P o (vE B e) w v w := by
  unfold builtS at h
  split at h
  · rename_i fs _ z h1
    split at h
    · rename_i cs h2
      cases h
      obtain ⟨d, hd, Fs, rfl, _, _, hp⟩ := hT.und _ _ h1
      obtain ⟨zv, hz, hzc⟩ := hT.zero _ _ h1
      have hzc' : mapO (cellV B) z = some zv.cells.toList := by
        have := mapO_mono (g := cellV B) (fun x v h => by simpa using cellV_app (B := []) B h) hzc
        exact this
      obtain ⟨vs, rs, g1, g2, g3⟩ := buildS_ok hA ps.toList hzc' h2
      exact ⟨_, by grind [toV, gV], rv_build (ps := ps.toList) (by omega) hz hd hp g1 g3⟩
    · cases h
  · cases h
theorem ev1_ok (hT : TOk P T) (hA : AEnvS n B e a) (hS : StS c w B L) {r : SV} (h : ev1 T e L o.op = some r) : ∃ v, toV B r = some v ∧ RunV P o (vE B e) w v w := by
  generalize ho : o.op = op at h
  unfold ev1 at h
  split at h
  · grind [evS_ok, rv_move]
  · grind [evS_ok, rv_assign]
  · grind [evS_ok, toV, gV, cellV, rv_nil, rv_nilf]
  · split at h
    · rename_i heq
      obtain ⟨v, h1, h2⟩ := evS_ok hA heq
      cases h1
      grind [evS_ok, rv_pick_t]
    · rename_i heq
      obtain ⟨v, h1, h2⟩ := evS_ok hA heq
      cases h1
      grind [evS_ok, rv_pick_f]
    · cases h
  · split at h
    · rename_i heq
      cases h; obtain ⟨v, h1, h2⟩ := evS_ok hA heq
      cases h1; exact ⟨_, rfl, rv_not ho h2⟩
    · rename_i heq
      cases h; obtain ⟨v, h1, h2⟩ := evS_ok hA heq
      cases h1; exact ⟨_, rfl, rv_not ho h2⟩
    · cases h
  · split at h
    · rename_i heq
      cases h; obtain ⟨v, h1, h2⟩ := evS_ok hA heq
      cases h1; exact ⟨_, rfl, rv_neg ho h2⟩
    · cases h
  · split at h
    · rename_i h1 h2
      obtain ⟨v, g1, g2⟩ := evS_ok hA h1
      obtain ⟨u, g3, g4⟩ := evS_ok hA h2
      exact bin_ok hT ho g2 g4 g1 g3 h2 h
    · cases h
  · split at h
    · rename_i h1
      obtain ⟨v, g1, g2⟩ := evS_ok hA h1
      exact conv_ok hT ho g2 g1 h
    · cases h
  · split at h
    · rename_i h1
      obtain ⟨v, g1, g2⟩ := evS_ok hA h1
      simp only [toV] at g1
      split at g1
      · rename_i xs _ vs h3
        cases g1
        obtain ⟨u, h4, h5⟩ := mapO_get h3 h
        grind [toV_g, rv_extract]
      · cases g1
    · cases h
  · split at h
    · rename_i h1
      obtain ⟨v, g1, g2⟩ := evS_ok hA h1
      exact fldAt_ok hT ho g2 g1 h
    · cases h
  · grind [evS_ok, loadS_ok]
  · exact builtS_ok hT hA ho h
  · split at h
    · rename_i h1 h2
      obtain ⟨v, g1, g2⟩ := evS_ok hA h1
      obtain ⟨d, hd, hd2⟩ := hT.und _ _ h2
      unfold lenS at h
      split at h
      · split at h
        · cases h; cases g1; simp only at hd2; subst hd2
          exact ⟨_, rfl, rv_len hd ho g2⟩
        · cases h
      · split at h
        · cases h; cases g1; simp only at hd2; subst hd2
          exact ⟨_, rfl, rv_lens hd ho g2⟩
        · cases h
      · cases h
    · cases h
  · cases h
end
def RelN (n : Nat) (c : Ctx) (B0 : Bl) (m : Nat) (e : SE) (L : List Ch) (a : Act) (w : World) : Prop := ∃ B, (B0 ++ B).length = m ∧ AEnvS n (B0 ++ B) e a ∧ StS c w (B0 ++ B) L
end Go.Gv
end
section
/-
  A state seen as another one. Nothing of a program here.
-/
namespace Go.Gv
/-! ### A state as another one -/
section
variable {m : Nat} {e : SE} {L : List Ch}
theorem okN_cell {B : Bl} {m : Nat} {x : SV} {v : Value} (hv : cellV B x = some v) (h : ∀ n o, x = .p n o → n < m) : cellV (B.take m) x = some v := by
  cases x <;> simp only [cellV] at hv ⊢ <;> try exact hv
  grind
theorem okC_map {B : Bl} {m : Nat} : ∀ {cs : List SV} {vs : List Value}, okN.okC m cs = true → mapO (cellV B) cs = some vs → mapO (cellV (B.take m)) cs = some vs
  | [], vs, _, h => h
  | x :: cs, vs, ho, h => by
    simp only [mapO] at h
    split at h
    · cases h
    · rename_i h1
      split at h
      · cases h
      · rename_i h2
        cases h
        have hx : (∀ n o, x = .p n o → n < m) ∧ okN.okC m cs = true := by
          simp only [okN.okC] at ho
          grind [Nat.blt_eq]
        simp [mapO, okN_cell h1 hx.1, okC_map hx.2 h2]
theorem okT_map {B : Bl} {m : Nat} : ∀ {cs : List SV} {vs : List Value}, okN.okT m cs = true → mapO (gV B) cs = some vs → mapO (gV (B.take m)) cs = some vs
  | [], vs, _, h => h
  | x :: cs, vs, ho, h => by
    simp only [mapO] at h
    split at h
    · cases h
    · rename_i y0 h1
      split at h
      · cases h
      · rename_i h2
        cases h
        have hx : gV (B.take m) x = some y0 ∧ okN.okT m cs = true := by
          simp only [okN.okT] at ho
          grind [okN_cell, Nat.blt_eq, gV, okC_map]
        simp [mapO, hx.1, okT_map hx.2 h2]
theorem okF_map {B : Bl} {m : Nat} : ∀ {cs : List Nat} {vs : List Value}, okN.okF m cs = true → mapO (capV B) cs = some vs → mapO (capV (B.take m)) cs = some vs
  | [], vs, _, h => h
  | x :: cs, vs, ho, h => by
    simp only [mapO] at h
    split at h
    · cases h
    · rename_i y0 h1
      split at h
      · cases h
      · rename_i h2
        cases h
        simp only [okN.okF] at ho
        split at ho
        · rename_i hb
          have hx : capV (B.take m) x = some y0 := by
            simp_all [capV]
          simp [mapO, hx, okF_map ho h2]
        · cases ho
theorem okN_toV {B : Bl} {m : Nat} {x : SV} {v : Value} (h : okN m x = true) (hv : toV B x = some v) : toV (B.take m) x = some v := by
  cases x
  case p n o => exact okN_cell (x := .p n o) hv (fun n' o' he => by grind [okN, Nat.blt_eq])
  case g cs =>
    simp only [toV, gV] at hv ⊢
    split at hv
    · rename_i h1; rw [okC_map h h1]; exact hv
    · cases hv
  case t cs =>
    simp only [toV] at hv ⊢
    split at hv
    · rename_i h1; rw [okT_map h h1]; exact hv
    · cases hv
  case f f cs =>
    simp only [toV] at hv ⊢
    split at hv
    · rename_i h1; rw [okF_map h h1]; exact hv
    · cases hv
  all_goals exact hv
theorem re1_cell {B : Bl} {z x : SV} : cellV B (re1 z x) = cellV B x := by
  cases z <;> cases x <;> rfl
theorem re1_toV {B : Bl} {z x : SV} : toV B (re1 z x) = toV B x := by
  cases z <;> cases x <;> rfl
theorem reC_map {B : Bl} : ∀ {cs ds : List SV}, mapO (cellV B) (reC cs ds) = mapO (cellV B) ds
  | [], [] => rfl
  | [], _ :: _ => rfl
  | _ :: _, [] => rfl
  | c :: cs, d :: ds => by simp only [reC, mapO, re1_cell, reC_map]
theorem nb1_cell {B : Bl} {x : SV} : cellV B (nb1 x) = cellV B x := by cases x <;> rfl
theorem nbL_map {B : Bl} : ∀ {cs : List SV}, mapO (cellV B) (nbL cs) = mapO (cellV B) cs
  | [] => rfl
  | c :: cs => by simp only [nbL, mapO, nb1_cell, nbL_map]
theorem nbG_gV {B : Bl} {x : SV} : gV B (nbG x) = gV B x := by
  cases x <;> try rfl
  grind [nbG, gV, nbL_map]
theorem nbT_map {B : Bl} : ∀ {cs : List SV}, mapO (gV B) (nbT cs) = mapO (gV B) cs
  | [] => rfl
  | c :: cs => by simp only [nbT, mapO, nbG_gV, nbT_map]
theorem nbG_toV {B : Bl} {x : SV} : toV B (nbG x) = toV B x := by
  cases x <;> try rfl
  grind [nbG, toV, gV, nbL_map]
theorem nbS_toV {B : Bl} {x : SV} : toV B (nbS x) = toV B x := by
  cases x with
  | g cs => exact nbG_toV (x := .g cs)
  | t xs => grind [nbS, toV, nbT_map]
  | _ => rfl
theorem nbT_toV {B : Bl} : ∀ {cs : List SV}, mapO (toV B) (nbT cs) = mapO (toV B) cs
  | [] => rfl
  | c :: cs => by simp only [nbT, mapO, nbG_toV, nbT_toV]
theorem nbA_toV {B : Bl} : ∀ {cs : List SV}, mapO (toV B) (nbA cs) = mapO (toV B) cs
  | [] => rfl
  | c :: cs => by
    simp only [nbA]
    split
    · simp only [mapO, nbA_toV]; rfl
    · simp only [mapO, nbG_toV, nbA_toV]
theorem reE_lk {e : SE} : ∀ {e' s : SE} {k : Nat} {x : SV}, reE e e' = some s → lkS s k = some x → ∃ y, lkS e k = some y ∧ ∀ B, toV B x = toV B y
  | [], s, k, x, h, hk => by cases h; cases hk
  | (j, y) :: r, s, k, x, h, hk => by
    simp only [reE] at h
    split at h
    · rename_i z hz
      split at h
      · rename_i s' hs
        cases h
        simp only [lkS] at hk
        cases hb : Nat.beq k j with
        | true => grind [Nat.eq_of_beq_eq_true, re1_toV]
        | false => rw [hb] at hk; exact reE_lk hs hk
      · cases h
    · cases h
theorem reL_imp {B : Bl} {w : World} {R : List Fact} : ∀ (M L : List Ch), ImpL w (L.map (chd B)) ((reL M L).map (chd B)) ∧ ((∀ x ∈ L, roF B R x) → ∀ x ∈ reL M L, roF B R x)
  | [], L => by grind [reL, ImpL.refl]
  | x :: M, [] => by cases x <;> exact ⟨.nil, fun h => h⟩
  | x :: M, y :: L => by
    obtain ⟨h1, h2⟩ := reL_imp (B := B) (w := w) (R := R) M L
    have gen : reL (x :: M) (y :: L) = y :: reL M L → ImpL w ((y :: L).map (chd B)) ((reL (x :: M) (y :: L)).map (chd B)) ∧ ((∀ x ∈ y :: L, roF B R x) → ∀ z ∈ reL (x :: M) (y :: L), roF B R z) := fun he => by
      rw [he]
      refine ⟨.cons (fun _ h => h) h1, fun h z hz => ?_⟩
      grind
    cases x with
    | box n cs =>
      cases y with
      | box k ds =>
        simp only [reL]
        refine ⟨.cons (fun F ⟨b, z, vs, k1, k2, k3⟩ => ⟨b, z, vs, k1, by grind [reC_map], k3⟩) h1, fun h z hz => ?_⟩
        rcases List.mem_cons.1 hz with hz | hz
        · subst hz; trivial
        grind
      | _ => exact gen rfl
    | _ => exact gen (by cases y <;> rfl)
theorem okE_lk {m : Nat} : ∀ {s : SE} {k : Nat} {x : SV}, okE m s = true → lkS s k = some x → okN m x = true
  | [], k, x, h, hk => by cases hk
  | (j, y) :: r, k, x, h, hk => by
    simp only [okE] at h
    split at h
    · rename_i ho
      simp only [lkS] at hk
      cases hb : Nat.beq k j with
      | true => grind
      | false => rw [hb] at hk; exact okE_lk h hk
    · cases h
theorem okL_mem {m : Nat} : ∀ {L : List Ch} {x : Ch}, okL m L = true → x ∈ L → (∀ n cs, x = .box n cs ∨ x = .ro n cs → n < m ∧ okN.okC m cs = true)
  | y :: L, x, h, hx, n, cs, he => by
    have key : (∀ n cs, y = .box n cs ∨ y = .ro n cs → n < m ∧ okN.okC m cs = true) ∧ okL m L = true := by
      cases y with
      | box k c =>
        grind [okL, Nat.blt_eq]
      | ro k c =>
        grind [okL, Nat.blt_eq]
      | o c => exact ⟨fun n cs he => (by grind), h⟩
      | f c => exact ⟨fun n cs he => (by grind), h⟩
      | no => exact ⟨fun n cs he => (by grind), h⟩
      | w k b z =>
        grind [okL]
    rcases List.mem_cons.1 hx with hx | hx
    · grind
    · exact okL_mem key.2 hx n cs he
theorem okL_w {m n b z : Nat} : ∀ {L : List Ch}, okL m L = true → Ch.w n b z ∈ L → n < m
  | y :: L, h, hx => by
    have key : (y = .w n b z → n < m) ∧ okL m L = true := by
      cases y with
      | box k c =>
        grind [okL]
      | ro k c =>
        grind [okL]
      | w k b z =>
        grind [okL, Nat.blt_eq]
      | o c => exact ⟨fun he => (by cases he), h⟩
      | f c => exact ⟨fun he => (by cases he), h⟩
      | no => exact ⟨fun he => (by cases he), h⟩
    rcases List.mem_cons.1 hx with hx | hx
    · grind
    · exact okL_w key.2 hx
theorem kl_mem {L : List Ch} : ∀ {is : List Nat} {x : Ch}, x ∈ kl L is → x ∈ L
  | i :: is, x, h => by
    simp only [kl] at h
    split at h
    · rename_i y hy
      rcases List.mem_cons.1 h with h | h
      · grind
      · exact kl_mem h
    · exact kl_mem h
/-- Chunks that are named are there. -/
theorem kl_pick {B : Bl} {w : World} {L : List Ch} : ∀ (is : List Nat), ∃ is', (∀ j ∈ is', j ∈ is) ∧ (apartB is = true → apartB is' = true) ∧ ImpL w (pick (L.map (chd B)) is') ((kl L is).map (chd B))
  | [] => ⟨[], by simp, fun h => h, .nil⟩
  | i :: is => by
    obtain ⟨is', h1, h2, h3⟩ := kl_pick (B := B) (w := w) (L := L) is
    cases hi : L[i]? with
    | none =>
      refine ⟨is', fun j hj => List.mem_cons_of_mem _ (h1 j hj), fun h => h2 ?_, ?_⟩
      · simp only [apartB, Bool.and_eq_true] at h; exact h.2
      · simp only [kl, hi]; exact h3
    | some x =>
      refine ⟨i :: is', fun j hj => ?_, fun h => ?_, ?_⟩
      · grind
      · simp_all [apartB]
      · simp only [kl, hi, pick, List.getElem?_map, Option.map_some, Option.getD_some, List.map_cons]
        exact .cons (fun _ h => h) h3
theorem kl_sel {c : Ctx} {w : World} {B : Bl} (h : StS c w B L) (is : List Nat) (ha : apartB is = true) : StS c w B (kl L is) := by
  obtain ⟨⟨R, s1, s2⟩, s0⟩ := h
  obtain ⟨is', _, h2, h3⟩ := kl_pick (B := B) (w := w) (L := L) is
  exact ⟨⟨R, (s1.sel is' (h2 ha)).imp h3, fun x hx => s2 x (kl_mem hx)⟩, s0⟩
theorem take_ok {c : Ctx} {w : World} {B : Bl} {m : Nat} {L : List Ch} (h : StS c w B L) (ho : okL m L = true) : StS c w (B.take m) L := by
  obtain ⟨⟨R, s1, s2⟩, s0⟩ := h
  have key : ∀ x ∈ L, ∀ F, (chd B x).P w F → (chd (B.take m) x).P w F := by
    intro x hx F hF
    cases x with
    | box n cs =>
      obtain ⟨h1, h2⟩ := okL_mem ho hx n cs (.inl rfl)
      obtain ⟨b, z, vs, k1, k2, k3⟩ := hF
      exact ⟨b, z, vs, by grind, okC_map h2 k2, k3⟩
    | _ => exact hF
  have imp : ∀ (M : List Ch), (∀ x ∈ M, x ∈ L) → ImpL w (M.map (chd B)) (M.map (chd (B.take m))) := by
    intro M
    induction M with
    | nil => exact fun _ => .nil
    | cons x M ih => exact fun hM => .cons (key x (hM x (by simp))) (ih fun y hy => hM y (List.mem_cons_of_mem _ hy))
  refine ⟨⟨R, s1.imp (imp L fun _ h => h), fun x hx => ?_⟩, s0⟩
  have := s2 x hx
  cases x with
  | ro n cs =>
    obtain ⟨h1, h2⟩ := okL_mem ho hx n cs (.inr rfl)
    obtain ⟨b, z, vs, k1, k2, k3⟩ := this
    exact ⟨b, z, vs, by grind, okC_map h2 k2, k3⟩
  | w n b z =>
    have h1 := okL_w ho hx
    exact (by rw [List.getElem?_take, if_pos h1]; exact this : (List.take m B)[n]? = some (b, z))
  | _ => exact this
theorem reL_ok {c : Ctx} {w : World} {B : Bl} {L : List Ch} (h : StS c w B L) (M : List Ch) : StS c w B (reL M L) := by
  obtain ⟨⟨R, s1, s2⟩, s0⟩ := h
  exact ⟨⟨R, s1.imp (reL_imp (R := R) M L).1, (reL_imp (w := w) M L).2 s2⟩, s0⟩
theorem Rel.as {n : Nat} {c : Ctx} {B0 : Bl} {m' : Nat} {e' : SE} {L' : List Ch} {a : Act} {w : World} (hr : RelN n c B0 m e L a w) (is : List Nat) (ha : apartB is = true) {f : SE} {M : List Ch} (h : asS e L is m' f M = some (e', L')) (hm : m' ≤ m) (h0 : B0.length ≤ m') : RelN n c B0 m' e' L' a w := by
  unfold asS at h
  split at h
  · rename_i s hs
    split at h
    · rename_i h1 h2
      cases h
      obtain ⟨B, hl, hA, hS⟩ := hr
      have hB : (B0 ++ B).take m' = B0 ++ B.take (m' - B0.length) := by
        rw [List.take_append, List.take_of_length_le h0]
      refine ⟨B.take (m' - B0.length), by grind, ?_, ?_⟩
      · rw [← hB]
        exact ⟨hA.d, hA.size, fun k x hk => by
          obtain ⟨y, q1, q2⟩ := reE_lk hs hk
          obtain ⟨v, k1, k2⟩ := hA.get k y q1
          grind [okN_toV, okE_lk]⟩
      grind [take_ok, reL_ok, kl_sel]
    · cases h
  · cases h
theorem RelN.asT {n : Nat} {c : Ctx} {B0 : Bl} {m' : Nat} {e' : SE} {L' : List Ch} {a : Act} {w : World} (hr : RelN n c B0 m e L a w) (is : List Nat) {f : SE} {M : List Ch} (h : asT B0.length m e L is m' f M = some (e', L')) : RelN n c B0 m' e' L' a w := by
  grind [Go.Gv.asT, Rel.as, Nat.le_of_ble_eq_true]
end
end Go.Gv
end
section
/-
  The stepper is sound: what holds where it stands still holds where it began. Nothing of a program here.
-/
namespace Go.Gv
section
variable {P : Program} {T : TT} {n : Nat} {B : Bl} {e : SE} {a : Act} {o : Oper} {w w' : World} {x y : Operand} {c : Ctx} {L : List Ch}
theorem gd_yes {ops : Array Oper} (h : guardS ops e o.guard = .yes) : Want ops o (vE B e) true := by
  unfold guardS at h
  split at h
  · exact want_yes (by assumption)
  · rename_i j w hg
    split at h
    · rename_i q hq
      split at h
      · rename_i s hs
        have hj : (ops[j]?).bind (·.dst) = some s := by rw [← Array.getElem?_toList, hq]; exact hs
        split at h
        · rename_i c hl
          have hv : lk (vE B e) s = some (.bool c) := by rw [vE_lk hl]; rfl
          refine want_if hg hj hv ?_
          split at h <;> first | rfl | cases h
        all_goals cases h
      · cases h
    · cases h
theorem gd_no {ops : Array Oper} (h : guardS ops e o.guard = .no) : Want ops o (vE B e) false := by
  unfold guardS at h
  split at h
  · cases h
  · rename_i j w hg
    split at h
    · rename_i q hq
      split at h
      · rename_i s hs
        have hj : (ops[j]?).bind (·.dst) = some s := by rw [← Array.getElem?_toList, hq]; exact hs
        split at h
        · rename_i c hl
          have hv : lk (vE B e) s = some (.bool c) := by rw [vE_lk hl]; rfl
          refine want_if hg hj hv ?_
          cases c <;> cases w <;> first | rfl | cases h
        · rename_i hl
          exact want_no hg hj (by rw [vE_lk hl]; rfl)
        all_goals cases h
      · cases h
    · cases h
theorem isBox_at {m : Nat} : ∀ {L : List Ch}, isBox m L = true → ∃ i cs, L[i]? = some (.box m cs) ∧ boxOf m L = some cs ∧ ∀ cs', setBox m cs' L = L.set i (.box m cs')
  | [], h => by cases h
  | x :: L, h => by
    have ih : isBox m L = true → boxOf m (x :: L) = boxOf m L → (∀ cs', setBox m cs' (x :: L) = x :: setBox m cs' L) → ∃ i cs, (x :: L)[i]? = some (.box m cs) ∧ boxOf m (x :: L) = some cs ∧ ∀ cs', setBox m cs' (x :: L) = (x :: L).set i (.box m cs') := fun h h2 h3 => by
      obtain ⟨i, cs, g1, g2, g3⟩ := isBox_at h
      exact ⟨i + 1, cs, by grind, by rw [h2, g2], fun cs' => by grind⟩
    cases x with
    | box k cs =>
      simp only [isBox] at h
      split at h
      · rename_i hb
        have := Nat.eq_of_beq_eq_true hb
        subst this
        exact ⟨0, cs, rfl, by grind [boxOf], fun cs' => by grind [setBox]⟩
      grind [boxOf, setBox]
    | ro k cs =>
      grind [isBox, boxOf, setBox]
    | o ch => exact ih h rfl (fun _ => rfl)
    | f g => exact ih h rfl (fun _ => rfl)
    | no => exact ih h rfl (fun _ => rfl)
    | w k b z => exact ih h rfl (fun _ => rfl)
/-- A store into a box. -/
theorem storeS_ok (hT : TOk P T) (hA : AEnvS n B e a) (hS : StS c w B L) {t : TypeId} {p v : SV} {L' : List Ch} (ho : o.op = .store t x y) (hx : evS e x = some p) (hy : evS e y = some v) (h : storeS T t p v L = some L') : ∃ w', RunS P o (vE B e) w w' ∧ StS c w' B L' := by
  unfold storeS at h
  split at h
  · rename_i m j
    split at h
    · rename_i hb
      split at h
      · rename_i cs _ _ sz _ h1 h2
        split at h
        · rename_i h3 h4 h5
          split at h
          case h_2 => cases h
          rename_i ds hds
          have h4 := Nat.eq_of_beq_eq_true h4
          have h5 := Nat.le_of_ble_eq_true h5
          have := frc_eq hds
          rw [ovw_eq _ _ _ (by omega)] at this
          subst this
          split at h
          case h_2 => cases h
          rename_i L2 hL2
          cases h
          have := frc_eq hL2
          subst this
          obtain ⟨i, cs', g1, g2, g3⟩ := isBox_at hb
          rw [h1] at g2; cases g2
          obtain ⟨pv, hp1, hp2⟩ := evS_ok hA hx
          obtain ⟨u, hu1, hu2⟩ := evS_ok hA hy
          obtain ⟨vs, hv⟩ := isCells_ok h3 hu1
          obtain ⟨b, z, rs, k1, k2, _⟩ := hS.cells h1
          simp only [toV, gV, cellV, k1] at hp1
          cases hp1
          have hl := mapO_len hv
          have hl2 := mapO_len k2
          obtain ⟨⟨R, s1, s2⟩, s0⟩ := hS
          have hlt := (List.getElem?_eq_some_iff.1 g1).1
          have gi : (L.map (chd B))[i]? = some (boxC B m cs) := by rw [List.getElem?_map, g1]; rfl
          have s3 : St c w ((L.map (chd B)).set i (cAt b z rs)) R := s1.imp (ImpL.put i gi fun F ⟨b', z', vs', q1, q2, q3⟩ => by
            grind)
          obtain ⟨w2, r1, r2⟩ := rs_at (P := P) (o := o) (e := vE B e) (b := b) (q := z) (cs := rs) (vs := vs) (j := j) (m := sz) s3 (i := i) (by grind) ho hp2 hu2 (cellsS_ok hu1 hv) (hT.size _ _ h2) (by omega) (Nat.ble_eq_true_of_le (by omega)) (List.all_eq_true.2 fun q hq => by
            obtain ⟨k, hk⟩ := List.getElem?_of_mem hq
            have hk2 : k < (cellsS v).length := by grind
            obtain ⟨q', hq1, hq2⟩ := mapO_get hv (List.getElem?_eq_getElem hk2)
            grind [cell_one])
          refine ⟨w2, r1, ⟨⟨R, ?_, ?_⟩, s0⟩⟩
          · rw [List.set_set] at r2
            rw [g3, List.map_set]
            exact r2.imp (ImpL.set i (ImpL.refl _) fun F hF => ⟨b, z, _, k1, mapO_put j k2 hv, hF⟩)
          · rw [g3]
            intro q hq
            rcases List.mem_or_eq_of_mem_set hq with hq | hq
            · grind
            · subst hq; trivial
        · cases h
      · cases h
    · cases h
  · cases h
/-- A new box. -/
theorem StS.box (hS : StS c w B L) {w' : World} {b : Nat} {cs : List SV} {vs : List Value} (hc : mapO (cellV B) cs = some vs) (h : ∀ M R, St c w M R → St c w' (M ++ [cBox b vs]) R) : StS c w' (B ++ [(b, 0)]) (L ++ [.box B.length cs]) := by
  obtain ⟨⟨R, s1, s2⟩, s0⟩ := hS
  refine ⟨⟨R, ?_, ?_⟩, s0⟩
  · rw [List.map_append]
    refine (h _ _ s1).imp (ImpL.append (imp_app _ L) (.cons (fun F hF => ⟨b, 0, vs, by simp, mapO_mono (fun _ _ => cellV_app _) hc, hF⟩) .nil))
  · intro q hq
    rcases List.mem_append.1 hq with hq | hq
    · grind [roF_app]
    · simp at hq; subst hq; trivial
theorem alloc_ok (hT : TOk P T) (hS : StS c w B L) {t : TypeId} {i : TI} {E : Env} (ho : o.op = .alloc t) (h : lkT T t = some i) : ∃ v w' b, RunV P o E w v w' ∧ v = .pointer (some ⟨b, 0, none⟩) ∧ StS c w' (B ++ [(b, 0)]) (L ++ [.box B.length i.z]) := by
  obtain ⟨z, hz, hzc⟩ := hT.zero _ _ h
  have hzc' : mapO (cellV B) i.z = some z.cells.toList := mapO_mono (fun x v h => by simpa using cellV_app (B := []) B h) hzc
  refine ⟨_, _, w.heap.size, fun _ a hA => ?_, rfl, hS.box hzc' fun M R hM => hM.alloc z.cells.toList t⟩
  simp_all [execOp, Instr.alloc, newVar, newRow]
theorem box_ok (hA : AEnvS n B e a) (hS : StS c w B L) {t : TypeId} {v : SV} (ho : o.op = .box t x) (h : evS e x = some v) (hc : isCells v = true) : ∃ u w' b, RunV P o (vE B e) w u w' ∧ u = .pointer (some ⟨b, 0, none⟩) ∧ StS c w' (B ++ [(b, 0)]) (L ++ [.box B.length (cellsS v)]) := by
  obtain ⟨u, h1, h2⟩ := evS_ok hA h
  obtain ⟨vs, h3⟩ := isCells_ok hc h1
  have h4 := cellsS_ok h1 h3
  subst h4
  refine ⟨_, _, w.heap.size, fun _ a hA => ?_, rfl, hS.box h3 fun M R hM => hM.alloc u.cells.toList t⟩
  simp [execOp, ho, Instr.box, hA.eval h2, newVar, newRow]
end

/-! ### Goals -/
structure Gx where
  P : Program
  T : TT
  hT : TOk P T
  n : Nat
  c : Ctx
  B0 : Bl
  N : Act → World → Prop
  X : Nat → Act → World → Prop
  Q : Act → World → Prop
abbrev Rel (g : Gx) (m : Nat) (e : SE) (L : List Ch) (a : Act) (w : World) : Prop := RelN g.n g.c g.B0 m e L a w
mutual
def NK (g : Gx) : List Fr → Act → World → Prop
  | [] => g.N
  | .s y :: K => fun a w => CW g.P y (NK g K) (XK g K) g.Q a w
  | .k _ :: K => NK g K
def XK (g : Gx) : List Fr → Nat → Act → World → Prop
  | [] => g.X
  | .s _ :: K => XK g K
  | .k id :: K => xcons id (NK g K) (XK g K)
end
/-- A region whose order is drawn, on the way. -/
structure DInv (g : Gx) (B1 : Bl) (ops : Array Oper) (l : List Bool) (is : List Nat) (Lf L : List Ch) : Prop where
  pre : ∃ B, B1 = g.B0 ++ B
  len : l.length = ops.size
  free : freeA ops = true
  frz : kl L is = Lf
  rng : ∀ j ∈ is, j < L.length
  okf : okL B1.length Lf = true
  ap : apartB is = true
abbrev Sd (g : Gx) (B1 : Bl) (Lf : List Ch) : World → Prop := fun w => StS g.c w B1 Lf
/-- A state on the way; what is looked at alone: Lv. -/
def RelD (g : Gx) (B1 : Bl) (Lf Lv : List Ch) (m : Nat) (e : SE) (L : List Ch) (a : Act) (w : World) : Prop := ∃ B, (B1 ++ B).length = m ∧ AEnvS g.n (B1 ++ B) e a ∧ StS g.c w (B1 ++ B) L ∧ ∀ w', StS g.c w' B1 Lf → StS g.c w' (B1 ++ B) Lv
/-- What is to be shown at a place of the code. -/
def G (g : Gx) (K : List Fr) (m : Nat) (e : SE) (L : List Ch) : Cfg → Prop
  | .n => ∀ a w, Rel g m e L a w → NK g K a w
  | .c x => ∀ a w, Rel g m e L a w → CW g.P x (NK g K) (XK g K) g.Q a w
  | .r ops l => ∀ a w, Rel g m e L a w → wpList g.P ops (mkQ (NK g K) (XK g K) g.Q) l a w
  | .d B1 ops l is Lf Lv => DInv g B1 ops l is Lf L → ∀ a w, RelD g B1 Lf Lv m e L a w → wpAnyH g.P .any ops (mkQ (NK g K) (XK g K) g.Q) (Sd g B1 Lf) (l.count false) l.toArray a w
  | .o B1 ops l is Lf Lv i => DInv g B1 ops l is Lf L → ∀ a w, RelD g B1 Lf Lv m e L a w → wpOp g.P ops (mkQ (NK g K) (XK g K) g.Q) i (fun a' w' => Sd g B1 Lf w' ∧ wpAnyH g.P .any ops (mkQ (NK g K) (XK g K) g.Q) (Sd g B1 Lf) ((l.set i true).count false) (l.set i true).toArray a' w') a w
/-- The blocks that are known. -/
def B0S (g : Gx) : Cfg → Bl
  | .d B1 _ _ _ _ _ => B1
  | .o B1 _ _ _ _ _ _ => B1
  | _ => g.B0
/-- What is looked at alone stays so. -/
def Frz (g : Gx) (cf : Cfg) (L L' : List Ch) : Prop := match cf with
  | .d B1 ops l is Lf _ => DInv g B1 ops l is Lf L → kl L' is = Lf ∧ ∀ j ∈ is, j < L'.length
  | .o B1 ops l is Lf _ _ => DInv g B1 ops l is Lf L → kl L' is = Lf ∧ ∀ j ∈ is, j < L'.length
  | _ => True
/-- An operation that yields a value, and what may be known behind it. -/
def PStep (g : Gx) (K : List Fr) (m : Nat) (e : SE) (L : List Ch) (o : Oper) (Lv : List Ch) (cf cf' : Cfg) : Prop :=
  ∀ (d : Nat) (x : SV) (Ln : List Ch) (nb : World → Bl) (k : Nat), o.dst = some d → (∀ w, (nb w).length = k) →
    (∀ B a w, AEnvS g.n B e a → StS g.c w B Lv → B.length = m → ∃ v, toV (B ++ nb g.c.w0) x = some v ∧ RunV g.P o (vE B e) w v w) →
    (∀ B w L, B.length = m → StS g.c w B L → StS g.c w (B ++ nb g.c.w0) (L ++ Ln)) →
    G g K (m + k) ((d, x) :: e) (L ++ Ln) (cf'.ext Ln) → G g K m e L cf
/-- An operation that turns the world. -/
def EStep (g : Gx) (K : List Fr) (m : Nat) (e : SE) (L : List Ch) (o : Oper) (cf cf' : Cfg) : Prop :=
  ∀ (ι : Type) (m' : ι → Nat) (e' : ι → SE) (L' : ι → List Ch), (∀ i, Frz g cf L (L' i)) →
    (∀ B a w (next : Act → World → Prop) (Q : Exit → Act → World → Prop), (B0S g cf ++ B).length = m → AEnvS g.n (B0S g cf ++ B) e a → StS g.c w (B0S g cf ++ B) L → (∀ i a' w', RelN g.n g.c (B0S g cf ++ B) (m' i) (e' i) (L' i) a' w' → next a' w') → o.wp g.P a w next Q) →
    (∀ i, G g K (m' i) (e' i) (L' i) cf') → G g K m e L cf
def Gs (g : Gx) : Stop → Prop
  | .ret m e L => ∀ a w, Rel g m e L a w → g.Q a w
  | .fin m e L => ∀ a w, Rel g m e L a w → g.N a w
  | .ex id m e L => ∀ a w, Rel g m e L a w → g.X id a w
  | .cond o b x y K m e L => evS e o = some (.b b) → G g K m e L (.c (.cond o x y))
  | .case _ cf K m e L => G g K m e L cf
  | .loop id y K m e L => G g K m e L (.c (.block id (.loop y)))
  | .idx o d t s n i Lv cf cf' K m e L => (∀ x y, o.op = .indexAddr t x y → o.dst = some d → evS e x = some (.h s n) → evS e y = some (.i .i64 i) → PStep g K m e L o Lv cf cf' → G g K m e L cf)
  | .call o d f xs cf cf' K m e L => (∀ fo args ats, o.op = .call { callee := .value fo, args := args, argTypes := ats } → o.dst = d → evS e fo = some (.f f []) → (∃ ys, mapO (evS e) args.toList = some ys ∧ nbA ys = xs) → okA xs = true → dstOk g.n d = true → EStep g K m e L o cf cf' → G g K m e L cf)
  | .callp o d f xs cf cf' K m e L => (∀ fo args ats, o.op = .call { callee := .value fo, args := args, argTypes := ats } → o.dst = d → evS e fo = some (.f f []) → (∃ ys, mapO (evS e) args.toList = some ys ∧ nbA ys = xs) → dstOk g.n d = true → EStep g K m e L o cf cf' → G g K m e L cf)
  | .op o Lv cf cf' K m e L => dstOk g.n o.dst = true → PStep g K m e L o Lv cf cf' → EStep g K m e L o cf cf' → G g K m e L cf
  | .opp o Lv cf cf' K m e L => dstOk g.n o.dst = true → PStep g K m e L o Lv cf cf' → G g K m e L cf
  | .rgn id ops K m e L => G g K m e L (.c (.region id ops true))
  | .alt cf K m e L => G g K m e L cf
  | .stuck => False
section
variable {g : Gx} {K : List Fr} {m : Nat} {e : SE} {L : List Ch}
theorem pop_N {a : Act} {w : World} : ∀ {K : List Fr}, (match pop K with | some (y, K') => CW g.P y (NK g K') (XK g K') g.Q a w | none => g.N a w) → NK g K a w
  | [], h => by simpa [pop, NK] using h
  | .s y :: K, h => by simpa [pop, NK] using h
  | .k _ :: K, h => by
    have : NK g K a w := pop_N (by grind [pop])
    simp_all [NK]
theorem xit_X {a : Act} {w : World} {id : Nat} : ∀ {K : List Fr}, (match xit id K with | some K' => NK g K' a w | none => g.X id a w) → XK g K id a w
  | [], h => by simpa [xit, XK] using h
  | .s y :: K, h => by
    have : XK g K id a w := xit_X (by grind [xit])
    simp_all [XK]
  | .k j :: K, h => by
    simp only [xit] at h
    simp only [XK, xcons]
    cases hb : Nat.beq id j with
    | true =>
      simp_all
    | false =>
      rw [hb] at h
      rw [if_neg (fun e => by simp_all)]
      exact xit_X h
/-- Popping, as a goal. -/
theorem pop_G {F : Nat} (ih : ∀ K c m e L, Gs g (stp g.T g.n F K c m e L) → G g K m e L c) (h : Gs g (match pop K with | some (y, K') => stp g.T g.n F K' (.c y) m e L | none => .fin m e L)) : ∀ a w, Rel g m e L a w → NK g K a w := fun a w hr => by
  refine pop_N ?_
  split
  · rename_i y K' hp
    rw [hp] at h
    exact ih _ _ _ _ _ h a w hr
  · rename_i hp
    rw [hp] at h
    exact h a w hr
/-- The environment with a new value, and new blocks. -/
theorem AEnvS.ext {n : Nat} {B nb : Bl} {a a' : Act} {d : Nat} {x : SV} {v : Value} (hA : AEnvS n B e a) (hx : toV (B ++ nb) x = some v) (hA' : AEnv n ((d, v) :: vE B e) a') : AEnvS n (B ++ nb) ((d, x) :: e) a' := by
  refine (hA.app nb).of hx ⟨hA'.d, hA'.size, fun k u hk => ?_⟩
  simp only [lk] at hk
  cases hb : Nat.beq k d with
  | true => rw [hb] at hk; exact hA'.get k u (by grind [lk])
  | false =>
    rw [hb] at hk
    obtain ⟨y, h2, h3⟩ := lk_vE hk
    obtain ⟨u2, h4, h5⟩ := hA.get k y h2
    rw [toV_app nb h4] at h3
    refine hA'.get k u ?_
    grind [lk, vE_lk]
theorem pstep_r {ops : Array Oper} {l : List Oper} {o : Oper} (hg : guardS ops e o.guard = .yes) (hd : dstOk g.n o.dst = true) : PStep g K m e L o L (.r ops (o :: l)) (.r ops l) := by
  intro d x Ln nb k hdst hk hv hs hG a w ⟨B, hm, hA, hS⟩
  obtain ⟨v, h1, h2⟩ := hv _ a w hA hS hm
  rw [hdst] at hd
  refine ops_v h2 (gd_yes hg) hdst hd (fun a' hA' => hG a' w ⟨B ++ nb g.c.w0, ?_, ?_, ?_⟩) a hA.env
  · grind
  · rw [← List.append_assoc]; exact hA.ext h1 hA'
  grind
theorem estep_r {ops : Array Oper} {l : List Oper} {o : Oper} (hg : guardS ops e o.guard = .yes) : EStep g K m e L o (.r ops (o :: l)) (.r ops l) := by
  intro ι m' e' L' _ hrun hG a w hr
  have ⟨B, hm, hA, hS⟩ := hr
  refine wpList_step fun K' hK => ?_
  rw [gd_yes hg _ a hA.env, if_pos rfl]
  exact hrun B a w K' _ hm hA hS (fun i a' w' ⟨B', h1, h2, h3⟩ => hK a' w' (hG i a' w' ⟨B ++ B', by rw [← List.append_assoc]; exact h1, by rw [← List.append_assoc]; exact h2, by rw [← List.append_assoc]; exact h3⟩))
/-! Drawn regions -/
theorem DInv.S {B1 : Bl} {ops : Array Oper} {l : List Bool} {is : List Nat} {Lf : List Ch} (h : DInv g B1 ops l is Lf L) {w : World} {B : Bl} (hS : StS g.c w (B1 ++ B) L) : StS g.c w B1 Lf := by
  have h1 := kl_sel hS is h.ap
  rw [h.frz] at h1
  have h2 := take_ok h1 h.okf
  grind
theorem bnd_eq {d : Edge} : Region.binds .any d = bndG d.ground := by
  cases d with
  | mk on g => cases g <;> rfl
theorem rdyE_ok {l : List Bool} : ∀ {es : List Edge}, rdyE l es = true ↔ ∀ d ∈ es, Region.binds .any d = true → l[d.on]? = some true
  | [] => by simp [rdyE]
  | ⟨on, gr⟩ :: r => by
    have ih := rdyE_ok (l := l) (es := r)
    simp only [rdyE, List.mem_cons, forall_eq_or_imp, bnd_eq]
    cases hb : bndG gr with
    | true =>
      simp only
      split
      · rename_i h1; rw [ih]; simp [h1, bnd_eq]
      · rename_i h1
        constructor
        · intro h; cases h
        · intro h; exact absurd (h.1 trivial) (by simpa using h1)
    | false => grind [bnd_eq]
theorem ready_iff {ops : Array Oper} {l : List Bool} (hl : l.length = ops.size) {j : Nat} : j ∈ Region.ready .any ops l.toArray ↔ l[j]? = some false ∧ ∃ o, ops.toList[j]? = some o ∧ rdyE l o.after.toList = true := by
  rw [mem_ready]
  have h1 : (l.toArray.getD j true = false) ↔ l[j]? = some false := by
    rw [Array.getD_eq_getD_getElem?, List.getElem?_toArray]
    grind
  rw [h1]
  refine and_congr_right fun _ => ?_
  constructor
  · rintro ⟨o, h2, h3⟩
    refine ⟨o, by grind, rdyE_ok.2 fun d hd hb => ?_⟩
    have := h3 d (by grind) hb
    rw [Array.getD_eq_getD_getElem?, List.getElem?_toArray] at this
    grind
  simp_all [rdyE_ok]
theorem edgeTo_ok {i : Nat} : ∀ {es : List Edge}, edgeTo i es = true ↔ ∃ d ∈ es, Region.binds .any d = true ∧ d.on = i
  | [] => by simp [edgeTo]
  | ⟨on, gr⟩ :: r => by
    have ih := edgeTo_ok (i := i) (es := r)
    simp only [edgeTo, List.mem_cons, exists_eq_or_imp, bnd_eq]
    cases hb : bndG gr with
    | true =>
      simp only
      cases hi : Nat.beq on i with
      | true => simp_all
      | false =>
        simp only
        have hne : on ≠ i := fun h => by simp_all
        grind [bnd_eq]
    | false => grind [bnd_eq]
theorem free_ok {ops : Array Oper} {l : List Bool} (hl : l.length = ops.size) (hf : freeA ops = true) {i : Nat} {o : Oper} (ho : ops.toList[i]? = some o) (hr : rdyE l o.after.toList = true) : Region.noSelect ops = true ∧ Region.free .any ops l.toArray i = true := by
  unfold freeA at hf
  rw [Bool.and_eq_true, List.all_eq_true] at hf
  refine ⟨hf.1, ?_⟩
  unfold Region.free
  have hoi : ops[i]? = some o := by grind
  rw [hoi]
  simp only [List.all_eq_true, List.mem_range]
  intro j hj
  have hoj : ops[j]? = some ops[j] := by simp [hj]
  rw [hoj]
  simp only [Bool.or_eq_true, beq_iff_eq]
  by_cases hji : j = i
  · omega
  · have h1 := hf.2 (o, i) (List.mk_mem_zipIdx_iff_getElem?.2 ho)
    rw [List.all_eq_true] at h1
    have h2 := h1 (ops[j], j) (List.mk_mem_zipIdx_iff_getElem?.2 (by simp [hj]))
    simp only [Bool.or_eq_true] at h2
    rcases h2 with ((h2 | h2) | h2) | h2
    · simp_all
    · obtain ⟨d, hd, hb, he⟩ := edgeTo_ok.1 h2
      refine .inr (.inl ?_)
      rw [← Array.any_toList, List.any_eq_true]
      grind
    · obtain ⟨d, hd, hb, he⟩ := edgeTo_ok.1 h2
      have := rdyE_ok.1 hr d hd hb
      simp_all
    grind
theorem count_set {l : List Bool} : ∀ {i : Nat}, l[i]? = some false → l.count false = (l.set i true).count false + 1 := by
  grind
/-- One may be taken first. -/
theorem d_take {B1 : Bl} {ops : Array Oper} {l : List Bool} {is : List Nat} {Lf : List Ch} {i : Nat} {o : Oper} {d : Nat} {v : Value} {a : Act} {w : World} {B : Bl} (hD : DInv g B1 ops l is Lf L) (ho : ops.toList[i]? = some o) (hl : l[i]? = some false) (hr : rdyE l o.after.toList = true) (hdst : o.dst = some d) (hdn : Nat.blt d g.n = true) (hA : AEnvS g.n (B1 ++ B) e a) (hS : StS g.c w (B1 ++ B) L)
    (hy : (Want ops o (vE (B1 ++ B) e) true ∧ ∀ w', Sd g B1 Lf w' → RunV g.P o (vE (B1 ++ B) e) w' v w') ∨ (Want ops o (vE (B1 ++ B) e) false ∧ v = undef))
    (k : ∀ a', AEnv g.n ((d, v) :: vE (B1 ++ B) e) a' → wpAnyH g.P .any ops (mkQ (NK g K) (XK g K) g.Q) (Sd g B1 Lf) ((l.set i true).count false) (l.set i true).toArray a' w) : wpAnyH g.P .any ops (mkQ (NK g K) (XK g K) g.Q) (Sd g B1 Lf) (l.count false) l.toArray a w := by
  obtain ⟨f1, f2⟩ := free_ok hD.len hD.free ho hr
  rw [count_set hl]
  refine wpAnyH_take (v := v) (by simpa using ho) f1 f2 (by simpa using (ready_iff hD.len).2 ⟨hl, o, ho, hr⟩) (fun _ _ _ h => h.elim) ?_ (hD.S hS) ?_
  · rcases hy with ⟨h1, h2⟩ | ⟨h1, h2⟩
    · exact .inl ⟨h1 _ a hA.env, fun w' hS' => h2 w' hS' _ a hA.env⟩
    · exact .inr ⟨h1 _ a hA.env, h2⟩
  · rw [hdst]
    have := k _ (hA.env.put (by simp_all) v)
    grind
theorem DInv.set {B1 : Bl} {ops : Array Oper} {l : List Bool} {is : List Nat} {Lf L' : List Ch} (h : DInv g B1 ops l is Lf L) (i : Nat) (hz : kl L' is = Lf ∧ ∀ j ∈ is, j < L'.length) : DInv g B1 ops (l.set i true) is Lf L' :=
  ⟨h.pre, by simpa using h.len, h.free, hz.1, hz.2, h.okf, h.ap⟩
theorem kl_app {L Ln : List Ch} : ∀ {is : List Nat}, (∀ j ∈ is, j < L.length) → kl (L ++ Ln) is = kl L is
  | [], _ => rfl
  | i :: is, h => by
    simp only [kl, List.getElem?_append_left (h i (by simp)), kl_app (fun j hj => h j (List.mem_cons_of_mem _ hj))]
theorem DInv.frzApp {B1 : Bl} {ops : Array Oper} {l : List Bool} {is : List Nat} {Lf : List Ch} (h : DInv g B1 ops l is Lf L) (Ln : List Ch) : kl (L ++ Ln) is = Lf ∧ ∀ j ∈ is, j < (L ++ Ln).length :=
  ⟨by rw [kl_app h.rng]; exact h.frz, fun j hj => by have := h.rng j hj; simp; omega⟩
theorem pstep_d {B1 : Bl} {ops : Array Oper} {l : List Bool} {is : List Nat} {Lf Lv : List Ch} {i : Nat} {o : Oper} (ho : ops.toList[i]? = some o) (hl : l[i]? = some false) (hr : rdyE l o.after.toList = true) (hg : guardS ops e o.guard = .yes) (hd : dstOk g.n o.dst = true) : PStep g K m e L o Lv (.d B1 ops l is Lf Lv) (.d B1 ops (l.set i true) is Lf Lv) := by
  intro d x Ln nb k hdst hk hv hs hG hD a w ⟨B, hm, hA, hS, hV⟩
  rw [hdst] at hd
  obtain ⟨v, h1, h2⟩ := hv _ a w hA (hV w (hD.S hS)) hm
  refine d_take (v := v) hD ho hl hr hdst hd hA hS (.inl ⟨gd_yes hg, fun w' hS' => ?_⟩) fun a' hA' => ?_
  · obtain ⟨v', h3, h4⟩ := hv _ a w' hA (hV w' hS') hm
    rw [h1] at h3; cases h3; exact h4
  · refine hG (hD.set i (hD.frzApp Ln)) a' w ⟨B ++ nb g.c.w0, ?_, ?_, ?_, fun w' hS' => ?_⟩
    · rw [← List.append_assoc, List.length_append, hm, hk]
    · rw [← List.append_assoc]; exact hA.ext h1 hA'
    · rw [← List.append_assoc]; exact hs _ w _ hm hS
    · rw [← List.append_assoc]; exact hs _ w' _ hm (hV w' hS')
theorem onlyR_ok {l : List Bool} {i : Nat} : ∀ {os : List Oper} {j0 : Nat}, onlyR l i os j0 = true → ∀ j o, os[j]? = some o → l[j0 + j]? = some false → (rdyE l o.after.toList = true ↔ j0 + j = i)
  | [], _, _, j, o, h, _ => by simp at h
  | p :: os, j0, h, j, o, hj, hl => by
    simp only [onlyR] at h
    cases j with
    | zero =>
      simp at hj; subst hj
      simp only [Nat.add_zero] at hl ⊢
      rw [hl] at h
      simp only at h
      cases hb : Nat.beq j0 i with
      | true =>
        grind [Nat.eq_of_beq_eq_true]
      | false =>
        rw [hb] at h; simp only at h
        have hne : j0 ≠ i := fun h => by simp_all
        grind
    | succ j =>
      have h' : onlyR l i os (j0 + 1) = true := by
        grind
      have := onlyR_ok h' j o (by grind) (by grind)
      grind
theorem estep_o {B1 : Bl} {ops : Array Oper} {l : List Bool} {is : List Nat} {Lf Lv : List Ch} {i : Nat} {o : Oper} (ho : ops.toList[i]? = some o) (hg : guardS ops e o.guard = .yes) : EStep g K m e L o (.o B1 ops l is Lf Lv i) (.d B1 ops (l.set i true) is Lf Lv) := by
  intro ι m' e' L' hz hrun hG hD a w hr
  have ⟨B, hm, hA, hS, hV⟩ := hr
  unfold wpOp
  have hoi : ops[i]? = some o := by grind
  simp only [hoi, gd_yes hg _ a hA.env, if_true]
  refine .inl (hrun B a w _ _ hm hA hS fun j a' w' h => ?_)
  have hD' := hD.set i (hz j hD)
  obtain ⟨B', q1, q2, q3⟩ := h
  refine ⟨?_, ?_⟩
  · refine hD'.S (B := B ++ B') ?_
    rw [← List.append_assoc]; exact q3
  · have := hG j hD' a' w' ⟨B ++ B', by rw [← List.append_assoc]; exact q1, by rw [← List.append_assoc]; exact q2, by rw [← List.append_assoc]; exact q3, fun w2 h2 => by rw [← List.append_assoc]; exact (hV w2 h2).app B'⟩
    omega
theorem pstep_o {B1 : Bl} {ops : Array Oper} {l : List Bool} {is : List Nat} {Lf Lv : List Ch} {i : Nat} {o : Oper} (ho : ops.toList[i]? = some o) (hg : guardS ops e o.guard = .yes) (hd : dstOk g.n o.dst = true) : PStep g K m e L o Lv (.o B1 ops l is Lf Lv i) (.d B1 ops (l.set i true) is Lf Lv) := by
  intro d x Ln nb k hdst hk hv hs hG hD a w ⟨B, hm, hA, hS, hV⟩
  rw [hdst] at hd
  obtain ⟨v, h1, h2⟩ := hv _ a w hA (hV w (hD.S hS)) hm
  unfold wpOp
  have hoi : ops[i]? = some o := by simpa using ho
  simp only [hoi, gd_yes hg _ a hA.env, if_true]
  refine .inl ?_
  unfold Oper.wp
  rw [h2 _ a hA.env, Oper.upon_value, hdst]
  have hA' := hA.env.put (show d < g.n by simpa [dstOk, Nat.blt_eq] using hd) v
  refine ⟨hD.S hS, hG (hD.set i (hD.frzApp Ln)) _ w ⟨B ++ nb g.c.w0, ?_, ?_, ?_, fun w' hS' => ?_⟩⟩
  · rw [← List.append_assoc, List.length_append, hm, hk]
  · rw [← List.append_assoc]; exact hA.ext h1 hA'
  · rw [← List.append_assoc]; exact hs _ w _ hm hS
  · rw [← List.append_assoc]; exact hs _ w' _ hm (hV w' hS')
/-- Whichever is taken next. -/
theorem readyA_ok {l : List Bool} {j : Nat} : ∀ {os : List Oper} {j0 : Nat} {o : Oper}, os[j]? = some o → l[j0 + j]? = some false → rdyE l o.after.toList = true → j0 + j ∈ readyA l os j0 := by
  intro os
  induction os generalizing j with
  | nil => simp
  | cons p os ih =>
    intro j0 o h hl hr
    cases j with
    | zero =>
      simp_all [readyA]
    | succ j =>
      have h2 := ih (j := j) (j0 := j0 + 1) (o := o) (by grind) (by grind) hr
      grind [readyA]
theorem d_any {B1 : Bl} {ops : Array Oper} {l : List Bool} {is : List Nat} {Lf Lv : List Ch} (hex : ∃ i, i ∈ readyA l ops.toList 0) (h : ∀ i ∈ readyA l ops.toList 0, G g K m e L (.o B1 ops l is Lf Lv i)) (hok : ∀ i ∈ readyA l ops.toList 0, l[i]? = some false ∧ ∃ o, ops.toList[i]? = some o ∧ rdyE l o.after.toList = true) : G g K m e L (.d B1 ops l is Lf Lv) := by
  intro hD a w hr
  obtain ⟨i0, hi0⟩ := hex
  obtain ⟨q1, q2⟩ := hok i0 hi0
  have hm : i0 ∈ Region.ready .any ops l.toArray := (ready_iff hD.len).2 ⟨q1, q2⟩
  rw [count_set q1]
  refine ⟨fun h => (by grind), fun j hj => ?_⟩
  obtain ⟨h1, p, h2, h3⟩ := (ready_iff hD.len).1 hj
  have h4 := readyA_ok (j0 := 0) h2 (by grind) h3
  rw [Nat.zero_add] at h4
  have h5 := h j h4 hD a w hr
  grind
theorem readyA_mem {l : List Bool} {i : Nat} : ∀ {os : List Oper} {j0 : Nat}, i ∈ readyA l os j0 → l[i]? = some false ∧ ∃ j o, os[j]? = some o ∧ j0 + j = i ∧ rdyE l o.after.toList = true := by
  intro os
  induction os with
  | nil => intro j0 h; cases h
  | cons p os ih =>
    intro j0 h
    have tail : i ∈ readyA l os (j0 + 1) → l[i]? = some false ∧ ∃ j o, (p :: os)[j]? = some o ∧ j0 + j = i ∧ rdyE l o.after.toList = true := fun h => by
      obtain ⟨h1, j, o, h2, h3, h4⟩ := ih h
      exact ⟨h1, j + 1, o, by grind, by omega, h4⟩
    simp only [readyA] at h
    split at h
    · rename_i hl
      split at h
      · rename_i hr
        rcases List.mem_cons.1 h with h | h
        · subst h; grind
        grind
      grind
    grind
theorem d_alt {B1 : Bl} {ops : Array Oper} {l : List Bool} {is : List Nat} {Lf Lv : List Ch} {i0 : Nat} {r : List Nat} (hr : readyA l ops.toList 0 = i0 :: r) (h : ∀ i ∈ i0 :: r, G g K m e L (.o B1 ops l is Lf Lv i)) : G g K m e L (.d B1 ops l is Lf Lv) :=
  d_any ⟨i0, by grind⟩ (fun i hi => h i (by grind)) fun i hi => by
    obtain ⟨h1, j, o, h2, h3, h4⟩ := readyA_mem hi
    grind
theorem onlyR_A {l : List Bool} {i : Nat} {ops : Array Oper} (h : onlyR l i ops.toList 0 = true) : ∀ j ∈ readyA l ops.toList 0, j = i := fun j hj => by
  obtain ⟨h1, k, o, h2, h3, h4⟩ := readyA_mem hj
  rw [Nat.zero_add] at h3; grind [onlyR_ok]
def PsG (g : Gx) (K : List Fr) (m : Nat) (L : List Ch) (B1 : Bl) (ops : Array Oper) (is : List Nat) (Lf Lv : List Ch) : Ps → Prop
  | .bad => False
  | .ask _ l e => G g K m e L (.d B1 ops l is Lf Lv)
  | .pur j o l e => ops.toList[j]? = some o → l[j]? = some false → rdyE l o.after.toList = true → guardS ops e o.guard = .yes → G g K m e L (.d B1 ops l is Lf Lv)
  | .fin l e _ => G g K m e L (.d B1 ops l is Lf Lv)
/-- The pass over a drawn region. -/
theorem pass_ok {B1 : Bl} {ops : Array Oper} {is : List Nat} {Lf Lv : List Ch} : ∀ (r : List Oper) (i : Nat) (l : List Bool) (e : SE) (q : List (Nat × Oper)), (∀ j, r[j]? = ops.toList[i + j]?) →
    PsG g K m L B1 ops is Lf Lv (pass g.T g.n ops Lv r i l e q) → G g K m e L (.d B1 ops l is Lf Lv)
  | [], i, l, e, q, hr, h => by
    unfold pass at h
    exact h
  | o :: r, i, l, e, q, hr, h => by
    have ho : ops.toList[i]? = some o := by have := hr 0; grind
    have hr' : ∀ j, r[j]? = ops.toList[i + 1 + j]? := fun j => by
      have := hr (j + 1)
      grind
    unfold pass at h
    cases hl : l[i]? with
    | none => simp only [hl] at h; exact h.elim
    | some b =>
      cases b with
      | true => simp only [hl] at h; exact pass_ok r (i + 1) l e q hr' h
      | false =>
        cases hre : rdyE l o.after.toList with
        | false => simp only [hl, hre] at h; exact pass_ok r (i + 1) l e q hr' h
        | true =>
          cases hgd : guardS ops e o.guard with
          | bad => simp only [hl, hre, hgd] at h; exact h.elim
          | ask c => simp only [hl, hre, hgd] at h; exact h
          | no =>
            cases hd : o.dst with
            | none => simp only [hl, hre, hgd, hd] at h; exact h.elim
            | some d =>
              cases hb : Nat.blt d g.n with
              | false => simp only [hl, hre, hgd, hd, hb] at h; exact h.elim
              | true =>
                simp only [hl, hre, hgd, hd, hb] at h
                have ih := pass_ok r (i + 1) _ _ q hr' h
                intro hD a w ⟨B, hm, hA, hS, hV⟩
                refine d_take (v := undef) hD ho hl hre hd hb hA hS (.inr ⟨gd_no hgd, rfl⟩) fun a' hA' => ?_
                exact ih (hD.set i ⟨hD.frz, hD.rng⟩) a' w ⟨B, hm, hA.of (x := .u) rfl hA', hS, hV⟩
          | yes =>
            cases hv : ev1 g.T e Lv o.op with
            | some v =>
              cases hd : o.dst with
              | none => simp only [hl, hre, hgd, hv, hd] at h; exact h.elim
              | some d =>
                cases hb : Nat.blt d g.n with
                | false => simp only [hl, hre, hgd, hv, hd, hb] at h; exact h.elim
                | true =>
                  simp only [hl, hre, hgd, hv, hd, hb] at h
                  have ih := pass_ok r (i + 1) _ _ q hr' h
                  intro hD a w ⟨B, hm, hA, hS, hV⟩
                  obtain ⟨u, h1, h2⟩ := ev1_ok g.hT hA (hV w (hD.S hS)) hv
                  refine d_take (v := u) hD ho hl hre hd hb hA hS (.inl ⟨gd_yes hgd, fun w' hS' => ?_⟩) fun a' hA' => ?_
                  · obtain ⟨u', h3, h4⟩ := ev1_ok (w := w') g.hT hA (hV w' hS') hv
                    grind
                  · exact ih (hD.set i ⟨hD.frz, hD.rng⟩) a' w ⟨B, hm, hA.of h1 hA', hS, hV⟩
            | none =>
              cases hp : pureO o.op with
              | true => simp only [hl, hre, hgd, hv, hp] at h; exact h ho hl hre hgd
              | false =>
                simp only [hl, hre, hgd, hv, hp] at h
                exact pass_ok r (i + 1) l e ((i, o) :: q) hr' h
theorem allT_ok : ∀ {l : List Bool} {i : Nat}, allT l = true → l[i]? ≠ some false
  | [], i, _ => by simp
  | b :: l, i, h => by
    unfold allT at h
    cases b with
    | false => cases h
    | true =>
      cases i with
      | zero => simp
      | succ i => simpa using allT_ok (l := l) (i := i) h
theorem isBox_pos {k : Nat} : ∀ {L : List Ch}, isBox k L = true → ∃ i, (∀ cs', setBox k cs' L = L.set i (.box k cs')) ∧ ∀ k0, posB k L k0 = k0 + i
  | [], h => by cases h
  | x :: L, h => by
    have ih : isBox k L = true → (∀ cs', setBox k cs' (x :: L) = x :: setBox k cs' L) → (∀ k0, posB k (x :: L) k0 = posB k L (k0 + 1)) → ∃ i, (∀ cs', setBox k cs' (x :: L) = (x :: L).set i (.box k cs')) ∧ ∀ k0, posB k (x :: L) k0 = k0 + i := fun h h2 h3 => by
      obtain ⟨i, g1, g2⟩ := isBox_pos h
      exact ⟨i + 1, fun cs' => by grind, fun k0 => by grind⟩
    cases x with
    | box j cs =>
      simp only [isBox] at h
      split at h
      · rename_i hb
        exact ⟨0, fun cs' => by grind [setBox, Nat.eq_of_beq_eq_true], fun k0 => by grind [posB]⟩
      simp_all [setBox, posB]
    | ro j cs =>
      simp only [isBox] at h
      split at h
      · cases h
      · exact ih h (fun _ => rfl) (fun _ => rfl)
    | o ch => exact ih h (fun _ => rfl) (fun _ => rfl)
    | f g => exact ih h (fun _ => rfl) (fun _ => rfl)
    | no => exact ih h (fun _ => rfl) (fun _ => rfl)
    | w k b z => exact ih h (fun _ => rfl) (fun _ => rfl)
theorem notIn_ok {i : Nat} : ∀ {is : List Nat}, notIn i is = true → i ∉ is
  | [], _ => by simp
  | j :: r, h => by
    unfold notIn at h
    cases hb : Nat.beq i j with
    | true => grind
    | false =>
      rw [hb] at h
      have hne : i ≠ j := fun e => by simp_all
      simpa [hne] using notIn_ok h
theorem kl_set {L : List Ch} {i : Nat} {x : Ch} : ∀ {is : List Nat}, i ∉ is → kl (L.set i x) is = kl L is
  | [], _ => rfl
  | j :: is, h => by
    have hne : i ≠ j := fun e => h (by simp [e])
    simp only [kl, List.getElem?_set_ne hne, kl_set (fun hj => h (List.mem_cons_of_mem _ hj))]
theorem storeS_frz {T : TT} {t : TypeId} {p v : SV} {L' : List Ch} {x y : Operand} {is : List Nat} (h : storeS T t p v L = some L') (hp : evS e x = some p) (hf : frzO e L is (.store t x y) = true) (hr : ∀ j ∈ is, j < L.length) : kl L' is = kl L is ∧ ∀ j ∈ is, j < L'.length := by
  unfold storeS at h
  split at h
  · rename_i k o
    split at h
    · rename_i hb
      split at h
      · split at h
        · split at h
          case h_2 => cases h
          split at h
          case h_2 => cases h
          rename_i L2 hL2
          cases h
          have := frc_eq hL2
          subst this
          obtain ⟨i, h1, h2⟩ := isBox_pos hb
          simp_all [frzO, notIn_ok, kl_set]
        · cases h
      · cases h
    · cases h
  · cases h
theorem box_rel {a a' : Act} {w' : World} {B0 B : Bl} {d b : Nat} {cs : List SV} (hm : (B0 ++ B).length = m) (hA : AEnvS g.n (B0 ++ B) e a) (hA' : AEnv g.n ((d, .pointer (some ⟨b, 0, none⟩)) :: vE (B0 ++ B) e) a') (hS' : StS g.c w' ((B0 ++ B) ++ [(b, 0)]) (L ++ [.box (B0 ++ B).length cs])) : RelN g.n g.c (B0 ++ B) (m + 1) ((d, .p m 0) :: e) (L ++ [.box m cs]) a' w' := by
  refine ⟨[(b, 0)], by grind, ?_, ?_⟩
  · exact hA.ext (nb := [(b, 0)]) (x := .p m 0) (by grind [toV, gV, cellV]) hA'
  grind
theorem frz_app {cf : Cfg} (Ln : List Ch) : Frz g cf L (L ++ Ln) := by
  cases cf with
  | d B1 ops l is Lf Lv => exact fun hD => hD.frzApp Ln
  | o B1 ops l is Lf Lv i => exact fun hD => hD.frzApp Ln
  | _ => trivial
theorem eff_val {T : TT} {op : Op} {v : SV} (h : eff T e L op = .val v) : ev1 T e L op = some v := by
  unfold eff at h
  grind
theorem eff_box {T : TT} {op : Op} {cs : List SV} (h : eff T e L op = .box cs) : (∃ t i, op = .alloc t ∧ lkT T t = some i ∧ cs = i.z) ∨ (∃ t x v, op = .box t x ∧ evS e x = some v ∧ isCells v = true ∧ cs = cellsS v) := by
  unfold eff at h
  grind
theorem eff_st {T : TT} {op : Op} {L' : List Ch} (h : eff T e L op = .st L') : ∃ t x y p v, op = .store t x y ∧ evS e x = some p ∧ storeS T t p v L = some L' := by
  unfold eff at h
  grind
theorem eff_st2 {T : TT} {op : Op} {L' : List Ch} (h : eff T e L op = .st L') : ∃ t x y p v, op = .store t x y ∧ evS e x = some p ∧ evS e y = some v ∧ storeS T t p v L = some L' := by
  unfold eff at h
  grind
/-- Boxes, made and written. -/
theorem eff_ok {o : Oper} {cf cf' : Cfg} (hE : EStep g K m e L o cf cf') :
    (∀ d cs, eff g.T e L o.op = .box cs → o.dst = some d → Nat.blt d g.n = true → Frz g cf L (L ++ [.box m cs]) → G g K (m + 1) ((d, .p m 0) :: e) (L ++ [.box m cs]) cf' → G g K m e L cf) ∧
    (∀ L', eff g.T e L o.op = .st L' → o.dst = none → Frz g cf L L' → G g K m e L' cf' → G g K m e L cf) := by
  refine ⟨fun d cs hf hd hdn hz hG => hE Unit (fun _ => m + 1) (fun _ => (d, .p m 0) :: e) (fun _ => L ++ [.box m cs]) (fun _ => hz) (fun B a w next Q hm hA hS hnext => ?_) (fun _ => hG), fun L' hf hd hz hG => hE Unit (fun _ => m) (fun _ => e) (fun _ => L') (fun _ => hz) (fun B a w next Q hm hA hS hnext => ?_) (fun _ => hG)⟩
  · have fin : ∀ {u : Value} {w' : World} {b : Nat}, RunV g.P o (vE (B0S g cf ++ B) e) w u w' → u = .pointer (some ⟨b, 0, none⟩) → StS g.c w' ((B0S g cf ++ B) ++ [(b, 0)]) (L ++ [.box (B0S g cf ++ B).length cs]) → o.wp g.P a w next Q := by
      intro u w' b hR hu hS'
      subst hu
      unfold Oper.wp
      rw [hR _ a hA.env, Oper.upon_value, hd]
      exact hnext () _ _ (box_rel hm hA (hA.env.put (by simp_all) _) hS')
    rcases eff_box hf with ⟨t, i, ho, hl, rfl⟩ | ⟨t, x, v, ho, hv, hc, rfl⟩
    · obtain ⟨u, w', b, k1, k2, k3⟩ := alloc_ok (E := vE (B0S g cf ++ B) e) g.hT hS ho hl
      grind
    · obtain ⟨u, w', b, k1, k2, k3⟩ := box_ok (P := g.P) hA hS ho hv hc
      grind
  · obtain ⟨t, x, y, p, v, ho, hx, hy, hs⟩ := eff_st2 hf
    obtain ⟨w', k1, k2⟩ := storeS_ok g.hT hA hS ho hx hy hs
    unfold Oper.wp
    rw [k1 _ a hA.env, Oper.upon_skip, hd]
    exact hnext () _ _ ⟨[], by grind, by rw [List.append_nil]; exact ⟨hA.d, hA.size, hA.get⟩, by grind⟩
theorem ask_ok {o : Oper} {Lv : List Ch} {cf cf' : Cfg} (h : Gs g (askS e o Lv cf cf' K m L o.op)) (hd : dstOk g.n o.dst = true) (hP : PStep g K m e L o Lv cf cf') (hE : EStep g K m e L o cf cf') : G g K m e L cf := by
  generalize hop : o.op = op at h
  unfold askS at h
  split at h
  · split at h
    · exact h
    · exact h.elim
  · split at h
    · rename_i h1 h2 h3
      exact h _ _ hop h3 h1 h2 hP
    · exact h hd hP hE
  · split at h
    · rename_i h1 h2
      split at h
      · rename_i hx
        exact h _ _ _ hop rfl h1 ⟨_, h2, rfl⟩ hx hd hE
      · exact h _ _ _ hop rfl h1 ⟨_, h2, rfl⟩ hd hE
    · exact h hd hP hE
  · exact h hd hP hE
theorem askP_ok {o : Oper} {Lv : List Ch} {cf cf' : Cfg} (h : Gs g (askP e o Lv cf cf' K m L o.op)) (hd : dstOk g.n o.dst = true) (hP : PStep g K m e L o Lv cf cf') : G g K m e L cf := by
  generalize hop : o.op = op at h
  unfold askP at h
  split at h
  · split at h
    · exact h
    · exact h.elim
  · split at h
    · rename_i h1 h2 h3
      exact h _ _ hop h3 h1 h2 hP
    · exact h hd hP
  · exact h hd hP
theorem stp_ok : ∀ (F : Nat) (K : List Fr) (c : Cfg) (m : Nat) (e : SE) (L : List Ch), Gs g (stp g.T g.n F K c m e L) → G g K m e L c
  | 0, _, _, _, _, _, h => h.elim
  | F + 1, K, .c x, m, e, L, h => by
    have ih := stp_ok F
    unfold stp at h
    cases x with
    | skip => exact fun a w hr => cw_skip (pop_G ih h a w hr)
    | seq x y => exact fun a w hr => cw_seq (ih _ _ _ _ _ h a w hr)
    | block id b =>
      simp only at h
      split at h
      · exact h
      · exact fun a w hr => cw_block (ih _ _ _ _ _ h a w hr)
    | exit id =>
      simp only at h
      refine fun a w hr => cw_exit (xit_X ?_)
      cases hx : xit id K with
      | some K' => rw [hx] at h; exact pop_G ih h a w hr
      | none => rw [hx] at h; exact h a w hr
    | ret => exact fun a w hr => cw_ret (h a w hr)
    | cond o x y =>
      simp only at h
      split at h
      · rename_i c ho
        intro a w hr
        obtain ⟨B, hm, hA, hS⟩ := hr
        obtain ⟨v, h1, h2⟩ := evS_ok hA ho
        cases h1
        cases c with
        | true => exact cw_yes hA.env h2 rfl (ih _ _ _ _ _ h a w ⟨B, hm, hA, hS⟩)
        | false => exact cw_no hA.env h2 rfl (ih _ _ _ _ _ h a w ⟨B, hm, hA, hS⟩)
      · rename_i c ho
        exact h ho
      · exact h.elim
    | region id ops d =>
      cases d with
      | false => exact fun a w hr => cw_region (ih _ _ _ _ _ h a w hr)
      | true => exact h
    | _ => exact h.elim
  | F + 1, K, .n, m, e, L, h => by
    have ih := stp_ok F
    unfold stp at h
    exact fun a w hr => pop_G ih h a w hr
  | F + 1, K, .r ops [], m, e, L, h => by
    have ih := stp_ok F
    unfold stp at h
    exact fun a w hr => pop_G ih h a w hr
  | F + 1, K, .r ops (⟨dst, op, ty, ps, af, gd⟩ :: l), m, e, L, h => by
    have ih := stp_ok F
    unfold stp at h
    generalize hg : guardS ops e gd = gv at h
    cases gv with
    | bad => exact h.elim
    | ask c => exact h
    | no =>
      simp only at h
      split at h
      · rename_i d
        split at h
        · rename_i hd
          intro a w ⟨B, hm, hA, hS⟩
          exact ops_off (gd_no hg) rfl hd (fun a' hA' => ih _ _ _ _ _ h a' w ⟨B, hm, hA.of (x := .u) (v := undef) rfl hA', hS⟩) a hA.env
        · exact h.elim
      · exact h.elim
    | yes =>
      simp only at h
      have hE := eff_ok (g := g) (K := K) (m := m) (e := e) (L := L) (o := ⟨dst, op, ty, ps, af, gd⟩) (cf := .r ops (⟨dst, op, ty, ps, af, gd⟩ :: l)) (cf' := .r ops l) (estep_r hg)
      split at h
      · rename_i d v hf
        split at h
        · rename_i hd
          intro a w ⟨B, hm, hA, hS⟩
          obtain ⟨u, h1, h2⟩ := ev1_ok (o := ⟨_, op, ty, ps, af, gd⟩) g.hT hA hS (eff_val hf)
          exact ops_v h2 (gd_yes hg) rfl hd (fun a' hA' => ih _ _ _ _ _ h a' w ⟨B, hm, hA.of h1 hA', hS⟩) a hA.env
        · exact h.elim
      · rename_i d cs hf
        split at h
        · rename_i hd
          exact hE.1 _ _ hf rfl hd trivial (ih _ _ _ _ _ h)
        · exact h.elim
      · rename_i L' hf
        exact hE.2 _ hf rfl trivial (ih _ _ _ _ _ h)
      · split at h
        · rename_i hd
          exact ask_ok h hd (pstep_r hg hd) (estep_r hg)
        · exact h.elim
      · exact h.elim
  | F + 1, K, .d B1 ops l is Lf Lv, m, e, L, h => by
    have ih := stp_ok F
    unfold stp at h
    refine pass_ok ops.toList 0 l e [] (fun j => by simp) ?_
    generalize pass g.T g.n ops Lv ops.toList 0 l e [] = ps at h
    cases ps with
    | bad => exact h.elim
    | ask c l' e' => exact h
    | pur i o l' e' =>
      intro h1 h2 h3 h4
      simp only at h
      split at h
      · grind [askP_ok, pstep_d]
      · exact h.elim
    | fin l' e' q =>
      cases q with
      | nil =>
        simp only at h
        split at h
        · rename_i hall
          intro hD a w hr
          have hn := ih _ _ _ _ _ h
          obtain ⟨B2, hB2⟩ := hD.pre
          have hr' : Rel g m e' L a w := by
            obtain ⟨B, hm, hA, hS, _⟩ := hr
            subst hB2
            exact ⟨B2 ++ B, by grind, by grind, by grind⟩
          have hempty : Region.ready .any ops l'.toArray = [] := by
            refine List.eq_nil_iff_forall_not_mem.2 fun j hj => ?_
            exact allT_ok hall ((ready_iff hD.len).1 hj).1
          exact wpAnyH_done hempty (hn a w hr') _
        · exact h.elim
      | cons p q =>
        cases q with
        | cons p' q => exact h
        | nil =>
          obtain ⟨i, o⟩ := p
          simp only at h
          split at h
          · rename_i hon
            have ho := ih _ _ _ _ _ h
            cases hra : readyA l' ops.toList 0 with
            | cons j r =>
              refine d_alt hra fun k hk => ?_
              grind [onlyR_A]
            | nil =>
              refine absurd h ?_
              intro h
              unfold stp at h
              cases F with
              | zero => exact h
              | succ F =>
                simp only at h
                split at h
                · rename_i hi
                  split at h
                  · rename_i h1 h2 h3
                    have := readyA_ok (j0 := 0) hi (by grind) h1
                    grind
                  · exact h
                · exact h
          · exact h.elim
  | F + 1, K, .o B1 ops l is Lf Lv i, m, e, L, h => by
    have ih := stp_ok F
    unfold stp at h
    split at h
    · rename_i dst op ty ps af gd ho
      split at h
      · rename_i hre hli hg
        have hes := estep_o (g := g) (K := K) (m := m) (e := e) (L := L) (B1 := B1) (ops := ops) (l := l) (is := is) (Lf := Lf) (Lv := Lv) ho hg
        have hE := eff_ok (g := g) (K := K) (m := m) (e := e) (L := L) (o := ⟨dst, op, ty, ps, af, gd⟩) (cf := .o B1 ops l is Lf Lv i) (cf' := .d B1 ops (l.set i true) is Lf Lv) hes
        split at h
        · rename_i v d hf
          split at h
          · rename_i hd
            have hG := ih _ _ _ _ _ h
            have hv := eff_val hf
            refine hes Unit (fun _ => m) (fun _ => (d, v) :: e) (fun _ => L) (fun _ hD => ⟨hD.frz, hD.rng⟩) (fun B a w next Q hm hA hS hnext => ?_) (fun _ => hG)
            obtain ⟨u, h1, h2⟩ := ev1_ok (o := ⟨some d, op, ty, ps, af, gd⟩) g.hT hA hS hv
            unfold Oper.wp
            rw [h2 _ a hA.env, Oper.upon_value]
            exact hnext () _ _ ⟨[], by grind, by simpa using hA.of h1 (hA.env.put (by simp_all) u), by grind⟩
          · exact h.elim
        · rename_i d cs hf
          split at h
          · rename_i hd
            exact hE.1 _ _ hf rfl hd (fun hD => hD.frzApp _) (ih _ _ _ _ _ h)
          · exact h.elim
        · rename_i L' hf
          split at h
          · rename_i hfz
            refine hE.2 _ hf rfl (fun hD => ?_) (ih _ _ _ _ _ h)
            obtain ⟨t, x, y, p, v, hop, hx, hs⟩ := eff_st hf
            subst hop
            have := storeS_frz hs hx hfz hD.rng
            exact ⟨by rw [this.1]; exact hD.frz, this.2⟩
          · exact h.elim
        · split at h
          · rename_i hd
            exact ask_ok h hd (pstep_o ho hg hd) hes
          · exact h.elim
        · exact h.elim
      · exact h.elim
    · exact h.elim
theorem frcE_eq : ∀ {e r : SE}, frcE e = some r → r = e
  | [], r, h => by cases h; rfl
  | (k, v) :: l, r, h => by
    simp only [frcE] at h
    split at h
    · rename_i s hs; cases h; rw [frcE_eq hs]
    · cases h
theorem frcL_eq : ∀ {e r : List Ch}, frcL e = some r → r = e
  | [], r, h => by cases h; rfl
  | x :: l, r, h => by
    simp only [frcL] at h
    split at h
    · rename_i s hs
      have := frcL_eq hs
      grind [frc_eq]
    · cases h
theorem stq_ok {K : List Fr} {c : Cfg} {m : Nat} {e : SE} {L : List Ch} (h : Gs g (stq g.T g.n K c m e L)) : G g K m e L c := by
  unfold stq at h
  split at h
  · grind [frcE_eq, frcL_eq, stp_ok]
  · exact h.elim
end
end Go.Gv
end
section
/-
  Joins and the rest of the goals' laws. Nothing of a program here.
-/
namespace Go.Gv
section
variable {P : Program} {N N' : Act → World → Prop} {X X' : Nat → Act → World → Prop} {T T' : Act → World → Prop}
theorem letsOut_mkQ (h : LetsOut (mkQ N X T)) : LetsOut (mkQ N' X' T') := let ⟨_, _, h⟩ := h; h.elim
theorem upon_mkQ {o : Oper} {a : Act} {next next' : Act → World → Prop} {r : Result Next} (hn : ∀ a w, next a w → next' a w) (h : o.upon P a next (mkQ N X T) r) : o.upon P a next' (mkQ N' X' T') r := by
  unfold Oper.upon at h ⊢
  split at h
  · grind
  · grind
  · grind
  · refine Calls.mono h fun e w' he => ?_
    cases e with
    | returned v => grind
    | panicked c => exact he.elim
    | outgrown => exact letsOut_mkQ he
  · grind [Rows.mono]
  · exact h.elim
  omega
theorem wpList_mkQ {ops : Array Oper} (hN : ∀ a w, N a w → N' a w) : ∀ (l : List Oper) {a : Act} {w : World}, wpList P ops (mkQ N X T) l a w → wpList P ops (mkQ N' X' T') l a w
  | [], a, w, h => hN a w h
  | o :: l, a, w, h => by
    unfold wpList at h ⊢
    split
    · rename_i hw
      rw [if_pos hw] at h
      rcases h with h | ⟨h1, h2⟩
      · exact .inl (upon_mkQ (fun _ _ h => wpList_mkQ hN l h) h)
      grind [letsOut_mkQ]
    · rename_i hw
      rw [if_neg hw] at h
      exact wpList_mkQ hN l h
theorem wpOp_mkQ {ops : Array Oper} {i : Nat} {k k' : Act → World → Prop} {a : Act} {w : World} (hk : ∀ a w, k a w → k' a w) (h : wpOp P ops (mkQ N X T) i k a w) : wpOp P ops (mkQ N' X' T') i k' a w := by
  unfold wpOp at h ⊢
  split
  · grind
  · rename_i o h0
    rw [h0] at h
    simp only at h
    split
    · rename_i hw
      rw [if_pos hw] at h
      rcases h with h | ⟨h1, h2⟩
      · exact .inl (upon_mkQ hk h)
      grind [letsOut_mkQ]
    grind
theorem wpAnyH_mkQ {ops : Array Oper} {S : World → Prop} (hN : ∀ a w, N a w → N' a w) : ∀ (fuel : Nat) {listed : Array Bool} {a : Act} {w : World}, wpAnyH P .any ops (mkQ N X T) S fuel listed a w → wpAnyH P .any ops (mkQ N' X' T') S fuel listed a w
  | 0, _, a, w, h => ⟨h.1, hN a w h.2⟩
  | f + 1, _, a, w, h => ⟨fun h0 => hN a w (h.1 h0), fun i hi => wpOp_mkQ (fun _ _ h => ⟨h.1, wpAnyH_mkQ hN f h.2⟩) (h.2 i hi)⟩
end
section
variable {P : Program} {T : TT} {hT : TOk P T} {n : Nat} {c : Ctx} {B0 : Bl} {N N1 : Act → World → Prop} {X X1 : Nat → Act → World → Prop} {Q : Act → World → Prop} {K K' : List Fr} {m m' : Nat} {e e' : SE} {L L' : List Ch} {cf cf' : Cfg}
theorem NX_app (Kb : List Fr) (hN : ∀ a w, N1 a w → NK (.mk P T hT n c B0 N X Q) Kb a w) (hX : ∀ i a w, X1 i a w → XK (.mk P T hT n c B0 N X Q) Kb i a w) : ∀ (Ka : List Fr), (∀ a w, NK (.mk P T hT n c B0 N1 X1 Q) Ka a w → NK (.mk P T hT n c B0 N X Q) (Ka ++ Kb) a w) ∧ (∀ i a w, XK (.mk P T hT n c B0 N1 X1 Q) Ka i a w → XK (.mk P T hT n c B0 N X Q) (Ka ++ Kb) i a w)
  | [] => ⟨hN, hX⟩
  | .s y :: Ka => by
    obtain ⟨h1, h2⟩ := NX_app Kb hN hX Ka
    exact ⟨fun a w h => CW.mono (show CW P y (NK _ Ka) (XK _ Ka) Q a w from h) h1 h2 (fun _ _ h => h), h2⟩
  | .k id :: Ka => by
    obtain ⟨h1, h2⟩ := NX_app Kb hN hX Ka
    refine ⟨h1, fun i a w h => ?_⟩
    simp only [XK, xcons, List.cons_append] at h ⊢
    grind
theorem G_app {Ka Kb : List Fr} (hN : ∀ a w, N1 a w → NK (.mk P T hT n c B0 N X Q) Kb a w) (hX : ∀ i a w, X1 i a w → XK (.mk P T hT n c B0 N X Q) Kb i a w) (h : G (.mk P T hT n c B0 N1 X1 Q) Ka m e L cf) : G (.mk P T hT n c B0 N X Q) (Ka ++ Kb) m e L cf := by
  obtain ⟨h1, h2⟩ := NX_app Kb hN hX Ka
  cases cf with
  | n => exact fun a w hr => h1 a w (h a w hr)
  | c x => exact fun a w hr => CW.mono (h a w hr) h1 h2 (fun _ _ h => h)
  | r ops l => exact fun a w hr => wpList_mkQ h1 l (h a w hr)
  | d B1 ops l is Lf Lv => exact fun hD a w hr => wpAnyH_mkQ h1 _ (h ⟨hD.pre, hD.len, hD.free, hD.frz, hD.rng, hD.okf, hD.ap⟩ a w hr)
  | o B1 ops l is Lf Lv i => exact fun hD a w hr => wpOp_mkQ (fun _ _ h => ⟨h.1, wpAnyH_mkQ h1 _ h.2⟩) (h ⟨hD.pre, hD.len, hD.free, hD.frz, hD.rng, hD.okf, hD.ap⟩ a w hr)
theorem cfgS_ok {g : Gx} {s : Stop} (hs : cfgS s = some (K, cf, m, e, L)) (h : G g K m e L cf) : Gs g s := by
  cases s <;> simp only [cfgS] at hs <;> cases hs
  · exact fun _ => h
  · exact h
  · exact h
  · exact fun _ _ _ _ _ _ _ => h
  · exact fun _ _ _ _ _ _ _ _ _ _ => h
  · exact fun _ _ _ _ _ _ _ _ _ => h
  · exact fun _ _ => h
  · exact fun _ _ _ => h
  · exact h
  · exact h
/-- What may be assumed behind. -/
def JP (n : Nat) (c : Ctx) (B0 : Bl) {π υ : Type} (eq : π → Prop) (m : Nat) (ej : π → υ → SE) (Lj : π → υ → List Ch) : Act → World → Prop := fun a w => ∃ p u, eq p ∧ RelN n c B0 m (ej p u) (Lj p u) a w
/-- Several operations are ready: any of them may come next. -/
theorem alt2 {B1 : Bl} {ops : Array Oper} {l : List Bool} {is : List Nat} {Lf Lv : List Ch} {i j : Nat} (hs : cfgS (stq T n K cf m e L) = some (K', .d B1 ops l is Lf Lv, m', e', L')) (hr : readyA l ops.toList 0 = [i, j])
    (k1 : G (.mk P T hT n c B0 N X Q) K' m' e' L' (.o B1 ops l is Lf Lv i)) (k2 : G (.mk P T hT n c B0 N X Q) K' m' e' L' (.o B1 ops l is Lf Lv j)) : G (.mk P T hT n c B0 N X Q) K m e L cf :=
  stq_ok (g := .mk P T hT n c B0 N X Q) (cfgS_ok hs (d_alt (g := .mk P T hT n c B0 N X Q) hr fun k hk => by
    grind))
theorem alt3 {B1 : Bl} {ops : Array Oper} {l : List Bool} {is : List Nat} {Lf Lv : List Ch} {i j p : Nat} (hs : cfgS (stq T n K cf m e L) = some (K', .d B1 ops l is Lf Lv, m', e', L')) (hr : readyA l ops.toList 0 = [i, j, p])
    (k1 : G (.mk P T hT n c B0 N X Q) K' m' e' L' (.o B1 ops l is Lf Lv i)) (k2 : G (.mk P T hT n c B0 N X Q) K' m' e' L' (.o B1 ops l is Lf Lv j)) (k3 : G (.mk P T hT n c B0 N X Q) K' m' e' L' (.o B1 ops l is Lf Lv p)) : G (.mk P T hT n c B0 N X Q) K m e L cf :=
  stq_ok (g := .mk P T hT n c B0 N X Q) (cfgS_ok hs (d_alt (g := .mk P T hT n c B0 N X Q) hr fun k hk => by
    grind))
/-- What is bound first. -/
theorem bd {α β : Type} {A : Option α} {f : α → Option β} {q : β} {C : Prop} (hF : A.bind f = some q) (k : ∀ x, A = some x → f x = some q → C) : C := by
  cases h : A with
  | none => grind
  | some x => grind
theorem nd {β : Type} {p : Prop} [Decidable p] {A : Option β} {q : β} {C : Prop} (hF : need p A = some q) (k : p → A = some q → C) : C := k (needE hF).1 (needE hF).2
theorem rb {α : Type} {A : Option α} {x : α} (h : A = some x) : A.bind some = some x := by rw [h]; rfl
theorem rn {p : Prop} [Decidable p] (h : p) : need p (some ()) = some () := by simp [need, h]
theorem sb {α : Type} {C : α → Prop} (x : α) {y : α} (h : some x = some y) (k : C y) : C x := by grind
theorem go (hs : cfgS (stq T n K cf m e L) = some (K', cf', m', e', L')) (k : G (.mk P T hT n c B0 N X Q) K' m' e' L' cf') : G (.mk P T hT n c B0 N X Q) K m e L cf :=
  stq_ok (g := .mk P T hT n c B0 N X Q) (cfgS_ok hs k)
/-- A join, j frames on. -/
theorem cut {π υ : Type} (j mj : Nat) (eq : π → Prop) (ks : List Nat) (ej : π → υ → SE) (is : List Nat) (Lj : π → υ → List Ch) (hs : cfgS (stq T n K cf m e L) = some (K', cf', m', e', L'))
    (k1 : G (.mk P T hT n c B0 (JP n c B0 eq mj (fun p u => ej p u ++ kp e' ks) (fun p u => Lj p u ++ kl L' is)) (XK (.mk P T hT n c B0 N X Q) (K'.drop j)) Q) (K'.take j) m' e' L' cf')
    (k2 : ∀ p u, eq p → G (.mk P T hT n c B0 N X Q) (K'.drop j) mj (ej p u ++ kp e' ks) (Lj p u ++ kl L' is) .n) : G (.mk P T hT n c B0 N X Q) K m e L cf := by
  refine go hs ?_
  rw [← List.take_append_drop j K']
  refine G_app (fun a w ⟨p, u, h1, h2⟩ => ?_) (fun _ _ _ h => h) k1
  exact k2 p u h1 a w h2
/-- The end of a branch. -/
theorem jn {π υ : Type} {eq : π → Prop} {mj : Nat} {ej : π → υ → SE} {Lj : π → υ → List Ch} {p : π} (u : υ) (is : List Nat) (hF : eq p) (hs : stq T n K cf m e L = .fin m' e' L') (h : asT B0.length m' e' L' is mj (ej p u) (Lj p u) = some (ej p u, Lj p u)) : G (.mk P T hT n c B0 (JP n c B0 eq mj ej Lj) X Q) K m e L cf :=
  stq_ok (g := .mk P T hT n c B0 _ X Q) (by
    rw [hs]
    exact fun a w hr => ⟨p, u, hF, RelN.asT hr is h⟩)
/-- The same with a slot's Bool known. -/
theorem ovr_env {b cb : Bool} {a : Act} {B : Bl} (hb : b = cb) : ∀ (ss : List Nat), mapO (lkS e) ss = some (ss.map fun _ => SV.b b) → AEnvS n B e a → AEnvS n B (ovr cb e ss) a := by
  intro ss hs hA
  refine ⟨hA.d, hA.size, ?_⟩
  subst hb
  have key : ∀ k ∈ ss, lkS e k = some (.b b) := by
    induction ss with
    | nil => simp
    | cons s ss ih =>
      grind [mapO]
  clear hs
  induction ss with
  | nil => exact hA.get
  | cons s ss ih =>
    intro k x hk
    simp only [ovr, lkS] at hk
    cases hb : Nat.beq k s with
    | true =>
      rw [hb] at hk; cases hk
      rw [Nat.eq_of_beq_eq_true hb]
      exact hA.get s (.b b) (key s (by simp))
    | false =>
      grind
theorem ovr_rel {b cb : Bool} {a : Act} {w : World} (hb : b = cb) (ss : List Nat) (hs : mapO (lkS e) ss = some (ss.map fun _ => SV.b b)) (h : RelN n c B0 m e L a w) : RelN n c B0 m (ovr cb e ss) L a w := by
  obtain ⟨B, h1, hA, hS⟩ := h
  exact ⟨B, h1, ovr_env hb ss hs hA, hS⟩
theorem G_mono {e1 : SE} (h : ∀ a B, AEnvS n B e a → AEnvS n B e1 a) (k : G (.mk P T hT n c B0 N X Q) K m e1 L cf) : G (.mk P T hT n c B0 N X Q) K m e L cf := by
  cases cf with
  | d B1 ops l is Lf Lv => exact fun hD a w ⟨B, h1, h2, h3, h4⟩ => k hD a w ⟨B, h1, h a _ h2, h3, h4⟩
  | o B1 ops l is Lf Lv i => exact fun hD a w ⟨B, h1, h2, h3, h4⟩ => k hD a w ⟨B, h1, h a _ h2, h3, h4⟩
  | _ => exact fun a w ⟨B, h1, h2, h3⟩ => k a w ⟨B, h1, h a _ h2, h3⟩
section
variable {b : Bool} {α : Type} {A B' : Option α} {q : Option α}
/-- A condition. -/
theorem cs {o : Operand} {x y : Code} (ss : List Nat) (hs : stq T n K cf m e L = .cond o b x y K' m' e' L') (ho : mapO (lkS e') ss = some (ss.map fun _ => SV.b b)) (hF : (if b = true then A else B') = q)
    (k1 : A = q → G (.mk P T hT n c B0 N X Q) K' m' (ovr true e' ss) L' (.c x)) (k2 : B' = q → G (.mk P T hT n c B0 N X Q) K' m' (ovr false e' ss) L' (.c y)) : G (.mk P T hT n c B0 N X Q) K m e L cf :=
  stq_ok (g := .mk P T hT n c B0 N X Q) (by
    rw [hs]
    intro he a w hr
    have ⟨B, hm, hA, hS⟩ := hr
    obtain ⟨v, h1, h2⟩ := evS_ok hA he
    cases h1
    refine cw_cond hA.env h2 (fun hc => ?_) (fun hc => ?_)
    · rw [if_pos hc] at hF
      exact k1 hF a w (ovr_rel hc ss ho hr)
    · rw [if_neg (by grind)] at hF
      exact k2 hF a w (ovr_rel hc ss ho hr))
/-- A guard, or what is picked. -/
theorem ca {cf' : Cfg} (ss : List Nat) (hs : stq T n K cf m e L = .case b cf' K' m' e' L') (ho : mapO (lkS e') ss = some (ss.map fun _ => SV.b b)) (hF : (if b = true then A else B') = q)
    (k1 : A = q → G (.mk P T hT n c B0 N X Q) K' m' (ovr true e' ss) L' cf') (k2 : B' = q → G (.mk P T hT n c B0 N X Q) K' m' (ovr false e' ss) L' cf') : G (.mk P T hT n c B0 N X Q) K m e L cf :=
  stq_ok (g := .mk P T hT n c B0 N X Q) (by
    rw [hs]
    cases b with
    | true => exact G_mono (fun a B hA => ovr_env rfl ss ho hA) (k1 (by grind))
    | false => exact G_mono (fun a B hA => ovr_env rfl ss ho hA) (k2 (by grind)))
end
/-! ### Returns -/
def QS (P : Program) (fn : Func) (c : Ctx) (B0 : Bl) {ρ ex : Type} (sv : ρ → ex → SV) (Lf : ρ → ex → List Ch) (r : ρ) : Act → World → Prop := Fin P fn fun v w' => ∃ y, toV B0 (sv r y) = some v ∧ StS c w' B0 (Lf r y)
theorem resV_ok {r : ResultVar} {x : SV} {B : Bl} {a : Act} {w : World} (hT : TOk P T) (hA : AEnvS n B e a) (hS : StS c w B L) (h : resV T e L r = some x) : ∃ v, toV B x = some v ∧ (resSem a.tmps r).run P w = .ok v w := by
  cases r with
  | tmp t =>
    obtain ⟨v, h1, h2⟩ := hA.get t x h
    simp_all [resSem]
  | cell t ty =>
    simp only [resV] at h
    split at h
    · rename_i p hp
      obtain ⟨v, h1, h2⟩ := hA.get t p hp
      unfold loadS at h
      split at h
      · rename_i n0 o0
        split at h
        · rename_i cs _ mm _ hb hl
          split at h
          · rename_i hle
            split at h
            case h_2 => cases h
            rename_i ds hds
            cases h
            have := frc_eq hds
            subst this
            obtain ⟨b, z, vs, g1, g2, g3⟩ := hS.cells hb
            have hlen := mapO_len g2
            have hle := Nat.le_of_ble_eq_true hle
            simp only [toV, gV, cellV, g1] at h1
            cases h1
            have h4 := mapO_take mm (mapO_drop o0 g2)
            have h5 := cellsAt_part g3 (o := o0) (m := mm) (by omega)
            have h6 := run_loadCells_at h5 P
            have h7 : ((vs.drop o0).take mm).length = mm := by simp; omega
            rw [h7] at h6
            refine ⟨.agg ((vs.drop o0).take mm).toArray, by grind [toV, gV], ?_⟩
            simp [resSem, h2, asAddr, loadVar, hT.agg _ _ hl, hT.size _ _ hl, h6]
          · cases h
        · rename_i cs _ _ _ hb hl
          obtain ⟨b, z, vs, g1, g2, g3⟩ := hS.cells hb
          simp only [toV, gV, cellV, g1] at h1
          cases h1
          obtain ⟨u, h4, h5⟩ := mapO_get g2 h
          refine ⟨u, toV_c h4, ?_⟩
          have h6 := g3 o0 u h5
          simp [resSem, h2, asAddr, loadVar, hT.agg _ _ hl, load, Sem.run, h6]
        · cases h
      · cases h
    · cases h
end
end Go.Gv
end
section
/-
  Entries, returns, calls, loops, elements. Nothing of a program here.
-/
namespace Go.Gv
section
variable {P : Program} {T : TT} {hT : TOk P T} {n : Nat} {c : Ctx} {B0 : Bl} {N : Act → World → Prop} {X : Nat → Act → World → Prop} {Q : Act → World → Prop} {K K' : List Fr} {m m' : Nat} {e e' : SE} {L L' : List Ch} {cf : Cfg}
theorem toV_isC {B : Bl} {x : SV} {v : Value} (h : toV B x = some v) (hc : isCells x = true) : gV B x = some v := by
  cases x <;> first | exact h | cases hc
theorem resG_ok {r : ResultVar} {x : SV} {B : Bl} {a : Act} {w : World} (hT : TOk P T) (hA : AEnvS n B e a) (hS : StS c w B L) (h : resG T e L r = some x) : ∃ v, gV B x = some v ∧ (resSem a.tmps r).run P w = .ok v w := by
  grind [resG, resV_ok, toV_isC]
theorem resS_ok {rs : List ResultVar} {x : SV} {B : Bl} {a : Act} {w : World} {fn : Func} (hf : fn.results = rs.toArray) (hT : TOk P T) (hA : AEnvS n B e a) (hS : StS c w B L) (h : resS T e L rs = some x) : ∃ v, toV B x = some v ∧ (results fn a.tmps).run P w = .ok v w := by
  rw [results_eq hf]
  unfold resS at h
  split at h
  · cases h; exact ⟨.tuple #[], rfl, by simp⟩
  · obtain ⟨v, h1, h2⟩ := resV_ok hT hA hS h
    simp_all
  · split at h
    · rename_i g1 g2
      cases h
      obtain ⟨v1, h1, k1⟩ := resG_ok hT hA hS g1
      obtain ⟨v2, h2, k2⟩ := resG_ok hT hA hS g2
      simp_all [toV, mapO]
    · cases h
  · split at h
    · rename_i g1 g2 g3
      cases h
      obtain ⟨v1, h1, k1⟩ := resG_ok hT hA hS g1
      obtain ⟨v2, h2, k2⟩ := resG_ok hT hA hS g2
      obtain ⟨v3, h3, k3⟩ := resG_ok hT hA hS g3
      simp_all [toV, mapO]
    · cases h
  · cases h
/-- What a function is known to do. -/
structure FnS (P : Program) (f : FuncId) (c : Ctx) (xs : List SV) (B0 : Bl) (L0 : List Ch) {ρ ex : Type} (sv : ρ → ex → SV) (Lf : ρ → ex → List Ch) (r : ρ) : Prop where
  call : ∀ args w, (callFunc f args).run P w = .ok (.enter f args) w
  run : ∀ vs, mapO (toV B0) xs = some vs → StS c c.w0 B0 L0 → Calls P f vs.toArray c.w0 (Ret fun v w' => ∃ y, toV B0 (sv r y) = some v ∧ StS c w' B0 (Lf r y))
/-- A function that looks at what it is handed, and yields what has no memory behind it. -/
abbrev Fn0 (P : Program) (f : FuncId) (c : Ctx) (xs : List SV) {ρ : Type} (sv : ρ → SV) (r : ρ) : Prop := FnS P f c xs [] [] (fun r (_ : Unit) => sv r) (fun _ _ => []) r
def env0S : Nat → List SV → SE
  | _, [] => []
  | k, v :: r => (k, v) :: env0S (k + 1) r
theorem env0S_get {B : Bl} : ∀ {xs : List SV} {vs : List Value} (k : Nat) {j : Nat} {x : SV}, mapO (toV B) xs = some vs → lkS (env0S k xs) j = some x → ∃ v, toV B x = some v ∧ lk (env0 k vs) j = some v
  | [], vs, k, j, x, h, hj => by grind [env0S, lkS]
  | y :: xs, vs, k, j, x, h, hj => by
    simp only [mapO] at h
    split at h
    · cases h
    · rename_i h1
      split at h
      · cases h
      · rename_i h2
        cases h
        simp only [env0S, lkS] at hj
        simp only [env0, lk]
        cases hb : Nat.beq j k with
        | true => grind
        | false => rw [hb] at hj; exact env0S_get (k + 1) h2 hj
/-- A function, from its body. -/
theorem en {f : FuncId} {fn : Func} {cd : Code} {xs : List SV} {L0 : List Ch} {ρ ex : Type} {sv : ρ → ex → SV} {Lf : ρ → ex → List Ch} {r : ρ} (n : Nat) (hc : ∀ args w, (callFunc f args).run P w = .ok (.enter f args) w) (hf : P.funcs[f]? = some fn) (hT : TOk P T) (hb : fn.body = some cd) (hm : fn.ntmps = n) (hl : Nat.ble xs.length n = true)
    (k : G (.mk P T hT n c B0 (QS P fn c B0 sv Lf r) (fun _ _ _ => False) (QS P fn c B0 sv Lf r)) [] B0.length (env0S 0 xs) L0 (.c cd)) : FnS P f c xs B0 L0 sv Lf r := by
  refine ⟨hc, fun vs hv hS => calls_cwN hf hb hm ?_ fun a hA => ?_⟩
  · grind [mapO_len]
  · refine CW.mono (k a c.w0 ⟨[], by simp, ⟨hA.d, hA.size, fun j x hj => ?_⟩, by grind⟩) (fun _ _ h => h) (fun _ _ _ h => h) (fun _ _ h => h)
    obtain ⟨v, h1, h2⟩ := env0S_get 0 hv hj
    exact ⟨v, by grind, hA.get j v h2⟩
theorem stS0 (w : World) : StS (cxAll w) w [] [] := ⟨⟨[], St.enter (by simp), by simp⟩, fun _ _ h => h⟩
/-- At 'return'. -/
theorem rt {fn : Func} {ρ ex : Type} {sv : ρ → ex → SV} {Lf : ρ → ex → List Ch} {r r' : ρ} {rs : List ResultVar} {zz : Option ρ} (y : ex) (is : List Nat) (hF : zz = some r) (hz : zz = some r') (hs : stq T n K cf m e L = .ret m' e' L') (hr : fn.results = rs.toArray) {x : SV} (hv : resS T e' L' rs = some x) (hx : nbS x = sv r' y) (hk : okN B0.length (sv r' y) = true) (hL : asT B0.length m' e' L' is B0.length [] (Lf r' y) = some ([], Lf r' y)) : G (.mk P T hT n c B0 N X (QS P fn c B0 sv Lf r)) K m e L cf := by
  subst hz; cases hF
  refine stq_ok (g := .mk P T hT n c B0 N X _) ?_
  rw [hs]
  intro a w hr'
  obtain ⟨B, hm, hA, hS⟩ := id hr'
  obtain ⟨v, h1, h2⟩ := resS_ok hr hT hA hS hv
  obtain ⟨B', hm', _, hS'⟩ := hr'.asT is hL
  have hB' : B' = [] := (by simp_all)
  subst hB'
  refine ⟨hA.d, v, h2, y, ?_, by grind⟩
  rw [← hx] at hk ⊢
  have := okN_toV hk (by rw [nbS_toV]; exact h1)
  grind
/-- At the end of the body. -/
theorem rf {fn : Func} {ρ ex : Type} {sv : ρ → ex → SV} {Lf : ρ → ex → List Ch} {r r' : ρ} {rs : List ResultVar} {zz : Option ρ} (y : ex) (is : List Nat) (hF : zz = some r) (hz : zz = some r') (hs : stq T n K cf m e L = .fin m' e' L') (hr : fn.results = rs.toArray) {x : SV} (hv : resS T e' L' rs = some x) (hx : nbS x = sv r' y) (hk : okN B0.length (sv r' y) = true) (hL : asT B0.length m' e' L' is B0.length [] (Lf r' y) = some ([], Lf r' y)) : G (.mk P T hT n c B0 (QS P fn c B0 sv Lf r) X Q) K m e L cf := by
  subst hz; cases hF
  refine stq_ok (g := .mk P T hT n c B0 _ X Q) ?_
  rw [hs]
  intro a w hr'
  obtain ⟨B, hm, hA, hS⟩ := id hr'
  obtain ⟨v, h1, h2⟩ := resS_ok hr hT hA hS hv
  obtain ⟨B', hm', _, hS'⟩ := hr'.asT is hL
  have hB' : B' = [] := (by simp_all)
  subst hB'
  refine ⟨hA.d, v, h2, y, ?_, by grind⟩
  rw [← hx] at hk ⊢
  have := okN_toV hk (by rw [nbS_toV]; exact h1)
  grind
/-! ### Readings -/
/-- What was read at the beginning of the call. -/
def RdA (c : Ctx) {α : Type} [Rep α] (s : AC) (d : List α) : Prop := Rep.rd c.S0 c.w0 [s.v d.length] d
structure HS (c : Ctx) (w : World) (L : List Ch) : Prop where
  ex : ∃ B, StS c w B L
abbrev ow {α : Type} [Rep α] (s : AC) (d : List α) : Ch := .o (cOwn [s.v d.length] d)
abbrev fr {α : Type} [Rep α] (s : AC) (d : List α) : Ch := .f (fRd [s.v d.length] d)
theorem keep_S0 {w : World} {B : Bl} (hS : StS c w B L) {f : Fact} (h : f.P c.S0 c.w0) : f.P c.S0 w := by
  obtain ⟨⟨R, s1, _⟩, s0⟩ := hS
  exact f.agree h fun b o hb => s1.keep.cell b o (s0 b o hb) fun hw => s1.apart b o hw hb
theorem S0_All {w : World} {B : Bl} (hS : StS c w B L) : ∀ b o, c.S0 b o → All w b o := fun b o hb => by
  obtain ⟨⟨R, s1, _⟩, s0⟩ := hS
  exact Nat.lt_of_lt_of_le (s0 b o hb) s1.keep.size
theorem HS.a {w : World} {α : Type} [Rep α] {s : AC} {d : List α} (h : HS c w L) (hr : RdA c s d) : RdA (cxAll w) s d := by
  obtain ⟨B, hS⟩ := h.ex
  have h1 : (fRd [s.v d.length] d).P c.S0 w := keep_S0 hS (f := fRd [s.v d.length] d) hr
  exact Rep.rd_mono h1 (S0_All hS)
theorem HS.o {w : World} {α : Type} [Rep α] {s : AC} {d : List α} (h : HS c w L) (i : Nat) (hi : L[i]? = some (ow s d)) : RdA (cxAll w) s d := by
  obtain ⟨B, ⟨⟨R, s1, _⟩, _⟩⟩ := h.ex
  exact s1.rdOwn i (by rw [List.getElem?_map, hi]; rfl)
theorem HS.f {w : World} {α : Type} [Rep α] {s : AC} {d : List α} (h : HS c w L) (i : Nat) (hi : L[i]? = some (fr s d)) : RdA (cxAll w) s d := by
  obtain ⟨B, ⟨⟨R, s1, s2⟩, _⟩⟩ := h.ex
  obtain ⟨j, hj⟩ := List.getElem?_of_mem (s2 _ (List.mem_of_getElem? hi))
  exact s1.rd j hj
/-! ### Calls -/
theorem okA_toV {B : Bl} : ∀ {xs : List SV} {vs : List Value}, okA xs = true → mapO (toV B) xs = some vs → mapO (toV []) xs = some vs
  | [], vs, _, h => h
  | x :: xs, vs, ho, h => by
    simp only [okA] at ho
    split at ho
    · rename_i h0
      simp only [mapO] at h
      split at h
      · cases h
      · rename_i h1
        split at h
        · cases h
        · rename_i h2
          cases h
          have h3 := okN_toV h0 h1
          rw [List.take_zero] at h3
          simp [mapO, h3, okA_toV ho h2]
    · cases ho
theorem evs_S {B : Bl} {a : Act} (hA : AEnvS n B e a) : ∀ {os : List Operand} {xs : List SV}, mapO (evS e) os = some xs → ∃ vs, mapO (toV B) xs = some vs ∧ evs (vE B e) os = some vs
  | [], xs, h => by cases h; exact ⟨[], rfl, rfl⟩
  | o :: os, xs, h => by
    simp only [mapO] at h
    split at h
    · cases h
    · rename_i h1
      split at h
      · cases h
      · rename_i h2
        cases h
        obtain ⟨v, k1, k2⟩ := evS_ok hA h1
        obtain ⟨vs, k3, k4⟩ := evs_S hA h2
        grind [mapO, evs]
def noF : List Ch → Bool
  | [] => true
  | .ro _ _ :: _ => false
  | .f _ :: _ => false
  | .w _ _ _ :: _ => false
  | _ :: L => noF L
theorem noF_ok {B : Bl} {R : List Fact} : ∀ {L : List Ch}, noF L = true → ∀ x ∈ L, roF B R x
  | [], _, x, hx => by cases hx
  | y :: L, h, x, hx => by
    rcases List.mem_cons.1 hx with hx' | hx'
    · subst hx'
      cases x <;> first | trivial | cases h
    · cases y with
      | ro => cases h
      | f => cases h
      | w => cases h
      | _ => exact noF_ok (L := L) h x hx'
/-- Behind a call that makes new memory alone. -/
theorem StS.after {w w' : World} {B : Bl} {L2 : List Ch} (h : StS c w B L) (hn : noF L2 = true) (k : StS (cxAll w) w' [] L2) : StS c w' B (L ++ L2) := by
  obtain ⟨⟨R, s1, s2⟩, s0⟩ := h
  obtain ⟨⟨R', t1, t2⟩, t0⟩ := k
  refine ⟨⟨R, ?_, fun x hx => ?_⟩, s0⟩
  · rw [List.map_append]
    have h1 := s1.after t1
    refine h1.imp (ImpL.append (ImpL.refl _) ?_)
    have := imp_app (B := []) B (w := w') L2
    grind
  grind [noF_ok]
theorem StS.keepF0 {w w' : World} {B : Bl} (h : StS c w B L) (k : Keep F0 w w') : StS c w' B L := by
  obtain ⟨⟨R, s1, s2⟩, s0⟩ := h
  exact ⟨⟨R, s1.same k, s2⟩, s0⟩
theorem rc_call' {o : Oper} {f : FuncId} {x : Operand} {args : Array Operand} {ts : Array TypeId} {vs : List Value} {E : Env} {w : World} (hcall : ∀ args w, (callFunc f args).run P w = .ok (.enter f args) w) (ho : o.op = .call { callee := .value x, args := args, argTypes := ts }) (hx : ev E x = some (.func (.func f) #[] #[])) (hv : evs E args.toList = some vs) : RunC P o E w f vs.toArray := by
  have := rc_callv (w := w) (cap := []) (xs := args.toList) (vs := vs) hcall (by omega) hx hv
  grind
/-- A call that looks alone. -/
theorem cl {α β ex : Type} {fo : Option α} {kf : α → Option β} {q : β} {o : Oper} {d : Nat} {f : FuncId} {xs : List SV} {cf1 cf2 : Cfg} {sv : α → ex → SV} {Lf : α → ex → List Ch} (hs : stq T n K cf m e L = .call o (some d) f xs cf1 cf2 K' m' e' L') (hn : ∀ x y, noF (Lf x y) = true)
    (hc : ∀ {w}, HS c w L' → ∀ {x}, fo = some x → FnS P f (cxAll w) xs [] [] sv Lf x) (hF : fo.bind kf = some q)
    (k : ∀ x, fo = some x → kf x = some q → ∀ y : ex, G (.mk P T hT n c B0 N X Q) K' m' ((d, sv x y) :: e') (L' ++ Lf x y) cf2) : G (.mk P T hT n c B0 N X Q) K m e L cf := by
  refine stq_ok (g := .mk P T hT n c B0 N X Q) ?_
  rw [hs]
  intro fo' args ats ho hd hf ⟨ys, hys, hxs⟩ hA0 hdn hE
  subst hxs
  cases hfo : fo with
  | none => grind
  | some x =>
    rw [hfo] at hF
    refine hE ex (fun _ => m') (fun y => (d, sv x y) :: e') (fun y => L' ++ Lf x y) (fun y => frz_app _) (fun B a w next Q' hm hA hS hnext => ?_) (k x hfo hF)
    obtain ⟨hcall, hrun⟩ := hc ⟨_, hS⟩ hfo
    obtain ⟨vs, h1, h2⟩ := evs_S hA hys
    obtain ⟨v, h3, h4⟩ := evS_ok hA hf
    simp [toV, mapO] at h3
    subst h3
    have h5 := hrun vs (okA_toV hA0 (by rw [nbA_toV]; exact h1)) (stS0 w)
    have h6 := rc_call' (w := w) hcall ho h4 h2
    unfold Oper.wp
    rw [h6 _ a hA.env, Oper.upon_enter]
    refine Calls.mono h5 fun en w' ⟨v, hv, y, g1, g2⟩ => ?_
    subst hv
    rw [hd]
    have g3 := toV_app (B0S (.mk P T hT n c B0 N X Q) cf1 ++ B) g1
    exact hnext y _ _ ⟨[], by grind, by simpa using hA.of (by grind) (hA.env.put (by grind [dstOk, Nat.blt_eq]) v), by simpa using hS.after (hn x y) g2⟩
end
end Go.Gv
end
section
/-
  Loops and elements. Nothing of a program here.
-/
namespace Go.Gv
section
variable {P : Program} {T : TT} {hT : TOk P T} {n : Nat} {c : Ctx} {B0 : Bl} {N : Act → World → Prop} {X : Nat → Act → World → Prop} {Q : Act → World → Prop} {K K' : List Fr} {m m' : Nat} {e e' : SE} {L L' : List Ch} {cf : Cfg}
/-- The next round. -/
def NxP (n : Nat) (c : Ctx) (B0 : Bl) {σ ρ υ : Type} (o : Step σ ρ) (m : Nat) (el : σ → υ → SE) (Ll : σ → υ → List Ch) : Act → World → Prop := fun a w => ∃ s u, o = .next s ∧ RelN n c B0 m (el s u) (Ll s u) a w
/-- Behind the loop. -/
def BkP (n : Nat) (c : Ctx) (B0 : Bl) {β ρ υ : Type} (ro : ρ) (enc : β → ρ) (m : Nat) (ej : β → υ → SE) (Lj : β → υ → List Ch) (id : Nat) (X : Nat → Act → World → Prop) : Nat → Act → World → Prop := fun i a w => if i = id then ∃ b u, ro = enc b ∧ RelN n c B0 m (ej b u) (Lj b u) a w else X i a w
theorem lp {σ ρ υ β ω α : Type} {id : Nat} {y : Code} {fb : σ → Option (Step σ ρ)} {s0 : σ} {gk : ρ → Option α} {q : α} (u0 : υ) (ks : List Nat) (el : σ → υ → SE) (is0 is : List Nat) (Ll : σ → υ → List Ch) (enc : β → ρ) (kb : List Nat) (ej : β → ω → SE) (ib : List Nat) (Lj : β → ω → List Ch)
    (hs : stq T n K cf m e L = .loop id y K' m' e' L') (hF : (loop fb s0).bind gk = some q)
    (h0 : asT B0.length m' e' L' is0 m' (el s0 u0 ++ kp e' ks) (Ll s0 u0 ++ kl L' is) = some (el s0 u0 ++ kp e' ks, Ll s0 u0 ++ kl L' is))
    (k1 : ∀ ro, gk ro = some q → ∀ s u o, fb s = some o → (∀ p, o = .stop p → p = ro) → G (.mk P T hT n c B0 (NxP n c B0 o m' (fun s u => el s u ++ kp e' ks) (fun s u => Ll s u ++ kl L' is)) (BkP n c B0 ro enc m' (fun b u => ej b u ++ kp e' kb) (fun b u => Lj b u ++ kl L' ib) id (XK (.mk P T hT n c B0 N X Q) K')) Q) [] m' (el s u ++ kp e' ks) (Ll s u ++ kl L' is) (.c y))
    (k2 : ∀ b u, gk (enc b) = some q → G (.mk P T hT n c B0 N X Q) K' m' (ej b u ++ kp e' kb) (Lj b u ++ kl L' ib) .n) : G (.mk P T hT n c B0 N X Q) K m e L cf := by
  refine stq_ok (g := .mk P T hT n c B0 N X Q) ?_
  rw [hs]
  intro a w hr
  cases hl : loop fb s0 with
  | none => grind
  | some ro =>
    rw [hl] at hF
    have hF : gk ro = some q := hF
    refine cw_block (cw_loop (body := fb) (r := ro) (fun s a w => ∃ u, RelN n c B0 m' (el s u ++ kp e' ks) (Ll s u ++ kl L' is) a w) ?_ hl ⟨u0, hr.asT is0 h0⟩)
    intro s a w o ⟨u, hI⟩ hb ho
    refine CW.mono (k1 ro hF s u o hb ho a w hI) ?_ ?_ (fun _ _ h => h)
    · rintro a w ⟨s', u', h1, h2⟩
      grind
    · intro i a w h
      simp only [XK, BkP, xcons] at h ⊢
      split
      · rename_i hi
        rw [if_pos hi] at h
        obtain ⟨b, u, h1, h2⟩ := h
        exact k2 b u (h1 ▸ hF) a w h2
      grind
/-- On to the next round. -/
theorem nx {σ ρ υ : Type} {o : Step σ ρ} {mj : Nat} {el : σ → υ → SE} {Ll : σ → υ → List Ch} {s : σ} (u : υ) (is : List Nat) (hG : some (Step.next s) = some o) (hs : stq T n K cf m e L = .fin m' e' L') (h : asT B0.length m' e' L' is mj (el s u) (Ll s u) = some (el s u, Ll s u)) : G (.mk P T hT n c B0 (NxP n c B0 o mj el Ll) X Q) K m e L cf :=
  stq_ok (g := .mk P T hT n c B0 _ X Q) (by
    rw [hs]
    cases hG
    exact fun a w hr => ⟨s, u, rfl, hr.asT is h⟩)
/-- Out of the loop. -/
theorem bk {σ ρ β υ : Type} {o : Step σ ρ} {ro : ρ} {enc : β → ρ} {mj id : Nat} {ej : β → υ → SE} {Lj : β → υ → List Ch} {b : β} (u : υ) (is : List Nat) (hG : some (Step.stop (enc b)) = some o) (hr : ∀ p, o = .stop p → p = ro) (hs : stq T n K cf m e L = .ex id m' e' L') (h : asT B0.length m' e' L' is mj (ej b u) (Lj b u) = some (ej b u, Lj b u)) : G (.mk P T hT n c B0 N (BkP n c B0 ro enc mj ej Lj id X) Q) K m e L cf :=
  stq_ok (g := .mk P T hT n c B0 N _ Q) (by
    rw [hs]
    cases hG
    have := hr _ rfl
    subst this
    intro a w hr
    show BkP n c B0 (enc b) enc mj ej Lj id X id a w
    unfold BkP
    rw [if_pos rfl]
    exact ⟨b, u, rfl, hr.asT is h⟩)
/-- What the loop's result is, inside of it. -/
theorem re {σ ρ α : Type} {o : Step σ ρ} {p ro : ρ} {F : ρ → Option α} {q : Option α} {zz : Option (Step σ ρ)} (hG : zz = some o) (hz : zz = some (Step.stop p)) (hr : ∀ p, o = .stop p → p = ro) (hF : F ro = q) : F p = q := by
  grind
/-! ### Elements -/
/-- How an element's cells look: cs, with headers of type ex, and what is known of these; sv: the element as a value. -/
structure Cel (α : Type) [Rep α] where
  ex : Type
  cs : α → ex → List SV
  sub : Foot → World → α → ex → Prop
  ok : ∀ {S w ec x}, Rep.rd S w ec x → ∃ y, mapO (cellV []) (cs x y) = some ec ∧ sub S w x y
  sv : α → ex → SV
  subk : ∀ {S S' w w' x y}, sub S w x y → (∀ b o, S b o → w'.cell? ⟨b, o, none⟩ = w.cell? ⟨b, o, none⟩) → (∀ b o, S b o → S' b o) → sub S' w' x y
def cI : Cel Int := ⟨Unit, fun x _ => [.i .i64 x], fun _ _ _ _ => True, fun h => ⟨(), by cases h; rfl, trivial⟩, fun x _ => .i .i64 x, fun _ _ _ => trivial⟩
def cB : Cel Bool := ⟨Unit, fun x _ => [.b x], fun _ _ _ _ => True, fun h => ⟨(), by cases h; rfl, trivial⟩, fun x _ => .b x, fun _ _ _ => trivial⟩
def cU : Cel UInt8 := ⟨Unit, fun x _ => [.y x], fun _ _ _ _ => True, fun h => ⟨(), by cases h; rfl, trivial⟩, fun x _ => .y x, fun _ _ _ => trivial⟩
def cG : Cel GStr := ⟨Unit, fun x _ => [.s x.b], fun _ _ _ _ => True, fun h => ⟨(), by cases h; rfl, trivial⟩, fun x _ => .s x.b, fun _ _ _ => trivial⟩
theorem rd_AC {α : Type} [Rep α] {S : Foot} {w : World} {ec : List Value} {l : List α} (h : Rep.rd S w ec l) : ∃ s : AC, ec = [s.v l.length] := by
  obtain ⟨ad, m, h1, _⟩ := (show rdSlice S w ec l from h)
  exact ⟨⟨ad, m⟩, h1⟩
def cL {α : Type} [Rep α] : Cel (List α) := ⟨AC, fun x y => [.h y x.length], fun S w x y => Rep.rd S w [y.v x.length] x, fun h => by
  obtain ⟨s, h1⟩ := rd_AC h
  subst h1
  exact ⟨s, rfl, h⟩, fun x y => .h y x.length, fun h h1 h2 => Rep.rd_mono (Rep.rd_agree h h1) h2⟩
theorem St.addS0 {w : World} {M : List Chunk} {R : List Fact} {f : Fact} (h : St c w M R) (s0 : ∀ b o, c.S0 b o → b < c.w0.heap.size) (hf : f.P c.S0 c.w0) : St c w M (R ++ [f]) := by
  obtain ⟨F, S, a1, a2, a3, a4, a5, a6⟩ := h.sep
  refine ⟨h.keep, ⟨F, fun b o => S b o ∨ c.S0 b o, a1, ?_, a3, ?_, ?_, ?_⟩, h.apart⟩
  · rintro b o hF (hs | hs)
    · exact a2 b o hF hs
    · rcases a3 b o hF with hw | hw
      · exact h.apart b o hw hs
      grind
  · grind
  · rintro b o (hs | hs)
    · grind
    · exact Nat.lt_of_lt_of_le (s0 b o hs) h.keep.size
  · intro g hg
    rcases List.mem_append.1 hg with hg | hg
    · exact g.mono (a6 g hg) fun b o hs => .inl hs
    · simp at hg; subst hg
      exact g.mono (g.agree hf fun b o hb => h.keep.cell b o (s0 b o hb) fun hw => h.apart b o hw hb) fun b o hs => .inr hs
theorem StS.addRo {w : World} {B : Bl} {k b z : Nat} {cs : List SV} {vs : List Value} (h : StS c w B L) (hk : B[k]? = some (b, z)) (hc : mapO (cellV B) cs = some vs) (hf : (fAt b z vs).P c.S0 c.w0) : StS c w B (L ++ [.ro k cs]) := by
  obtain ⟨⟨R, s1, s2⟩, s0⟩ := h
  refine ⟨⟨R ++ [fAt b z vs], ?_, fun x hx => ?_⟩, s0⟩
  · rw [List.map_append]
    exact St.more (ch := cNo) (St.addS0 s1 s0 hf) (Keep.refl _ _) ⟨F0, fun _ _ h => h, fun _ _ h => h.elim⟩
  · rcases List.mem_append.1 hx with hx | hx
    · grind [roF_mono]
    · simp at hx; subst hx
      exact ⟨b, z, vs, hk, hc, by simp⟩
/-- An element of what is never written. -/
theorem ix {α β : Type} {iR : Rep α} (C : Cel α) {o : Oper} {d t : Nat} {s : AC} {i : Int} {Lv : List Ch} {cf1 cf2 : Cfg} {ls : List α} {kf : α → Option β} {q : β} {el sz : Nat} {b1 b2 : Bool} {z1 z2 : List SV} {k2 : TK} {n1 : Nat} (hs : stq T n K cf m e L = .idx o d t s ls.length i Lv cf1 cf2 K' m' e' L') (h1 : RdA c s ls) (hF : (idx ls i).bind kf = some q) (ht : lkT T t = some ⟨.sl el, b1, n1, z1⟩) (he : lkT T el = some ⟨k2, b2, sz, z2⟩) (hn : Rep.n α = sz)
    (k : ∀ x, idx ls i = some x → kf x = some q → ∀ y : C.ex, C.sub c.S0 c.w0 x y → G (.mk P T hT n c B0 N X Q) K' (m' + 1) ((d, .p m' 0) :: e') (L' ++ [.ro m' (C.cs x y)]) (cf2.ext [.ro m' (C.cs x y)])) : G (.mk P T hT n c B0 N X Q) K m e L cf := by
  refine stq_ok (g := .mk P T hT n c B0 N X Q) ?_
  rw [hs]
  intro x' y' ho hd hx hy hP
  cases hi : idx ls i with
  | none => grind
  | some x =>
    rw [hi] at hF
    obtain ⟨dd, hd1, hd2⟩ := hT.und _ _ ht
    simp only at hd2; subst hd2
    obtain ⟨ec, p1, p2⟩ := rd_elF (S := c.S0) (w := c.w0) h1 (idx_some hi).2.2
    obtain ⟨y, p3, p4⟩ := C.ok p2
    subst hn
    refine hP d (.p m' 0) [.ro m' (C.cs x y)] (fun _ => [(elB (s.v ls.length), elO (Rep.n α) i.toNat (s.v ls.length))]) 1 hd (fun _ => rfl) (fun B a w hA hS hm => ?_) (fun B w L hm hS => ?_) (k x hi hF y p4)
    · obtain ⟨v, g1, g2⟩ := evS_ok hA hx
      obtain ⟨u, g3, g4⟩ := evS_ok hA hy
      cases g1; cases g3
      have hrd : Rep.rd c.S0 w [s.v ls.length] ls := keep_S0 hS (f := fRd [s.v ls.length] ls) h1
      exact ⟨_, by grind [toV, gV, cellV], rv_idx (P := P) (o := o) (w := w) hrd rfl hi hd1 (hT.size _ _ he) ho g2 g4⟩
    · exact (hS.app _).addRo (b := elB (s.v ls.length)) (z := elO (Rep.n α) i.toNat (s.v ls.length)) (by grind) (mapO_mono (fun x v h => by simpa using cellV_app (B := []) _ h) p3) p1
/-- A region whose order is drawn. -/
theorem dr {id : Nat} {ops : Array Oper} (is : List Nat) (hs : stq T n K cf m e L = .rgn id ops K' m' e' L') (hm : P.follows .mixedOrders = true) (hf : (freeA ops && (okL m' (kl L' is) && (apartB is && is.all fun j => Nat.blt j L'.length))) = true)
    (k : ∀ B1, G (.mk P T hT n c B0 N X Q) K' m' e' L' (.d B1 ops (List.replicate ops.size false) is (kl L' is) (kl L' is))) : G (.mk P T hT n c B0 N X Q) K m e L cf := by
  refine stq_ok (g := .mk P T hT n c B0 N X Q) ?_
  rw [hs]
  intro a w ⟨B, hmm, hA, hS⟩
  simp only [Bool.and_eq_true, List.all_eq_true, Nat.blt_eq] at hf
  obtain ⟨f1, f2, f3, f4⟩ := hf
  refine wp_region_held (S := Sd (.mk P T hT n c B0 N X Q) (B0 ++ B) (kl L' is)) hm ?_
  have := k (B0 ++ B) ⟨⟨B, rfl⟩, by simp, f1, rfl, f4, by grind, f3⟩ a w.drew ⟨[], by grind, by grind, by simpa using hS.keepF0 (Keep.drew F0 w), fun w' h => by grind⟩
  simp_all
end
end Go.Gv
end
section
/-
  The table of a program's types. Nothing of a program here.
-/
namespace Go.Gv
inductive StF (P : Program) : List Field → List (Nat × Nat) → Prop where
  | n : StF P [] []
  | c {F : Field} {Fs : List Field} {fs : List (Nat × Nat)} {m : Nat} (h : ∀ w, (sizeOf F.type).run P w = .ok m w) (t : StF P Fs fs) : StF P (F :: Fs) ((F.offset, m) :: fs)
section
variable {P : Program} {T : TT} {t n : Nat} {a : Bool} {zs : List SV} {z : Value}
theorem StF.off {Fs : List Field} {fs : List (Nat × Nat)} (h : StF P Fs fs) : Fs.map (·.offset) = fs.map (·.1) := by
  induction h with
  | n => rfl
  | c h t ih => simp [ih]
theorem StF.get {Fs : List Field} {fs : List (Nat × Nat)} (h : StF P Fs fs) : ∀ (j : Nat) F, Fs[j]? = some F → ∃ m, fs[j]? = some (F.offset, m) ∧ ∀ w, (sizeOf F.type).run P w = .ok m w := by
  induction h with
  | n => simp
  | c h t ih =>
    intro j F hj
    cases j with
    | zero => simp_all
    | succ j => grind
theorem StF.run {Fs : List Field} {fs : List (Nat × Nat)} (h : StF P Fs fs) (w : World) : (Fs.mapM fun f => (do pure (f.offset, ← sizeOf f.type) : Sem (Nat × Nat))).run P w = .ok fs w := by
  induction h with
  | n => simp
  | c h t ih => simp_all
theorem TOk.nil : TOk P [] := ⟨fun _ _ h => (by cases h), fun _ _ h => (by cases h), fun _ _ h => (by cases h), fun _ _ h => (by cases h)⟩
theorem TOk.add {k : TK} {d : TypeDesc} (hu : P.underlying t = some d) (hk : match k with
    | .i k => d = .int k
    | .b => d = .bool
    | .st fs => ∃ Fs : Array Field, d = .struct Fs ∧ Fs.toList.map (·.offset) = fs.map (·.1) ∧ (∀ (j : Nat) F, Fs[j]? = some F → ∃ m, fs[j]? = some (F.offset, m) ∧ ∀ w, (sizeOf F.type).run P w = .ok m w) ∧ ∀ w, (Fs.mapM fun f => (do pure (f.offset, ← sizeOf f.type) : Sem (Nat × Nat))).run P w = .ok fs.toArray w
    | .s => d = .string
    | .sl el => d = .slice el
    | .x => True) (ha : ∀ w, (isAgg t).run P w = .ok a w) (hs : ∀ w, (sizeOf t).run P w = .ok n w) (hz : ∀ w, (zeroValue t).run P w = .ok z w) (hc : mapO (cellV []) zs = some z.cells.toList) (h : TOk P T) : TOk P ((t, ⟨k, a, n, zs⟩) :: T) := by
  refine ⟨fun t' i hi => ?_, fun t' i hi => ?_, fun t' i hi => ?_, fun t' i hi => ?_⟩ <;> simp only [lkT] at hi <;> split at hi
  · grind [Nat.eq_of_beq_eq_true]
  · exact h.und t' i hi
  · grind [Nat.eq_of_beq_eq_true]
  · exact h.agg t' i hi
  · grind [Nat.eq_of_beq_eq_true]
  · exact h.size t' i hi
  · grind [Nat.eq_of_beq_eq_true]
  · exact h.zero t' i hi
theorem TOk.st {fs : List (Nat × Nat)} {Fs : List Field} (hu : P.underlying t = some (.struct Fs.toArray)) (hk : StF P Fs fs) (ha : ∀ w, (isAgg t).run P w = .ok a w) (hs : ∀ w, (sizeOf t).run P w = .ok n w) (hz : ∀ w, (zeroValue t).run P w = .ok z w) (hc : mapO (cellV []) zs = some z.cells.toList) (h : TOk P T) : TOk P ((t, ⟨.st fs, a, n, zs⟩) :: T) :=
  TOk.add (k := .st fs) hu ⟨Fs.toArray, rfl, by simpa using hk.off, fun j F hj => hk.get j F (by grind), fun w => by
    have := hk.run w
    simp_all⟩ ha hs hz hc h
end
abbrev I (x : Int) : SV := .i .i64 x
end Go.Gv
end
section
/-
  More of what a walk says. Nothing of a program here.
-/
namespace Go.Gv
section
variable {P : Program} {T : TT} {hT : TOk P T} {n : Nat} {c : Ctx} {B0 : Bl} {N : Act → World → Prop} {X : Nat → Act → World → Prop} {Q : Act → World → Prop} {K K' : List Fr} {m m' : Nat} {e e' : SE} {L L' : List Ch} {cf cf1 cf2 : Cfg} {o : Oper} {Lv : List Ch} {d : Nat}
theorem ext_nil : cf.ext [] = cf := by cases cf <;> simp [Cfg.ext]
/-- An operation that yields a value. -/
theorem pu {x : SV} (hs : opS (stq T n K cf m e L) = some (o, Lv, cf1, cf2, K', m', e', L')) (hd : o.dst = some d) (hv : ∀ B a w, AEnvS n B e' a → StS c w B Lv → ∃ v, toV B x = some v ∧ RunV P o (vE B e') w v w)
    (k : G (.mk P T hT n c B0 N X Q) K' m' ((d, x) :: e') L' cf2) : G (.mk P T hT n c B0 N X Q) K m e L cf := by
  refine stq_ok (g := .mk P T hT n c B0 N X Q) ?_
  have key : PStep (.mk P T hT n c B0 N X Q) K' m' e' L' o Lv cf1 cf2 → G (.mk P T hT n c B0 N X Q) K' m' e' L' cf1 := fun hP => by
    refine hP d x [] (fun _ => []) 0 hd (fun _ => rfl) (fun B a w hA hS _ => ?_) (fun B w L _ hS => by grind) (by grind [ext_nil])
    grind
  generalize stq T n K cf m e L = s at hs
  cases s <;> simp only [opS] at hs <;> cases hs
  · exact fun _ hP => key hP
  · exact fun _ hP _ => key hP
theorem numB {x : Operand} {k : IntKind} {i : Int} {B : Bl} {a : Act} (hA : AEnvS n B e a) (h : (evS e x).bind numI = some (k, i)) : ev (vE B e) x = some (.int k i) := by
  cases hx : evS e x with
  | none => grind
  | some y =>
    grind [evS_ok, num_ok]
section
variable {x y : Operand} {t z : TypeId} {k : IntKind} {i j : Int} {α : Type} {A : Option α} {q : α}
theorem qquo (hs : opS (stq T n K cf m e L) = some (o, Lv, cf1, cf2, K', m', e', L')) (ho : (o.op, o.dst) = (.binOp .quo t x y z, some d)) (hx : (evS e' x).bind numI = some (k, i)) (hy : (evS e' y).bind numI = some (k, j)) (hF : need (j ≠ 0) A = some q)
    (kk : A = some q → G (.mk P T hT n c B0 N X Q) K' m' ((d, .i k (k.wrap (i.tdiv j))) :: e') L' cf2) : G (.mk P T hT n c B0 N X Q) K m e L cf :=
  pu hs (congrArg Prod.snd ho) (fun B a w hA _ => ⟨_, rfl, rv_quo (congrArg Prod.fst ho) (numB hA hx) (numB hA hy) (needE hF).1⟩) (kk (needE hF).2)
theorem qrem (hs : opS (stq T n K cf m e L) = some (o, Lv, cf1, cf2, K', m', e', L')) (ho : (o.op, o.dst) = (.binOp .rem t x y z, some d)) (hx : (evS e' x).bind numI = some (k, i)) (hy : (evS e' y).bind numI = some (k, j)) (hF : need (j ≠ 0) A = some q)
    (kk : A = some q → G (.mk P T hT n c B0 N X Q) K' m' ((d, .i k (i.tmod j)) :: e') L' cf2) : G (.mk P T hT n c B0 N X Q) K m e L cf :=
  pu hs (congrArg Prod.snd ho) (fun B a w hA _ => ⟨_, rfl, rv_rem (congrArg Prod.fst ho) (numB hA hx) (numB hA hy) (needE hF).1⟩) (kk (needE hF).2)
theorem strB {x : Operand} {l : List UInt8} {B : Bl} {a : Act} (hA : AEnvS n B e a) (h : evS e x = some (.s l)) : ev (vE B e) x = some (sv l) := by
  obtain ⟨v, h1, h2⟩ := evS_ok hA h
  cases h1; exact h2
theorem cat {p r : List UInt8} (hs : opS (stq T n K cf m e L) = some (o, Lv, cf1, cf2, K', m', e', L')) (ho : (o.op, o.dst) = (.binOp .add t x y z, some d)) (hx : evS e' x = some (.s p)) (hy : evS e' y = some (.s r)) (hF : need (p.length + r.length ≤ 9223372036854775807) A = some q)
    (kk : A = some q → G (.mk P T hT n c B0 N X Q) K' m' ((d, .s (p ++ r)) :: e') L' cf2) : G (.mk P T hT n c B0 N X Q) K m e L cf :=
  pu hs (congrArg Prod.snd ho) (fun B a w hA _ => ⟨_, rfl, rv_cat (congrArg Prod.fst ho) (strB hA hx) (strB hA hy) (needE hF).1⟩) (kk (needE hF).2)
theorem aggB {x : Operand} {cs : List SV} {vs : List Value} {B : Bl} {a : Act} (hA : AEnvS n B e a) (h : (evS e x).map nbS = some (.g cs)) (hv : mapO (cellV []) cs = some vs) : ev (vE B e) x = some (.agg vs.toArray) := by
  cases hx : evS e x with
  | none => grind
  | some y =>
    rw [hx] at h
    simp at h
    obtain ⟨v, h1, h2⟩ := evS_ok hA hx
    rw [h2, ← h1, ← nbS_toV, h]
    simp only [toV, gV]
    have := mapO_mono (g := cellV B) (fun x v h => by simpa using cellV_app (B := []) B h) hv
    rw [this]
theorem eqS {xs ys : List SV} {vx vy : List Value} {fs : Array Field} {b : Bool} (hg : P.eqGuardType P.depth t = false) (hst : P.stoodInHeld t = false) (hu : P.underlying t = some (.struct fs)) (hb : ∀ w, (Op.eqFields 9999 vx.toArray vy.toArray (match P.underlying t with | some (.struct fs) => fs | _ => #[]).toList).run P w = .ok b w) (hs : opS (stq T n K cf m e L) = some (o, Lv, cf1, cf2, K', m', e', L')) (ho : (o.op, o.dst) = (.binOp .eql t x y z, some d)) (hx : (evS e' x).map nbS = some (.g xs)) (hy : (evS e' y).map nbS = some (.g ys)) (hvx : mapO (cellV []) xs = some vx) (hvy : mapO (cellV []) ys = some vy)
    (kk : G (.mk P T hT n c B0 N X Q) K' m' ((d, .b b) :: e') L' cf2) : G (.mk P T hT n c B0 N X Q) K m e L cf :=
  pu hs (congrArg Prod.snd ho) (fun B a w hA _ => ⟨_, rfl, rv_eqS hg hst hu hb (congrArg Prod.fst ho) (aggB hA hx hvx) (aggB hA hy hvy)⟩) kk
theorem neS {xs ys : List SV} {vx vy : List Value} {fs : Array Field} {b : Bool} (hg : P.eqGuardType P.depth t = false) (hst : P.stoodInHeld t = false) (hu : P.underlying t = some (.struct fs)) (hb : ∀ w, (Op.eqFields 9999 vx.toArray vy.toArray (match P.underlying t with | some (.struct fs) => fs | _ => #[]).toList).run P w = .ok b w) (hs : opS (stq T n K cf m e L) = some (o, Lv, cf1, cf2, K', m', e', L')) (ho : (o.op, o.dst) = (.binOp .neq t x y z, some d)) (hx : (evS e' x).map nbS = some (.g xs)) (hy : (evS e' y).map nbS = some (.g ys)) (hvx : mapO (cellV []) xs = some vx) (hvy : mapO (cellV []) ys = some vy)
    (kk : G (.mk P T hT n c B0 N X Q) K' m' ((d, .b (!b)) :: e') L' cf2) : G (.mk P T hT n c B0 N X Q) K m e L cf :=
  pu hs (congrArg Prod.snd ho) (fun B a w hA _ => ⟨_, rfl, rv_neqS hg hst hu hb (congrArg Prod.fst ho) (aggB hA hx hvx) (aggB hA hy hvy)⟩) kk
theorem rdA_nil {α : Type} [Rep α] {w : World} : RdA (cxAll w) ⟨none, 0⟩ ([] : List α) := rd_nil
theorem cl0 {α β : Type} {fo : Option α} {kf : α → Option β} {q : β} {f : FuncId} {xs : List SV} {sv : α → SV} (hs : stq T n K cf m e L = .call o (some d) f xs cf1 cf2 K' m' e' L')
    (hc : ∀ {w}, HS c w L' → ∀ {x}, fo = some x → Fn0 P f (cxAll w) xs sv x) (hF : fo.bind kf = some q)
    (k : ∀ x, fo = some x → kf x = some q → G (.mk P T hT n c B0 N X Q) K' m' ((d, sv x) :: e') L' cf2) : G (.mk P T hT n c B0 N X Q) K m e L cf :=
  cl (Lf := fun _ _ => []) hs (fun _ _ => rfl) (fun h => hc h) hF (fun x hx hk _ => by grind)
/-- A loop that ends by 'return' alone. -/
theorem lr {σ ρ υ α : Type} {id : Nat} {y : Code} {fb : σ → Option (Step σ ρ)} {s0 : σ} {gk : ρ → Option α} {q : α} (u0 : υ) (ks : List Nat) (el : σ → υ → SE) (is0 is : List Nat) (Ll : σ → υ → List Ch)
    (hs : stq T n K cf m e L = .loop id y K' m' e' L') (hF : (loop fb s0).bind gk = some q)
    (h0 : asT B0.length m' e' L' is0 m' (el s0 u0 ++ kp e' ks) (Ll s0 u0 ++ kl L' is) = some (el s0 u0 ++ kp e' ks, Ll s0 u0 ++ kl L' is))
    (k1 : ∀ ro, gk ro = some q → ∀ s u o, fb s = some o → (∀ p, o = .stop p → p = ro) → G (.mk P T hT n c B0 (NxP n c B0 o m' (fun s u => el s u ++ kp e' ks) (fun s u => Ll s u ++ kl L' is)) (BkP n c B0 ro (fun b : Empty => nomatch b) m' (fun (b : Empty) (_ : Unit) => nomatch b) (fun b _ => nomatch b) id (XK (.mk P T hT n c B0 N X Q) K')) Q) [] m' (el s u ++ kp e' ks) (Ll s u ++ kl L' is) (.c y)) : G (.mk P T hT n c B0 N X Q) K m e L cf :=
  lp (β := Empty) (ω := Unit) u0 ks el is0 is Ll (fun b => nomatch b) [] (fun b => nomatch b) [] (fun b => nomatch b) hs hF h0 (fun ro hro s u o hb ho => by
    have := k1 ro hro s u o hb ho
    have h1 : (fun (b : Empty) (u : Unit) => ((fun b => nomatch b : Empty → Unit → SE) b u ++ kp e' [])) = (fun (b : Empty) (_ : Unit) => nomatch b) := funext fun b => nomatch b
    have h2 : (fun (b : Empty) (u : Unit) => ((fun b => nomatch b : Empty → Unit → List Ch) b u ++ kl L' [])) = (fun (b : Empty) (_ : Unit) => nomatch b) := funext fun b => nomatch b
    simp_all) (fun b => nomatch b)
end
end
end Go.Gv
end
