/-
  One-cell values taken raw, and the row that a Grow makes. Nothing of a program here.
-/
import Derived.Test.YtpndngnohcffnaaGreatGvStr
import Derived.Deep.Slices
set_option linter.unusedVariables false
set_option linter.unusedSimpArgs false
namespace Go.Gv

/-- A one-cell value, whatever it leads to. -/
structure Raw where
  v : Value
instance : Inhabited Raw := ⟨⟨.slice none 0 0⟩⟩
instance : Rep Raw where
  n := 1
  rd := fun _ _ cs x => cs = [x.v] ∧ x.v.oneCell' = true
  own := fun _ cs x F => (cs = [x.v] ∧ x.v.oneCell' = true) ∧ ∀ b o, ¬ F b o
  rd_len := fun h => by simp [h.1]
  rd_one := fun h v hv => by rw [h.1] at hv; simp at hv; rw [hv]; exact h.2
  rd_agree := fun h _ => h
  rd_mono := fun h _ => h
  own_rd := fun h => h.1
  own_keep := fun h _ _ => h
  own_lt := fun h hf => (h.2 _ _ hf).elim
instance : Flat Raw := ⟨fun h => ⟨h, fun _ _ h => h⟩, fun h => h.2⟩

/-- Values that read as l, one by one. -/
def RawRel {α : Type} [Rep α] (S : Foot) (w : World) (us : List Raw) (l : List α) : Prop := us.length = l.length ∧ ∀ (i : Nat) (u : Raw) (x : α), us[i]? = some u → l[i]? = some x → Rep.rd S w [u.v] x
theorem RawRel.append {α : Type} [Rep α] {S : Foot} {w : World} {us vs : List Raw} {l m : List α} (h : RawRel S w us l) (k : RawRel S w vs m) : RawRel S w (us ++ vs) (l ++ m) := by
  refine ⟨by simp [h.1, k.1], fun i u x hu hx => ?_⟩
  rw [List.getElem?_append] at hu hx
  rw [h.1] at hu
  split at hu
  · rename_i hlt; rw [if_pos hlt] at hx; exact h.2 i u x hu hx
  · rename_i hlt; rw [if_neg hlt] at hx; exact k.2 _ u x hu hx
/-- A slice of one-cell elements, read raw. -/
theorem rd_raw {α : Type} [Rep α] (hn : Rep.n α = 1) {S : Foot} {w : World} {s : Value} {l : List α} (h : Rep.rd S w [s] l) : ∃ us : List Raw, Rep.rd S w [s] us ∧ RawRel S w us l := by
  obtain ⟨ad, c, e, h1, h2, h3⟩ := (show rdSlice S w [s] l from h)
  rcases h3 with h3 | ⟨b, off, rfl, h3⟩
  · subst h3
    exact ⟨[], ⟨ad, c, e, h1, h2, .inl rfl⟩, rfl, fun i u x hu => by simp at hu⟩
  · have hv : ∀ i, i < l.length → ∃ v : Value, CellsAt w b (off + i * 1) [v] ∧ (∀ o, inRow b (off + i * 1) 1 b o → S b o) ∧ v.oneCell' = true ∧ ∀ x, l[i]? = some x → Rep.rd S w [v] x := fun i hi => by
      obtain ⟨ec, q1, q2, q3⟩ := h3 i hi
      have hl := Rep.rd_len q3
      rw [hn] at hl q1 q2
      obtain ⟨v, rfl⟩ := List.length_eq_one_iff.1 hl
      exact ⟨v, q1, q2, Rep.rd_one q3 v (by simp), fun x hx => by rw [List.getElem?_eq_getElem hi] at hx; cases hx; exact q3⟩
    obtain ⟨f, hf⟩ := Go.Deep.choose_lt (α := Value) hv
    refine ⟨(List.range l.length).map fun i => ⟨f i⟩, ⟨_, c, by rw [e]; simp, by simpa using h1, h2, .inr ⟨b, off, rfl, fun i hi => ?_⟩⟩, by simp, fun i u x hu hx => ?_⟩
    · have hi' : i < l.length := by simpa using hi
      refine ⟨[f i], (hf i hi').1, (hf i hi').2.1, ?_⟩
      simp only [List.getElem_map, List.getElem_range]
      exact ⟨rfl, (hf i hi').2.2.1⟩
    · have hi' : i < l.length := (List.getElem?_eq_some_iff.1 hx).1
      simp [hi'] at hu; subst hu
      exact (hf i hi').2.2.2 x hx
/-- .. and back. -/
theorem rd_unraw {α : Type} [Rep α] (hn : Rep.n α = 1) {S : Foot} {w : World} {s : Value} {us : List Raw} {l : List α} (h : Rep.rd S w [s] us) (hr : RawRel S w us l) : Rep.rd S w [s] l := by
  obtain ⟨ad, c, e, h1, h2, h3⟩ := (show rdSlice S w [s] us from h)
  have hl : us.length = l.length := hr.1
  refine ⟨ad, c, by rw [e, hl], hl ▸ h1, h2, ?_⟩
  rcases h3 with h3 | ⟨b, off, rfl, h3⟩
  · subst h3; left; exact List.eq_nil_of_length_eq_zero hl.symm
  · right
    refine ⟨b, off, rfl, fun i hi => ?_⟩
    obtain ⟨ec, q1, q2, q3⟩ := h3 i (by rw [hl]; exact hi)
    have q3 : ec = [(us[i]'(by rw [hl]; exact hi)).v] ∧ _ := q3
    refine ⟨ec, by rw [hn]; exact q1, by rw [hn]; exact q2, ?_⟩
    rw [q3.1]
    exact hr.2 i _ _ (List.getElem?_eq_getElem _) (List.getElem?_eq_getElem hi)

/-- A row of ours, whatever its cells hold. -/
def cRow (s : Value) (n : Nat) : Chunk where
  P := fun w F => ∃ b off len c, s = .slice (some ⟨b, off, none⟩) len c ∧ c ≤ maxLen ∧ Row w b off (c * n) ∧ ∀ b' o, F b' o ↔ inRow b off (c * n) b' o
  keep := by
    rintro w w' F G ⟨b, off, len, c, e, h1, h2, hF⟩ hk hd
    exact ⟨b, off, len, c, e, h1, fun o p => ⟨hk.stay b o (h2 o p).1, (hk.frz b o (lt_of_cell (h2 o p).1)).trans (h2 o p).2⟩, hF⟩
  lt := by
    rintro w F b' o ⟨b, off, len, c, e, h1, h2, hF⟩ hf
    have p := (hF b' o).1 hf
    obtain rfl : b' = b := p.1
    exact lt_of_cell (h2 o p).1
section
variable {v : Value} {k k2 : IntKind} {i j : Int} {P : Program} {o : Oper} {e : Env} {w w' : World} {c : Ctx} {L : List Chunk} {R : List Fact} {x y z : Operand} {t t2 el : TypeId}
theorem St.el_Slice {α : Type} [Rep α] {s : Value} {l : List (List α)} {n : Nat} {q : List α} (h : St c w L R) (m : Nat) (hm : R[m]? = some (fRd [s] l)) (hq : l[n]? = some q) : ∃ v0 : Value, CellsAt w (elB s) (elO 1 n s) [v0] ∧ St c w L (R ++ [fRd [v0] q]) := by
  obtain ⟨S, hS, hk⟩ := h.factS hm
  obtain ⟨ec, h1, h2⟩ := rd_el hS hq
  obtain ⟨v0, rfl⟩ := rd_one_cell h2
  exact ⟨v0, h1, hk _ (by intro f hf; simp only [List.mem_cons, List.not_mem_nil, or_false] at hf; subst hf; exact h2)⟩
theorem St.rowNil (h : St c w L R) {α : Type} [Rep α] {s : Value} {n : Nat} (m : Nat) (hm : L[m]? = some (cRow s n)) (hn : Rep.n α = n) : St c w (L.set m (cOwn [subV n 0 0 s] ([] : List α))) R :=
  h.turn m hm fun F hF => by
    obtain ⟨b, off, len, cp, rfl, h1, h2, hF⟩ := hF
    have e : subV n 0 0 (.slice (some ⟨b, off, none⟩) len cp) = .slice (some ⟨b, off, none⟩) 0 cp := by
      simp [subV, Addr.add]
    subst hn
    refine ⟨fun b' o' => inRow b off (cp * Rep.n α) b' o' ∨ F0 b' o', F0, Keep.refl _ _, fun _ _ h => h.elim, ?_, fun b' o' q => .inl ((hF b' o').2 (q.elim id fun q => q.elim))⟩
    show Rep.own w [_] ([] : List α) _
    rw [e]
    exact own_of_row (l := ([] : List α)) (cc := []) (Fe := F0) h2 (fun j v h => by simp at h) ⟨rfl, fun _ _ h => h⟩ (fun _ _ h => h.elim) (Nat.zero_le _) h1
theorem rv_capnil (hu : P.underlying t = some (.slice el)) (ho : o.op = .call { callee := .builtin .cap, args := #[x], argTypes := #[t] }) (hx : ev e x = some (.slice none 0 0)) : RunV P o e w (.int .i64 0) w := fun _ a hA => by
  simp [execOp, ho, resolve, invoke, builtin, Builtin.cap_, hA.eval hx, run_underlying hu, goInt]
/-- append(nil, make([]T, n)...) -/
theorem rv_appZ {z : Value} {m : Nat} (hS : St c w L R) (hu : P.underlying t = some (.slice el)) (hut : P.underlying t2 = some (.int k)) (hinf : Inf P el m z) (hzs : z.cells.size = m) (hm : Nat.ble 1 m = true)
    (hb : 1 ≤ i ∧ i ≤ 1073741824) (ho : o.op = .call { callee := .builtin .append, args := #[x, y], argTypes := #[t, t2] }) (hx : ev e x = some (.slice none 0 0)) (hy : ev e y = some (.int .i64 i)) :
    ∃ v w', RunV P o e w v w' ∧ St c w' (L ++ [cRow v m]) R := by
  obtain ⟨ti, hti, hz, hsz, hby⟩ := hinf
  obtain ⟨b0, b1⟩ := hb
  have hw : IntKind.i64.wrap i = i := by simp [IntKind.wrap, IntKind.bits, IntKind.signed]; split <;> omega
  have hn0 : ¬ (i.toNat ≤ 0) := by omega
  have hbytes : i.toNat * ti.bytes ≤ 140737488355328 := by
    have : i.toNat * ti.bytes ≤ 1073741824 * 65536 := Nat.mul_le_mul (by omega) hby
    omega
  have hfit := growslice_fits (need := i.toNat) (old := 0) (bytes := ti.bytes) (by omega) hbytes
  obtain ⟨hge, hle⟩ : i.toNat ≤ grownCap w i.toNat 0 el ∧ grownCap w i.toNat 0 el ≤ maxLen := ⟨grownCap_ge _ _ _ _, grownCap_le_maxLen _ _ _ _ (by unfold maxLen; omega)⟩
  have hrun : ∃ cs : Array Value, cs.size = grownCap w i.toNat 0 el * m ∧ (Builtin.append_ #[t, t2] o.type #[.slice none 0 0, .int .i64 i]).run P w = .ok (.slice (some ⟨w.heap.size, 0, none⟩) i.toNat (grownCap w i.toNat 0 el)) (w.drew.alloc (.cells cs el)) := by
    have hn2 : ¬ (i ≤ 0) := by omega
    have hi : (i.toNat : Int) = i := by omega
    have h63' : ¬ (9223372036854775807 < i) := by omega
    have h48' : ¬ (281474976710656 < Builtin.nextslicecap i.toNat 0 * ti.bytes) := by omega
    have h48 : ¬ (281474976710656 < i * (ti.bytes : Int)) := by
      have h2 : ((i.toNat * ti.bytes : Nat) : Int) ≤ 140737488355328 := by omega
      rw [Int.natCast_mul, hi] at h2
      omega
    have hneg : ¬ (i < 0) := by omega
    have hmax : max i 0 = i := by omega
    have hm1 := Nat.le_of_ble_eq_true hm
    have hnm : ¬ (i.toNat * m = 0) := by
      intro h; rcases Nat.mul_eq_zero.1 h with h | h <;> omega
    refine ⟨Builtin.zeroCells z.cells i.toNat ++ Builtin.zeroCells z.cells (grownCap w i.toNat 0 el - i.toNat), ?_, ?_⟩
    rotate_left 1
    · have hf1 : (Builtin.firstCells m 0 (.slice none 0 0)).run P w.drew = .ok #[] w.drew := rfl
      simp [Builtin.append_, run_underlying hu, run_underlying hut, sizeOf, typeInfo, zeroValue, hti, hz, hsz, Builtin.lenOf, asInt, asIntOf, hw, hneg, h48, hn0, h63', h48', Question.forced, newRow, grownCap, hf1, hnm, hi, hn2, hmax]
    · rw [Array.size_append, size_zeroCells, size_zeroCells, hzs, ← Nat.add_mul]
      congr 1; omega
  obtain ⟨cs, hcs, hrun⟩ := hrun
  refine ⟨.slice (some ⟨w.heap.size, 0, none⟩) i.toNat (grownCap w i.toNat 0 el), w.drew.alloc (.cells cs el), fun _ a hA => ?_, ?_⟩
  rotate_left 1
  · refine (hS.same (Keep.drew F0 w)).more (Keep.alloc _ _ _) ⟨inRow w.heap.size 0 (grownCap w i.toNat 0 el * m), ⟨_, _, _, _, rfl, hle, fun o' p => ?_, fun _ _ => Iff.rfl⟩, fun b o' p => Nat.le_of_eq p.1.symm⟩
    obtain ⟨_, _, h3⟩ := p
    refine ⟨?_, World.frozen?_alloc_at (hn := rfl) ..⟩
    have h4 : (w.drew.alloc (.cells cs el)).cell? ⟨w.drew.heap.size, o', none⟩ = cs[o']? := by rw [World.cell?_alloc_at (hn := rfl)]
    have h5 : (w.drew.alloc (.cells cs el)).cell? ⟨w.heap.size, o', none⟩ = cs[o']? := h4
    rw [h5, Array.getElem?_eq_getElem (by omega)]; rfl
  · simp [execOp, ho, resolve, invoke, builtin, hA.eval hx, hA.eval hy, hrun]
theorem rv_sub0 {s : Value} {n : Nat} (h : ∃ ad len cp, s = .slice ad len cp) (hu : P.underlying t = some (.slice el)) (hz : ∀ w, (sizeOf el).run P w = .ok n w) (ho : o.op = .slice t x none (some z) none) (hx : ev e x = some s) (hw : ev e z = some (.int k2 0)) : RunV P o e w (subV n 0 0 s) w := fun _ a hA => by
  obtain ⟨ad, len, cp, rfl⟩ := h
  simp [execOp, ho, Instr.sliceAt, Instr.slice, run_underlying hu, Instr.sliceBounds, hA.eval hx, hA.eval hw, Instr.sliceBound, asIntOf, hz, subV]
theorem St.rowShape (h : St c w L R) {s : Value} {n : Nat} (m : Nat) (hm : L[m]? = some (cRow s n)) : ∃ ad len cp, s = .slice ad len cp := by
  obtain ⟨F, b, off, len, cp, e, _⟩ := h.chunk m hm
  exact ⟨_, _, _, e⟩
/-- .. that stays so. -/
def fRel {α : Type} [Rep α] (us : List Raw) (l : List α) : Fact where
  P := fun S w => RawRel S w us l
  agree := fun h ha => ⟨h.1, fun i u x hu hx => Rep.rd_agree (h.2 i u x hu hx) ha⟩
  mono := fun h ha => ⟨h.1, fun i u x hu hx => Rep.rd_mono (h.2 i u x hu hx) ha⟩
theorem St.factsS (h : St c w L R) : ∃ S, (∀ f ∈ R, f.P S w) ∧ (∀ b o, S b o → b < w.heap.size) ∧ ∀ Gs : List Fact, (∀ g ∈ Gs, g.P S w) → St c w L (R ++ Gs) := by
  obtain ⟨F, S, a1, a2, a3, a4, a5, a6⟩ := h.sep
  refine ⟨S, a6, a5, fun Gs hG => ⟨h.keep, ⟨F, S, a1, a2, a3, a4, a5, fun g hg => ?_⟩, h.apart⟩⟩
  rcases List.mem_append.1 hg with hg | hg
  · exact a6 g hg
  · exact hG g hg
/-- A row of raw values that is a fact, read as the slices that they lead to: two of them; what they hold stays known. -/
theorem St.concat2 (h : St c w L R) {α : Type} [Rep α] (hn : Rep.n α = 1) {s s1 s2 : Value} {a b : List α} (m m1 m2 : Nat) (hm : R[m]? = some (fRd [s] ([⟨s1⟩, ⟨s2⟩] : List Raw))) (hm1 : R[m1]? = some (fRd [s1] a)) (hm2 : R[m2]? = some (fRd [s2] b)) :
    ∃ u1 u2 : List Raw, Rep.rd (All w) w [s] ([u1, u2] : List (List Raw)) ∧ (u1.length = a.length ∧ u2.length = b.length) ∧ St c w L (R ++ [fRel (u1 ++ u2) (a ++ b)]) := by
  obtain ⟨S, hS, hlt, hk⟩ := h.factsS
  have h0 : Rep.rd S w [s] ([⟨s1⟩, ⟨s2⟩] : List Raw) := hS _ (List.mem_of_getElem? hm)
  obtain ⟨u1, k1, r1⟩ := rd_raw hn (show Rep.rd S w [s1] a from hS _ (List.mem_of_getElem? hm1))
  obtain ⟨u2, k2, r2⟩ := rd_raw hn (show Rep.rd S w [s2] b from hS _ (List.mem_of_getElem? hm2))
  refine ⟨u1, u2, Rep.rd_mono (rd_unraw rfl h0 ⟨rfl, fun i u q hu hq => ?_⟩) hlt, ⟨r1.1, r2.1⟩, hk _ fun g hg => ?_⟩
  · match i, hu, hq with
    | 0, hu, hq => simp at hu hq; subst hu; subst hq; exact k1
    | 1, hu, hq => simp at hu hq; subst hu; subst hq; exact k2
    | i + 2, hu, hq => simp at hu
  · simp only [List.mem_cons, List.not_mem_nil, or_false] at hg; subst hg; exact r1.append r2
theorem St.unraw (h : St c w L R) {α : Type} [Rep α] (hn : Rep.n α = 1) {s : Value} {us : List Raw} {l : List α} (m m' : Nat) (hm : R[m]? = some (fRd [s] us)) (hm' : R[m']? = some (fRel us l)) : St c w L (R ++ [fRd [s] l]) := by
  obtain ⟨S, hS, hlt, hk⟩ := h.factsS
  refine hk _ fun g hg => ?_
  simp only [List.mem_cons, List.not_mem_nil, or_false] at hg; subst hg
  exact rd_unraw hn (show Rep.rd S w [s] us from hS _ (List.mem_of_getElem? hm)) (hS _ (List.mem_of_getElem? hm'))
theorem fill_two {zv v c0 v' c1 : Value} (hc : v.cells = #[c0]) (hc' : v'.cells = #[c1]) : Instr.fill (fun i => some (i * 1, 1)) ((Array.range (2 * 1)).map (fun i => (if 2 * 1 = 0 then #[] else zv.cells)[i % (if 2 * 1 = 0 then #[] else zv.cells).size]!)) [(0, v), (1, v')] = some #[c0, c1] := by
  have h1 : Array.range 2 = #[0, 1] := rfl
  simp [Instr.fill, hc, hc', h1]
theorem cells_of_rd {α : Type} [Rep α] {S : Foot} {w : World} {v : Value} {l : List α} (h : Rep.rd S w [v] l) : v.cells = #[v] := Array.toList_inj.1 (by simpa using cells_rd h)
/-- [][]T{x, y} of two slices that others hold: a row of raw values. -/
theorem rv_litRaw2 {α β : Type} [Rep α] [Rep β] {S : Foot} {x y : Operand} {v1 v2 zv : Value} {a : List α} {b : List β} (hS : St c w L R) (h1 : Rep.rd S w [v1] a) (h2 : Rep.rd S w [v2] b) (hu : P.underlying t = some (.slice el)) (hinf : Inf P el 1 zv)
    (ho : o.op = .buildSlice t 2 #[(0, x), (1, y)]) (hx : ev e x = some v1) (hy : ev e y = some v2) :
    ∃ v w', RunV P o e w v w' ∧ St c w' (L ++ [cOwn [v] ([⟨v1⟩, ⟨v2⟩] : List Raw)]) R := by
  refine rv_lit (α := Raw) (ps := [(0, x), (1, y)]) (vs := [v1, v2]) (cells := [v1, v2]) [⟨v1⟩, ⟨v2⟩] hS rfl hu hinf rfl (by rfl) (by rfl) ⟨⟨rfl, one_rd h1⟩, ⟨rfl, one_rd h2⟩, rfl⟩ ho (by simp [evs, hx, hy]) ?_
  exact fill_two (cells_of_rd h1) (cells_of_rd h2)
end
end Go.Gv
