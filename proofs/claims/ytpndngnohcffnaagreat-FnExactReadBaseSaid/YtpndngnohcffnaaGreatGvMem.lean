/-
  make, append, stores into elements, for slices of ours. Nothing of a program here.
-/
import Derived.Test.YtpndngnohcffnaaGreatGvMore
namespace Go.Gv

/-- A type without memory behind it. -/
class Flat (α : Type) [Rep α] : Prop where
  own_of : ∀ {S : Foot} {w w' : World} {cs : List Value} {d : α}, Rep.rd S w cs d → Rep.own w' cs d F0
  no : ∀ {w : World} {cs : List Value} {d : α} {F : Foot}, Rep.own w cs d F → ∀ b o, ¬ F b o
instance : Flat Int := ⟨fun h => ⟨h, fun _ _ h => h⟩, fun h => h.2⟩
instance : Flat Bool := ⟨fun h => ⟨h, fun _ _ h => h⟩, fun h => h.2⟩
instance : Flat UInt8 := ⟨fun h => ⟨h, fun _ _ h => h⟩, fun h => h.2⟩
instance : Flat GStr := ⟨fun h => ⟨h, fun _ _ h => h⟩, fun h => h.2⟩
instance {α β : Type} [Rep α] [Rep β] [Flat α] [Flat β] : Flat (α × β) := ⟨by
  rintro S w w' cs d ⟨c1, c2, rfl, h1, h2⟩
  exact ⟨c1, c2, F0, F0, rfl, Flat.own_of h1, Flat.own_of h2, fun _ _ h _ => h, fun _ _ => by simp [F0]⟩, by
  rintro w cs d F ⟨c1, c2, F1, F2, _, h1, h2, _, hF⟩ b o h
  exact ((hF b o).1 h).elim (Flat.no h1 b o) (Flat.no h2 b o)⟩
/-- What has no memory behind it owns none. -/
theorem flat_own {α : Type} [Rep α] [Flat α] {w w' : World} {cs : List Value} {d : α} {F : Foot} (h : Rep.own w cs d F) : Rep.own w' cs d F0 := Flat.own_of (Rep.own_rd h)

/-- The cells of a slice's elements, one behind the other. -/
def seg (cc : List Value) (n i : Nat) : List Value := (cc.drop (i * n)).take n
theorem seg_get {cc : List Value} {n i j : Nat} (hj : j < n) : (seg cc n i)[j]? = cc[i * n + j]? := by
  unfold seg; rw [List.getElem?_take, if_pos hj, List.getElem?_drop]
theorem seg_length {cc : List Value} {n i len : Nat} (hc : cc.length = len * n) (hi : i < len) : (seg cc n i).length = n := by
  unfold seg
  rw [List.length_take, List.length_drop, hc]
  have : (i + 1) * n ≤ len * n := Nat.mul_le_mul_right n (by omega)
  rw [Nat.add_mul] at this
  omega
theorem cells_some {w : World} {b off : Nat} : ∀ (k : Nat), (∀ j, j < k → (w.cell? ⟨b, off + j, none⟩).isSome = true) → ∃ cc : List Value, cc.length = k ∧ CellsAt w b off cc
  | 0, _ => ⟨[], rfl, fun j v h => by simp at h⟩
  | k + 1, h => by
    obtain ⟨cc, h1, h2⟩ := cells_some k fun j hj => h j (by omega)
    obtain ⟨v, hv⟩ := Option.isSome_iff_exists.1 (h k (by omega))
    refine ⟨cc ++ [v], by simp [h1], fun j u hj => ?_⟩
    rw [List.getElem?_append] at hj
    split at hj
    · exact h2 j u hj
    · rename_i hlt
      rw [h1] at hj hlt
      have : j = k := by
        have := (List.getElem?_eq_some_iff.1 hj).1
        simp at this; omega
      subst this
      simp at hj; subst hj; exact hv
theorem cells_eq {w : World} {b off n i : Nat} {cc ec : List Value} (h : CellsAt w b off cc) (h2 : CellsAt w b (off + i * n) ec) (he : ec.length = n) (hc : (i + 1) * n ≤ cc.length) : seg cc n i = ec := by
  rw [Nat.add_mul] at hc
  apply List.ext_getElem?
  intro j
  by_cases hj : j < n
  · rw [seg_get hj]
    have h3 := h (i * n + j) cc[i * n + j] (List.getElem?_eq_getElem (by omega))
    have h4 := h2 j ec[j] (List.getElem?_eq_getElem (by omega))
    rw [show off + i * n + j = off + (i * n + j) from by omega, h3] at h4
    rw [List.getElem?_eq_getElem (by omega), List.getElem?_eq_getElem (by omega)]
    exact h4
  · rw [List.getElem?_eq_none (by unfold seg; simp; omega), List.getElem?_eq_none (by omega)]
/-- All cells of a slice that reads as l. -/
theorem rd_cells {α : Type} [Rep α] {S : Foot} {w : World} {s : Value} {l : List α} (h : Rep.rd S w [s] l) : ∃ ad c cc, s = .slice ad l.length c ∧ cc.length = l.length * Rep.n α ∧ (l = [] ∨ ∃ b off, ad = some ⟨b, off, none⟩ ∧ CellsAt w b off cc) ∧ ∀ i x, l[i]? = some x → Rep.rd S w (seg cc (Rep.n α) i) x := by
  obtain ⟨ad, c, h1, h2, h3, h4⟩ := (show rdSlice S w [s] l from h)
  simp at h1; subst h1
  rcases h4 with h4 | ⟨b, off, rfl, h4⟩
  · subst h4; exact ⟨ad, c, [], rfl, by simp, .inl rfl, fun i x h => by simp at h⟩
  · have hs : ∀ j, j < l.length * Rep.n α → (w.cell? ⟨b, off + j, none⟩).isSome = true := fun j hj => by
      have hn : 0 < Rep.n α := by rcases Nat.eq_zero_or_pos (Rep.n α) with h | h; rw [h] at hj; omega; exact h
      have hi : j / Rep.n α < l.length := (Nat.div_lt_iff_lt_mul hn).2 hj
      obtain ⟨ec, e1, _, e2⟩ := h4 _ hi
      have hm := Nat.mod_lt j hn
      have hl := Rep.rd_len e2
      have := e1 (j % Rep.n α) ec[j % Rep.n α] (List.getElem?_eq_getElem (by omega))
      rw [show off + j / Rep.n α * Rep.n α + j % Rep.n α = off + j from by have := Nat.div_add_mod j (Rep.n α); rw [Nat.mul_comm] at this; omega] at this
      rw [this]; rfl
    obtain ⟨cc, c1, c2⟩ := cells_some _ hs
    refine ⟨_, c, cc, rfl, c1, .inr ⟨b, off, rfl, c2⟩, fun i x hx => ?_⟩
    obtain ⟨hi, rfl⟩ := List.getElem?_eq_some_iff.1 hx
    obtain ⟨ec, e1, _, e2⟩ := h4 i hi
    rw [cells_eq c2 e1 (Rep.rd_len e2) (by rw [c1]; exact Nat.mul_le_mul_right _ (by omega))]
    exact e2
section
variable {P : Program} {o : Oper} {e : Env} {w w' : World} {c : Ctx} {L : List Chunk} {R : List Fact} {x y : Operand} {t el : TypeId}

theorem one_seg {α : Type} [Rep α] {S : Foot} {cc : List Value} {l : List α} (hc : cc.length = l.length * Rep.n α) (h : ∀ i x, l[i]? = some x → Rep.rd S w (seg cc (Rep.n α) i) x) : ∀ v ∈ cc, v.oneCell' = true := by
  intro v hv
  obtain ⟨j, hj, rfl⟩ := List.getElem_of_mem hv
  have hn : 0 < Rep.n α := by rcases Nat.eq_zero_or_pos (Rep.n α) with h | h; rw [h] at hc; omega; exact h
  have hi : j / Rep.n α < l.length := (Nat.div_lt_iff_lt_mul hn).2 (by omega)
  have hm := Nat.mod_lt j hn
  refine Rep.rd_one (h _ _ (List.getElem?_eq_getElem hi)) _ (List.mem_of_getElem? (i := j % Rep.n α) ?_)
  rw [seg_get hm, show j / Rep.n α * Rep.n α + j % Rep.n α = j from by have := Nat.div_add_mod j (Rep.n α); rw [Nat.mul_comm] at this; omega]
  exact List.getElem?_eq_getElem hj

/-- A row of ours, of flat elements. -/
theorem own_row {α : Type} [Rep α] [Flat α] {S : Foot} {w w0 : World} {b off cap : Nat} {cc : List Value} {l : List α} (hc : CellsAt w b off cc) (hcl : cc.length = l.length * Rep.n α) (hr : ∀ i x, l[i]? = some x → Rep.rd S w0 (seg cc (Rep.n α) i) x) (hlen : l.length ≤ cap) (hmax : cap ≤ maxLen)
    (hrow : ∀ o, inRow b off (cap * Rep.n α) b o → (w.cell? ⟨b, o, none⟩).isSome = true ∧ w.frozen? ⟨b, o, none⟩ = false) : Rep.own w [.slice (some ⟨b, off, none⟩) l.length cap] l (inRow b off (cap * Rep.n α)) := by
  refine ⟨_, cap, rfl, hlen, hmax, .inr ⟨b, off, fun _ => F0, rfl, hrow, fun i hi => ⟨seg cc (Rep.n α) i, ?_, Flat.own_of (hr i l[i] (List.getElem?_eq_getElem hi))⟩, fun _ _ _ _ _ _ _ h _ => h, fun _ _ _ _ h _ => h, fun b' o => by simp [F0]⟩⟩
  intro j v hj
  have hlt := (List.getElem?_eq_some_iff.1 hj).1
  rw [seg_length hcl hi] at hlt
  rw [seg_get hlt] at hj
  have := hc _ v hj
  rw [show off + i * Rep.n α + j = off + (i * Rep.n α + j) from by omega]; exact this

/-- The nil slice is ours. -/
theorem St.nilOwn (h : St c w L R) {α : Type} [Rep α] : St c w (L ++ [cOwn [.slice none 0 0] ([] : List α)]) R :=
  h.more (Keep.refl _ _) ⟨F0, ⟨none, 0, rfl, Nat.le_refl _, Nat.zero_le _, .inl ⟨rfl, rfl, fun _ _ h => h⟩⟩, fun _ _ h => h.elim⟩

/-- A new row. -/
theorem new_row {α : Type} [Rep α] [Flat α] {S : Foot} (w0 : World) (hS : St c w L R) (cells : List Value) (rest : List Value) (l : List α) (cap : Nat) (ty : TypeId) (hc : cells.length = l.length * Rep.n α) (hr : ∀ i x, l[i]? = some x → Rep.rd S w0 (seg cells (Rep.n α) i) x) (hcap : (cells ++ rest).length = cap * Rep.n α) (hlen : l.length ≤ cap) (hmax : cap ≤ maxLen) :
    St c (w.alloc (.cells (cells ++ rest).toArray ty)) (L ++ [cOwn [.slice (some ⟨w.heap.size, 0, none⟩) l.length cap] l]) R := by
  have hcell : ∀ j, (w.alloc (.cells (cells ++ rest).toArray ty)).cell? ⟨w.heap.size, j, none⟩ = (cells ++ rest)[j]? := fun j => by rw [World.cell?_alloc_at (hn := rfl)]; simp
  refine hS.more (Keep.alloc _ _ _) ⟨_, own_row (w0 := w0) (cc := cells) (fun j v hj => ?_) hc hr hlen hmax (fun o' ho => ?_), fun b o' hb => Nat.le_of_eq hb.1.symm⟩
  · rw [Nat.zero_add, hcell, List.getElem?_append_left (List.getElem?_eq_some_iff.1 hj).1]; exact hj
  · obtain ⟨_, _, h3⟩ := ho
    refine ⟨?_, World.frozen?_alloc_at (hn := rfl) ..⟩
    rw [hcell, List.getElem?_eq_getElem (by omega)]; rfl

/-- What is known of an element type. -/
def Inf (P : Program) (el : TypeId) (m : Nat) (z : Value) : Prop := ∃ ti, P.info? el = some ti ∧ ti.zero = some z ∧ ti.size = m ∧ ti.bytes ≤ 65536
theorem inf_of {el m b : Nat} {z : Value} (h : (P.info? el).map (fun i => (i.zero, i.size, i.bytes)) = some (some z, m, b)) (hb : Nat.ble b 65536 = true) : Inf P el m z := by
  cases hi : P.info? el with
  | none => rw [hi] at h; cases h
  | some ti =>
    rw [hi] at h
    simp at h
    exact ⟨ti, hi, h.1, h.2.1, by rw [h.2.2]; exact Nat.le_of_ble_eq_true hb⟩

theorem seg_made {z : Value} {m k i : Nat} (hz : z.cells.size = m) (hi : i < k) : seg (madeCells z.cells (k * m)).toList m i = z.cells.toList := by
  apply List.ext_getElem?
  intro j
  by_cases hj : j < m
  · rw [seg_get hj]
    have h1 : i * m + j < k * m := by
      have : (i + 1) * m ≤ k * m := Nat.mul_le_mul_right m (by omega)
      rw [Nat.add_mul] at this; omega
    have h2 : (i * m + j) % m = j := by rw [Nat.mul_comm, Nat.mul_add_mod]; exact Nat.mod_eq_of_lt hj
    simp only [madeCells, Array.getElem?_toList, Array.getElem?_map]
    rw [Array.getElem?_range]
    simp only [h1, if_true, Option.map_some, hz, h2]
    rw [getElem!_pos z.cells j (by omega), Array.getElem?_eq_getElem (by omega)]
  · rw [List.getElem?_eq_none (by unfold seg; simp; omega), List.getElem?_eq_none (by simp; omega)]

/-- make([]T, n). -/
theorem rv_make {α : Type} [Rep α] [Flat α] {i : Int} {z : Value} {m : Nat} (zd : α) (hS : St c w L R) (hn : Rep.n α = m) (hu : P.underlying t = some (.slice el)) (hinf : Inf P el m z) (hzs : z.cells.size = m) (hzd : ∀ w, Rep.rd F0 w z.cells.toList zd)
    (h01 : 0 ≤ i ∧ i ≤ 4294967296) (ho : o.op = .makeSlice t x y) (hx : ev e x = some (.int .i64 i)) (hy : ev e y = some (.int .i64 i)) :
    ∃ v w', RunV P o e w v w' ∧ St c w' (L ++ [cOwn [v] (List.replicate i.toNat zd)]) R := by
  obtain ⟨h0, h1⟩ := h01
  subst hn
  obtain ⟨ti, hi, hz, hsz, hby⟩ := hinf
  have hb : (ti.bytes : Int) * i ≤ 281474976710656 := by
    have : (ti.bytes : Int) * i ≤ 65536 * 4294967296 := Int.mul_le_mul (by omega) h1 h0 (by omega)
    omega
  have hr := run_make (P := P) w t el ti z hu hi hz .i64 .i64 i i h0 (Int.le_refl _) hb (by omega)
  rw [hsz] at hr
  refine ⟨.slice (some ⟨w.heap.size, 0, none⟩) i.toNat i.toNat, w.alloc (.cells (madeCells z.cells (i.toNat * Rep.n α)) el), fun _ a hA => ?_, ?_⟩
  rotate_left 1
  · have h := new_row (S := F0) w hS (madeCells z.cells (i.toNat * Rep.n α)).toList [] (List.replicate i.toNat zd) i.toNat el (by simp [size_madeCells]) (fun j q hj => by
      have hlt := (List.getElem?_eq_some_iff.1 hj).1
      rw [List.length_replicate] at hlt
      rw [List.getElem?_replicate, if_pos hlt] at hj
      simp at hj; subst hj
      rw [seg_made hzs hlt]; exact hzd w) (by simp [size_madeCells]) (by simp) (by unfold maxLen; omega)
    simp only [List.append_nil, List.length_replicate] at h
    exact h
  · simp [execOp, ho, hA.eval hx, hA.eval hy, hr]

theorem run_first {α : Type} [Rep α] {ad : Option Addr} {n k : Nat} {cc : List Value} {m : Nat} (hc : cc.length = n * m) (h : n = 0 ∨ ∃ b off, ad = some ⟨b, off, none⟩ ∧ CellsAt w b off cc) : (Builtin.firstCells m n (.slice ad n k)).run P w = .ok cc.toArray w := by
  rcases h with h | ⟨b, off, rfl, h⟩
  · subst h
    have : cc = [] := List.eq_nil_of_length_eq_zero (by omega)
    subst this
    cases ad <;> simp [Builtin.firstCells, loadCells, loadCellsFrom]
  · have := run_loadCells_at h P
    rw [hc] at this
    simp [Builtin.firstCells, this]

theorem rv_append {α : Type} [Rep α] [Flat α] {s s2 z : Value} {l xs : List α} {m : Nat} (i : Nat) (hS : St c w L R) (hi : L[i]? = some (cOwn [s] l)) (hsrc : Rep.rd (All w) w [s2] xs) (hn : Rep.n α = m) (hu : P.underlying t = some (.slice el)) (hinf : Inf P el m z) (hzs : z.cells.size = m)
    (hb : l.length + xs.length ≤ 1073741824) (ho : o.op = .call { callee := .builtin .append, args := #[x, y], argTypes := #[t, t] }) (hx : ev e x = some s) (hy : ev e y = some s2) :
    ∃ v w', RunV P o e w v w' ∧ St c w' (L.set i (cOwn [v] (l ++ xs))) R := by
  subst hn
  obtain ⟨ti, hti, hz, hsz, hby⟩ := hinf
  obtain ⟨ad2, c2, cc2, rfl, hl2, hc2, hr2⟩ := rd_cells hsrc
  obtain ⟨F, hF⟩ := hS.chunk i hi
  have hF : Rep.own w [s] l F := hF
  obtain ⟨ad, cap, cc, rfl, hl1, hc1, hr1⟩ := rd_cells (Rep.own_rd hF)
  obtain ⟨ad', cap', he, hlc, hcm, hrest⟩ := (show ownSlice w [_] l F from hF)
  simp at he
  obtain ⟨rfl, rfl⟩ := he
  have hone2 := one_seg hl2 hr2
  have hsegs : ∀ j q, (l ++ xs)[j]? = some q → Rep.rd (fun b o => True) w (seg (cc ++ cc2) (Rep.n α) j) q := by
    intro j q hj
    rw [List.getElem?_append] at hj
    split at hj
    · rename_i hlt
      have : seg (cc ++ cc2) (Rep.n α) j = seg cc (Rep.n α) j := by
        have hle : (j + 1) * Rep.n α ≤ l.length * Rep.n α := Nat.mul_le_mul_right _ (by omega)
        rw [Nat.add_mul] at hle
        apply List.ext_getElem?
        intro p
        by_cases hp : p < Rep.n α
        · rw [seg_get hp, seg_get hp, List.getElem?_append_left (by omega)]
        · rw [List.getElem?_eq_none (by unfold seg; simp; omega), List.getElem?_eq_none (by unfold seg; simp; omega)]
      rw [this]; exact Rep.rd_mono (hr1 j q hj) fun _ _ _ => trivial
    · rename_i hge
      have : seg (cc ++ cc2) (Rep.n α) j = seg cc2 (Rep.n α) (j - l.length) := by
        apply List.ext_getElem?
        intro p
        by_cases hp : p < Rep.n α
        · have hj2 : j * Rep.n α = l.length * Rep.n α + (j - l.length) * Rep.n α := by rw [← Nat.add_mul]; congr 1; omega
          rw [seg_get hp, seg_get hp, List.getElem?_append_right (by omega)]
          congr 1; omega
        · rw [List.getElem?_eq_none (by unfold seg; simp; omega), List.getElem?_eq_none (by unfold seg; simp; omega)]
      rw [this]; exact Rep.rd_mono (hr2 _ q hj) fun _ _ _ => trivial
  have hlen : (cc ++ cc2).length = (l ++ xs).length * Rep.n α := by simp [hl1, hl2, Nat.add_mul]
  have hsrc' : xs.length = 0 ∨ ∃ b off, ad2 = some ⟨b, off, none⟩ ∧ CellsAt w b off cc2 := hc2.imp (fun h => by simp [h]) id
  have hf2 := run_first (P := P) (α := α) (k := c2) hl2 hsrc'
  have hexec : ∀ (v : Value) (w' : World), (Builtin.append_ #[t, t] o.type #[.slice ad l.length cap, .slice ad2 xs.length c2]).run P w = .ok v w' → RunV P o e w v w' := by
    intro v w' h _ a hA
    simp [execOp, ho, resolve, invoke, builtin, hA.eval hx, hA.eval hy, h]
  by_cases hroom : l.length + xs.length ≤ cap
  · -- in its place
    rcases hrest with ⟨rfl, rfl, _⟩ | ⟨b, off, Fs, rfl, hrow, hel, hd1, hd2, hFF⟩
    · have hl0 : l = [] := List.eq_nil_of_length_eq_zero (by omega)
      have hx0 : xs = [] := List.eq_nil_of_length_eq_zero (by omega)
      subst hl0; subst hx0
      refine ⟨.slice none 0 0, w, hexec _ _ ?_, ?_⟩
      · have hf2 : (Builtin.firstCells (Rep.n α) 0 (.slice ad2 0 c2)).run P w = .ok cc2.toArray w := hf2
        simp [Builtin.append_, run_underlying hu, sizeOf, typeInfo, hti, Builtin.lenOf, hsz, hf2]
      · rw [List.append_nil]
        refine hS.turn i hi fun F hF => ⟨F, F0, Keep.refl _ _, fun _ _ h => h.elim, hF, fun _ _ h => .inl h⟩
    · have hcc : CellsAt w b off cc := by
        rcases hc1 with h | ⟨b', off', h, hc⟩
        · subst h
          have : cc = [] := List.eq_nil_of_length_eq_zero (by rw [hl1]; simp)
          subst this; intro j v hj; simp at hj
        · simp at h; obtain ⟨rfl, rfl⟩ := h; exact hc
      have hmul : (l.length + xs.length) * Rep.n α ≤ cap * Rep.n α := Nat.mul_le_mul_right _ hroom
      rw [Nat.add_mul] at hmul
      obtain ⟨w', hst, hk, hws, hcell⟩ := run_storeCells_in (b := b) P cc2 w (off + l.length * Rep.n α) 0 hone2 (fun q _ hq => hrow _ ⟨rfl, by omega, by omega⟩)
      refine ⟨_, w', hexec _ _ (by
        have hadd : (⟨b, off, none⟩ : Addr).add (l.length * Rep.n α) = ⟨b, off + l.length * Rep.n α, none⟩ := by unfold Addr.add; split <;> simp_all
        simp [Builtin.append_, run_underlying hu, sizeOf, typeInfo, hti, Builtin.lenOf, hsz, hf2, hroom, hadd, hst]
        rfl), ?_⟩
      refine hS.turn i hi fun F2 hF2 => ?_
      have hF2 : ownSlice w [_] l F2 := hF2
      obtain ⟨_, _, he2, _, _, hr⟩ := hF2
      simp at he2
      obtain ⟨rfl, rfl⟩ := he2
      rcases hr with ⟨h, _, _⟩ | ⟨b', off', Fs', h, _, _, _, _, hFF2⟩
      · cases h
      simp at h
      obtain ⟨rfl, rfl⟩ := h
      refine ⟨inRow b off (cap * Rep.n α), _, hk, fun b' o' h => (hFF2 b' o').2 (.inl ?_), ?_, fun b' o' h => .inl ((hFF2 b' o').2 (.inl h))⟩
      · obtain ⟨e1, e2, e3⟩ := h
        exact ⟨e1, by omega, by omega⟩
      · have hcc' : CellsAt w' b off (cc ++ cc2) := by
          intro j v hj
          rw [List.getElem?_append] at hj
          split at hj
          · rename_i hlt
            have hc := hcc j v hj
            rw [hk.cell b (off + j) (World.block_lt_of_cell? w _ hc) (fun hh => by obtain ⟨_, e2, _⟩ := hh; omega)]
            exact hc
          · rename_i hge
            have := hcell _ v hj
            rw [show off + l.length * Rep.n α + 0 + (j - cc.length) = off + j from by omega] at this
            exact this
        have hll : l.length + xs.length = (l ++ xs).length := by simp
        rw [hll]
        exact own_row hcc' hlen hsegs (by simp; omega) hcm (fun o' ho' => ⟨hk.stay b o' (hrow o' ho').1, (hk.frz b o' (lt_of_cell (hrow o' ho').1)).trans (hrow o' ho').2⟩)
  · -- in a new row
    have hbytes : (l.length + xs.length) * ti.bytes ≤ 140737488355328 := by
      have : (l.length + xs.length) * ti.bytes ≤ 1073741824 * 65536 := Nat.mul_le_mul hb hby
      omega
    have hfit := growslice_fits (need := l.length + xs.length) (old := cap) (bytes := ti.bytes) (by omega) hbytes
    obtain ⟨hge, hle⟩ : l.length + xs.length ≤ grownCap w (l.length + xs.length) cap el ∧ grownCap w (l.length + xs.length) cap el ≤ maxLen := ⟨grownCap_ge _ _ _ _, grownCap_le_maxLen _ _ _ _ (by unfold maxLen; omega)⟩
    have hrun : (Builtin.append_ #[t, t] o.type #[.slice ad l.length cap, .slice ad2 xs.length c2]).run P w = .ok (.slice (some ⟨w.heap.size, 0, none⟩) (l.length + xs.length) (grownCap w (l.length + xs.length) cap el)) (w.drew.alloc (.cells (cc.toArray ++ cc2.toArray ++ Builtin.zeroCells z.cells (grownCap w (l.length + xs.length) cap el - (l.length + xs.length))) el)) := by
      have hn1 : ¬ (l.length + xs.length ≤ cap) := hroom
      have h63' : ¬ (9223372036854775807 < ((l.length : Int) + (xs.length : Int))) := by omega
      have h48' : ¬ (281474976710656 < Builtin.nextslicecap (l.length + xs.length) cap * ti.bytes) := by omega
      have hf1 : (Builtin.firstCells (Rep.n α) l.length (.slice ad l.length cap)).run P w.drew = .ok cc.toArray w.drew := run_first (α := α) hl1 (hc1.imp (fun h => by simp [h]) id)
      have hf2 : (Builtin.firstCells (Rep.n α) xs.length (.slice ad2 xs.length c2)).run P w.drew = .ok cc2.toArray w.drew := run_first (α := α) hl2 hsrc'
      simp [Builtin.append_, run_underlying hu, sizeOf, typeInfo, zeroValue, hti, hz, hsz, Builtin.lenOf, hn1, h63', h48', Question.forced, hf1, hf2, newRow, grownCap]
      congr 2
      apply Array.ext'
      simp
    refine ⟨_, _, hexec _ _ hrun, ?_⟩
    refine hS.turn i hi fun F2 hF2 => ?_
    have hz2 : (Builtin.zeroCells z.cells (grownCap w (l.length + xs.length) cap el - (l.length + xs.length))).size = (grownCap w (l.length + xs.length) cap el - (l.length + xs.length)) * Rep.n α := by rw [size_zeroCells, hzs]
    have htot : ((cc ++ cc2) ++ (Builtin.zeroCells z.cells (grownCap w (l.length + xs.length) cap el - (l.length + xs.length))).toList).length = grownCap w (l.length + xs.length) cap el * Rep.n α := by
      have hz3 : (Builtin.zeroCells z.cells (grownCap w (l.length + xs.length) cap el - (l.length + xs.length))).toList.length = (grownCap w (l.length + xs.length) cap el - (l.length + xs.length)) * Rep.n α := by simpa using hz2
      rw [List.length_append, hlen, hz3, List.length_append, ← Nat.add_mul]
      congr 1; omega
    have hst0 : St (cxAll w) w [] [] := St.enter (by intro f hf; cases hf)
    have hnew := new_row (S := fun b o => True) w (hst0.same (Keep.drew F0 w)) (cc ++ cc2) (Builtin.zeroCells z.cells (grownCap w (l.length + xs.length) cap el - (l.length + xs.length))).toList (l ++ xs) (grownCap w (l.length + xs.length) cap el) el hlen hsegs htot (by simp; omega) hle
    obtain ⟨Fn, hFn⟩ := hnew.chunk 0 rfl
    obtain ⟨Ft, St', ⟨Fa, Fb, ha, _, _, hFab⟩, _, hFt, _⟩ := hnew.sep
    have heq : ((cc ++ cc2) ++ (Builtin.zeroCells z.cells (grownCap w (l.length + xs.length) cap el - (l.length + xs.length))).toList).toArray = cc.toArray ++ cc2.toArray ++ Builtin.zeroCells z.cells (grownCap w (l.length + xs.length) cap el - (l.length + xs.length)) := by
      apply Array.ext'; simp
    rw [heq] at ha
    have hll : l.length + xs.length = (l ++ xs).length := by simp
    refine ⟨Fa, F0, (Keep.drew F0 w).trans (Keep.alloc F0 _ _) (fun _ _ _ h => h), fun _ _ h => h.elim, ?_, fun b' o' h => .inr ?_⟩
    · have ha : Rep.own _ _ (l ++ xs) Fa := ha
      have hsz2 : w.drew.heap.size = w.heap.size := rfl
      rw [hsz2] at ha
      rw [← hll] at ha
      exact ha
    · rcases hFt b' o' ((hFab b' o').2 (.inl h)) with h | h
      · exact h.elim
      · exact h

theorem one_rd {α : Type} [Rep α] {S : Foot} {v : Value} {l : List α} (h : Rep.rd S w [v] l) : v.oneCell' = true := Rep.rd_one h v (by simp)
theorem all1 {v : Value} {l : List Value} (h : v.oneCell' = true) (hl : l.all Value.oneCell' = true) : (v :: l).all Value.oneCell' = true := by rw [List.all_cons, h, hl]; rfl
theorem cells_rd {α : Type} [Rep α] {S : Foot} {v : Value} {l : List α} (h : Rep.rd S w [v] l) : v.cells.toList = [v] := by
  obtain ⟨a, c, h1, _⟩ := (show rdSlice S w [v] l from h)
  simp at h1; subst h1; rfl

/-- A store into an element, or into a part of one. -/
theorem rs_elem {α : Type} [Rep α] [Flat α] {s v : Value} {l : List α} {q xd : α} {k : Int} {m f i j : Nat} {ecs vs : List Value} (hS : St c w L R) (hi : L[i]? = some (cOwn [s] l)) (hq : idx l k = some q) (hn : Rep.n α = m) (hec : CellsAt w (elB s) (elO m k.toNat s) ecs) (hel : ecs.length = m) (hrd : Rep.rd F0 w (setN ecs f vs) xd)
    (hz : ∀ w, (sizeOf t).run P w = .ok j w) (hj : vs.length = j) (hf : Nat.ble (f + j) m = true) (h1 : vs.all Value.oneCell' = true) (ho : o.op = .store t x y) (hx : ev e x = some (.pointer (some ⟨elB s, elO m k.toNat s + f, none⟩))) (hy : ev e y = some v) (hvs : v.cells.toList = vs) :
    ∃ w', RunS P o e w w' ∧ St c w' (L.set i (cOwn [s] (l.set k.toNat xd))) R := by
  subst hj; subst hn
  have hf' : f + vs.length ≤ Rep.n α := Nat.le_of_ble_eq_true hf
  have h1' : ∀ v ∈ vs, v.oneCell' = true := fun v hv => by simpa using List.all_eq_true.1 h1 v hv
  obtain ⟨hk0, hk1, hk2⟩ := idx_some hq
  have hkl : k.toNat < l.length := by omega
  obtain ⟨F, hF⟩ := hS.chunk i hi
  have hF : ownSlice w [s] l F := hF
  obtain ⟨ad, cap, he, hlc, hcm, hrest⟩ := hF
  simp at he; subst he
  rcases hrest with ⟨_, h0, _⟩ | ⟨b, off, Fs, rfl, hrow, hels, hd1, hd2, hFF⟩
  · omega
  simp only [elB, elO] at hec hx
  have hmul : (k.toNat + 1) * Rep.n α ≤ cap * Rep.n α := Nat.mul_le_mul_right _ (by omega)
  rw [Nat.add_mul] at hmul
  obtain ⟨w', hst, hkp, hws, hcell⟩ := run_storeCells_in (b := b) P vs w (off + k.toNat * Rep.n α + f) 0 h1' (fun q _ hq => hrow _ ⟨rfl, by omega, by omega⟩)
  refine ⟨w', fun _ a hA => ?_, ?_⟩
  · have hsize : v.cells.size = vs.length := by rw [← hvs]; simp
    have hr' : (storeCells ⟨b, off + k.toNat * Rep.n α + f, none⟩ v.cells.toList).run P w = .ok () w' := by rw [hvs]; exact hst
    simp [execOp, ho, Instr.storeAt, Instr.sureAddr, hA.eval hx, hA.eval hy, storeVar, hz, hsize, hr']
  · refine hS.turn i hi fun F2 hF2 => ?_
    have hF2 : ownSlice w [_] l F2 := hF2
    obtain ⟨_, _, he2, _, _, hr⟩ := hF2
    simp at he2
    obtain ⟨rfl, rfl⟩ := he2
    rcases hr with ⟨h, _, _⟩ | ⟨b', off', Fs', h, _, _, _, _, hFF2⟩
    · cases h
    simp at h
    obtain ⟨rfl, rfl⟩ := h
    refine ⟨inRow b off (cap * Rep.n α), _, hkp, fun b' o' h => (hFF2 b' o').2 (.inl ?_), ?_, fun b' o' h => .inl ((hFF2 b' o').2 (.inl h))⟩
    · obtain ⟨e1, e2, e3⟩ := h
      exact ⟨e1, by omega, by omega⟩
    · refine ⟨_, cap, by simp, by simp; omega, hcm, .inr ⟨b, off, fun _ => F0, rfl, fun o' ho' => ⟨hkp.stay b o' (hrow o' ho').1, (hkp.frz b o' (lt_of_cell (hrow o' ho').1)).trans (hrow o' ho').2⟩, fun p hp => ?_, fun _ _ _ _ _ _ _ h _ => h, fun _ _ _ _ h _ => h, fun b' o => by simp [F0]⟩⟩
      have hpl : p < l.length := by simpa using hp
      by_cases hpk : p = k.toNat
      · subst hpk
        refine ⟨setN ecs f vs, fun q u hq => ?_, ?_⟩
        · rw [setN_get vs ecs f q (by omega)] at hq
          split at hq
          · have := hcell _ u hq
            rw [show off + k.toNat * Rep.n α + f + 0 + (q - f) = off + k.toNat * Rep.n α + q from by omega] at this
            exact this
          · have hc := hec q u hq
            rw [hkp.cell b _ (World.block_lt_of_cell? w _ hc) (fun hh => by obtain ⟨_, e2, e3⟩ := hh; omega)]
            exact hc
        · rw [List.getElem_set_self]; exact Flat.own_of hrd
      · obtain ⟨ec, c1, c2⟩ := hels p hpl
        have hecl := Rep.rd_len (Rep.own_rd c2)
        refine ⟨ec, c1.agree fun o' h3 h4 => ?_, ?_⟩
        · have hin : b < w.heap.size := by
            have h5 := c1 (o' - (off + p * Rep.n α)) ec[o' - (off + p * Rep.n α)] (List.getElem?_eq_getElem (by omega))
            exact World.block_lt_of_cell? w _ h5
          refine hkp.cell b o' hin fun hh => ?_
          obtain ⟨_, e2, e3⟩ := hh
          rcases Nat.lt_or_gt_of_ne hpk with hlt | hgt
          · have := Nat.mul_le_mul_right (Rep.n α) (show p + 1 ≤ k.toNat from hlt)
            rw [Nat.add_mul] at this; omega
          · have := Nat.mul_le_mul_right (Rep.n α) (show k.toNat + 1 ≤ p from hgt)
            rw [Nat.add_mul] at this; omega
        · rw [List.getElem_set_ne (Ne.symm hpk)]
          exact flat_own c2

/-- All elements read. -/
def RdAll {α : Type} [Rep α] (m : Nat) : List Value → List α → Prop
  | cs, [] => cs = []
  | cs, x :: r => Rep.rd F0 default (cs.take m) x ∧ RdAll m (cs.drop m) r
theorem RdAll.get {α : Type} [Rep α] {m : Nat} (hn : Rep.n α = m) : ∀ {l : List α} {cs : List Value}, RdAll m cs l → cs.length = l.length * m ∧ ∀ i x, l[i]? = some x → Rep.rd F0 default (seg cs m i) x
  | [], cs, h => by
    have h : cs = [] := h
    subst h; exact ⟨by simp, fun i x h => by simp at h⟩
  | y :: r, cs, ⟨h1, h2⟩ => by
    obtain ⟨h3, h4⟩ := RdAll.get hn h2
    have h5 := Rep.rd_len h1
    rw [List.length_take, hn] at h5
    rw [List.length_drop] at h3
    refine ⟨by simp [Nat.add_mul]; omega, fun i x hx => ?_⟩
    cases i with
    | zero => simp at hx; subst hx; simpa [seg] using h1
    | succ i =>
      have := h4 i x (by simpa using hx)
      unfold seg at this ⊢
      rw [List.drop_drop] at this
      rw [show (i + 1) * m = m + i * m from by rw [Nat.add_mul]; omega]
      exact this
/-- A slice that is written out. -/
theorem rv_lit {α : Type} [Rep α] [Flat α] {z : Value} {m len : Nat} {ps : List (Nat × Operand)} {vs cells : List Value} (l : List α) (hS : St c w L R) (hn : Rep.n α = m) (hu : P.underlying t = some (.slice el)) (hinf : Inf P el m z) (hl : l.length = len) (hm : Nat.ble 1 m = true) (hsmall : Nat.ble (len * m) 16777216 = true) (hrd : RdAll m cells l)
    (ho : o.op = .buildSlice t len ps.toArray) (hv : evs e (ps.map (·.2)) = some vs) (hc : Instr.fill (fun i => some (i * m, m)) ((Array.range (len * m)).map (fun i => (if len * m = 0 then #[] else z.cells)[i % (if len * m = 0 then #[] else z.cells).size]!)) ((ps.map (·.1)).zip vs) = some cells.toArray) :
    ∃ v w', RunV P o e w v w' ∧ St c w' (L ++ [cOwn [v] l]) R := by
  subst hl
  obtain ⟨ti, hi, hz, hsz, hby⟩ := hinf
  obtain ⟨h1, h2⟩ := hrd.get hn
  have hsm : ¬ l.length * m > 2 ^ 24 := by have := Nat.le_of_ble_eq_true hsmall; omega
  have hlm : l.length ≤ 16777216 := by
    have := Nat.le_mul_of_pos_right l.length (Nat.le_of_ble_eq_true hm)
    have := Nat.le_of_ble_eq_true hsmall
    omega
  have hlmax : l.length ≤ maxLen := by unfold maxLen; omega
  have hnew := new_row (S := F0) default hS cells [] l l.length el (by rw [hn]; exact h1) (by rw [hn]; exact h2) (by simp [h1, hn]) (Nat.le_refl _) hlmax
  rw [List.append_nil] at hnew
  refine ⟨_, _, fun _ a hA => ?_, hnew⟩
  have hps : ps.map (fun p => (p.1, a.eval p.2)) = (ps.map (·.1)).zip vs := by
    rw [← evs_map hA hv]
    clear hv hc ho
    induction ps with
    | nil => rfl
    | cons p r ih => simp [ih]
  by_cases h0 : l.length * m = 0
  · simp only [h0, if_true] at hc
    simp [execOp, ho, Instr.buildSlice, run_underlying hu, sizeOf, typeInfo, hi, hsz, h0, hps]
    try simp at hc
    simp [hc, newRow]
  · simp only [h0, if_false] at hc
    simp [execOp, ho, Instr.buildSlice, run_underlying hu, sizeOf, typeInfo, zeroValue, hi, hz, hsz, h0, hsm, hps]
    try simp at hc
    simp [hc, newRow]
end
end Go.Gv
