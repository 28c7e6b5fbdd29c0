/-
  make, append, literals, packing and unpacking for slices whose elements have memory behind them.
-/
import Derived.Test.YtpndngnohcffnaaGreatGvNest
set_option linter.unusedVariables false
namespace Go.Gv

/-- What is ours of the cells cs as d is these chunks. -/
def OP {α : Type} [Rep α] (cs : List Value) (d : α) (A : List Chunk) : Prop := ∀ w F, Rep.own w cs d F ↔ Sep w A F
theorem op_flat {α : Type} [Rep α] [Flat α] {cs : List Value} {d : α} (h : Rep.rd F0 default cs d) : OP cs d [] := fun w F => by
  constructor
  · intro k; exact Flat.no k
  · intro k
    have : F = F0 := by funext b o; exact propext ⟨fun q => (k b o q).elim, fun q => q.elim⟩
    rw [this]; exact Flat.own_of h
theorem op_own {α : Type} [Rep α] {cs : List Value} {d : α} : OP cs d [cOwn cs d] := fun w F => (Sep.one (ch := cOwn cs d)).symm
theorem op_pair {α β : Type} [Rep α] [Rep β] {c1 c2 : List Value} {d : α × β} {A B : List Chunk} (h1 : OP c1 d.1 A) (h2 : OP c2 d.2 B) (hl : c1.length = Rep.n α) : OP (c1 ++ c2) d (A ++ B) := fun w F => by
  constructor
  · rintro ⟨e1, e2, F1, F2, e, k1, k2, hd, hF⟩
    have hl2 := Rep.rd_len (Rep.own_rd k1)
    obtain ⟨rfl, rfl⟩ := List.append_inj e (by omega)
    exact Sep.append.2 ⟨F1, F2, (h1 w F1).1 k1, (h2 w F2).1 k2, hd, hF⟩
  · intro k
    obtain ⟨F1, F2, k1, k2, hd, hF⟩ := Sep.append.1 k
    exact ⟨c1, c2, F1, F2, rfl, (h1 w F1).2 k1, (h2 w F2).2 k2, hd, hF⟩

section
variable {P : Program} {o : Oper} {e : Env} {w w' : World} {c : Ctx} {L : List Chunk} {R : List Fact} {x y : Operand} {t el : TypeId}

theorem St.open (h : St c w L R) {α : Type} [Rep α] {s : Value} {l : List α} {k : Nat} {q : α} (i : Nat) (hi : L[i]? = some (cOwn [s] l)) (hq : l[k]? = some q) :
    ∃ ec, St c w (L.set i cNo ++ [cHole s l k, cAt (elB s) (elO (Rep.n α) k s) ec, cOwn ec q]) R := by
  have h1 : St c w ([cOwn [s] l] ++ L.set i cNo) R := h.take i hi
  obtain ⟨F, S, hsep, rest⟩ := h1.sep
  obtain ⟨F1, F2, g1, g2, gd, gF⟩ := Sep.append.1 hsep
  obtain ⟨ec, hec⟩ := own_open (Sep.one.1 g1) hq
  exact ⟨ec, St.rot ⟨h1.keep, ⟨F, S, Sep.append.2 ⟨F1, F2, hec, g2, gd, gF⟩, rest⟩, h1.apart⟩⟩
theorem St.unpack (h : St c w L R) {α : Type} [Rep α] {cs : List Value} {d : α} {A' : List Chunk} (i : Nat) (hi : L[i]? = some (cOwn cs d)) (ho : OP cs d A') : St c w (L.set i cNo ++ A') R := by
  have h1 : St c w ([cOwn cs d] ++ L.set i cNo) R := h.take i hi
  obtain ⟨F, S, hsep, rest⟩ := h1.sep
  obtain ⟨F1, F2, g1, g2, gd, gF⟩ := Sep.append.1 hsep
  exact St.rot ⟨h1.keep, ⟨F, S, Sep.append.2 ⟨F1, F2, (ho w F1).1 (Sep.one.1 g1), g2, gd, gF⟩, rest⟩, h1.apart⟩
theorem St.pack (h : St c w L R) {α : Type} [Rep α] {cs : List Value} {d : α} {A' : List Chunk} (is : List Nat) (ha : apartB is = true) (hp : pick L is = A') (ho : OP cs d A') : St c w (blank L is ++ [cOwn cs d]) R :=
  h.shift is ha fun F hF => Sep.one.2 ((ho w F).2 (hp ▸ hF))
theorem St.close (h : St c w L R) {α : Type} [Rep α] {s : Value} {l : List α} {k : Nat} {q : α} {ec : List Value} (is : List Nat) (ha : apartB is = true) (hp : pick L is = [cHole s l k, cAt (elB s) (elO (Rep.n α) k s) ec, cOwn ec q]) : St c w (blank L is ++ [cOwn [s] (l.set k q)]) R :=
  h.shift is ha fun F hF => Sep.one.2 (own_close (hp ▸ hF))
theorem St.close_same (h : St c w L R) {α : Type} [Rep α] {s : Value} {l : List α} {k : Nat} {q : α} {ec : List Value} (is : List Nat) (ha : apartB is = true) (hp : pick L is = [cHole s l k, cAt (elB s) (elO (Rep.n α) k s) ec, cOwn ec q]) (hq : l[k]? = some q) : St c w (blank L is ++ [cOwn [s] l]) R := by
  have := h.close is ha hp
  have e : l.set k q = l := by
    obtain ⟨hk, rfl⟩ := List.getElem?_eq_some_iff.1 hq
    simp
  rw [e] at this; exact this

theorem cells_uniq {b off : Nat} {c1 c2 : List Value} (h1 : CellsAt w b off c1) (h2 : CellsAt w b off c2) (hl : c1.length = c2.length) : c1 = c2 := by
  apply List.ext_getElem?
  intro j
  by_cases hj : j < c1.length
  · have a := h1 j _ (List.getElem?_eq_getElem hj)
    have b := h2 j _ (List.getElem?_eq_getElem (by omega))
    rw [a] at b
    rw [List.getElem?_eq_getElem hj, List.getElem?_eq_getElem (by omega)]; exact b
  · rw [List.getElem?_eq_none (by omega), List.getElem?_eq_none (by omega)]
theorem own_of_row {α : Type} [Rep α] {b off cap : Nat} {cc : List Value} {l : List α} {Fe : Foot} (hr : Row w b off (cap * Rep.n α)) (hc : CellsAt w b off cc) (ho : OwnAll w cc l Fe) (hd : Fe.disj (inRow b off (cap * Rep.n α))) (hlen : l.length ≤ cap) (hmax : cap ≤ maxLen) :
    Rep.own w [.slice (some ⟨b, off, none⟩) l.length cap] l (fun b' o => inRow b off (cap * Rep.n α) b' o ∨ Fe b' o) :=
  own_iff.2 ⟨_, cap, rfl, hlen, hmax, .inr ⟨b, off, cc, Fe, rfl, hr, hc, ho, hd, fun _ _ => Iff.rfl⟩⟩

/-- A new row, of elements that were ours. -/
theorem new_rowN {α : Type} [Rep α] (hS : St c w L R) (is : List Nat) (ha : apartB is = true) {A : List Chunk} (hp : pick L is = A) (cells rest : List Value) (l : List α) (cap : Nat) (ty : TypeId)
    (hA : ∀ F, Sep w A F → ∃ Fe, OwnAll w cells l Fe ∧ ∀ b o, Fe b o → F b o) (hcap : (cells ++ rest).length = cap * Rep.n α) (hlen : l.length ≤ cap) (hmax : cap ≤ maxLen) :
    St c (w.alloc (.cells (cells ++ rest).toArray ty)) (blank L is ++ [cOwn [.slice (some ⟨w.heap.size, 0, none⟩) l.length cap] l]) R := by
  have hcell : ∀ j, (w.alloc (.cells (cells ++ rest).toArray ty)).cell? ⟨w.heap.size, j, none⟩ = (cells ++ rest)[j]? := fun j => by rw [World.cell?_alloc_at (hn := rfl)]; simp
  refine hS.repl is ha fun F hF => ?_
  obtain ⟨Fe, h1, h2⟩ := hA F (hp ▸ hF)
  have hk := Keep.alloc F0 w (.cells (cells ++ rest).toArray ty)
  refine ⟨_, F0, hk, fun _ _ h => h.elim, Sep.one.2 (own_of_row (fun o' ho => ?_) (fun j v hj => ?_) (h1.keep hk fun _ _ _ h => h) (fun b o' p q => ?_) hlen hmax), ?_⟩
  · obtain ⟨_, _, h3⟩ := ho
    refine ⟨?_, World.frozen?_alloc_at (hn := rfl) ..⟩
    rw [hcell, List.getElem?_eq_getElem (by omega)]; rfl
  · rw [Nat.zero_add, hcell, List.getElem?_append_left (List.getElem?_eq_some_iff.1 hj).1]; exact hj
  · have := h1.lt p
    obtain ⟨rfl, _⟩ := q
    omega
  · rintro b o' (p | p)
    · exact .inr (Nat.le_of_eq p.1.symm)
    · exact .inl (h2 b o' p)

/-- make([]T, n). -/
theorem rv_makeN {α : Type} [Rep α] {i : Int} {z : Value} {m : Nat} (zd : α) (hS : St c w L R) (hn : Rep.n α = m) (hu : P.underlying t = some (.slice el)) (hinf : Inf P el m z) (hzs : z.cells.size = m) (hzd : ∀ w, Rep.own w z.cells.toList zd F0)
    (h01 : 0 ≤ i ∧ i ≤ 4294967296) (ho : o.op = .makeSlice t x y) (hx : ev e x = some (.int .i64 i)) (hy : ev e y = some (.int .i64 i)) :
    ∃ v w', RunV P o e w v w' ∧ St c w' (L ++ [cOwn [v] (List.replicate i.toNat zd)]) R := by
  obtain ⟨h0, h1⟩ := h01
  subst hn
  obtain ⟨ti, hi, hz, hsz, hby⟩ := hinf
  have hb : (ti.bytes : Int) * i ≤ 281474976710656 := by
    have : (ti.bytes : Int) * i ≤ 65536 * 4294967296 := Int.mul_le_mul (by omega) h1 h0 (by omega)
    omega
  have hr := run_make (P := P) w t el ti z hu hi hz .i64 .i64 i i h0 (Int.le_refl _) hb (by omega)
  rw [hsz] at hr
  refine ⟨.slice (some ⟨w.heap.size, 0, none⟩) i.toNat i.toNat, w.alloc (.cells (madeCells z.cells (i.toNat * Rep.n α)) el), fun _ a hA => ?_, ?_⟩
  rotate_left 1
  · have all : ∀ (k : Nat) (cc : List Value), cc.length = k * Rep.n α → (∀ j, j < k → seg cc (Rep.n α) j = z.cells.toList) → OwnAll w cc (List.replicate k zd) F0 := by
      intro k
      induction k with
      | zero => intro cc h _; exact ⟨List.eq_nil_of_length_eq_zero (by omega), fun _ _ h => h⟩
      | succ k ih =>
        intro cc h hs
        rw [Nat.add_mul] at h
        refine ⟨cc.take (Rep.n α), cc.drop (Rep.n α), F0, F0, by simp, ?_, ih _ (by rw [List.length_drop]; omega) fun j hj => ?_, fun _ _ h _ => h, fun b o => by simp [F0]⟩
        · have := hs 0 (by omega)
          simp [seg] at this
          rw [this]; exact hzd w
        · have := hs (j + 1) (by omega)
          unfold seg at this ⊢
          rw [List.drop_drop, show Rep.n α + j * Rep.n α = (j + 1) * Rep.n α by rw [Nat.add_mul]; omega]; exact this
    have h := new_rowN hS [] rfl rfl (madeCells z.cells (i.toNat * Rep.n α)).toList [] (List.replicate i.toNat zd) i.toNat el (fun F _ => ⟨F0, all _ _ (by simp [size_madeCells]) fun j hj => seg_made hzs hj, fun _ _ h => h.elim⟩) (by simp [size_madeCells]) (by simp) (by unfold maxLen; omega)
    simp only [List.append_nil, List.length_replicate] at h
    exact h
  · simp [execOp, ho, hA.eval hx, hA.eval hy, hr]

/-- All elements, each packed. -/
def OPs {α : Type} [Rep α] (m : Nat) : List Value → List α → List Chunk → Prop
  | cs, [], A => cs = [] ∧ A = []
  | cs, x :: r, A => ∃ B, A = cOwn (cs.take m) x :: B ∧ (cs.take m).length = m ∧ OPs m (cs.drop m) r B
theorem OPs.all {α : Type} [Rep α] {m : Nat} (hn : Rep.n α = m) : ∀ {l : List α} {cs : List Value} {A : List Chunk} {F : Foot}, OPs m cs l A → Sep w A F → OwnAll w cs l F
  | [], cs, A, F, ⟨h1, h2⟩, h => by subst h1; subst h2; exact ⟨rfl, h⟩
  | x :: r, cs, A, F, ⟨B, h1, _, h2⟩, h => by
    subst h1
    obtain ⟨F1, F2, k1, k2, kd, kF⟩ := h
    exact ⟨cs.take m, cs.drop m, F1, F2, by simp, k1, OPs.all hn h2 k2, kd, kF⟩
theorem OPs.len {α : Type} [Rep α] {m : Nat} : ∀ {l : List α} {cs : List Value} {A : List Chunk}, OPs m cs l A → cs.length = l.length * m
  | [], cs, A, ⟨h1, h2⟩ => by simp [h1]
  | x :: r, cs, A, ⟨B, h1, h3, h2⟩ => by
    have := OPs.len h2
    rw [List.length_drop] at this
    rw [List.length_take] at h3
    rw [List.length_cons, Nat.add_mul]; omega
/-- A slice that is written out, of elements packed. -/
theorem rv_litN {α : Type} [Rep α] {z : Value} {m len : Nat} {ps : List (Nat × Operand)} {vs cells : List Value} (l : List α) (hS : St c w L R) (is : List Nat) (ha : apartB is = true) (hrd : OPs m cells l (pick L is)) (hn : Rep.n α = m) (hu : P.underlying t = some (.slice el)) (hinf : Inf P el m z) (hl : l.length = len) (hm : Nat.ble 1 m = true) (hsmall : Nat.ble (len * m) 16777216 = true)
    (ho : o.op = .buildSlice t len ps.toArray) (hv : evs e (ps.map (·.2)) = some vs) (hc : Instr.fill (fun i => some (i * m, m)) ((Array.range (len * m)).map (fun i => (if len * m = 0 then #[] else z.cells)[i % (if len * m = 0 then #[] else z.cells).size]!)) ((ps.map (·.1)).zip vs) = some cells.toArray) :
    ∃ v w', RunV P o e w v w' ∧ St c w' (blank L is ++ [cOwn [v] l]) R := by
  subst hl
  obtain ⟨ti, hi, hz, hsz, hby⟩ := hinf
  have h1 := hrd.len
  have hsm : ¬ l.length * m > 2 ^ 24 := by have := Nat.le_of_ble_eq_true hsmall; omega
  have hlm : l.length ≤ 16777216 := by
    have := Nat.le_mul_of_pos_right l.length (Nat.le_of_ble_eq_true hm)
    have := Nat.le_of_ble_eq_true hsmall
    omega
  have hlmax : l.length ≤ maxLen := by unfold maxLen; omega
  have hnew := new_rowN hS is ha rfl cells [] l l.length el (fun F hF => ⟨F, hrd.all hn hF, fun _ _ h => h⟩) (by simp [h1, hn]) (Nat.le_refl _) hlmax
  rw [List.append_nil] at hnew
  refine ⟨_, _, fun _ a hA => ?_, hnew⟩
  have hps : ps.map (fun p => (p.1, a.eval p.2)) = (ps.map (·.1)).zip vs := by
    rw [← evs_map hA hv]
    clear hv hc ho
    induction ps with
    | nil => rfl
    | cons p r ih => simp [ih]
  by_cases h0 : l.length * m = 0
  · simp only [h0, if_true] at hc
    simp [execOp, ho, Instr.buildSlice, run_underlying hu, sizeOf, typeInfo, hi, hsz, h0, hps]
    try simp at hc
    simp [hc, newRow]
  · simp only [h0, if_false] at hc
    simp [execOp, ho, Instr.buildSlice, run_underlying hu, sizeOf, typeInfo, zeroValue, hi, hz, hsz, h0, hsm, hps]
    try simp at hc
    simp [hc, newRow]

/-- append(a, b..) of what is ours, both. -/
theorem rv_appN {α : Type} [Rep α] {s s2 z : Value} {l xs : List α} {m : Nat} (is : List Nat) (hS : St c w L R) (ha : apartB is = true) (hp : pick L is = [cOwn [s] l, cOwn [s2] xs]) (hn : Rep.n α = m) (hu : P.underlying t = some (.slice el)) (hinf : Inf P el m z) (hzs : z.cells.size = m)
    (hb : l.length + xs.length ≤ 1073741824) (ho : o.op = .call { callee := .builtin .append, args := #[x, y], argTypes := #[t, t] }) (hx : ev e x = some s) (hy : ev e y = some s2) :
    ∃ v w', RunV P o e w v w' ∧ St c w' (blank L is ++ [cOwn [v] (l ++ xs)]) R := by
  subst hn
  obtain ⟨ti, hti, hz, hsz, hby⟩ := hinf
  have h12 : St c w ([cOwn [s] l, cOwn [s2] xs] ++ blank L is) R := hp ▸ hS.front is ha
  obtain ⟨F, hF⟩ := h12.chunk 0 rfl
  obtain ⟨G, hG⟩ := h12.chunk 1 rfl
  have hF : Rep.own w [s] l F := hF
  have hG : Rep.own w [s2] xs G := hG
  obtain ⟨ad2, c2, cc2, rfl, hl2, hc2, hr2⟩ := rd_cells (Rep.own_rd hG)
  obtain ⟨ad, cap, cc, rfl, hl1, hc1, hr1⟩ := rd_cells (Rep.own_rd hF)
  have hone2 := one_seg hl2 hr2
  have hlen : (cc ++ cc2).length = (l ++ xs).length * Rep.n α := by simp [hl1, hl2, Nat.add_mul]
  have hsrc' : xs.length = 0 ∨ ∃ b off, ad2 = some ⟨b, off, none⟩ ∧ CellsAt w b off cc2 := hc2.imp (fun h => by simp [h]) id
  have hf2 := run_first (P := P) (α := α) (k := c2) hl2 hsrc'
  have hexec : ∀ (v : Value) (w' : World), (Builtin.append_ #[t, t] o.type #[.slice ad l.length cap, .slice ad2 xs.length c2]).run P w = .ok v w' → RunV P o e w v w' := by
    intro v w' h _ a hA
    simp [execOp, ho, resolve, invoke, builtin, hA.eval hx, hA.eval hy, h]
  -- what the cells of either hold
  have hall : ∀ {s : Value} {l : List α} {F : Foot} {ad : Option Addr} {cap : Nat} {cc : List Value}, s = .slice ad l.length cap → Rep.own w [s] l F → cc.length = l.length * Rep.n α → (l = [] ∨ ∃ b off, ad = some ⟨b, off, none⟩ ∧ CellsAt w b off cc) → ∃ Fe, OwnAll w cc l Fe ∧ ∀ b o, Fe b o → F b o := by
    intro s l F ad cap cc e h hl hc
    obtain ⟨a', c', e', _, _, h3⟩ := own_iff.1 h
    rw [e] at e'
    simp at e'
    obtain ⟨rfl, rfl⟩ := e'
    rcases hc with hc | ⟨b, off, rfl, hc⟩
    · subst hc
      exact ⟨F0, ⟨List.eq_nil_of_length_eq_zero (by simpa using hl), fun _ _ h => h⟩, fun _ _ h => h.elim⟩
    · rcases h3 with ⟨h, _⟩ | ⟨b', off', cc', Fe, h, _, k1, k2, _, hF⟩
      · cases h
      simp at h
      obtain ⟨rfl, rfl⟩ := h
      have : cc' = cc := cells_uniq k1 hc (by rw [k2.length, hl])
      exact ⟨Fe, this ▸ k2, fun b o q => (hF b o).2 (.inr q)⟩
  by_cases hroom : l.length + xs.length ≤ cap
  · -- in its place
    obtain ⟨a', cap', e', hlc, hcm, h3⟩ := own_iff.1 hF
    simp at e'
    obtain ⟨rfl, rfl⟩ := e'
    rcases h3 with ⟨rfl, h0, _⟩ | ⟨b, off, cc', Fe0, rfl, hrow, hcc', hoA, hdj0, hFF0⟩
    · have hl0 : l = [] := List.eq_nil_of_length_eq_zero (by omega)
      have hx0 : xs = [] := List.eq_nil_of_length_eq_zero (by omega)
      subst hl0; subst hx0
      refine ⟨.slice none 0 0, w, hexec _ _ ?_, ?_⟩
      · have hf2 : (Builtin.firstCells (Rep.n α) 0 (.slice ad2 0 c2)).run P w = .ok cc2.toArray w := hf2
        simp [h0, Builtin.append_, run_underlying hu, sizeOf, typeInfo, hti, Builtin.lenOf, hsz, hf2]
      · rw [List.append_nil]
        refine hS.repl is ha fun F hF => ?_
        rw [hp] at hF
        obtain ⟨F1, F2, k1, k2, kd, kF⟩ := hF
        subst h0
        exact ⟨F1, F0, Keep.refl _ _, fun _ _ h => h.elim, Sep.one.2 k1, fun b o h => .inl ((kF b o).2 (.inl h))⟩
    · have hcc : CellsAt w b off cc := by
        rcases hc1 with h | ⟨b', off', h, hc⟩
        · subst h
          have : cc = [] := List.eq_nil_of_length_eq_zero (by rw [hl1]; simp)
          subst this; intro j v hj; simp at hj
        · simp at h; obtain ⟨rfl, rfl⟩ := h; exact hc
      have hmul : (l.length + xs.length) * Rep.n α ≤ cap * Rep.n α := Nat.mul_le_mul_right _ hroom
      rw [Nat.add_mul] at hmul
      obtain ⟨w', hst, hk, hws, hcell⟩ := run_storeCells_in (b := b) P cc2 w (off + l.length * Rep.n α) 0 hone2 (fun q _ hq => hrow _ ⟨rfl, by omega, by omega⟩)
      refine ⟨_, w', hexec _ _ (by
        have hadd : (⟨b, off, none⟩ : Addr).add (l.length * Rep.n α) = ⟨b, off + l.length * Rep.n α, none⟩ := by unfold Addr.add; split <;> simp_all
        simp [Builtin.append_, run_underlying hu, sizeOf, typeInfo, hti, Builtin.lenOf, hsz, hf2, hroom, hadd, hst]
        rfl), ?_⟩
      refine hS.repl is ha fun F2 hF2 => ?_
      rw [hp] at hF2
      obtain ⟨Fa, Fb, ka, kb, kd, kF⟩ := hF2
      have ka : Rep.own w [_] l Fa := ka
      have kb : Rep.own w [_] xs Fb := Sep.one.1 kb
      obtain ⟨_, _, he2, _, _, hr⟩ := own_iff.1 ka
      simp at he2
      obtain ⟨rfl, rfl⟩ := he2
      rcases hr with ⟨h, _, _⟩ | ⟨b', off', cc'', Fe, h, hrow2, k1, k2, hdj, hFF⟩
      · cases h
      simp at h
      obtain ⟨rfl, rfl⟩ := h
      have ecc : cc'' = cc := cells_uniq k1 hcc (by rw [k2.length, hl1])
      subst ecc
      obtain ⟨Fe2, o2, hFe2⟩ := hall rfl kb hl2 hc2
      have hkd : ∀ {G : Foot}, (∀ b' o', G b' o' → ¬ inRow b off (cap * Rep.n α) b' o') → G.disj (fun b' o' => b' = b ∧ off + l.length * Rep.n α + 0 ≤ o' ∧ o' < off + l.length * Rep.n α + 0 + cc2.length) := by
        rintro G hG b' o' g ⟨e1, e2, e3⟩
        exact hG b' o' g ⟨e1, by omega, by omega⟩
      have hcc2 : CellsAt w' b off (cc'' ++ cc2) := by
        intro j v hj
        rw [List.getElem?_append] at hj
        split at hj
        · rename_i hlt
          have hc := hcc j v hj
          rw [hk.cell b (off + j) (World.block_lt_of_cell? w _ hc) (fun hh => by obtain ⟨_, e2, _⟩ := hh; omega)]
          exact hc
        · rename_i hge
          have := hcell _ v hj
          rw [show off + l.length * Rep.n α + 0 + (j - cc''.length) = off + j from by omega] at this
          exact this
      refine ⟨fun b' o' => inRow b off (cap * Rep.n α) b' o' ∨ (Fe b' o' ∨ Fe2 b' o'), _, hk, ?_, Sep.one.2 ?_, ?_⟩
      · rintro b' o' ⟨e1, e2, e3⟩
        exact (kF b' o').2 (.inl ((hFF b' o').2 (.inl ⟨e1, by omega, by omega⟩)))
      · have hll : l.length + xs.length = (l ++ xs).length := by simp
        rw [hll]
        refine own_of_row (fun o' ho' => ⟨hk.stay b o' (hrow o' ho').1, (hk.frz b o' (lt_of_cell (hrow o' ho').1)).trans (hrow o' ho').2⟩) hcc2 (OwnAll.app (k2.keep hk (hkd fun b' o' g q => hdj b' o' g q)) (o2.keep hk (hkd fun b' o' g q => ?_)) (fun b' o' p q => ?_) fun _ _ => Iff.rfl) ?_ (by simp; omega) hcm
        · exact kd b' o' ((hFF b' o').2 (.inl q)) (hFe2 b' o' g)
        · exact kd b' o' ((hFF b' o').2 (.inr p)) (hFe2 b' o' q)
        · rintro b' o' (p | p) q
          · exact hdj b' o' p q
          · exact kd b' o' ((hFF b' o').2 (.inl q)) (hFe2 b' o' p)
      · rintro b' o' (p | p | p)
        · exact .inl ((kF b' o').2 (.inl ((hFF b' o').2 (.inl p))))
        · exact .inl ((kF b' o').2 (.inl ((hFF b' o').2 (.inr p))))
        · exact .inl ((kF b' o').2 (.inr (hFe2 b' o' p)))
  · -- in a new row
    have hbytes : (l.length + xs.length) * ti.bytes ≤ 140737488355328 := by
      have : (l.length + xs.length) * ti.bytes ≤ 1073741824 * 65536 := Nat.mul_le_mul hb hby
      omega
    have hfit := growslice_fits (need := l.length + xs.length) (old := cap) (bytes := ti.bytes) (by omega) hbytes
    obtain ⟨hge, hle⟩ : l.length + xs.length ≤ grownCap w (l.length + xs.length) cap el ∧ grownCap w (l.length + xs.length) cap el ≤ maxLen := ⟨grownCap_ge _ _ _ _, grownCap_le_maxLen _ _ _ _ (by unfold maxLen; omega)⟩
    have hrun : (Builtin.append_ #[t, t] o.type #[.slice ad l.length cap, .slice ad2 xs.length c2]).run P w = .ok (.slice (some ⟨w.heap.size, 0, none⟩) (l.length + xs.length) (grownCap w (l.length + xs.length) cap el)) (w.drew.alloc (.cells (cc.toArray ++ cc2.toArray ++ Builtin.zeroCells z.cells (grownCap w (l.length + xs.length) cap el - (l.length + xs.length))) el)) := by
      have hn1 : ¬ (l.length + xs.length ≤ cap) := hroom
      have h63' : ¬ (9223372036854775807 < ((l.length : Int) + (xs.length : Int))) := by omega
      have h48' : ¬ (281474976710656 < Builtin.nextslicecap (l.length + xs.length) cap * ti.bytes) := by omega
      have hf1 : (Builtin.firstCells (Rep.n α) l.length (.slice ad l.length cap)).run P w.drew = .ok cc.toArray w.drew := run_first (α := α) hl1 (hc1.imp (fun h => by simp [h]) id)
      have hf2 : (Builtin.firstCells (Rep.n α) xs.length (.slice ad2 xs.length c2)).run P w.drew = .ok cc2.toArray w.drew := run_first (α := α) hl2 hsrc'
      simp [Builtin.append_, run_underlying hu, sizeOf, typeInfo, zeroValue, hti, hz, hsz, Builtin.lenOf, hn1, h63', h48', Question.forced, hf1, hf2, newRow, grownCap]
      congr 2
      apply Array.ext'
      simp
    refine ⟨_, _, hexec _ _ hrun, ?_⟩
    have hz3 : (Builtin.zeroCells z.cells (grownCap w (l.length + xs.length) cap el - (l.length + xs.length))).toList.length = (grownCap w (l.length + xs.length) cap el - (l.length + xs.length)) * Rep.n α := by simpa using (show (Builtin.zeroCells z.cells (grownCap w (l.length + xs.length) cap el - (l.length + xs.length))).size = _ by rw [size_zeroCells, hzs])
    have htot : ((cc ++ cc2) ++ (Builtin.zeroCells z.cells (grownCap w (l.length + xs.length) cap el - (l.length + xs.length))).toList).length = grownCap w (l.length + xs.length) cap el * Rep.n α := by
      rw [List.length_append, hlen, hz3, List.length_append, ← Nat.add_mul]
      congr 1; omega
    have hS' : St c w.drew L R := hS.same (Keep.drew F0 w)
    have hnew := new_rowN hS' is ha hp (cc ++ cc2) (Builtin.zeroCells z.cells (grownCap w (l.length + xs.length) cap el - (l.length + xs.length))).toList (l ++ xs) (grownCap w (l.length + xs.length) cap el) el (fun F2 hF2 => by
      obtain ⟨Fa, Fb, ka, kb, kd, kF⟩ := hF2
      have ka : Rep.own w.drew [_] l Fa := ka
      have kb : Rep.own w.drew [_] xs Fb := Sep.one.1 kb
      have drop : Keep F0 w.drew w := ⟨rfl, rfl, rfl, Nat.le_refl _, fun _ _ _ => rfl, fun _ _ _ _ => rfl, fun _ _ _ => rfl, fun _ _ h => h⟩
      obtain ⟨Fe, o1, h1⟩ := hall rfl (Rep.own_keep ka drop fun _ _ _ h => h) hl1 hc1
      obtain ⟨Fe2, o2, h2⟩ := hall rfl (Rep.own_keep kb drop fun _ _ _ h => h) hl2 hc2
      have hk := Keep.drew F0 w
      exact ⟨_, OwnAll.app (o1.keep hk fun _ _ _ h => h) (o2.keep hk fun _ _ _ h => h) (fun b o p q => kd b o (h1 b o p) (h2 b o q)) fun _ _ => Iff.rfl, fun b o p => (kF b o).2 (p.imp (h1 b o) (h2 b o))⟩) htot (by simp; omega) hle
    have heq : ((cc ++ cc2) ++ (Builtin.zeroCells z.cells (grownCap w (l.length + xs.length) cap el - (l.length + xs.length))).toList).toArray = cc.toArray ++ cc2.toArray ++ Builtin.zeroCells z.cells (grownCap w (l.length + xs.length) cap el - (l.length + xs.length)) := by
      apply Array.ext'; simp
    rw [heq] at hnew
    have hll : l.length + xs.length = (l ++ xs).length := by simp
    rw [← hll] at hnew
    exact hnew
end
end Go.Gv
