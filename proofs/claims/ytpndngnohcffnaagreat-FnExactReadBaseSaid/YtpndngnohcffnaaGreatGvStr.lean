/-
  Parts of slices and strings, their elements, conversions, min and max. Nothing of a program here.
-/
import Derived.Test.YtpndngnohcffnaaGreatGvNest3
import Derived.Laws.BytesString
set_option linter.unusedVariables false
set_option linter.unusedSimpArgs false
namespace Go.Gv

/-- s[l:h]. -/
def subV (n l h : Nat) : Value → Value
  | .slice a _ cap => .slice (if cap = l then a else a.map (·.add (l * n))) (h - l) (cap - l)
  | v => v
theorem sub_len {α : Type} {l : List α} {a b : Nat} (h1 : a ≤ b) (h2 : b ≤ l.length) : ((l.take b).drop a).length = b - a := by simp; omega
theorem sub_get {α : Type} {l : List α} {a b i : Nat} (h2 : b ≤ l.length) (hi : i < b - a) : ((l.take b).drop a)[i]? = l[a + i]? := by
  rw [List.getElem?_drop, List.getElem?_take, if_pos (by omega)]
theorem rd_sub {α : Type} [Rep α] {S : Foot} {w : World} {s : Value} {l : List α} {n a b : Nat} (hn : Rep.n α = n) (h : Rep.rd S w [s] l) (h1 : a ≤ b) (h2 : b ≤ l.length) : Rep.rd S w [subV n a b s] ((l.take b).drop a) := by
  subst hn
  obtain ⟨ad, c, e, k1, k2, k3⟩ := (show rdSlice S w [s] l from h)
  simp at e; subst e
  have hl := sub_len h1 h2
  refine ⟨if c = a then ad else ad.map (·.add (a * Rep.n α)), c - a, by simp only [subV, hl], by rw [hl]; omega, by omega, ?_⟩
  by_cases h0 : b = a
  · left; apply List.eq_nil_of_length_eq_zero; omega
  · right
    rcases k3 with k3 | ⟨bl, off, rfl, k3⟩
    · subst k3; simp at h2; omega
    · have hadd : (⟨bl, off, none⟩ : Addr).add (a * Rep.n α) = ⟨bl, off + a * Rep.n α, none⟩ := by
        unfold Addr.add; split
        · rename_i h0; rw [h0]; rfl
        · rfl
      refine ⟨bl, off + a * Rep.n α, by rw [if_neg (by omega)]; simp only [Option.map_some, hadd], fun i hi => ?_⟩
      rw [hl] at hi
      have hg := sub_get h2 hi
      rw [List.getElem?_eq_getElem (by omega), List.getElem?_eq_getElem (by omega)] at hg
      simp only [Option.some.injEq] at hg
      obtain ⟨ec, q1, q2, q3⟩ := k3 (a + i) (by omega)
      rw [Nat.add_mul, ← Nat.add_assoc] at q1 q2
      exact ⟨ec, q1, q2, by rw [hg]; exact q3⟩
theorem own_sub {α : Type} [Rep α] {w : World} {s : Value} {l : List α} {n a b : Nat} {F : Foot} (hn : Rep.n α = n) (h : Rep.own w [s] l F) (h1 : a ≤ b) (h2 : b ≤ l.length) : ∃ F', Rep.own w [subV n a b s] ((l.take b).drop a) F' ∧ ∀ b o, F' b o → F b o := by
  subst hn
  obtain ⟨ad, c, e, k1, k2, k3⟩ := own_iff.1 h
  subst e
  have hl := sub_len h1 h2
  rcases k3 with ⟨rfl, rfl, hF⟩ | ⟨bl, off, cc, Fe, rfl, hr, hc, ho, hd, hF⟩
  · have : l = [] := List.eq_nil_of_length_eq_zero (by omega)
    subst this
    have ha : a = 0 := by simp at h2; omega
    have hb : b = 0 := by simpa using h2
    subst ha; subst hb
    exact ⟨F0, ⟨none, 0, rfl, Nat.le_refl _, Nat.zero_le _, .inl ⟨rfl, rfl, fun _ _ h => h⟩⟩, fun _ _ h => h.elim⟩
  · have e3 : l = l.take a ++ ((l.take b).drop a ++ l.drop b) := by
      rw [← List.append_assoc]
      have : l.take a = (l.take b).take a := by rw [List.take_take]; congr 1; omega
      rw [this, List.take_append_drop, List.take_append_drop]
    rw [e3] at ho
    obtain ⟨c1, c23, F1, F23, rfl, o1, o23, d1, f1⟩ := ho.split
    obtain ⟨c2, c3, F2, F3, rfl, o2, o3, d2, f2⟩ := o23.split
    have l1 := o1.length
    rw [List.length_take, Nat.min_eq_left (by omega)] at l1
    obtain ⟨q1, q23⟩ := cells_split hc
    obtain ⟨q2, q3⟩ := cells_split q23
    rw [l1] at q2
    by_cases hca : c = a
    · have hab : b = a := by omega
      have hz : (l.take b).drop a = [] := by apply List.eq_nil_of_length_eq_zero; omega
      refine ⟨F0, ?_, fun _ _ h => h.elim⟩
      rw [hz]
      simp only [subV, hca, hab, Nat.sub_self, if_true]
      exact own_iff.2 ⟨some ⟨bl, off, none⟩, 0, rfl, Nat.le_refl _, Nat.zero_le _, .inr ⟨bl, off, [], F0, rfl, fun o p => by obtain ⟨_, p1, p2⟩ := p; omega, fun j v h => by simp at h, ⟨rfl, fun _ _ h => h⟩, fun _ _ h => h.elim, fun b' o => by
        simp only [F0, or_false, false_iff, inRow]; rintro ⟨_, p1, p2⟩; omega⟩⟩
    · have hmul : a * Rep.n α + (c - a) * Rep.n α = c * Rep.n α := by rw [← Nat.add_mul]; congr 1; omega
      refine ⟨fun b' o => inRow bl (off + a * Rep.n α) ((c - a) * Rep.n α) b' o ∨ F2 b' o, ?_, ?_⟩
      · have e4 : subV (Rep.n α) a b (.slice (some ⟨bl, off, none⟩) l.length c) = .slice (some ⟨bl, off + a * Rep.n α, none⟩) ((l.take b).drop a).length (c - a) := by
          have hadd : (⟨bl, off, none⟩ : Addr).add (a * Rep.n α) = ⟨bl, off + a * Rep.n α, none⟩ := by
            unfold Addr.add; split
            · rename_i h0; rw [h0]; rfl
            · rfl
          simp only [subV, hl, if_neg hca, Option.map_some, hadd]
        rw [e4]
        refine own_of_row (fun o p => hr o ?_) q2 o2 (fun b' o p q => hd b' o ((f1 b' o).2 (.inr ((f2 b' o).2 (.inl p)))) ?_) (by rw [hl]; omega) (by omega)
        · obtain ⟨_, p1, p2⟩ := p; exact ⟨rfl, by omega, by omega⟩
        · obtain ⟨p0, p1, p2⟩ := q; exact ⟨p0, by omega, by omega⟩
      · rintro b' o (p | p)
        · obtain ⟨p0, p1, p2⟩ := p
          exact (hF b' o).2 (.inl ⟨p0, by omega, by omega⟩)
        · exact (hF b' o).2 (.inr ((f1 b' o).2 (.inr ((f2 b' o).2 (.inl p)))))
theorem lent_sub {α : Type} [Rep α] {L : List Chunk} {R : List Fact} {is : List Nat} {s : Value} {l : List α} {n a b : Nat} (h : Lent L R is (fRd [s] l)) (hn : Rep.n α = n) (h1 : a ≤ b) (h2 : b ≤ l.length) : Lent L R is (fRd [subV n a b s] ((l.take b).drop a)) := by
  rcases h with ⟨g, k, kg⟩ | ⟨j, ch, kj, kl, kf⟩ | k
  · exact .inl ⟨g, k, fun S w q => rd_sub hn (kg S w q) h1 h2⟩
  · exact .inr (.inl ⟨j, ch, kj, kl, fun w F q => rd_sub hn (kf w F q) h1 h2⟩)
  · exact .inr (.inr fun w => rd_sub hn (k w) h1 h2)
section
variable {v : Value} {k k2 : IntKind} {i j : Int} {P : Program} {o : Oper} {e : Env} {w w' : World} {c : Ctx} {L : List Chunk} {R : List Fact} {x y z : Operand} {t el : TypeId}

theorem St.subF (h : St c w L R) {α : Type} [Rep α] {s : Value} {l : List α} {n a b : Nat} (m : Nat) (hm : R[m]? = some (fRd [s] l)) (hn : Rep.n α = n) (h1 : a ≤ b) (h2 : b ≤ l.length) : St c w L (R ++ [fRd [subV n a b s] ((l.take b).drop a)]) :=
  h.derive m hm fun S hS g hg => by simp at hg; subst hg; exact rd_sub hn hS h1 h2
theorem St.subOwn (h : St c w L R) {α : Type} [Rep α] {s : Value} {l : List α} {n a b : Nat} (m : Nat) (hm : L[m]? = some (cOwn [s] l)) (hn : Rep.n α = n) (h1 : a ≤ b) (h2 : b ≤ l.length) : St c w (L.set m (cOwn [subV n a b s] ((l.take b).drop a))) R :=
  h.turn m hm fun F hF => by
    obtain ⟨F', k1, k2⟩ := own_sub hn hF h1 h2
    exact ⟨F', F0, Keep.refl _ _, fun _ _ h => h.elim, k1, fun b o q => .inl (k2 b o q)⟩

/-- What a slice's shape says of its bounds. -/
theorem rd_cap {α : Type} [Rep α] {S : Foot} {s : Value} {l : List α} (h : Rep.rd S w [s] l) : ∃ ad cp, s = .slice ad l.length cp ∧ l.length ≤ cp := by
  obtain ⟨ad, cp, e, k1, _⟩ := (show rdSlice S w [s] l from h)
  simp at e
  exact ⟨ad, cp, e, k1⟩
theorem rv_sub_lh {α : Type} [Rep α] {S : Foot} {s : Value} {l : List α} {n : Nat} (h : Rep.rd S w [s] l) (hn : Rep.n α = n) (hu : P.underlying t = some (.slice el)) (hz : ∀ w, (sizeOf el).run P w = .ok n w) (hb : 0 ≤ i ∧ i ≤ j ∧ j ≤ l.length) (ho : o.op = .slice t x (some y) (some z) none) (hx : ev e x = some s) (hy : ev e y = some (.int k i)) (hw : ev e z = some (.int k2 j)) : RunV P o e w (subV n i.toNat j.toNat s) w := fun _ a hA => by
  obtain ⟨ad, cp, rfl, hc⟩ := rd_cap h
  obtain ⟨b0, b1, b2⟩ := hb
  have h1 : j ≤ (cp : Int) := by omega
  have h3 : 0 ≤ j := by omega
  have h2 : max j 0 = j := by omega
  simp [execOp, ho, Instr.sliceAt, Instr.slice, run_underlying hu, Instr.sliceBounds, hA.eval hx, hA.eval hy, hA.eval hw, Instr.sliceBound, asIntOf, hz, b0, b1, h1, h2, h3, subV]
theorem rv_sub_l {α : Type} [Rep α] {S : Foot} {s : Value} {l : List α} {n : Nat} (h : Rep.rd S w [s] l) (hn : Rep.n α = n) (hu : P.underlying t = some (.slice el)) (hz : ∀ w, (sizeOf el).run P w = .ok n w) (hb : 0 ≤ i ∧ i ≤ l.length) (ho : o.op = .slice t x (some y) none none) (hx : ev e x = some s) (hy : ev e y = some (.int k i)) : RunV P o e w (subV n i.toNat l.length s) w := fun _ a hA => by
  obtain ⟨ad, cp, rfl, hc⟩ := rd_cap h
  obtain ⟨b0, b1⟩ := hb
  simp [execOp, ho, Instr.sliceAt, Instr.slice, run_underlying hu, Instr.sliceBounds, hA.eval hx, hA.eval hy, Instr.sliceBound, asIntOf, hz, b0, b1, subV]
theorem rv_sub_h {α : Type} [Rep α] {S : Foot} {s : Value} {l : List α} {n : Nat} (h : Rep.rd S w [s] l) (hn : Rep.n α = n) (hu : P.underlying t = some (.slice el)) (hz : ∀ w, (sizeOf el).run P w = .ok n w) (hb : 0 ≤ j ∧ j ≤ l.length) (ho : o.op = .slice t x none (some z) none) (hx : ev e x = some s) (hw : ev e z = some (.int k2 j)) : RunV P o e w (subV n 0 j.toNat s) w := fun _ a hA => by
  obtain ⟨ad, cp, rfl, hc⟩ := rd_cap h
  obtain ⟨b0, b1⟩ := hb
  have h1 : j ≤ (cp : Int) := by omega
  simp [execOp, ho, Instr.sliceAt, Instr.slice, run_underlying hu, Instr.sliceBounds, hA.eval hx, hA.eval hw, Instr.sliceBound, asIntOf, hz, b0, h1, subV]
theorem rv_sub_n {α : Type} [Rep α] {S : Foot} {s : Value} {l : List α} {n : Nat} (h : Rep.rd S w [s] l) (hn : Rep.n α = n) (hu : P.underlying t = some (.slice el)) (hz : ∀ w, (sizeOf el).run P w = .ok n w) (ho : o.op = .slice t x none none none) (hx : ev e x = some s) : RunV P o e w (subV n 0 l.length s) w := fun _ a hA => by
  obtain ⟨ad, cp, rfl, hc⟩ := rd_cap h
  simp [execOp, ho, Instr.sliceAt, Instr.slice, run_underlying hu, Instr.sliceBounds, hA.eval hx, Instr.sliceBound, asIntOf, hz, subV]

/-! ### Strings -/
theorem ext_list (l : List UInt8) (a b : Nat) : (⟨l.toArray⟩ : ByteArray).extract a b = ⟨((l.take b).drop a).toArray⟩ := by
  apply ByteArray.ext
  rw [ByteArray.data_extract]
  apply Array.ext'
  simp [List.extract_eq_take_drop, List.drop_take]
theorem rv_str_lh {l : List UInt8} (hu : P.underlying t = some .string) (hb : 0 ≤ i ∧ i ≤ j ∧ j ≤ l.length) (ho : o.op = .slice t x (some y) (some z) none) (hx : ev e x = some (sv l)) (hy : ev e y = some (.int k i)) (hw : ev e z = some (.int k2 j)) : RunV P o e w (sv ((l.take j.toNat).drop i.toNat)) w := fun _ a hA => by
  obtain ⟨b0, b1, b2⟩ := hb
  have h1 : j ≤ ((⟨l.toArray⟩ : ByteArray).size : Int) := by simp [ByteArray.size]; omega
  have h3 : 0 ≤ j := by omega
  have h2 : max j 0 = j := by omega
  simp [execOp, ho, Instr.sliceAt, Instr.slice, run_underlying hu, Instr.sliceBounds, hA.eval hx, hA.eval hy, hA.eval hw, Instr.sliceBound, asIntOf, b0, b1, h1, h2, h3, ext_list]
theorem rv_str_l {l : List UInt8} (hu : P.underlying t = some .string) (hb : 0 ≤ i ∧ i ≤ l.length) (ho : o.op = .slice t x (some y) none none) (hx : ev e x = some (sv l)) (hy : ev e y = some (.int k i)) : RunV P o e w (sv (l.drop i.toNat)) w := fun _ a hA => by
  obtain ⟨b0, b2⟩ := hb
  have h1 : i ≤ ((⟨l.toArray⟩ : ByteArray).size : Int) := by simp [ByteArray.size]; omega
  have h4 : (⟨l.toArray⟩ : ByteArray).size = l.length := by simp [ByteArray.size]
  simp [execOp, ho, Instr.sliceAt, Instr.slice, run_underlying hu, Instr.sliceBounds, hA.eval hx, hA.eval hy, Instr.sliceBound, asIntOf, b0, b2, h1, ext_list, h4]
theorem rv_str_h {l : List UInt8} (hu : P.underlying t = some .string) (hb : 0 ≤ j ∧ j ≤ l.length) (ho : o.op = .slice t x none (some z) none) (hx : ev e x = some (sv l)) (hw : ev e z = some (.int k2 j)) : RunV P o e w (sv (l.take j.toNat)) w := fun _ a hA => by
  obtain ⟨b0, b2⟩ := hb
  have h1 : j ≤ ((⟨l.toArray⟩ : ByteArray).size : Int) := by simp [ByteArray.size]; omega
  simp [execOp, ho, Instr.sliceAt, Instr.slice, run_underlying hu, Instr.sliceBounds, hA.eval hx, hA.eval hw, Instr.sliceBound, asIntOf, b0, h1, ext_list]
theorem rv_stri {l : List UInt8} {q : UInt8} (hu : P.underlying t = some .string) (hq : idx l i = some q) (ho : o.op = .index t x y) (hx : ev e x = some (sv l)) (hy : ev e y = some (.int k i)) : RunV P o e w (.int .u8 (q.toNat : Int)) w := fun _ a hA => by
  obtain ⟨h0, h1, h2⟩ := idx_some hq
  have h3 : (⟨l.toArray⟩ : ByteArray)[i.toNat]? = some q := by
    rw [getElem?_pos _ _ (by simp [ByteArray.size]; omega)]
    rw [List.getElem?_eq_getElem (by omega)] at h2
    simp only [Option.some.injEq] at h2
    rw [← h2]; rfl
  simp [execOp, ho, Instr.index, run_underlying hu, hA.eval hx, hA.eval hy, asIntOf, h0, h3]
theorem rv_min (ho : o.op = .call { callee := .builtin .min, args := #[x, y], argTypes := #[t, el] }) (hx : ev e x = some (.int .i64 i)) (hy : ev e y = some (.int k j)) : RunV P o e w (.int .i64 (if j < i then j else i)) w := fun _ a hA => by
  simp [execOp, ho, resolve, invoke, builtin, Builtin.min_, Builtin.min2, hA.eval hx, hA.eval hy]
theorem rv_max (ho : o.op = .call { callee := .builtin .max, args := #[x, y], argTypes := #[t, el] }) (hx : ev e x = some (.int .i64 i)) (hy : ev e y = some (.int k j)) : RunV P o e w (.int .i64 (if i < j then j else i)) w := fun _ a hA => by
  simp [execOp, ho, resolve, invoke, builtin, Builtin.max_, Builtin.max2, hA.eval hx, hA.eval hy]
theorem push_bytes : ∀ (l : List UInt8) (s : ByteArray), (l.map fun q => (q.toNat : Int)).foldl (fun r n => r.push (UInt8.ofNat n.toNat)) s = ⟨s.data ++ l.toArray⟩
  | [], s => by simp
  | q :: l, s => by
    rw [List.map_cons, List.foldl_cons, push_bytes l]
    apply ByteArray.ext
    simp
theorem rv_b2s {S : Foot} {s : Value} {l : List UInt8} {t' : TypeId} (h : Rep.rd S w [s] l) (hu : P.underlying t = some (.slice el)) (he : P.underlying el = some (.int .u8)) (hu' : P.underlying t' = some .string) (ho : o.op = .convert t t' x) (hx : ev e x = some s) : RunV P o e w (sv l) w := fun _ a hA => by
  obtain ⟨ad, cp, cc, rfl, h1, h2, h3⟩ := rd_cells h
  have hcc : cc = (l.map fun q => (q.toNat : Int)).map (Value.int .u8) := by
    have h1 : cc.length = l.length * 1 := h1
    apply List.ext_getElem?
    intro i
    by_cases hi : i < l.length
    · have := h3 i l[i] (List.getElem?_eq_getElem hi)
      have : seg cc 1 i = [.int .u8 (l[i].toNat : Int)] := this
      have h5 : (seg cc 1 i)[0]? = cc[i * 1 + 0]? := seg_get (by omega)
      rw [this] at h5
      simp at h5
      rw [← h5]; simp [hi]
    · rw [List.getElem?_eq_none (by omega), List.getElem?_eq_none (by simp; omega)]
  have key : (Conv.bytesToString (.slice ad l.length cp)).run P w = .ok (sv l) w := by
    rcases h2 with h2 | ⟨b, off, rfl, h2⟩
    · subst h2
      cases ad with
      | none => rfl
      | some a =>
        rw [show ([] : List UInt8).length = 0 from rfl, run_bytesToString w a 0 cp [] (by simp [loadCells, loadCellsFrom])]
        rfl
    · rw [run_bytesToString w _ _ cp _ (by
        have := run_loadCells_at h2 P
        have h1 : cc.length = l.length * 1 := h1
        rw [h1, Nat.mul_one] at this
        rw [← hcc]; exact this), push_bytes]
      simp [sv]
  simp [execOp, ho, convert, run_underlying hu, run_underlying hu', run_underlying he, hA.eval hx, key]

/-- An element of an array value, of one cell. -/
theorem rv_arr {α : Type} (f : α → Value) {l : List α} {q : α} {cs : Array Value} {n : Nat} (hu : P.underlying t = some (.array n el)) (hz : ∀ w, (sizeOf el).run P w = .ok 1 w) (hg : ∀ w, (isAgg el).run P w = .ok false w) (hq : idx l i = some q) (hn : l.length = n) (hcs : cs = (l.map f).toArray) (ho : o.op = .index t x y) (hx : ev e x = some (.agg cs)) (hy : ev e y = some (.int k i)) : RunV P o e w (f q) w := fun _ a hA => by
  obtain ⟨h0, h1, h2⟩ := idx_some hq
  subst hn; subst hcs
  have h3 := h2
  rw [List.getElem?_eq_getElem (by omega)] at h3
  simp only [Option.some.injEq] at h3
  simp [execOp, ho, Instr.index, run_underlying hu, hA.eval hx, hA.eval hy, asIntOf, h0, h1, hz, part, hg, h3]
theorem rv_buildA {zv : Value} {n m : Nat} {ps : List (Nat × Operand)} {vs : List Value} {cells : Array Value} (ho : o.op = .build t ps.toArray) (hz : ∀ w, (zeroValue t).run P w = .ok zv w) (hu : P.underlying t = some (.array n el))
    (hp : ∀ w, (sizeOf el).run P w = .ok m w) (hv : evs e (ps.map (·.2)) = some vs) (hc : Instr.fill (fun i => some (i * m, m)) zv.cells ((ps.map (·.1)).zip vs) = some cells) : RunV P o e w (.agg cells) w := fun _ a hA => by
  have h1 : ps.map (fun p => (p.1, a.eval p.2)) = (ps.map (·.1)).zip vs := by
    rw [← evs_map hA hv]
    clear hv hc ho
    induction ps with
    | nil => rfl
    | cons p r ih => simp [ih]
  simp [execOp, ho, Instr.build, hz, run_underlying hu, hp, h1, hc]
/-- T{} of a slice type. -/
theorem rv_lit0 {α : Type} [Rep α] {zv : Value} {m : Nat} (hS : St c w L R) (hn : Rep.n α = m) (hu : P.underlying t = some (.slice el)) (hinf : Inf P el m zv) (ho : o.op = .buildSlice t 0 #[]) :
    ∃ v w', RunV P o e w v w' ∧ St c w' (L ++ [cOwn [v] ([] : List α)]) R := by
  obtain ⟨ti, hi, hz, hsz, hby⟩ := hinf
  have hnew := new_rowN (α := α) hS [] rfl rfl [] [] [] 0 el (fun F _ => ⟨F0, ⟨rfl, fun _ _ h => h⟩, fun _ _ h => h.elim⟩) (by simp) (Nat.le_refl _) (Nat.zero_le _)
  refine ⟨_, _, fun _ a hA => ?_, hnew⟩
  have h0 : Array.range 0 = #[] := by apply Array.eq_empty_of_size_eq_zero; simp
  simp [execOp, ho, Instr.buildSlice, run_underlying hu, sizeOf, typeInfo, hi, hsz, Instr.fill, newRow, h0]
theorem fill_one {zv v c0 : Value} (hc : v.cells = #[c0]) : Instr.fill (fun i => some (i * 1, 1)) ((Array.range (1 * 1)).map (fun i => (if 1 * 1 = 0 then #[] else zv.cells)[i % (if 1 * 1 = 0 then #[] else zv.cells).size]!)) [(0, v)] = some #[c0] := by
  have h1 : Array.range 1 = #[0] := rfl
  simp [Instr.fill, hc, h1]
/-- T{x} of a slice type whose elements are one cell each. -/
theorem rv_lit1 {α : Type} [Rep α] [Flat α] (q : α) {x : Operand} {v c0 zv : Value} (hS : St c w L R) (hn : Rep.n α = 1) (hu : P.underlying t = some (.slice el)) (hinf : Inf P el 1 zv) (hrd : Rep.rd F0 default [c0] q)
    (ho : o.op = .buildSlice t 1 #[(0, x)]) (hv : ev e x = some v) (hc : v.cells = #[c0]) :
    ∃ v w', RunV P o e w v w' ∧ St c w' (L ++ [cOwn [v] [q]]) R := by
  refine rv_lit (ps := [(0, x)]) (vs := [v]) (cells := [c0]) [q] hS hn hu hinf rfl (by rfl) (by rfl) ⟨hrd, rfl⟩ ho (by simp [evs, hv]) ?_
  exact fill_one hc
/-- T{x} of a slice type whose elements are one cell each, with memory behind it. -/
theorem rv_litN1 {α : Type} [Rep α] (q : α) {x : Operand} {v c0 zv : Value} (hS : St c w L R) (is : List Nat) (ha : apartB is = true) (hrd : OPs 1 [c0] [q] (pick L is)) (hn : Rep.n α = 1) (hu : P.underlying t = some (.slice el)) (hinf : Inf P el 1 zv)
    (ho : o.op = .buildSlice t 1 #[(0, x)]) (hv : ev e x = some v) (hc : v.cells = #[c0]) :
    ∃ v w', RunV P o e w v w' ∧ St c w' (blank L is ++ [cOwn [v] [q]]) R := by
  refine rv_litN (ps := [(0, x)]) (vs := [v]) (cells := [c0]) [q] hS is ha hrd hn hu hinf rfl (by rfl) (by rfl) ho (by simp [evs, hv]) ?_
  exact fill_one hc

/-! ### Array variables -/
theorem rv_idxA {n b : Nat} (hu : P.underlying t = some (.array n el)) (hz : ∀ w, (sizeOf el).run P w = .ok 1 w) (hb : 0 ≤ i ∧ i < n) (ho : o.op = .indexAddr t x y) (hx : ev e x = some (.pointer (some ⟨b, 0, none⟩))) (hy : ev e y = some (.int k i)) : RunV P o e w (.pointer (some ⟨b, i.toNat, none⟩)) w := fun _ a hA => by
  have h5 : (⟨b, 0, none⟩ : Addr).add i.toNat = ⟨b, i.toNat, none⟩ := by
    unfold Addr.add; split
    · rename_i h; rw [h]
    · simp
  simp [execOp, ho, Instr.indexAt, hA.eval hx, hA.eval hy, asIntOf, run_underlying hu, Instr.sureAddr, hb.1, hb.2, hz, h5]
theorem St.arrcell {α : Type} {f : α → Value} {l : List α} {q : α} {b : Nat} (h : St c w L R) (m : Nat) (hm : L[m]? = some (cBox b (l.map f))) (hq : idx l i = some q) : w.cell? ⟨b, i.toNat, none⟩ = some (f q) :=
  h.cell m hm (by rw [List.getElem?_map, (idx_some hq).2.2]; rfl)
theorem setN_map {α : Type} {f : α → Value} {l : List α} {k : Nat} {q : α} : setN (l.map f) k [f q] = (l.set k q).map f := by
  show (l.map f).set k (f q) = _
  rw [List.map_set]
theorem rs_arr {α : Type} {f : α → Value} {l : List α} {q xd : α} {b m : Nat} (hS : St c w L R) (hm : L[m]? = some (cBox b (l.map f))) (hq : idx l i = some q) (hz : ∀ w, (sizeOf t).run P w = .ok 1 w) (ho : o.op = .store t x y) (hx : ev e x = some (.pointer (some ⟨b, i.toNat, none⟩))) (hy : ev e y = some v) (hv : v = f xd) (h1 : (f xd).cells = #[f xd]) (h2 : (f xd).oneCell' = true) :
    ∃ w', RunS P o e w w' ∧ St c w' (L.set m (cBox b ((l.set i.toNat xd).map f))) R := by
  obtain ⟨k0, k1, k2⟩ := idx_some hq
  have := rs_box (i := m) (vs := [f xd]) hS hm ho hx hy (by rw [hv, h1]) hz rfl (by rw [Nat.ble_eq]; simp; omega) (by simp [h2])
  rw [setN_map] at this
  exact this
theorem nil_split {α : Type} [Rep α] {S : Foot} {s : Value} {l : List α} {Q : Prop} (h : Rep.rd S w [s] l) (h1 : (∃ n m, s = .slice none n m) → l = [] → Q) (h2 : (∃ a n m, s = .slice (some a) n m) → Q) : Q := by
  obtain ⟨ad, cp, e, k1, k2, k3⟩ := (show rdSlice S w [s] l from h)
  simp at e
  cases ad with
  | none =>
    rcases k3 with k3 | ⟨_, _, k3, _⟩
    · exact h1 ⟨_, _, e⟩ k3
    · cases k3
  | some ad => exact h2 ⟨_, _, _, e⟩
theorem ei_nil_t {D n m : Nat} (hu : P.underlying t = some (.slice el)) : (Op.equalIn (D + 1) t (.slice none n m) (.slice none 0 0)).run P w = .ok true w := by
  simp [Op.equalIn, run_underlying hu]
theorem ei_nil_f {D n m : Nat} {ad : Addr} (hu : P.underlying t = some (.slice el)) : (Op.equalIn (D + 1) t (.slice (some ad) n m) (.slice none 0 0)).run P w = .ok false w := by
  simp [Op.equalIn, run_underlying hu]
theorem rv_eqnil_t {s : Value} {t' : TypeId} (hu : P.underlying t = some (.slice el)) (h : ∃ n m, s = .slice none n m) (ho : o.op = .binOp .eql t x y t') (hx : ev e x = some s) (hy : ev e y = some (.slice none 0 0)) : RunV P o e w (.bool true) w := fun _ a hA => by
  obtain ⟨n, m, rfl⟩ := h
  have h1 : binOp .eql t (.slice none n m) (.slice none 0 0) = (do pure (.bool (← Op.equal t (.slice none n m) (.slice none 0 0)))) := rfl
  have h2 : (Op.equal t (.slice none n m) (.slice none 0 0)).run P w = .ok true w := ei_nil_t (D := 9999) hu
  simp [execOp, ho, hA.eval hx, hA.eval hy, eqGuard, h1, h2]
theorem rv_eqnil_f {s : Value} {t' : TypeId} (hu : P.underlying t = some (.slice el)) (h : ∃ a n m, s = .slice (some a) n m) (ho : o.op = .binOp .eql t x y t') (hx : ev e x = some s) (hy : ev e y = some (.slice none 0 0)) : RunV P o e w (.bool false) w := fun _ a hA => by
  obtain ⟨ad, n, m, rfl⟩ := h
  have h1 : binOp .eql t (.slice (some ad) n m) (.slice none 0 0) = (do pure (.bool (← Op.equal t (.slice (some ad) n m) (.slice none 0 0)))) := rfl
  have h2 : (Op.equal t (.slice (some ad) n m) (.slice none 0 0)).run P w = .ok false w := ei_nil_f (D := 9999) hu
  simp [execOp, ho, hA.eval hx, hA.eval hy, eqGuard, h1, h2]
end
end Go.Gv
