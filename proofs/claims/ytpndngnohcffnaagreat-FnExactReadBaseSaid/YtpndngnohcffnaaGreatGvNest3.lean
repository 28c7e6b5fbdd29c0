/-
  Cells of ours at any place; calls that write to chunks of ours; parts of slices of ours.
-/
import Derived.Test.YtpndngnohcffnaaGreatGvNest2
set_option linter.unusedVariables false
namespace Go.Gv
section
variable {v : Value} {k : IntKind} {i : Int} {P : Program} {o : Oper} {e : Env} {w w' : World} {c : Ctx} {L : List Chunk} {R : List Fact} {x y : Operand} {t el : TypeId}

theorem St.acell (h : St c w L R) {b q : Nat} {cs : List Value} (i : Nat) {j : Nat} (hi : L[i]? = some (cAt b q cs)) (hj : cs[j]? = some v) : w.cell? ⟨b, q + j, none⟩ = some v := by
  obtain ⟨F, h1, _⟩ := h.chunk i hi
  exact h1 j v hj
theorem St.acells (h : St c w L R) {b q : Nat} {cs cs' : List Value} (i j : Nat) (hi : L[i]? = some (cAt b q cs)) (hj : (cs.drop j).take cs'.length = cs') : CellsAt w b (q + j) cs' := by
  intro m u hm
  have hlt := (List.getElem?_eq_some_iff.1 hm).1
  rw [Nat.add_assoc]
  refine h.acell i hi ?_
  rw [← hj] at hm
  rw [List.getElem?_take, if_pos (by omega), List.getElem?_drop] at hm
  exact hm
theorem rs_at {b q j m i : Nat} {cs vs : List Value} (hS : St c w L R) (hi : L[i]? = some (cAt b q cs)) (ho : o.op = .store t x y) (hx : ev e x = some (.pointer (some ⟨b, q + j, none⟩))) (hy : ev e y = some v) (hvs : v.cells.toList = vs) (hz : ∀ w, (sizeOf t).run P w = .ok m w) (hm : vs.length = m) (hj : Nat.ble (j + m) cs.length = true) (h1 : vs.all Value.oneCell' = true) :
    ∃ w', RunS P o e w w' ∧ St c w' (L.set i (cAt b q (setN cs j vs))) R := by
  subst hm
  have hj' : j + vs.length ≤ cs.length := Nat.le_of_ble_eq_true hj
  have h1' : ∀ v ∈ vs, v.oneCell' = true := fun v hv => by simpa using List.all_eq_true.1 h1 v hv
  obtain ⟨F, hF⟩ := hS.chunk i hi
  obtain ⟨hc, hfz, _⟩ := hF
  obtain ⟨w', hr, hk, hsz, hcell⟩ := run_storeCells_in (b := b) P vs w (q + j) 0 h1' (fun p _ hp => by
    refine ⟨?_, hfz (q + j + p) ⟨rfl, by omega, by omega⟩⟩
    have := hc (j + p) _ (List.getElem?_eq_getElem (by omega))
    rw [← Nat.add_assoc] at this
    rw [this]; rfl)
  refine ⟨w', fun _ a hA => ?_, ?_⟩
  · have hsize : v.cells.size = vs.length := by rw [← hvs]; simp
    have hr' : (storeCells ⟨b, q + j, none⟩ v.cells.toList).run P w = .ok () w' := by rw [hvs]; exact hr
    simp [execOp, ho, Instr.storeAt, Instr.sureAddr, hA.eval hx, hA.eval hy, storeVar, hz, hsize, hr']
  · refine hS.turn i hi fun F2 hF2 => ?_
    obtain ⟨k1, k2, kF⟩ := hF2
    have hlen : (setN cs j vs).length = cs.length := setN_length vs cs j
    refine ⟨F2, _, hk, ?_, ⟨?_, fun o' ho' => ?_, fun b' o' => by rw [hlen]; exact kF b' o'⟩, fun _ _ h => .inl h⟩
    · rintro b' o' ⟨e1, e2, e3⟩
      exact (kF b' o').2 ⟨e1, by omega, by omega⟩
    · intro p u hp
      rw [setN_get vs cs j p (by omega)] at hp
      split at hp
      · have := hcell _ u hp
        rw [show q + j + 0 + (p - j) = q + p by omega] at this
        exact this
      · have h3 := k1 p u hp
        rw [hk.cell b (q + p) (World.block_lt_of_cell? w _ h3) (fun hh => by obtain ⟨_, e2, e3⟩ := hh; omega)]
        exact h3
    · rw [hlen] at ho'
      obtain ⟨_, e2, e3⟩ := ho'
      have h3 := k1 (o' - q) _ (List.getElem?_eq_getElem (by omega))
      rw [show q + (o' - q) = o' by omega] at h3
      exact (hk.frz b o' (World.block_lt_of_cell? w _ h3)).trans (k2 o' ⟨rfl, e2, e3⟩)

/-- The length of a slice that is open. -/
theorem hole_rd (h : St c w L R) {α : Type} [Rep α] {s : Value} {l : List α} {k : Nat} (i : Nat) (hi : L[i]? = some (cHole s l k)) : ∃ b off m, s = .slice (some ⟨b, off, none⟩) l.length m ∧ l.length ≤ maxLen := by
  obtain ⟨F, a, cp, b, off, c1, c2, F1, F2, e, h1, h2, h3, rfl, _⟩ := h.chunk i hi
  exact ⟨b, off, cp, e, by omega⟩
theorem rv_lenH {α : Type} [Rep α] {s : Value} {l : List α} {el : TypeId} (h : ∃ b off m, s = .slice (some ⟨b, off, none⟩) l.length m ∧ l.length ≤ maxLen) (hu : P.underlying t = some (.slice el)) (ho : o.op = .call { callee := .builtin .len, args := #[x], argTypes := #[t] }) (hx : ev e x = some s) : RunV P o e w (.int .i64 (l.length : Int)) w := by
  obtain ⟨b, off, m, rfl, _⟩ := h
  exact rv_len hu ho hx
theorem rv_idxH {α : Type} [Rep α] {s : Value} {l : List α} {el m : Nat} {q : α} (h : ∃ b off m, s = .slice (some ⟨b, off, none⟩) l.length m ∧ l.length ≤ maxLen) (_hn : Rep.n α = m) (hq : idx l i = some q) (hu : P.underlying t = some (.slice el)) (hz : ∀ w, (sizeOf el).run P w = .ok m w) (ho : o.op = .indexAddr t x y) (hx : ev e x = some s) (hy : ev e y = some (.int k i)) : RunV P o e w (.pointer (some ⟨elB s, elO m i.toNat s, none⟩)) w := by
  obtain ⟨h0, h1, h2⟩ := idx_some hq
  obtain ⟨b, off, cp, rfl, _⟩ := h
  intro _ a hA
  have h5 : (⟨b, off, none⟩ : Addr).add (i.toNat * m) = ⟨b, off + i.toNat * m, none⟩ := by unfold Addr.add; split <;> simp_all
  simp [execOp, ho, Instr.indexAt, hA.eval hx, hA.eval hy, asIntOf, run_underlying hu, h0, h1, hz, h5, elB, elO]

theorem idx_set {α : Type} {l : List α} {i : Int} {x y : α} (h : idx l i = some x) : idx (l.set i.toNat y) i = some y := by
  obtain ⟨h0, h1, _⟩ := idx_some h
  unfold idx
  rw [if_pos h0, List.getElem?_set_self (by omega)]
theorem zown_nil {α : Type} [Rep α] {w : World} : Rep.own w [.slice none 0 0] ([] : List α) F0 := ⟨none, 0, rfl, Nat.le_refl _, Nat.zero_le _, .inl ⟨rfl, rfl, fun _ _ h => h⟩⟩
theorem znil {w : World} : ∀ ch ∈ ([] : List Chunk), ch.P w F0 := fun _ h => nomatch h
theorem zcons {w : World} {α : Type} [Rep α] {A : List Chunk} (h : ∀ ch ∈ A, ch.P w F0) : ∀ ch ∈ cOwn [.slice none 0 0] ([] : List α) :: A, ch.P w F0 := fun ch hc => by
  rcases List.mem_cons.1 hc with rfl | hc
  · exact zown_nil
  · exact h ch hc
theorem op_zero {w : World} {α : Type} [Rep α] {cs : List Value} {d : α} {A : List Chunk} (h : OP cs d A) (hz : ∀ ch ∈ A, ch.P w F0) : Rep.own w cs d F0 := by
  refine (h w F0).2 ?_
  clear h
  induction A with
  | nil => exact fun _ _ h => h
  | cons a A ih => exact ⟨F0, F0, hz a (by simp), ih fun ch hc => hz ch (by simp [hc]), fun _ _ h => h.elim, fun b o => by simp [F0]⟩

/-! ### Calls -/
theorem blank_get : ∀ {is : List Nat} {L : List Chunk} {j : Nat}, (is.all fun i => !Nat.beq i j) = true → (blank L is)[j]? = L[j]?
  | [], L, j, _ => rfl
  | i :: r, L, j, h => by
    simp only [List.all_cons, Bool.and_eq_true, Bool.not_eq_true'] at h
    have hne : i ≠ j := fun e => by rw [e] at h; simp at h
    show (blank (L.set i cNo) r)[j]? = _
    rw [blank_get h.2, List.getElem?_set_ne hne]
/-- What a callee may look at: a fact, or a chunk that it is not given. -/
def Lent (L : List Chunk) (R : List Fact) (is : List Nat) (f : Fact) : Prop := (∃ g ∈ R, ∀ S w, g.P S w → f.P S w) ∨ (∃ (j : Nat) (ch : Chunk), (is.all fun i => !Nat.beq i j) = true ∧ L[j]? = some ch ∧ ∀ w F, ch.P w F → f.P F w) ∨ ∀ w, f.P F0 w
theorem lent_fact {is : List Nat} {f : Fact} (i : Nat) (h : R[i]? = some f) : Lent L R is f := .inl ⟨f, List.mem_of_getElem? h, fun _ _ h => h⟩
theorem lent_own {is : List Nat} {α : Type} [Rep α] {cs : List Value} {d : α} (j : Nat) (h : L[j]? = some (cOwn cs d)) (hj : (is.all fun i => !Nat.beq i j) = true) : Lent L R is (fRd cs d) := .inr (.inl ⟨j, _, hj, h, fun _ _ hF => Rep.own_rd hF⟩)
theorem lent_nil {is : List Nat} {α : Type} [Rep α] : Lent L R is (fRd [.slice none 0 0] ([] : List α)) := .inr (.inr fun w => ⟨none, 0, rfl, Nat.le_refl _, Nat.zero_le _, .inl rfl⟩)
theorem all_nil {Q : Fact → Prop} : ∀ f ∈ ([] : List Fact), Q f := fun _ h => nomatch h
theorem all_cons {Q : Fact → Prop} {f : Fact} {l : List Fact} (h : Q f) (hl : ∀ f ∈ l, Q f) : ∀ g ∈ f :: l, Q g := by
  intro g hg
  rcases List.mem_cons.1 hg with rfl | hg
  · exact h
  · exact hl g hg
/-- A call that is given some chunks, and hands chunks back. -/
theorem St.give (h : St c w L R) (is : List Nat) (ha : apartB is = true) {A : List Chunk} (hp : pick L is = A) :
    ∃ c', (∀ RA, (∀ f ∈ RA, Lent L R is f) → St c' w A RA) ∧ ∀ w' A' R', St c' w' A' R' → St c w' (blank L is ++ A') R := by
  have h0 : St c w (A ++ blank L is) R := hp ▸ h.front is ha
  obtain ⟨F, S, hsep, hFS, hFW, hSS, hSlt, hR⟩ := h0.sep
  obtain ⟨F1, F2, h1, h2, hd, hF⟩ := Sep.append.1 hsep
  refine ⟨⟨w, F1, fun b o => S b o ∨ F2 b o⟩, fun RA hRA => ⟨Keep.refl _ _, ⟨F1, fun b o => S b o ∨ F2 b o, h1, ?_, fun _ _ h => .inl h, fun _ _ h => .inl h, ?_, fun f hf => ?_⟩, ?_⟩, ?_⟩
  · rintro b o p (q | q)
    · exact hFS b o ((hF b o).2 (.inl p)) q
    · exact hd b o p q
  · rintro b o (q | q)
    · exact hSlt b o q
    · exact Sep.lt h2 q
  · rcases hRA f hf with ⟨g, k, kg⟩ | ⟨j, ch, kj, kl, kf⟩ | k
    rotate_left 2
    · exact f.mono (k w) fun _ _ q => q.elim
    · exact f.mono (kg _ _ (hR g k)) fun _ _ q => .inl q
    · have : (blank L is)[j]? = some ch := by rw [blank_get kj]; exact kl
      obtain ⟨G1, G2, g1, _, _, gF⟩ := (Sep.take this).1 h2
      exact f.mono (kf w G1 g1) fun b o q => .inr ((gF b o).2 (.inl q))
  · rintro b o p (q | q)
    · exact hFS b o ((hF b o).2 (.inl p)) q
    · exact hd b o p q
  · intro w' A' R' k
    obtain ⟨F', S', b1, b2, b3, b4, b5, b6⟩ := k.sep
    have hk : Keep F1 w w' := k.keep
    have hGW : ∀ b o, b < c.w0.heap.size → F1 b o → c.W b o := fun b o hb g => by
      rcases hFW b o ((hF b o).2 (.inl g)) with h | h
      · exact h
      · omega
    refine ⟨h0.keep.trans hk hGW, ⟨fun b o => F2 b o ∨ F' b o, S, Sep.append.2 ⟨F2, F', Sep.keep hk h2 fun b o hf g => hd b o g hf, b1, ?_, fun _ _ => Iff.rfl⟩, ?_, ?_, hSS, fun b o hS => Nat.lt_of_lt_of_le (hSlt b o hS) hk.size, ?_⟩, h0.apart⟩
    · intro b o hf hg
      rcases b3 b o hg with h | h
      · exact hd b o h hf
      · have h : w.heap.size ≤ b := h
        have := Sep.lt h2 hf; omega
    · rintro b o (hf | hf) hS
      · exact hFS b o ((hF b o).2 (.inr hf)) hS
      · rcases b3 b o hf with h | h
        · exact hFS b o ((hF b o).2 (.inl h)) hS
        · have h : w.heap.size ≤ b := h
          have := hSlt b o hS; omega
    · rintro b o (hf | hf)
      · exact hFW b o ((hF b o).2 (.inr hf))
      · rcases b3 b o hf with h' | h'
        · exact hFW b o ((hF b o).2 (.inl h'))
        · exact .inr (Nat.le_trans h0.keep.size h')
    · intro f hf
      exact f.agree (hR f hf) fun b o hS => hk.cell b o (hSlt b o hS) fun g => hFS b o ((hF b o).2 (.inl g)) hS

/-! ### A part of a box -/
theorem sep_split {b q : Nat} {A B C : List Value} {F : Foot} (h : (cAt b q (A ++ (B ++ C))).P w F) : Sep w [cAt b q A, cAt b (q + A.length) B, cAt b (q + A.length + B.length) C] F := by
  obtain ⟨h1, h2, hF⟩ := h
  obtain ⟨k1, k23⟩ := cells_split h1
  obtain ⟨k2, k3⟩ := cells_split k23
  simp only [List.length_append] at h2 hF
  refine ⟨inRow b q A.length, fun b' o => inRow b (q + A.length) B.length b' o ∨ inRow b (q + A.length + B.length) C.length b' o, ⟨k1, fun o p => h2 o ⟨rfl, by have := p.2; omega, by have := p.2; omega⟩, fun _ _ => Iff.rfl⟩,
    ⟨inRow b (q + A.length) B.length, inRow b (q + A.length + B.length) C.length, ⟨k2, fun o p => h2 o ⟨rfl, by have := p.2; omega, by have := p.2; omega⟩, fun _ _ => Iff.rfl⟩, Sep.one.2 ⟨k3, fun o p => h2 o ⟨rfl, by have := p.2; omega, by have := p.2; omega⟩, fun _ _ => Iff.rfl⟩, ?_, fun _ _ => Iff.rfl⟩, ?_, fun b' o => ?_⟩
  · rintro b' o ⟨_, p1, p2⟩ ⟨_, q1, q2⟩; omega
  · rintro b' o ⟨_, p1, p2⟩ (⟨_, q1, q2⟩ | ⟨_, q1, q2⟩) <;> omega
  · rw [hF]
    constructor
    · rintro ⟨e, p1, p2⟩
      by_cases x1 : o < q + A.length
      · exact .inl ⟨e, p1, x1⟩
      · by_cases x2 : o < q + A.length + B.length
        · exact .inr (.inl ⟨e, by omega, x2⟩)
        · exact .inr (.inr ⟨e, by omega, by omega⟩)
    · rintro (⟨e, p1, p2⟩ | ⟨e, p1, p2⟩ | ⟨e, p1, p2⟩) <;> exact ⟨e, by omega, by omega⟩
theorem sep_join {b q : Nat} {A B C : List Value} {F : Foot} (h : Sep w [cAt b q A, cAt b (q + A.length) B, cAt b (q + A.length + B.length) C] F) : (cAt b q (A ++ (B ++ C))).P w F := by
  obtain ⟨F1, F23, ⟨a1, a2, aF⟩, ⟨F2, F3, ⟨b1, b2, bF⟩, h3, _, f23⟩, _, f⟩ := h
  obtain ⟨c1, c2, cF⟩ := Sep.one.1 h3
  refine ⟨cells_join a1 (cells_join b1 c1), fun o p => ?_, fun b' o => ?_⟩
  · obtain ⟨_, p1, p2⟩ := p
    simp only [List.length_append] at p2
    by_cases x1 : o < q + A.length
    · exact a2 o ⟨rfl, p1, x1⟩
    · by_cases x2 : o < q + A.length + B.length
      · exact b2 o ⟨rfl, by omega, x2⟩
      · exact c2 o ⟨rfl, by omega, by omega⟩
  · rw [f, f23, aF, bF, cF]
    simp only [List.length_append]
    constructor
    · rintro (⟨e, p1, p2⟩ | ⟨e, p1, p2⟩ | ⟨e, p1, p2⟩) <;> exact ⟨e, by omega, by omega⟩
    · rintro ⟨e, p1, p2⟩
      by_cases x1 : o < q + A.length
      · exact .inl ⟨e, p1, x1⟩
      · by_cases x2 : o < q + A.length + B.length
        · exact .inr (.inl ⟨e, by omega, x2⟩)
        · exact .inr (.inr ⟨e, by omega, by omega⟩)
theorem St.splitAt (h : St c w L R) {b q : Nat} {A B C : List Value} (i : Nat) (hi : L[i]? = some (cAt b q (A ++ (B ++ C)))) : St c w (L.set i cNo ++ [cAt b q A, cAt b (q + A.length) B, cAt b (q + A.length + B.length) C]) R := by
  have h1 : St c w ([cAt b q (A ++ (B ++ C))] ++ L.set i cNo) R := h.take i hi
  obtain ⟨F, S, hsep, rest⟩ := h1.sep
  obtain ⟨F1, F2, g1, g2, gd, gF⟩ := Sep.append.1 hsep
  exact St.rot ⟨h1.keep, ⟨F, S, Sep.append.2 ⟨F1, F2, sep_split (Sep.one.1 g1), g2, gd, gF⟩, rest⟩, h1.apart⟩
theorem St.joinAt (h : St c w L R) {b q : Nat} {A B C : List Value} (is : List Nat) (ha : apartB is = true) (hp : pick L is = [cAt b q A, cAt b (q + A.length) B, cAt b (q + A.length + B.length) C]) : St c w (blank L is ++ [cAt b q (A ++ (B ++ C))]) R :=
  h.shift is ha fun F hF => Sep.one.2 (sep_join (hp ▸ hF))
end
end Go.Gv
