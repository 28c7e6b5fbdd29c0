/-
  Helpers of the printed walks. Nothing of a program here.
-/
import Derived.Test.YtpndngnohcffnaaGreatGvOps
namespace Go.Gv

theorem bindE {α β : Type} {o : Option α} {f : α → Option β} {r : Option β} {q : β} (h : o.bind f = r) (hr : r = some q := by rfl) : ∃ x, o = some x ∧ f x = r := by
  subst hr
  cases o with
  | none => simp at h
  | some x => exact ⟨x, rfl, h⟩
theorem iteT {p : Prop} [Decidable p] {α : Type} {a b r : α} (hp : p) (h : (if p then a else b) = r) : a = r := by rw [if_pos hp] at h; exact h
theorem iteF {t : Bool} {α : Type} {a b r : α} (hp : t = false) (h : (if t = true then a else b) = r) : b = r := by rw [if_neg (by rw [hp]; simp)] at h; exact h
/-- A condition that is asked for: none without it. -/
def need (p : Prop) [Decidable p] {α : Type} (k : Option α) : Option α := if p then k else none
theorem needE {p : Prop} [Decidable p] {α : Type} {k : Option α} {q : α} (h : need p k = some q) : p ∧ k = some q := by
  unfold need at h
  split at h
  · exact ⟨‹p›, h⟩
  · cases h
theorem cw_cut {P : Program} {x : Code} {N : Act → World → Prop} {X : Nat → Act → World → Prop} {T : Act → World → Prop} {a : Act} {w : World} (J : Act → World → Prop) (h1 : CW P x J X T a w) (h2 : ∀ a w, J a w → N a w) : CW P x N X T a w := h1.mono h2 (fun _ _ _ h => h) (fun _ _ h => h)
theorem ops_case {P : Program} {ops : Array Oper} {Q : Exit → Act → World → Prop} {rest : List Oper} {n s : Nat} {e : Env} {w : World} {b : Bool} (_hv : lk e s = some (.bool b)) (ht : b = true → Ops P ops Q rest n e w) (hf : b = false → Ops P ops Q rest n e w) : Ops P ops Q rest n e w := by
  cases b
  · exact hf rfl
  · exact ht rfl
theorem want_no {ops : Array Oper} {o : Oper} {e : Env} {j s : Nat} {t : Bool} (hg : o.guard = some (j, t)) (hj : (ops[j]?).bind (·.dst) = some s) (hv : lk e s = some undef) : Want ops o e false := fun _ a hA => by
  have : yielded ops a.tmps j = none := by
    have h1 := hA.get s _ hv
    simp [yielded, hj, h1, undef]
  simp [Region.wanted, hg, this]
/-- A number as a byte. -/
def u8 (z : Int) : UInt8 := UInt8.ofNat (z % 256).toNat
theorem u8_val (z : Int) : ((u8 z).toNat : Int) = IntKind.u8.wrap z := by
  unfold u8
  simp [IntKind.wrap, IntKind.bits, IntKind.signed]
  omega
section
variable {P : Program} {o : Oper} {e : Env} {w w' : World} {c : Ctx} {L : List Chunk} {R : List Fact} {x : Operand} {v : Value} {k : IntKind} {i : Int} {t : TypeId}
theorem rv_conv8 {s : TypeId} {ds : TypeDesc} (hs : P.underlying s = some ds) (ht : P.underlying t = some (.int .u8)) (ho : o.op = .convert s t x) (hx : ev e x = some (.int k i)) : RunV P o e w (.int .u8 ((u8 i).toNat : Int)) w := by
  rw [u8_val]; exact rv_conv hs ht ho hx
theorem rv_convU {s : TypeId} {ds : TypeDesc} {b : UInt8} (hs : P.underlying s = some ds) (ht : P.underlying t = some (.int .i64)) (ho : o.op = .convert s t x) (hx : ev e x = some (.int .u8 (b.toNat : Int))) : RunV P o e w (.int .i64 (b.toNat : Int)) w := by
  have h := rv_conv (w := w) hs ht ho hx
  have hb := b.toNat_lt
  have : IntKind.i64.wrap (b.toNat : Int) = b.toNat := by
    simp [IntKind.wrap, IntKind.bits, IntKind.signed]; omega
  rw [this] at h; exact h
theorem rv_nilf {fn : Fn} {fs cs : Array Value} (ho : o.op = .nilCheck x) (hm : ∀ n, fn ≠ .method n) (hx : ev e x = some (.func fn fs cs)) : RunV P o e w (.func fn fs cs) w := fun _ a hA => by
  cases fn <;> simp_all [execOp, hA.eval hx]
theorem cell1 {b j : Nat} {v : Value} (h : CellsAt w b j [v]) : w.cell? ⟨b, j, none⟩ = some v := by simpa using h 0 v rfl
theorem CellsAt.sub {b j m : Nat} {cs cs' : List Value} (h : CellsAt w b j cs) (k : Nat) (hj : (cs.drop k).take cs'.length = cs') (hm : j + k = m) : CellsAt w b m cs' := by
  subst hm
  intro q u hq
  have hlt := (List.getElem?_eq_some_iff.1 hq).1
  rw [← hj] at hq
  rw [List.getElem?_take, if_pos (by omega), List.getElem?_drop] at hq
  have := h (k + q) u hq
  rw [show j + k + q = j + (k + q) from by omega]; exact this
theorem rd_one_cell {α : Type} [Rep α] {S : Foot} {cs : List Value} {d : List α} (h : Rep.rd S w cs d) : ∃ v, cs = [v] := by
  obtain ⟨a, c, h, _⟩ := (show rdSlice S w cs d from h)
  exact ⟨_, h⟩
theorem rd_nil {α : Type} [Rep α] {S : Foot} : Rep.rd S w [.slice none 0 0] ([] : List α) := ⟨none, 0, rfl, Nat.le_refl _, Nat.zero_le _, .inl rfl⟩
theorem el_Int {S : Foot} {s : Value} {l : List Int} {i : Nat} {x : Int} (h : Rep.rd S w [s] l) (hi : l[i]? = some x) : CellsAt w (elB s) (elO 1 i s) [.int .i64 x] := by
  obtain ⟨ec, h1, h2⟩ := rd_el h hi
  have h2 : ec = [_] := h2
  rw [h2] at h1; exact h1
theorem el_Bool {S : Foot} {s : Value} {l : List Bool} {i : Nat} {x : Bool} (h : Rep.rd S w [s] l) (hi : l[i]? = some x) : CellsAt w (elB s) (elO 1 i s) [.bool x] := by
  obtain ⟨ec, h1, h2⟩ := rd_el h hi
  have h2 : ec = [_] := h2
  rw [h2] at h1; exact h1
theorem el_UInt8 {S : Foot} {s : Value} {l : List UInt8} {i : Nat} {x : UInt8} (h : Rep.rd S w [s] l) (hi : l[i]? = some x) : CellsAt w (elB s) (elO 1 i s) [.int .u8 (x.toNat : Int)] := by
  obtain ⟨ec, h1, h2⟩ := rd_el h hi
  have h2 : ec = [_] := h2
  rw [h2] at h1; exact h1
theorem el_GStr {S : Foot} {s : Value} {l : List GStr} {i : Nat} {x : GStr} (h : Rep.rd S w [s] l) (hi : l[i]? = some x) : CellsAt w (elB s) (elO 1 i s) [sv x.b] := by
  obtain ⟨ec, h1, h2⟩ := rd_el h hi
  have h2 : ec = [_] := h2
  rw [h2] at h1; exact h1

/-- A fact, and what may be put beside it. -/
theorem St.factS (h : St c w L R) {f : Fact} {j : Nat} (hj : R[j]? = some f) : ∃ S, f.P S w ∧ ∀ Gs : List Fact, (∀ g ∈ Gs, g.P S w) → St c w L (R ++ Gs) := by
  obtain ⟨F, S, a1, a2, a3, a4, a5, a6⟩ := h.sep
  refine ⟨S, a6 f (List.mem_of_getElem? hj), fun Gs hG => ⟨h.keep, ⟨F, S, a1, a2, a3, a4, a5, fun g hg => ?_⟩, h.apart⟩⟩
  rcases List.mem_append.1 hg with hg | hg
  · exact a6 g hg
  · exact hG g hg
/-- The cells of a box that is never written again. -/
def fCells (b : Nat) (cs : List Value) : Fact where
  P := fun S w => CellsAt w b 0 cs ∧ ∀ o, inRow b 0 cs.length b o → S b o
  agree := fun ⟨h1, h2⟩ ha => ⟨h1.agree fun o h3 h4 => ha b o (h2 o ⟨rfl, h3, h4⟩), h2⟩
  mono := fun ⟨h1, h2⟩ ha => ⟨h1, fun o h => ha b o (h2 o h)⟩
theorem St.fcell (h : St c w L R) {b : Nat} {cs : List Value} (i : Nat) {j : Nat} (hi : R[i]? = some (fCells b cs)) (hj : cs[j]? = some v) : w.cell? ⟨b, j, none⟩ = some v := by
  have h1 : CellsAt w b 0 cs := (h.fact i hi).1
  simpa using h1 j v hj
theorem St.fcells (h : St c w L R) {b : Nat} {cs cs' : List Value} (i j : Nat) (hi : R[i]? = some (fCells b cs)) (hj : (cs.drop j).take cs'.length = cs') : CellsAt w b j cs' := by
  intro m u hm
  have hlt := (List.getElem?_eq_some_iff.1 hm).1
  refine h.fcell i hi ?_
  rw [← hj] at hm
  rw [List.getElem?_take, if_pos (by omega), List.getElem?_drop] at hm
  exact hm
theorem St.leakBox (h : St c w L R) {b : Nat} {cs : List Value} (i : Nat) (hi : L[i]? = some (cBox b cs)) : St c w (L.set i cNo) (R ++ [fCells b cs]) := by
  have h1 := h.take i hi
  obtain ⟨F, S, ⟨F1, F2, h1, h2, hd, hF⟩, a2, a3, a4, a5, a6⟩ := h1.sep
  have hlt : ∀ b' o, F1 b' o → b' < w.heap.size := fun _ _ hf => Chunk.lt (cBox b cs) h1 hf
  obtain ⟨g1, g2, g3⟩ := h1
  refine ⟨h.keep, ⟨F2, fun b o => S b o ∨ F1 b o, h2, ?_, fun b o hf => a3 b o ((hF b o).2 (.inr hf)), ?_, ?_, ?_⟩, h.apart⟩
  · rintro b o hf (hs | hs)
    · exact a2 b o ((hF b o).2 (.inr hf)) hs
    · exact hd b o hs hf
  · rintro b o (hs | hs)
    · exact a4 b o hs
    · rcases a3 b o ((hF b o).2 (.inl hs)) with h | h
      · exact .inr (.inl h)
      · exact .inr (.inr h)
  · rintro b o (hs | hs)
    · exact a5 b o hs
    · exact hlt b o hs
  · intro f hf
    rcases List.mem_append.1 hf with hf | hf
    · exact f.mono (a6 f hf) fun b o hs => .inl hs
    · simp at hf; subst hf
      exact ⟨g1, fun o ho => .inr ((g3 b o).2 ho)⟩
/-- A fact of an earlier world. -/
theorem keepP {f : Fact} (h : f.P (All w) w) (hk : Keep F0 w w') : f.P (All w') w' :=
  f.mono (f.agree h fun b o hb => hk.cell b o hb fun h => h) fun _ _ hb => Nat.lt_of_lt_of_le hb hk.size

/-- The chunks that are named, no one twice. -/
def pick (L : List Chunk) : List Nat → List Chunk
  | [] => []
  | i :: r => (L[i]?).getD cNo :: pick L r
def apartB : List Nat → Bool
  | [] => true
  | i :: r => (r.all fun j => !Nat.beq i j) && apartB r
theorem pick_set {L : List Chunk} {i : Nat} : ∀ {is : List Nat}, (is.all fun j => !Nat.beq i j) = true → pick (L.set i cNo) is = pick L is
  | [], _ => rfl
  | j :: r, h => by
    simp only [List.all_cons, Bool.and_eq_true, Bool.not_eq_true'] at h
    have hne : i ≠ j := fun e => by rw [e] at h; simp at h
    simp only [pick, pick_set h.2, List.getElem?_set_ne hne]
theorem Sep.pick {w : World} : ∀ {is : List Nat} {L : List Chunk} {F : Foot}, apartB is = true → Sep w L F → ∃ F1 F2, Sep w (pick L is) F1 ∧ F1.disj F2 ∧ ∀ b o, F b o ↔ F1 b o ∨ F2 b o
  | [], L, F, _, _ => ⟨F0, F, fun _ _ h => h, fun _ _ h _ => h, fun b o => by simp [F0]⟩
  | i :: r, L, F, ha, h => by
    simp only [apartB, Bool.and_eq_true] at ha
    have h' : Sep w ((L[i]?).getD cNo :: L.set i cNo) F := by
      cases hi : L[i]? with
      | some ch => exact (Sep.take hi).1 h
      | none =>
        rw [List.set_eq_of_length_le (List.getElem?_eq_none_iff.1 hi)]
        exact ⟨F0, F, fun _ _ h => h, h, fun _ _ h _ => h, fun b o => by simp [F0]⟩
    obtain ⟨F1, F2, h1, h2, hd, hF⟩ := h'
    obtain ⟨G1, G2, g1, gd, hG⟩ := Sep.pick ha.2 h2
    rw [pick_set ha.1] at g1
    exact ⟨fun b o => F1 b o ∨ G1 b o, G2, ⟨F1, G1, h1, g1, fun b o h g => hd b o h ((hG b o).2 (.inl g)), fun _ _ => Iff.rfl⟩,
      fun b o h g => h.elim (fun h => hd b o h ((hG b o).2 (.inr g))) (fun h => gd b o h g), fun b o => by rw [hF, hG, or_assoc]⟩
theorem St.sel (h : St c w L R) (is : List Nat) (ha : apartB is = true) : St c w (pick L is) R := by
  obtain ⟨F, S, a1, a2, a3, a4, a5, a6⟩ := h.sep
  obtain ⟨F1, F2, h1, hd, hF⟩ := Sep.pick ha a1
  exact ⟨h.keep, ⟨F1, S, h1, fun b o hf => a2 b o ((hF b o).2 (.inl hf)), fun b o hf => a3 b o ((hF b o).2 (.inl hf)), a4, a5, a6⟩, h.apart⟩
def fYes : Fact := ⟨fun _ _ => True, fun _ _ => trivial, fun _ _ => trivial⟩
def pickF (R : List Fact) : List Nat → List Fact
  | [] => []
  | i :: r => (R[i]?).getD fYes :: pickF R r
theorem St.selR (h : St c w L R) (is : List Nat) (_h : true = true) : St c w L (pickF R is) := by
  obtain ⟨F, S, a1, a2, a3, a4, a5, a6⟩ := h.sep
  refine ⟨h.keep, ⟨F, S, a1, a2, a3, a4, a5, ?_⟩, h.apart⟩
  induction is with
  | nil => intro f hf; cases hf
  | cons i r ih =>
    intro f hf
    rcases List.mem_cons.1 hf with hf | hf
    · subst hf
      cases hi : R[i]? with
      | some g => exact a6 g (List.mem_of_getElem? hi)
      | none => trivial
    · exact ih f hf

/-- A struct that is built. -/
theorem rv_build {z : Value} {fs : Array Field} {places : Array (Nat × Nat)} {ps : List (Nat × Operand)} {vs : List Value} {cells : Array Value} (ho : o.op = .build t ps.toArray) (hz : ∀ w, (zeroValue t).run P w = .ok z w) (hu : P.underlying t = some (.struct fs))
    (hp : ∀ w, (fs.mapM fun f => (do pure (f.offset, ← sizeOf f.type) : Sem (Nat × Nat))).run P w = .ok places w) (hv : evs e (ps.map (·.2)) = some vs) (hc : Instr.fill (places[·]?) z.cells ((ps.map (·.1)).zip vs) = some cells) : RunV P o e w (.agg cells) w := fun _ a hA => by
  have h1 : ps.map (fun p => (p.1, a.eval p.2)) = (ps.map (·.1)).zip vs := by
    rw [← evs_map hA hv]
    clear hv hc ho
    induction ps with
    | nil => rfl
    | cons p r ih => simp [ih]
  simp [execOp, ho, Instr.build, hz, run_underlying hu]
  have := hp w
  simp at this
  simp [this, h1, hc]
end
theorem eqf_nil {P : Program} {w : World} (d : Nat) (xs ys : Array Value) : (Op.eqFields d xs ys []).run P w = .ok true w := by simp [Op.eqFields]
theorem eqf_cons {P : Program} {w : World} (d : Nat) (xs ys : Array Value) (f : Field) (fs : List Field) {p q : Value} {b b' : Bool} (hn : (f.name == "_") = false) (hx : (part f.type xs f.offset).run P w = .ok p w) (hy : (part f.type ys f.offset).run P w = .ok q w) (he : (Op.equalIn d f.type p q).run P w = .ok b w) (hr : (Op.eqFields d xs ys fs).run P w = .ok b' w) :
    (Op.eqFields d xs ys (f :: fs)).run P w = .ok (b && b') w := by
  simp only [beq_eq_false_iff_ne, ne_eq] at hn
  cases b <;> simp [Op.eqFields, hn, hx, hy, he, hr]
theorem part1 {P : Program} {w : World} {t : TypeId} {cs : Array Value} {j : Nat} {v : Value} (ha : ∀ w, (isAgg t).run P w = .ok false w) (hv : cs[j]? = some v) : (part t cs j).run P w = .ok v w := by simp [part, ha, hv]
theorem partN {P : Program} {w : World} {t : TypeId} {cs vs : Array Value} {j m : Nat} (ha : ∀ w, (isAgg t).run P w = .ok true w) (hz : ∀ w, (sizeOf t).run P w = .ok m w) (hv : cs.extract j (j + m) = vs) : (part t cs j).run P w = .ok (.agg vs) w := by simp [part, ha, hz, hv]
theorem rv_eqS {P : Program} {o : Oper} {e : Env} {w : World} {x y : Operand} {t z' : TypeId} {xs ys : Array Value} {fs : Array Field} {b : Bool} (hg : P.eqGuardType P.depth t = false) (hst : P.stoodInHeld t = false) (hu : P.underlying t = some (.struct fs)) (hb : ∀ w, (Op.eqFields 9999 xs ys (match P.underlying t with | some (.struct fs) => fs | _ => #[]).toList).run P w = .ok b w) (ho : o.op = .binOp .eql t x y z') (hx : ev e x = some (.agg xs)) (hy : ev e y = some (.agg ys)) : RunV P o e w (.bool b) w := fun _ a hA => by
  have hf : P.fieldsOf t = fs := by simp [Program.fieldsOf, hu]
  rw [hu] at hb
  have h1 : binOp .eql t (.agg xs) (.agg ys) = (do pure (.bool (← Op.equal t (.agg xs) (.agg ys)))) := rfl
  simp [execOp, ho, hA.eval hx, hA.eval hy, run_eqGuard_agg _ _ _ _ _ _ _ hg, h1, Op.equal, Op.maxDepth, run_equalIn_struct _ _ _ _ _ (by rw [hf]; exact hu) hst, hf, hb]
theorem rv_neqS {P : Program} {o : Oper} {e : Env} {w : World} {x y : Operand} {t z' : TypeId} {xs ys : Array Value} {fs : Array Field} {b : Bool} (hg : P.eqGuardType P.depth t = false) (hst : P.stoodInHeld t = false) (hu : P.underlying t = some (.struct fs)) (hb : ∀ w, (Op.eqFields 9999 xs ys (match P.underlying t with | some (.struct fs) => fs | _ => #[]).toList).run P w = .ok b w) (ho : o.op = .binOp .neq t x y z') (hx : ev e x = some (.agg xs)) (hy : ev e y = some (.agg ys)) : RunV P o e w (.bool (!b)) w := fun _ a hA => by
  have hf : P.fieldsOf t = fs := by simp [Program.fieldsOf, hu]
  rw [hu] at hb
  have h1 : binOp .neq t (.agg xs) (.agg ys) = (do pure (.bool (!(← Op.equal t (.agg xs) (.agg ys))))) := rfl
  simp [execOp, ho, hA.eval hx, hA.eval hy, run_eqGuard_agg _ _ _ _ _ _ _ hg, h1, Op.equal, Op.maxDepth, run_equalIn_struct _ _ _ _ _ (by rw [hf]; exact hu) hst, hf, hb]
theorem ei_int {P : Program} {w : World} {d : Nat} {t : TypeId} {k' : IntKind} {k : IntKind} {a b : Int} (h : P.underlying t = some (.int k')) : (Op.equalIn (d + 1) t (.int k a) (.int k b)).run P w = .ok (a == b) w := run_equalIn_int w d t k k' a b h
theorem ei_bool {P : Program} {w : World} {d : Nat} {t : TypeId} {a b : Bool} (h : P.underlying t = some .bool) : (Op.equalIn (d + 1) t (.bool a) (.bool b)).run P w = .ok (a == b) w := run_equalIn_bool' w d t a b h
theorem ei_struct {P : Program} {w : World} {d : Nat} {t : TypeId} {xs ys : Array Value} {fs : Array Field} {b : Bool} (hst : P.stoodInHeld t = false) (hu : P.underlying t = some (.struct fs)) (hb : (Op.eqFields d xs ys (match P.underlying t with | some (.struct fs) => fs | _ => #[]).toList).run P w = .ok b w) : (Op.equalIn (d + 1) t (.agg xs) (.agg ys)).run P w = .ok b w := by
  have hf : P.fieldsOf t = fs := by simp [Program.fieldsOf, hu]
  rw [hu] at hb
  rw [run_equalIn_struct _ _ _ _ _ (by rw [hf]; exact hu) hst, hf]; exact hb

/-! ### Regions whose order is drawn -/
def AnyH (P : Program) (ops : Array Oper) (Q : Exit → Act → World → Prop) (S : World → Prop) (fuel : Nat) (listed : Array Bool) (n : Nat) (e : Env) (w : World) : Prop := ∀ a, AEnv n e a → wpAnyH P .any ops Q S fuel listed a w
/-- What stays through the region. -/
abbrev Keeps (c : Ctx) (L : List Chunk) (R : List Fact) : World → Prop := fun w => ∃ L', St c w (L ++ L') R
section
variable {P : Program} {ops : Array Oper} {N : Act → World → Prop} {X : Nat → Act → World → Prop} {T : Act → World → Prop} {S : World → Prop} {fuel n d i : Nat} {listed : Array Bool} {e : Env} {w w' : World} {o : Oper} {v : Value}
theorem cw_any {id : Nat} {a : Act} {c : Ctx} {L : List Chunk} {R : List Fact} (S : World → Prop) (hm : P.follows .mixedOrders = true) (hA : AEnv n e a) (hS : St c w L R) (h : ∀ w', St c w' L R → AnyH P ops (mkQ N X T) S ops.size (Array.replicate ops.size false) n e w') : CW P (.region id ops true) N X T a w :=
  wp_region_any hm (wpAny_of_held _ _ _ _ (h _ (hS.same (Keep.drew F0 w)) a hA))
theorem any_done (hr : Region.ready .any ops listed = []) (h : ∀ a, AEnv n e a → N a w) : AnyH P ops (mkQ N X T) S fuel listed n e w := fun a hA => wpAnyH_done hr (h a hA) fuel
theorem any_case {s : Nat} {b : Bool} {Q : Exit → Act → World → Prop} (_hv : lk e s = some (.bool b)) (ht : b = true → AnyH P ops Q S fuel listed n e w) (hf : b = false → AnyH P ops Q S fuel listed n e w) : AnyH P ops Q S fuel listed n e w := by
  cases b
  · exact hf rfl
  · exact ht rfl
theorem any_v (i : Nat) (hs : Region.noSelect ops = true) (hi : ops[i]? = some o) (hf : Region.free .any ops listed i = true) (hr : (Region.ready .any ops listed).contains i = true) (hS : S w) (hv : ∀ w', S w' → RunV P o e w' v w') (hw : Want ops o e true) (hd : o.dst = some d) (hn : Nat.blt d n = true)
    (k : AnyH P ops (mkQ N X T) S fuel (listed.setIfInBounds i true) n ((d, v) :: e) w) : AnyH P ops (mkQ N X T) S (fuel + 1) listed n e w := fun a hA => by
  refine wpAnyH_take (v := v) hi hs hf hr (fun _ _ _ h => h.elim) (.inl ⟨hw n a hA, fun w' hS' => hv w' hS' n a hA⟩) hS ?_
  rw [hd]
  exact k _ (hA.put (by simpa [Nat.blt_eq] using hn) v)
theorem any_off (i : Nat) (hs : Region.noSelect ops = true) (hi : ops[i]? = some o) (hf : Region.free .any ops listed i = true) (hr : (Region.ready .any ops listed).contains i = true) (hS : S w) (hw : Want ops o e false) (hd : o.dst = some d) (hn : Nat.blt d n = true)
    (k : AnyH P ops (mkQ N X T) S fuel (listed.setIfInBounds i true) n ((d, undef) :: e) w) : AnyH P ops (mkQ N X T) S (fuel + 1) listed n e w := fun a hA => by
  refine wpAnyH_take (v := undef) hi hs hf hr (fun _ _ _ h => h.elim) (.inr ⟨hw n a hA, rfl⟩) hS ?_
  rw [hd]
  exact k _ (hA.put (by simpa [Nat.blt_eq] using hn) undef)
/-- One of those that may come up. -/
def AStep (P : Program) (ops : Array Oper) (Q : Exit → Act → World → Prop) (S : World → Prop) (fuel : Nat) (listed : Array Bool) (n : Nat) (e : Env) (w : World) (i : Nat) : Prop := ∀ a, AEnv n e a → wpOp P ops Q i (fun a' w' => S w' ∧ wpAnyH P .any ops Q S fuel (listed.setIfInBounds i true) a' w') a w
theorem any_1 {Q : Exit → Act → World → Prop} (hr : Region.ready .any ops listed = [i]) (h : AStep P ops Q S fuel listed n e w i) : AnyH P ops Q S (fuel + 1) listed n e w := fun a hA =>
  wpAnyH_all hr (by simp) fun j hj => by simp at hj; subst hj; exact h a hA
theorem any_2 {Q : Exit → Act → World → Prop} {i j : Nat} (hr : Region.ready .any ops listed = [i, j]) (h : AStep P ops Q S fuel listed n e w i) (h2 : AStep P ops Q S fuel listed n e w j) : AnyH P ops Q S (fuel + 1) listed n e w := fun a hA =>
  wpAnyH_all hr (by simp) fun k hk => by
    simp at hk
    rcases hk with hk | hk
    · subst hk; exact h a hA
    · subst hk; exact h2 a hA
theorem any_3 {Q : Exit → Act → World → Prop} {i j m : Nat} (hr : Region.ready .any ops listed = [i, j, m]) (h : AStep P ops Q S fuel listed n e w i) (h2 : AStep P ops Q S fuel listed n e w j) (h3 : AStep P ops Q S fuel listed n e w m) : AnyH P ops Q S (fuel + 1) listed n e w := fun a hA =>
  wpAnyH_all hr (by simp) fun k hk => by
    simp at hk
    rcases hk with hk | hk | hk
    · subst hk; exact h a hA
    · subst hk; exact h2 a hA
    · subst hk; exact h3 a hA
theorem as_v {Q : Exit → Act → World → Prop} (hi : ops[i]? = some o) (hr : RunV P o e w v w') (hw : Want ops o e true) (hd : o.dst = some d) (hn : Nat.blt d n = true) (hS : S w') (k : AnyH P ops Q S fuel (listed.setIfInBounds i true) n ((d, v) :: e) w') : AStep P ops Q S fuel listed n e w i := fun a hA => by
  unfold wpOp
  simp only [hi, hw n a hA, if_true]
  refine .inl ?_
  unfold Oper.wp
  rw [hr n a hA, Oper.upon_value, hd]
  exact ⟨hS, k _ (hA.put (by simpa [Nat.blt_eq] using hn) v)⟩
theorem as_mv {Q : Exit → Act → World → Prop} {K : Value → World → Prop} (hi : ops[i]? = some o) (hr : ∃ v w', RunV P o e w v w' ∧ K v w') (hw : Want ops o e true) (hd : o.dst = some d) (hn : Nat.blt d n = true) (k : ∀ v w', K v w' → S w' ∧ AnyH P ops Q S fuel (listed.setIfInBounds i true) n ((d, v) :: e) w') : AStep P ops Q S fuel listed n e w i := by
  obtain ⟨v, w', hr, hK⟩ := hr
  exact as_v hi hr hw hd hn (k v w' hK).1 (k v w' hK).2
theorem as_ms {Q : Exit → Act → World → Prop} {K : World → Prop} (hi : ops[i]? = some o) (hr : ∃ w', RunS P o e w w' ∧ K w') (hw : Want ops o e true) (hd : o.dst = none) (k : ∀ w', K w' → S w' ∧ AnyH P ops Q S fuel (listed.setIfInBounds i true) n e w') : AStep P ops Q S fuel listed n e w i := fun a hA => by
  obtain ⟨w', hr, hK⟩ := hr
  unfold wpOp
  simp only [hi, hw n a hA, if_true]
  refine .inl ?_
  unfold Oper.wp
  rw [hr n a hA, Oper.upon_skip, hd]
  exact ⟨(k w' hK).1, (k w' hK).2 _ hA⟩
theorem as_c {Q : Exit → Act → World → Prop} {f : FuncId} {args : Array Value} {K : Value → World → Prop} (hi : ops[i]? = some o) (hr : RunC P o e w f args) (hw : Want ops o e true) (hd : o.dst = some d) (hn : Nat.blt d n = true) (hc : Calls P f args w (Ret K)) (k : ∀ v w', K v w' → S w' ∧ AnyH P ops Q S fuel (listed.setIfInBounds i true) n ((d, v) :: e) w') : AStep P ops Q S fuel listed n e w i := fun a hA => by
  unfold wpOp
  simp only [hi, hw n a hA, if_true]
  refine .inl ?_
  unfold Oper.wp
  rw [hr n a hA, Oper.upon_enter]
  refine hc.mono fun en w' ⟨v, hv, h⟩ => ?_
  subst hv
  rw [hd]
  exact ⟨(k v w' h).1, (k v w' h).2 _ (hA.put (by simpa [Nat.blt_eq] using hn) v)⟩
theorem as_c0 {Q : Exit → Act → World → Prop} {f : FuncId} {args : Array Value} {K : Value → World → Prop} (hi : ops[i]? = some o) (hr : RunC P o e w f args) (hw : Want ops o e true) (hd : o.dst = none) (hc : Calls P f args w (Ret K)) (k : ∀ v w', K v w' → S w' ∧ AnyH P ops Q S fuel (listed.setIfInBounds i true) n e w') : AStep P ops Q S fuel listed n e w i := fun a hA => by
  unfold wpOp
  simp only [hi, hw n a hA, if_true]
  refine .inl ?_
  unfold Oper.wp
  rw [hr n a hA, Oper.upon_enter]
  refine hc.mono fun en w' ⟨v, hv, h⟩ => ?_
  subst hv
  rw [hd]
  exact ⟨(k v w' h).1, (k v w' h).2 _ hA⟩
/-- An operation that is not carried out, in its turn. -/
theorem as_off {Q : Exit → Act → World → Prop} (hi : ops[i]? = some o) (hw : Want ops o e false) (hd : o.dst = some d) (hn : Nat.blt d n = true) (hS : S w) (k : AnyH P ops Q S fuel (listed.setIfInBounds i true) n ((d, undef) :: e) w) : AStep P ops Q S fuel listed n e w i := fun a hA => by
  unfold wpOp
  simp only [hi, hw n a hA, Bool.false_eq_true, if_false, hd]
  exact ⟨hS, k _ (hA.put (by simpa [Nat.blt_eq] using hn) undef)⟩
end
end Go.Gv
