/-
  Operations, one lemma a kind. Nothing of a program here.
-/
import Derived.Test.YtpndngnohcffnaaGreatGvCode
namespace Go.Gv

abbrev w64 (n : Int) : Int := IntKind.i64.wrap n
def RunV (P : Program) (o : Oper) (e : Env) (w : World) (v : Value) (w' : World) : Prop := ∀ n a, AEnv n e a → (execOp a.eval o).run P w = .ok (.value v) w'
def RunS (P : Program) (o : Oper) (e : Env) (w : World) (w' : World) : Prop := ∀ n a, AEnv n e a → (execOp a.eval o).run P w = .ok .skip w'
def RunC (P : Program) (o : Oper) (e : Env) (w : World) (f : FuncId) (args : Array Value) : Prop := ∀ n a, AEnv n e a → (execOp a.eval o).run P w = .ok (.enter f args) w

/-- The rest of a region's list. -/
def Ops (P : Program) (ops : Array Oper) (Q : Exit → Act → World → Prop) (rest : List Oper) (n : Nat) (e : Env) (w : World) : Prop := ∀ a, AEnv n e a → wpList P ops Q rest a w
section
variable {P : Program} {a' : Act} {ops : Array Oper} {Q : Exit → Act → World → Prop} {o : Oper} {rest : List Oper} {n d : Nat} {e : Env} {w w' : World}

theorem cw_ops {N : Act → World → Prop} {X : Nat → Act → World → Prop} {T : Act → World → Prop} {id : Nat} {a : Act} (hA : AEnv n e a) (h : Ops P ops (mkQ N X T) ops.toList n e w) : CW P (.region id ops false) N X T a w :=
  cw_region (h a hA)
theorem ops_nil {N : Act → World → Prop} {X : Nat → Act → World → Prop} {T : Act → World → Prop} (h : ∀ a, AEnv n e a → N a w) : Ops P ops (mkQ N X T) [] n e w := fun a hA => h a hA

/-- Is the operation carried out? -/
def Want (ops : Array Oper) (o : Oper) (e : Env) (b : Bool) : Prop := ∀ n a, AEnv n e a → Region.wanted o (yielded ops a.tmps) = b
theorem want_yes (hg : o.guard = none) : Want ops o e true := fun _ _ _ => by simp [Region.wanted, hg]
theorem want_if {j : Nat} {t c b : Bool} {s : Tmp} (hg : o.guard = some (j, t)) (hj : (ops[j]?).bind (·.dst) = some s) (hv : lk e s = some (.bool c)) (hb : Bool.xor c t = !b) : Want ops o e b := fun _ a hA => by
  have : yielded ops a.tmps j = some c := by
    have h1 := hA.get s _ hv
    simp [yielded, hj, h1]
  simp only [Region.wanted, hg, this]
  cases c <;> cases t <;> cases b <;> simp_all

theorem ops_v {v : Value} (hr : RunV P o e w v w') (hw : Want ops o e true) (hd : o.dst = some d) (hn : Nat.blt d n = true) (k : Ops P ops Q rest n ((d, v) :: e) w') : Ops P ops Q (o :: rest) n e w := fun a hA => by
  refine wpList_step fun K hK => ?_
  rw [hw n a hA, if_pos rfl]
  unfold Oper.wp
  rw [hr n a hA, Oper.upon_value, hd]
  exact hK _ _ (k _ (hA.put (by simpa [Nat.blt_eq] using hn) v))
/-- Not carried out. -/
theorem ops_off (hw : Want ops o e false) (hd : o.dst = some d) (hn : Nat.blt d n = true) (k : Ops P ops Q rest n ((d, undef) :: e) w) : Ops P ops Q (o :: rest) n e w := fun a hA => by
  refine wpList_step fun K hK => ?_
  rw [hw n a hA, if_neg (by simp), hd]
  exact hK _ _ (k _ (hA.put (by simpa [Nat.blt_eq] using hn) undef))
theorem ops_mv {S : Value → World → Prop} (hr : ∃ v w', RunV P o e w v w' ∧ S v w') (hw : Want ops o e true) (hd : o.dst = some d) (hn : Nat.blt d n = true) (k : ∀ v w', S v w' → Ops P ops Q rest n ((d, v) :: e) w') : Ops P ops Q (o :: rest) n e w := by
  obtain ⟨v, w', hr, hS⟩ := hr
  exact ops_v hr hw hd hn (k v w' hS)
theorem ops_ms {S : World → Prop} (hr : ∃ w', RunS P o e w w' ∧ S w') (hw : Want ops o e true) (hd : o.dst = none) (k : ∀ w', S w' → Ops P ops Q rest n e w') : Ops P ops Q (o :: rest) n e w := fun a hA => by
  obtain ⟨w', hr, hS⟩ := hr
  refine wpList_step fun K hK => ?_
  rw [hw n a hA, if_pos rfl]
  unfold Oper.wp
  rw [hr n a hA, Oper.upon_skip, hd]
  exact hK _ _ (k _ hS _ hA)
/-- What a callee is known to do. -/
def Ret (K : Value → World → Prop) : Ending → World → Prop := fun en w' => ∃ v, en = .returned v ∧ K v w'
theorem ops_c {f : FuncId} {args : Array Value} {K : Value → World → Prop} (hr : RunC P o e w f args) (hw : Want ops o e true) (hd : o.dst = some d) (hn : Nat.blt d n = true) (hc : Calls P f args w (Ret K)) (k : ∀ v w', K v w' → Ops P ops Q rest n ((d, v) :: e) w') : Ops P ops Q (o :: rest) n e w := fun a hA => by
  refine wpList_step fun K' hK => ?_
  rw [hw n a hA, if_pos rfl]
  unfold Oper.wp
  rw [hr n a hA, Oper.upon_enter]
  refine hc.mono fun en w' ⟨v, hv, h⟩ => ?_
  subst hv
  rw [hd]
  exact hK _ _ (k v w' h _ (hA.put (by simpa [Nat.blt_eq] using hn) v))
/-- The same for a callee without results. -/
theorem ops_c0 {f : FuncId} {args : Array Value} {K : Value → World → Prop} (hr : RunC P o e w f args) (hw : Want ops o e true) (hd : o.dst = none) (hc : Calls P f args w (Ret K)) (k : ∀ v w', K v w' → Ops P ops Q rest n e w') : Ops P ops Q (o :: rest) n e w := fun a hA => by
  refine wpList_step fun K' hK => ?_
  rw [hw n a hA, if_pos rfl]
  unfold Oper.wp
  rw [hr n a hA, Oper.upon_enter]
  refine hc.mono fun en w' ⟨v, hv, h⟩ => ?_
  subst hv
  rw [hd]
  exact hK _ _ (k v w' h _ hA)

/-! ### Plain operations -/
variable {x y z : Operand} {v u : Value} {k : IntKind} {i j : Int} {t z' : TypeId}
theorem rv_move (ho : o.op = .move x) (hx : ev e x = some v) : RunV P o e w v w := fun _ a hA => by simp [execOp, ho, hA.eval hx]
theorem rv_assign (ho : o.op = .assign x) (hx : ev e x = some v) : RunV P o e w v w := fun _ a hA => by simp [execOp, ho, hA.eval hx]
theorem rv_nil (ho : o.op = .nilCheck x) {p : Addr} (hx : ev e x = some (.pointer (some p))) : RunV P o e w (.pointer (some p)) w := fun _ a hA => by simp [execOp, ho, hA.eval hx]
theorem rv_pick_t {c : Bool} (ho : o.op = .pick x y z) (hx : ev e x = some (.bool c)) (hc : c = true) (hy : ev e y = some v) : RunV P o e w v w := fun _ a hA => by simp [execOp, ho, hA.eval hx, hA.eval hy, hc, asBool]
theorem rv_pick_f {c : Bool} (ho : o.op = .pick x y z) (hx : ev e x = some (.bool c)) (hc : c = false) (hz : ev e z = some v) : RunV P o e w v w := fun _ a hA => by simp [execOp, ho, hA.eval hx, hA.eval hz, hc, asBool]
theorem rv_not {b : Bool} (ho : o.op = .unOp .not t x) (hx : ev e x = some (.bool b)) : RunV P o e w (.bool (!b)) w := fun _ a hA => by simp [execOp, ho, hA.eval hx, Op.unary]
theorem rv_neg (ho : o.op = .unOp .neg t x) (hx : ev e x = some (.int k i)) : RunV P o e w (.int k (k.wrap (0 - i))) w := fun _ a hA => by simp [execOp, ho, hA.eval hx, Op.unary, Op.intArith]

theorem rv_add (ho : o.op = .binOp .add t x y z') (hx : ev e x = some (.int k i)) (hy : ev e y = some (.int k j)) : RunV P o e w (.int k (k.wrap (i + j))) w := fun _ a hA => by simp [execOp, ho, hA.eval hx, hA.eval hy, eqGuard, binOp, Op.intArith]
theorem rv_sub (ho : o.op = .binOp .sub t x y z') (hx : ev e x = some (.int k i)) (hy : ev e y = some (.int k j)) : RunV P o e w (.int k (k.wrap (i - j))) w := fun _ a hA => by simp [execOp, ho, hA.eval hx, hA.eval hy, eqGuard, binOp, Op.intArith]
theorem rv_mul (ho : o.op = .binOp .mul t x y z') (hx : ev e x = some (.int k i)) (hy : ev e y = some (.int k j)) : RunV P o e w (.int k (k.wrap (i * j))) w := fun _ a hA => by simp [execOp, ho, hA.eval hx, hA.eval hy, eqGuard, binOp, Op.intArith]
theorem rv_quo (ho : o.op = .binOp .quo t x y z') (hx : ev e x = some (.int k i)) (hy : ev e y = some (.int k j)) (h0 : j ≠ 0) : RunV P o e w (.int k (k.wrap (i.tdiv j))) w := fun _ a hA => by simp [execOp, ho, hA.eval hx, hA.eval hy, eqGuard, binOp, Op.intDiv, h0]
theorem rv_rem (ho : o.op = .binOp .rem t x y z') (hx : ev e x = some (.int k i)) (hy : ev e y = some (.int k j)) (h0 : j ≠ 0) : RunV P o e w (.int k (i.tmod j)) w := fun _ a hA => by simp [execOp, ho, hA.eval hx, hA.eval hy, eqGuard, binOp, Op.intDiv, h0]
theorem rv_lss (ho : o.op = .binOp .lss t x y z') (hx : ev e x = some (.int k i)) (hy : ev e y = some (.int k j)) : RunV P o e w (.bool (decide (i < j))) w := fun _ a hA => by simp [execOp, ho, hA.eval hx, hA.eval hy, eqGuard, binOp, Op.intCmp]
theorem rv_leq (ho : o.op = .binOp .leq t x y z') (hx : ev e x = some (.int k i)) (hy : ev e y = some (.int k j)) : RunV P o e w (.bool (decide (i ≤ j))) w := fun _ a hA => by simp [execOp, ho, hA.eval hx, hA.eval hy, eqGuard, binOp, Op.intCmp]
theorem rv_gtr (ho : o.op = .binOp .gtr t x y z') (hx : ev e x = some (.int k i)) (hy : ev e y = some (.int k j)) : RunV P o e w (.bool (decide (j < i))) w := fun _ a hA => by simp [execOp, ho, hA.eval hx, hA.eval hy, eqGuard, binOp, Op.intCmp]
theorem rv_geq (ho : o.op = .binOp .geq t x y z') (hx : ev e x = some (.int k i)) (hy : ev e y = some (.int k j)) : RunV P o e w (.bool (decide (j ≤ i))) w := fun _ a hA => by simp [execOp, ho, hA.eval hx, hA.eval hy, eqGuard, binOp, Op.intCmp]
theorem rv_eql (ho : o.op = .binOp .eql t x y z') (hx : ev e x = some (.int k i)) (hy : ev e y = some (.int k j)) : RunV P o e w (.bool (i == j)) w := fun _ a hA => by simp [execOp, ho, hA.eval hx, hA.eval hy, eqGuard, binOp, Op.intCmp]
theorem rv_neq (ho : o.op = .binOp .neq t x y z') (hx : ev e x = some (.int k i)) (hy : ev e y = some (.int k j)) : RunV P o e w (.bool (i != j)) w := fun _ a hA => by simp [execOp, ho, hA.eval hx, hA.eval hy, eqGuard, binOp, Op.intCmp]
def bitsOp (op : BinOp) (k : IntKind) (i j : Int) : Int :=
  match op with
  | .and => k.wrap ((BitVec.ofInt k.bits i &&& BitVec.ofInt k.bits j).toNat : Int)
  | .or => k.wrap ((BitVec.ofInt k.bits i ||| BitVec.ofInt k.bits j).toNat : Int)
  | .xor => k.wrap ((BitVec.ofInt k.bits i ^^^ BitVec.ofInt k.bits j).toNat : Int)
  | _ => k.wrap ((BitVec.ofInt k.bits i &&& ~~~ (BitVec.ofInt k.bits j)).toNat : Int)
theorem rv_and (ho : o.op = .binOp .and t x y z') (hx : ev e x = some (.int k i)) (hy : ev e y = some (.int k j)) : RunV P o e w (.int k (bitsOp .and k i j)) w := fun _ a hA => by simp [execOp, ho, hA.eval hx, hA.eval hy, eqGuard, binOp, Op.intBits, bitsOp]
theorem rv_or (ho : o.op = .binOp .or t x y z') (hx : ev e x = some (.int k i)) (hy : ev e y = some (.int k j)) : RunV P o e w (.int k (bitsOp .or k i j)) w := fun _ a hA => by simp [execOp, ho, hA.eval hx, hA.eval hy, eqGuard, binOp, Op.intBits, bitsOp]
theorem rv_xor (ho : o.op = .binOp .xor t x y z') (hx : ev e x = some (.int k i)) (hy : ev e y = some (.int k j)) : RunV P o e w (.int k (bitsOp .xor k i j)) w := fun _ a hA => by simp [execOp, ho, hA.eval hx, hA.eval hy, eqGuard, binOp, Op.intBits, bitsOp]
theorem rv_andNot (ho : o.op = .binOp .andNot t x y z') (hx : ev e x = some (.int k i)) (hy : ev e y = some (.int k j)) : RunV P o e w (.int k (bitsOp .andNot k i j)) w := fun _ a hA => by simp [execOp, ho, hA.eval hx, hA.eval hy, eqGuard, binOp, Op.intBits, bitsOp]
def shlOp (k : IntKind) (i j : Int) : Int := k.wrap (i * 2 ^ min j.toNat k.bits)
def shrOp (k : IntKind) (i j : Int) : Int := i.fdiv (2 ^ min j.toNat k.bits)
theorem rv_shl {yk : IntKind} (ho : o.op = .binOp .shl t x y z') (hx : ev e x = some (.int k i)) (hy : ev e y = some (.int yk j)) (h0 : ¬ j < 0) : RunV P o e w (.int k (shlOp k i j)) w := fun _ a hA => by simp [execOp, ho, hA.eval hx, hA.eval hy, eqGuard, binOp, Op.shift, h0, shlOp]
theorem rv_shr {yk : IntKind} (ho : o.op = .binOp .shr t x y z') (hx : ev e x = some (.int k i)) (hy : ev e y = some (.int yk j)) (h0 : ¬ j < 0) : RunV P o e w (.int k (shrOp k i j)) w := fun _ a hA => by simp [execOp, ho, hA.eval hx, hA.eval hy, eqGuard, binOp, Op.shift, h0, shrOp]
/-- Bools. -/
theorem rv_eqlb {p q : Bool} (hu : P.underlying t = some .bool) (ho : o.op = .binOp .eql t x y z') (hx : ev e x = some (.bool p)) (hy : ev e y = some (.bool q)) : RunV P o e w (.bool (p == q)) w := fun _ a hA => by
  have h1 : binOp .eql t (.bool p) (.bool q) = (do pure (.bool (← Op.equal t (.bool p) (.bool q)))) := rfl
  simp [execOp, ho, hA.eval hx, hA.eval hy, eqGuard, h1, Op.equal, Op.maxDepth, run_equalIn_bool' _ _ _ _ _ hu]
theorem rv_neqb {p q : Bool} (hu : P.underlying t = some .bool) (ho : o.op = .binOp .neq t x y z') (hx : ev e x = some (.bool p)) (hy : ev e y = some (.bool q)) : RunV P o e w (.bool (!(p == q))) w := fun _ a hA => by
  have h1 : binOp .neq t (.bool p) (.bool q) = (do pure (.bool (!(← Op.equal t (.bool p) (.bool q))))) := rfl
  simp [execOp, ho, hA.eval hx, hA.eval hy, eqGuard, h1, Op.equal, Op.maxDepth, run_equalIn_bool' _ _ _ _ _ hu]
/-- Strings. -/
abbrev sv (l : List UInt8) : Value := .string ⟨l.toArray⟩
theorem rv_eqls {p q : List UInt8} (ho : o.op = .binOp .eql t x y z') (hx : ev e x = some (sv p)) (hy : ev e y = some (sv q)) : RunV P o e w (.bool (p == q)) w := fun _ a hA => by
  simp [execOp, ho, hA.eval hx, hA.eval hy, eqGuard, binOp, Op.stringOp]
theorem rv_neqs {p q : List UInt8} (ho : o.op = .binOp .neq t x y z') (hx : ev e x = some (sv p)) (hy : ev e y = some (sv q)) : RunV P o e w (.bool (!(p == q))) w := fun _ a hA => by
  simp [execOp, ho, hA.eval hx, hA.eval hy, eqGuard, binOp, Op.stringOp]
theorem rv_cat {p q : List UInt8} (ho : o.op = .binOp .add t x y z') (hx : ev e x = some (sv p)) (hy : ev e y = some (sv q)) (hb : p.length + q.length ≤ 9223372036854775807) : RunV P o e w (sv (p ++ q)) w := fun _ a hA => by
  have h2 : (⟨p.toArray⟩ : ByteArray) ++ ⟨q.toArray⟩ = ⟨(p ++ q).toArray⟩ := by
    apply ByteArray.ext
    simp
  have h3 : (⟨p.toArray⟩ : ByteArray).size = p.length := by simp [ByteArray.size]
  have h4 : (⟨q.toArray⟩ : ByteArray).size = q.length := by simp [ByteArray.size]
  simp [execOp, ho, hA.eval hx, hA.eval hy, eqGuard, binOp, Op.stringOp, h3, h4, h2]
  omega

/-! ### Conversions, lengths, tuples, functions -/
theorem rv_conv {k' : IntKind} {s t : TypeId} {ds : TypeDesc} (hs : P.underlying s = some ds) (ht : P.underlying t = some (.int k')) (ho : o.op = .convert s t x) (hx : ev e x = some (.int k i)) : RunV P o e w (.int k' (k'.wrap i)) w := fun _ a hA => by
  simp [execOp, ho, hA.eval hx, convert, run_underlying hs, run_underlying ht, Conv.intToInt]
theorem rv_extract {vs : Array Value} {ix : Nat} (ho : o.op = .extract x ix) (hx : ev e x = some (.tuple vs)) (hv : vs[ix]? = some v) : RunV P o e w v w := fun _ a hA => by
  simp [execOp, ho, hA.eval hx, Instr.extract, hv]
theorem rv_len {ad : Option Addr} {m c : Nat} {el : TypeId} (hu : P.underlying t = some (.slice el)) (ho : o.op = .call { callee := .builtin .len, args := #[x], argTypes := #[t] }) (hx : ev e x = some (.slice ad m c)) : RunV P o e w (.int .i64 (m : Int)) w := fun _ a hA => by
  simp [execOp, ho, resolve, invoke, builtin, Builtin.len_, hA.eval hx, run_underlying hu, goInt]
theorem rv_lens {l : List UInt8} (hu : P.underlying t = some .string) (ho : o.op = .call { callee := .builtin .len, args := #[x], argTypes := #[t] }) (hx : ev e x = some (sv l)) : RunV P o e w (.int .i64 (l.length : Int)) w := fun _ a hA => by
  have h3 : (⟨l.toArray⟩ : ByteArray).size = l.length := by simp [ByteArray.size]
  simp [execOp, ho, resolve, invoke, builtin, Builtin.len_, hA.eval hx, run_underlying hu, goInt, h3]
theorem rv_func {fn : Fn} {fs cs : Array Operand} {vf vc : List Value} (ho : o.op = .makeFunc fn fs cs) (hf : fs.toList.map (ev e) = vf.map some) (hc : cs.toList.map (ev e) = vc.map some) : RunV P o e w (.func fn vf.toArray vc.toArray) w := fun _ a hA => by
  have key : ∀ (xs : Array Operand) (vs : List Value), xs.toList.map (ev e) = vs.map some → xs.map a.eval = vs.toArray := by
    intro xs vs h
    apply Array.toList_inj.1
    simp
    revert vs
    generalize xs.toList = l
    induction l with
    | nil => intro vs h; cases vs <;> simp_all
    | cons y r ih =>
      intro vs h
      cases vs with
      | nil => simp at h
      | cons v vs => simp at h ⊢; exact ⟨hA.eval h.1, ih vs h.2⟩
  simp [execOp, ho, key _ _ hf, key _ _ hc, Instr.makeFunc]

/-! ### Memory -/
variable {c : Ctx} {L : List Chunk} {R : List Fact}
/-- The box of a variable. -/
abbrev cBox (b : Nat) (cs : List Value) : Chunk := cAt b 0 cs
theorem St.cell (h : St c w L R) {b : Nat} {cs : List Value} (i : Nat) {j : Nat} (hi : L[i]? = some (cBox b cs)) (hj : cs[j]? = some v) : w.cell? ⟨b, j, none⟩ = some v := by
  obtain ⟨F, h1, _⟩ := h.chunk i hi
  have := h1 j v hj
  simpa using this
theorem St.cells (h : St c w L R) {b : Nat} {cs cs' : List Value} (i j : Nat) (hi : L[i]? = some (cBox b cs)) (hj : (cs.drop j).take cs'.length = cs') : CellsAt w b j cs' := by
  intro m u hm
  have hlt := (List.getElem?_eq_some_iff.1 hm).1
  refine h.cell i hi ?_
  rw [← hj] at hm
  rw [List.getElem?_take, if_pos (by omega), List.getElem?_drop] at hm
  exact hm
theorem run_loadCells_at {b j : Nat} {cs : List Value} (h : CellsAt w b j cs) (P : Program) : (loadCells ⟨b, j, none⟩ cs.length).run P w = .ok cs.toArray w := by
  refine run_loadCells_list w ⟨b, j, none⟩ cs fun m u hm => ?_
  have : (⟨b, j, none⟩ : Addr).add m = ⟨b, j + m, none⟩ := by unfold Addr.add; split <;> simp_all
  rw [this]; exact h m u hm
/-- A load of one cell. -/
theorem rv_load1 {p : Addr} (ho : o.op = .load t x) (hx : ev e x = some (.pointer (some p))) (ha : ∀ w, (isAgg t).run P w = .ok false w) (hc : w.cell? p = some v) : RunV P o e w v w := fun _ a hA => by
  simp [execOp, ho, Instr.loadAt, Instr.sureAddr, hA.eval hx, loadVar, ha, load, Sem.run, hc]
/-- A load of a struct or an array. -/
theorem rv_loadN {b j : Nat} {cs : List Value} {m : Nat} (ho : o.op = .load t x) (hx : ev e x = some (.pointer (some ⟨b, j, none⟩))) (ha : ∀ w, (isAgg t).run P w = .ok true w) (hz : ∀ w, (sizeOf t).run P w = .ok m w) (hm : cs.length = m) (hc : CellsAt w b j cs) : RunV P o e w (.agg cs.toArray) w := fun _ a hA => by
  subst hm
  simp [execOp, ho, Instr.loadAt, Instr.sureAddr, hA.eval hx, loadVar, ha, hz, run_loadCells_at hc P]

theorem heap_lt (w : World) (o : Obj) : (w.alloc o).heap.size = w.heap.size + 1 := by simp
/-- A new block. -/
theorem St.alloc (h : St c w L R) (cs : List Value) (t : TypeId) : St c (w.alloc (.cells cs.toArray t)) (L ++ [cBox w.heap.size cs]) R := by
  refine h.more (Keep.alloc _ _ _) ⟨inRow w.heap.size 0 cs.length, ⟨fun j u hj => ?_, fun o' ho => ?_, fun _ _ => ?_⟩, fun b o' hb => ?_⟩
  · rw [Nat.zero_add, World.cell?_alloc_at (hn := rfl)]; simpa using hj
  · exact World.frozen?_alloc_at (hn := rfl) ..
  · exact Iff.rfl
  · exact Nat.le_of_eq hb.1.symm
theorem rv_alloc {z : Value} {cs : List Value} (hS : St c w L R) (ho : o.op = .alloc t) (hz : ∀ w, (zeroValue t).run P w = .ok z w) (hcs : z.cells.toList = cs) : ∃ v w', RunV P o e w v w' ∧ ∃ b, v = .pointer (some ⟨b, 0, none⟩) ∧ St c w' (L ++ [cBox b cs]) R := by
  subst hcs
  refine ⟨_, _, fun _ a hA => ?_, w.heap.size, rfl, hS.alloc z.cells.toList t⟩
  simp [execOp, ho, Instr.alloc, hz, newVar, newRow]
theorem rv_box {cs : List Value} (hS : St c w L R) (ho : o.op = .box t x) (hx : ev e x = some v) (hcs : v.cells.toList = cs) : ∃ v w', RunV P o e w v w' ∧ ∃ b, v = .pointer (some ⟨b, 0, none⟩) ∧ St c w' (L ++ [cBox b cs]) R := by
  subst hcs
  refine ⟨_, _, fun _ a hA => ?_, w.heap.size, rfl, hS.alloc v.cells.toList t⟩
  simp [execOp, ho, Instr.box, hA.eval hx, newVar, newRow]

/-- The address of a field. -/
theorem rv_fld {fs : Array Field} {f : Field} {ix m b j j' : Nat} (hu : P.underlying t = some (.struct fs)) (ho : o.op = .fieldAddr t x ix) (hf : fs[ix]? = some f) (hz : ∀ w, (sizeOf f.type).run P w = .ok (m + 1) w) (hx : ev e x = some (.pointer (some ⟨b, j, none⟩))) (hj : j + f.offset = j') : RunV P o e w (.pointer (some ⟨b, j', none⟩)) w := fun _ a hA => by
  have h1 : (⟨b, j, none⟩ : Addr).add f.offset = ⟨b, j', none⟩ := by unfold Addr.add; split <;> simp_all
  simp [execOp, ho, Instr.fieldAt, hA.eval hx, run_underlying hu, hf, Instr.sureAddr, fieldPlace, hz, h1]

/-! ### Slices that are read -/
/-- Where element k of a slice lies. -/
def elB : Value → Nat
  | .slice (some a) _ _ => a.block
  | _ => 0
def elO (n k : Nat) : Value → Nat
  | .slice (some a) _ _ => a.off + k * n
  | _ => 0
theorem rd_len {α : Type} [Rep α] {S : Foot} {s : Value} {l : List α} (h : Rep.rd S w [s] l) : ∃ ad m, s = .slice ad l.length m := by
  obtain ⟨ad, m, h1, _⟩ := (show rdSlice S w [s] l from h)
  simp at h1; exact ⟨ad, m, h1⟩
theorem rd_max {α : Type} [Rep α] {S : Foot} {s : Value} {l : List α} (h : Rep.rd S w [s] l) : l.length ≤ maxLen := by
  obtain ⟨ad, m, h1, h2, h3, _⟩ := (show rdSlice S w [s] l from h)
  omega
theorem rd_el {α : Type} [Rep α] {S : Foot} {s : Value} {l : List α} (h : Rep.rd S w [s] l) {k : Nat} {x : α} (hk : l[k]? = some x) : ∃ ec, CellsAt w (elB s) (elO (Rep.n α) k s) ec ∧ Rep.rd S w ec x := by
  obtain ⟨ad, m, h1, h2, h3, h4⟩ := (show rdSlice S w [s] l from h)
  obtain ⟨hlt, hx⟩ := List.getElem?_eq_some_iff.1 hk
  simp at h1; subst h1
  rcases h4 with h4 | ⟨b, off, rfl, h4⟩
  · subst h4; simp at hlt
  · obtain ⟨ec, a1, _, a2⟩ := h4 k hlt
    exact ⟨ec, a1, hx ▸ a2⟩
theorem rv_lenS {α : Type} [Rep α] {S : Foot} {s : Value} {l : List α} {el : TypeId} (h : Rep.rd S w [s] l) (hu : P.underlying t = some (.slice el)) (ho : o.op = .call { callee := .builtin .len, args := #[x], argTypes := #[t] }) (hx : ev e x = some s) : RunV P o e w (.int .i64 (l.length : Int)) w := by
  obtain ⟨ad, m, rfl⟩ := rd_len h
  exact rv_len hu ho hx
/-- An index within bounds, in the plain functions. -/
def idx {α : Type} (l : List α) (i : Int) : Option α := if 0 ≤ i then l[i.toNat]? else none
theorem idx_some {α : Type} {l : List α} {i : Int} {x : α} (h : idx l i = some x) : 0 ≤ i ∧ i < l.length ∧ l[i.toNat]? = some x := by
  unfold idx at h
  split at h
  · rename_i h0
    have := (List.getElem?_eq_some_iff.1 h).1
    exact ⟨h0, by omega, h⟩
  · cases h
theorem rv_idx {α : Type} [Rep α] {S : Foot} {s : Value} {l : List α} {el m : Nat} {q : α} (h : Rep.rd S w [s] l) (_hn : Rep.n α = m) (hq : idx l i = some q) (hu : P.underlying t = some (.slice el)) (hz : ∀ w, (sizeOf el).run P w = .ok m w) (ho : o.op = .indexAddr t x y) (hx : ev e x = some s) (hy : ev e y = some (.int k i)) : RunV P o e w (.pointer (some ⟨elB s, elO m i.toNat s, none⟩)) w := by
  obtain ⟨h0, h1, h2⟩ := idx_some hq
  obtain ⟨ad, c, rfl⟩ := rd_len h
  obtain ⟨ad', c', e1, _, _, h4⟩ := (show rdSlice S w [_] l from h)
  simp at e1
  obtain ⟨rfl, rfl⟩ := e1
  rcases h4 with h4 | ⟨b, off, rfl, _⟩
  · subst h4; simp at h1; omega
  · intro _ a hA
    have h5 : (⟨b, off, none⟩ : Addr).add (i.toNat * m) = ⟨b, off + i.toNat * m, none⟩ := by unfold Addr.add; split <;> simp_all
    simp [execOp, ho, Instr.indexAt, hA.eval hx, hA.eval hy, asIntOf, run_underlying hu, h0, h1, hz, h5, elB, elO]

/-! ### Stores into boxes -/
theorem run_storeCells_in {b : Nat} (P : Program) : ∀ (vs : List Value) (w : World) (j m : Nat), (∀ v ∈ vs, v.oneCell' = true) → (∀ q, m ≤ q → q < m + vs.length → (w.cell? ⟨b, j + q, none⟩).isSome = true ∧ w.frozen? ⟨b, j + q, none⟩ = false) →
    ∃ w', (storeCells ⟨b, j, none⟩ vs m).run P w = .ok () w' ∧ Keep (inRow b (j + m) vs.length) w w' ∧ w'.heap.size = w.heap.size ∧ CellsAt w' b (j + m) vs
  | [], w, j, m, _, _ => ⟨w, rfl, Keep.refl _ _, rfl, fun q v h => by simp at h⟩
  | v :: vs, w, j, m, h1, h2 => by
    have hadd : (⟨b, j, none⟩ : Addr).add m = ⟨b, j + m, none⟩ := by unfold Addr.add; split <;> simp_all
    obtain ⟨hs, hf⟩ := h2 m (Nat.le_refl _) (by simp)
    obtain ⟨u, hu⟩ := Option.isSome_iff_exists.1 hs
    have hk1 : Keep (inRow b (j + m) (v :: vs).length) w (w.setCell ⟨b, j + m, none⟩ v) := Keep.setCell _ _ _ _ ⟨rfl, Nat.le_refl _, by simp⟩ rfl
    obtain ⟨w', hr, hk, hsz, hc⟩ := run_storeCells_in P vs (w.setCell ⟨b, j + m, none⟩ v) j (m + 1) (fun v h => h1 v (List.mem_cons_of_mem _ h)) (fun q a1 a2 => by
      obtain ⟨b1, b2⟩ := h2 q (by omega) (by simp; omega)
      exact ⟨hk1.stay _ _ b1, by simpa using b2⟩)
    refine ⟨w', ?_, hk1.trans hk fun b' o _ hh => ?_, by simpa using hsz, ?_⟩
    · have hst := run_store P w ⟨b, j + m, none⟩ v .plain (h1 v (by simp))
      simp only [storeCells, Sem.run_bind, hadd]
      rw [hst]
      simp [hu, hf, hr]
    · obtain ⟨c1, c2, c3⟩ := hh
      exact ⟨c1, by omega, by simp; omega⟩
    · intro q u' hq
      cases q with
      | zero =>
        simp at hq; subst hq
        have hlt : b < w.heap.size := lt_of_cell hs
        rw [Nat.add_zero, hk.cell b (j + m) (by simpa using hlt) (fun hh => by obtain ⟨_, c2, _⟩ := hh; omega)]
        exact World.cell?_setCell_same (h := hu) ..
      | succ q =>
        have := hc q u' (by simpa using hq)
        rw [show j + m + (q + 1) = j + (m + 1) + q from by omega]
        exact this
/-- Cells j.. of a box are written. -/
def setN (cs : List Value) (j : Nat) : List Value → List Value
  | [] => cs
  | v :: vs => setN (cs.set j v) (j + 1) vs
theorem setN_length : ∀ (vs cs : List Value) (j : Nat), (setN cs j vs).length = cs.length
  | [], _, _ => rfl
  | v :: vs, cs, j => by simp [setN, setN_length vs]
theorem setN_get : ∀ (vs cs : List Value) (j q : Nat), j + vs.length ≤ cs.length → (setN cs j vs)[q]? = if j ≤ q ∧ q < j + vs.length then vs[q - j]? else cs[q]?
  | [], cs, j, q, _ => by simp only [setN, List.length_nil]; rw [if_neg (by omega)]
  | v :: vs, cs, j, q, h => by
    simp only [setN]
    rw [setN_get vs (cs.set j v) (j + 1) q (by simp at h ⊢; omega)]
    simp only [List.length_cons] at h ⊢
    by_cases h1 : q = j
    · subst h1
      rw [if_neg (by omega), if_pos (by omega)]
      rw [List.getElem?_set_self (by omega)]; simp
    · by_cases h2 : j + 1 ≤ q ∧ q < j + 1 + vs.length
      · rw [if_pos h2, if_pos (by omega), show q - j = (q - (j + 1)) + 1 from by omega]; simp
      · rw [if_neg h2, if_neg (by omega), List.getElem?_set_ne (by omega)]
theorem rs_box {b j m i : Nat} {cs vs : List Value} (hS : St c w L R) (hi : L[i]? = some (cBox b cs)) (ho : o.op = .store t x y) (hx : ev e x = some (.pointer (some ⟨b, j, none⟩))) (hy : ev e y = some v) (hvs : v.cells.toList = vs) (hz : ∀ w, (sizeOf t).run P w = .ok m w) (hm : vs.length = m) (hj : Nat.ble (j + m) cs.length = true) (h1 : vs.all Value.oneCell' = true) :
    ∃ w', RunS P o e w w' ∧ St c w' (L.set i (cBox b (setN cs j vs))) R := by
  subst hm
  have hj' : j + vs.length ≤ cs.length := Nat.le_of_ble_eq_true hj
  have h1' : ∀ v ∈ vs, v.oneCell' = true := fun v hv => by simpa using List.all_eq_true.1 h1 v hv
  obtain ⟨F, hF⟩ := hS.chunk i hi
  obtain ⟨hc, hfz, _⟩ := hF
  obtain ⟨w', hr, hk, hsz, hcell⟩ := run_storeCells_in (b := b) P vs w j 0 h1' (fun q _ hq => by
    refine ⟨?_, hfz (j + q) ⟨rfl, by omega, by omega⟩⟩
    have := hc (j + q) cs[j + q] (List.getElem?_eq_getElem (by omega))
    rw [Nat.zero_add] at this
    rw [this]; rfl)
  refine ⟨w', fun _ a hA => ?_, hS.turn i hi fun F ⟨a1, a2, a3⟩ => ⟨F, inRow b (j + 0) vs.length, hk, fun b' o' h => (a3 b' o').2 ?_, ⟨?_, ?_, ?_⟩, fun _ _ h => .inl h⟩⟩
  · have hsize : v.cells.size = vs.length := by rw [← hvs]; simp
    have hr' : (storeCells ⟨b, j, none⟩ v.cells.toList).run P w = .ok () w' := by rw [hvs]; exact hr
    simp [execOp, ho, Instr.storeAt, Instr.sureAddr, hA.eval hx, hA.eval hy, storeVar, hz, hsize, hr']
  · obtain ⟨b1, b2, b3⟩ := h
    exact ⟨b1, by omega, by omega⟩
  · intro q u hq
    rw [setN_get vs cs j q hj'] at hq
    split at hq
    · rename_i hin
      have := hcell (q - j) u hq
      rw [show j + 0 + (q - j) = 0 + q from by omega] at this
      exact this
    · rename_i hin
      have hlt := (List.getElem?_eq_some_iff.1 hq).1
      rw [hk.cell b (0 + q) (World.block_lt_of_cell? w _ (a1 q u hq)) (fun hh => by obtain ⟨_, b2, b3⟩ := hh; omega)]
      exact a1 q u hq
  · intro o' ho'
    have ho2 : inRow b 0 cs.length b o' := by obtain ⟨b1, b2, b3⟩ := ho'; rw [setN_length] at b3; exact ⟨b1, b2, b3⟩
    have hlt : o' < cs.length := by obtain ⟨_, _, b3⟩ := ho2; omega
    have hcell2 := a1 o' cs[o'] (List.getElem?_eq_getElem hlt)
    rw [Nat.zero_add] at hcell2
    exact (hk.frz b o' (World.block_lt_of_cell? w _ hcell2)).trans (a2 o' ho2)
  · intro b' o'; rw [a3, setN_length]

/-! ### Calls -/
def evs (e : Env) : List Operand → Option (List Value)
  | [] => some []
  | x :: r => match ev e x, evs e r with
    | some v, some vs => some (v :: vs)
    | _, _ => none
theorem evs_map {e : Env} {a : Act} {n : Nat} (hA : AEnv n e a) : ∀ {xs : List Operand} {vs : List Value}, evs e xs = some vs → xs.map a.eval = vs
  | [], vs, h => by simp [evs] at h; simp [h]
  | x :: r, vs, h => by
    simp only [evs] at h
    split at h
    · rename_i v vs' h1 h2
      simp at h; subst h
      simp [hA.eval h1, evs_map hA h2]
    · cases h
theorem rc_call {f : FuncId} {xs : List Operand} {ts : Array TypeId} {vs : List Value} (hcall : ∀ args w, (callFunc f args).run P w = .ok (.enter f args) w) (ho : o.op = .call { callee := .value (.func f), args := xs.toArray, argTypes := ts }) (hv : evs e xs = some vs) : RunC P o e w f vs.toArray := fun _ a hA => by
  have h1 : Array.map a.eval xs.toArray = vs.toArray := by rw [List.map_toArray, evs_map hA hv]
  simp [execOp, ho, resolve, Act.eval, Deferred.ofValue, invoke, hcall, evs_map hA hv]
theorem rc_callv {f : FuncId} {xs : List Operand} {ts : Array TypeId} {vs cap : List Value} (hcall : ∀ args w, (callFunc f args).run P w = .ok (.enter f args) w) (ho : o.op = .call { callee := .value x, args := xs.toArray, argTypes := ts }) (hx : ev e x = some (.func (.func f) #[] cap.toArray)) (hv : evs e xs = some vs) : RunC P o e w f (vs ++ cap).toArray := fun _ a hA => by
  simp [execOp, ho, resolve, hA.eval hx, Deferred.ofValue, invoke, hcall, evs_map hA hv]

/-! ### The end of a function -/
def resSem (tmps : Array Value) : ResultVar → Sem Value
  | .tmp t => pure (tmps.getD t undef)
  | .cell p t => do loadVar t (← asAddr (tmps.getD p undef))
def resOne (P : Program) (e : Env) (w : World) (r : ResultVar) (v : Value) : Prop := ∀ n a, AEnv n e a → (resSem a.tmps r).run P w = .ok v w
theorem res_tmp {s : Tmp} (h : lk e s = some v) : resOne P e w (.tmp s) v := fun _ a hA => by
  have := hA.get s v h
  simp [resSem, this]
theorem res_cell {s : Tmp} {b j m : Nat} {cs : List Value} (hx : lk e s = some (.pointer (some ⟨b, j, none⟩))) (ha : ∀ w, (isAgg t).run P w = .ok true w) (hz : ∀ w, (sizeOf t).run P w = .ok m w) (hm : cs.length = m) (hc : CellsAt w b j cs) : resOne P e w (.cell s t) (.agg cs.toArray) := fun _ a hA => by
  subst hm
  have := hA.get s _ hx
  simp [resSem, this, asAddr, loadVar, ha, hz, run_loadCells_at hc P]
/-- What 'return' must show. -/
def Fin (P : Program) (fn : Func) (K : Value → World → Prop) (a : Act) (w : World) : Prop := a.defers = [] ∧ ∃ v, (results fn a.tmps).run P w = .ok v w ∧ K v w
theorem results_eq {fn : Func} {rs : List ResultVar} (hf : fn.results = rs.toArray) (tmps : Array Value) : results fn tmps = (do let vs ← rs.toArray.mapM (resSem tmps); pure (if h : vs.size = 1 then vs[0] else .tuple vs)) := by
  unfold results; rw [hf]; rfl
theorem fin1 {fn : Func} {K : Value → World → Prop} {r : ResultVar} (hf : fn.results = #[r]) (hA : AEnv n e a') (hr : resOne P e w r v) (hK : K v w) : Fin P fn K a' w := by
  refine ⟨hA.d, v, ?_, hK⟩
  rw [results_eq (rs := [r]) hf]
  simp [hr n a' hA]
theorem fin2 {fn : Func} {K : Value → World → Prop} {r r2 : ResultVar} (hf : fn.results = #[r, r2]) (hA : AEnv n e a') (hr : resOne P e w r v) (hr2 : resOne P e w r2 u) (hK : K (.tuple #[v, u]) w) : Fin P fn K a' w := by
  refine ⟨hA.d, _, ?_, hK⟩
  rw [results_eq (rs := [r, r2]) hf]
  simp [hr n a' hA, hr2 n a' hA]
theorem fin3 {fn : Func} {K : Value → World → Prop} {r r2 r3 : ResultVar} {u' : Value} (hf : fn.results = #[r, r2, r3]) (hA : AEnv n e a') (hr : resOne P e w r v) (hr2 : resOne P e w r2 u) (hr3 : resOne P e w r3 u') (hK : K (.tuple #[v, u, u']) w) : Fin P fn K a' w := by
  refine ⟨hA.d, _, ?_, hK⟩
  rw [results_eq (rs := [r, r2, r3]) hf]
  simp [hr n a' hA, hr2 n a' hA, hr3 n a' hA]
theorem fin0 {fn : Func} {K : Value → World → Prop} (hf : fn.results = #[]) (hA : AEnv n e a') (hK : K (.tuple #[]) w) : Fin P fn K a' w :=
  ⟨hA.d, _, by simp [results, hf], hK⟩
/-- A function, from its body. -/
theorem calls_cw {f : FuncId} {fn : Func} {cd : Code} {args : List Value} {m : Nat} {K : Value → World → Prop} (hf : P.funcs[f]? = some fn) (hb : fn.body = some cd) (hm : fn.ntmps = m) (hl : Nat.ble args.length m = true)
    (h : ∀ a, AEnv m (env0 0 args) a → CW P cd (fun _ _ => False) (fun _ _ _ => False) (Fin P fn K) a w) : Calls P f args.toArray w (Ret K) := by
  refine calls_of_wp hf hb ?_
  subst hm
  refine wp_mono (h _ (aenv0 args fn.ntmps (Nat.le_of_ble_eq_true hl))) fun ex a w q => ?_
  cases ex with
  | ret => obtain ⟨h1, v, h2, h3⟩ := q; exact ⟨h1, v, h2, v, rfl, h3⟩
  | _ => exact q.elim
end
end Go.Gv
