/- Short forms of what the printed walks say most often; elements that are looked at whenever. -/
import Derived.Test.YtpndngnohcffnaaGreatGvOpen
set_option linter.unusedVariables false
set_option linter.unusedSimpArgs false
namespace Go.Gv
section
variable {P : Program} {op : Op} {ty : TypeId} {ps : String} {af : Array Edge} {ops : Array Oper} {rest : List Oper} {Q : Exit → Act → World → Prop} {n d : Nat} {e : Env} {v : Value} {w w' : World} {c : Ctx} {L : List Chunk} {R : List Fact}
/-- An operation without a guard. -/
theorem oy (hr : RunV P ⟨some d, op, ty, ps, af, none⟩ e w v w') (hn : Nat.blt d n = true) (k : Ops P ops Q rest n ((d, v) :: e) w') : Ops P ops Q (⟨some d, op, ty, ps, af, none⟩ :: rest) n e w :=
  ops_v hr (want_yes rfl) rfl hn k
theorem om {x : Operand} (hx : ev e x = some v) (hn : Nat.blt d n = true) (k : Ops P ops Q rest n ((d, v) :: e) w) : Ops P ops Q (⟨some d, .move x, ty, ps, af, none⟩ :: rest) n e w := oy (rv_move rfl hx) hn k
theorem oa {x : Operand} (hx : ev e x = some v) (hn : Nat.blt d n = true) (k : Ops P ops Q rest n ((d, v) :: e) w) : Ops P ops Q (⟨some d, .assign x, ty, ps, af, none⟩ :: rest) n e w := oy (rv_assign rfl hx) hn k
theorem keepsI (h : St c w L R) : Keeps c L R w := ⟨[], by rw [List.append_nil]; exact h⟩
/-- One that may be carried out whenever. -/
theorem ey {N : Act → World → Prop} {X : Nat → Act → World → Prop} {T : Act → World → Prop} {fuel : Nat} {listed : Array Bool} (i : Nat) (hi : ops[i]? = some ⟨some d, op, ty, ps, af, none⟩)
    (hc : (Region.noSelect ops && (Region.free .any ops listed i && (Region.ready .any ops listed).contains i)) = true) (hK : Keeps c L R w) (hv : ∀ (L' : List Chunk) (w' : World), St c w' (L ++ L') R → RunV P ⟨some d, op, ty, ps, af, none⟩ e w' v w') (hn : Nat.blt d n = true)
    (k : AnyH P ops (mkQ N X T) (Keeps c L R) fuel (listed.setIfInBounds i true) n ((d, v) :: e) w) : AnyH P ops (mkQ N X T) (Keeps c L R) (fuel + 1) listed n e w := by
  rw [Bool.and_eq_true, Bool.and_eq_true] at hc
  exact any_v i hc.1 hi hc.2.1 hc.2.2 hK (fun w' ⟨L', h⟩ => hv L' w' h) (want_yes rfl) rfl hn k
theorem fy {fn : Func} {s : Tmp} {a' : Act} (hf : fn.results = #[.tmp s]) (hA : AEnv n e a') (hl : lk e s = some v) (hS : St c w L R) : Fin P fn (fun u w' => u = v ∧ St c w' [] []) a' w :=
  fin1 hf hA (res_tmp hl) ⟨rfl, (hS.sel [] rfl).weaken (R' := []) (fun _ h => nomatch h)⟩
end
/-- Cells that are never written again. -/
def fAt (b off : Nat) (cs : List Value) : Fact where
  P := fun S w => CellsAt w b off cs ∧ ∀ o, inRow b off cs.length b o → S b o
  agree := fun ⟨h1, h2⟩ ha => ⟨h1.agree fun o h3 h4 => ha b o (h2 o ⟨rfl, h3, h4⟩), h2⟩
  mono := fun ⟨h1, h2⟩ ha => ⟨h1, fun o h => ha b o (h2 o h)⟩
theorem rd_elF {α : Type} [Rep α] {S : Foot} {w : World} {s : Value} {l : List α} (h : Rep.rd S w [s] l) {k : Nat} {x : α} (hk : l[k]? = some x) : ∃ ec, (fAt (elB s) (elO (Rep.n α) k s) ec).P S w ∧ Rep.rd S w ec x := by
  obtain ⟨ad, m, h1, h2, h3, h4⟩ := (show rdSlice S w [s] l from h)
  obtain ⟨hlt, hx⟩ := List.getElem?_eq_some_iff.1 hk
  simp at h1; subst h1
  rcases h4 with h4 | ⟨b, off, rfl, h4⟩
  · subst h4; simp at hlt
  · obtain ⟨ec, a1, a0, a2⟩ := h4 k hlt
    have hn : ec.length = Rep.n α := Rep.rd_len a2
    exact ⟨ec, ⟨a1, fun o ho => a0 o ho⟩, hx ▸ a2⟩
theorem St.fat {c : Ctx} {w : World} {L : List Chunk} {R : List Fact} {b off : Nat} {cs : List Value} (h : St c w L R) (j : Nat) (hj : R[j]? = some (fAt b off cs)) : CellsAt w b off cs := (h.fact j hj).1
/-! ### Literals whose elements are several cells -/
theorem blit (off : Nat) : ∀ (l : List Value) (k : Nat) (cells : Array Value), off + k + l.length ≤ cells.size →
    ((l.zipIdx k).foldl (fun cs (q : Value × Nat) => cs.setIfInBounds (off + q.2) q.1) cells).toList = cells.toList.take (off + k) ++ l ++ cells.toList.drop (off + k + l.length)
  | [], k, cells, h => by simp
  | c :: r, k, cells, h => by
    have h' : off + k < cells.size := by simp at h; omega
    rw [List.zipIdx_cons, List.foldl_cons, blit off r (k + 1) _ (by simp at h ⊢; omega)]
    simp only [Array.toList_setIfInBounds]
    have e1 : (cells.toList.set (off + k) c).take (off + (k + 1)) = cells.toList.take (off + k) ++ [c] := by
      rw [show off + (k + 1) = (off + k) + 1 by omega, List.take_succ_eq_append_getElem (by simpa using h'), List.take_set_of_le (Nat.le_refl _), List.getElem_set_self]
    have e2 : (cells.toList.set (off + k) c).drop (off + (k + 1) + r.length) = cells.toList.drop (off + k + (c :: r).length) := by
      rw [List.drop_set_of_lt (by omega)]; congr 1; simp; omega
    rw [e1, e2]; simp
theorem fill_all (n : Nat) : ∀ (vs : List Value) (i : Nat) (cells : Array Value), (∀ v ∈ vs, v.cells.size = n) → cells.size = (i + vs.length) * n →
    Instr.fill (fun i => some (i * n, n)) cells ((List.range' i vs.length).zip vs) = some (cells.toList.take (i * n) ++ vs.flatMap fun v => v.cells.toList).toArray
  | [], i, cells, _, h => by
    have e : cells.toList.take (i * n) = cells.toList := List.take_of_length_le (by simp at h ⊢; omega)
    simp [Instr.fill, e]
  | v :: r, i, cells, hv, h => by
    have hn := hv v List.mem_cons_self
    have hlen : (i + (r.length + 1)) * n = i * n + n + r.length * n := by rw [Nat.add_mul, Nat.add_mul]; omega
    have hsz : i * n + n ≤ cells.size := by simp only [List.length_cons] at h; omega
    have hb := blit (i * n) v.cells.toList 0 cells (by simp; omega)
    have hf : v.cells.zipIdx.foldl (fun cs (q : Value × Nat) => cs.setIfInBounds (i * n + q.2) q.1) cells = (v.cells.toList.zipIdx 0).foldl (fun cs (q : Value × Nat) => cs.setIfInBounds (i * n + q.2) q.1) cells := by
      rw [← Array.foldl_toList, Array.toList_zipIdx]
    rw [← hf] at hb
    simp only [List.length_cons, List.range'_succ, List.zip_cons_cons, Instr.fill, hn]
    rw [if_neg (by simp; omega)]
    have hsize : (v.cells.zipIdx.foldl (fun cs (q : Value × Nat) => cs.setIfInBounds (i * n + q.2) q.1) cells).size = cells.size := by
      rw [← Array.length_toList, hb]; simp; omega
    rw [fill_all n r (i + 1) _ (fun x hx => hv x (List.mem_cons_of_mem _ hx)) (by rw [hsize, h]; simp only [List.length_cons]; congr 1; omega), hb]
    congr 2
    have e : (i + 1) * n = i * n + n := by rw [Nat.add_mul]; omega
    rw [e, Nat.add_zero, List.take_append_of_le_length (by simp; omega)]
    have e2 : (cells.toList.take (i * n) ++ v.cells.toList).length = i * n + n := by simp; omega
    rw [← e2, List.take_length, List.flatMap_cons, List.append_assoc]
theorem lit_fill {ps : List (Nat × Operand)} {vs cells : List Value} {m len : Nat} {F : Nat → Value} (h1 : ps.map (·.1) = List.range' 0 len) (h0 : vs.length = len) (h2 : vs.all (fun v => v.cells.size == m) = true) (h3 : (vs.flatMap fun v => v.cells.toList) = cells) :
    Instr.fill (fun i => some (i * m, m)) ((Array.range (len * m)).map F) ((ps.map (·.1)).zip vs) = some cells.toArray := by
  subst h0; subst h3
  rw [h1, fill_all m vs 0 _ (fun v hv => by have := List.all_eq_true.1 h2 v hv; simpa using this) (by simp)]
  simp
end Go.Gv
