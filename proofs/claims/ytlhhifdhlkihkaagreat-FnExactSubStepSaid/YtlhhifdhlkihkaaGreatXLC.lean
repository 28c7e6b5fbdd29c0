import Derived.Test.YtlhhifdhlkihkaaGreatXLB
import Derived.Test.YtlhhifdhlkihkaaGreatProg
set_option linter.unusedVariables false
set_option linter.unusedSimpArgs false
set_option linter.unusedSectionVars false
set_option linter.constructorNameAsVariable false
set_option linter.unnecessarySimpa false
section
set_option linter.unusedVariables false
namespace Go.Gv
def swN (i j n : Nat) : Nat := match Nat.beq n i with
  | true => j
  | false => match Nat.beq n j with
    | true => i
    | false => n
def swC (i j : Nat) : SV → SV
  | .p n o => .p (swN i j n) o
  | x => x
def swCs (i j : Nat) : List SV → List SV
  | [] => []
  | x :: r => swC i j x :: swCs i j r
def swG (i j : Nat) : SV → SV
  | .g cs => .g (swCs i j cs)
  | x => swC i j x
def swGs (i j : Nat) : List SV → List SV
  | [] => []
  | x :: r => swG i j x :: swGs i j r
def swF (i j : Nat) : List Nat → List Nat
  | [] => []
  | n :: r => swN i j n :: swF i j r
def swT (i j : Nat) : SV → SV
  | .t cs => .t (swGs i j cs)
  | .f f ns => .f f (swF i j ns)
  | x => swG i j x
def swE (i j : Nat) : SE → SE
  | [] => []
  | (k, x) :: r => (k, swT i j x) :: swE i j r
def swL (i j : Nat) : List Ch → List Ch
  | [] => []
  | x :: r => (match x with
    | .box n cs => .box (swN i j n) (swCs i j cs)
    | .ro n cs => .ro (swN i j n) (swCs i j cs)
    | .w n b z => .w (swN i j n) b z
    | y => y) :: swL i j r
section
variable {B B' : Bl} {i j : Nat}
theorem swC_ok (h : ∀ n, B'[swN i j n]? = B[n]?) (x : SV) : cellV B' (swC i j x) = cellV B x := by
  cases x <;> first | rfl | (simp only [swC, cellV, h])
theorem swCs_ok (h : ∀ n, B'[swN i j n]? = B[n]?) : ∀ cs : List SV, mapO (cellV B') (swCs i j cs) = mapO (cellV B) cs
  | [] => rfl
  | x :: r => by simp only [swCs, mapO, swC_ok h, swCs_ok h r]
theorem swG_ok (h : ∀ n, B'[swN i j n]? = B[n]?) (x : SV) : gV B' (swG i j x) = gV B x := by
  cases x with
  | g cs => simp only [swG, gV, swCs_ok h]
  | p n o => exact swC_ok h (.p n o)
  | _ => rfl
theorem swGs_ok (h : ∀ n, B'[swN i j n]? = B[n]?) : ∀ cs : List SV, mapO (gV B') (swGs i j cs) = mapO (gV B) cs
  | [] => rfl
  | x :: r => by simp only [swGs, mapO, swG_ok h, swGs_ok h r]
theorem swF_ok (h : ∀ n, B'[swN i j n]? = B[n]?) : ∀ cs : List Nat, mapO (capV B') (swF i j cs) = mapO (capV B) cs
  | [] => rfl
  | x :: r => by simp only [swF, mapO, capV, h]; rw [show mapO (capV B') (swF i j r) = mapO (capV B) r from swF_ok h r]
theorem swT_ok (h : ∀ n, B'[swN i j n]? = B[n]?) (x : SV) : toV B' (swT i j x) = toV B x := by
  cases x with
  | t cs => simp only [swT, toV, swGs_ok h]
  | f f ns => simp only [swT, toV, swF_ok h]
  | g cs => exact swG_ok h (.g cs)
  | p n o => exact swG_ok h (.p n o)
  | _ => rfl
theorem swE_lk {k : Nat} {x : SV} : ∀ {e : SE}, lkS (swE i j e) k = some x → ∃ y, lkS e k = some y ∧ x = swT i j y
  | [], h => by cases h
  | (k', y) :: r, h => by
    simp only [swE, lkS] at h ⊢
    split at h
    · rename_i hb; cases h; exact ⟨y, rfl, rfl⟩
    · rename_i hb; exact swE_lk h
theorem swL_imp (h : ∀ n, B'[swN i j n]? = B[n]?) {w : World} {R : List Fact} : ∀ (L : List Ch), ImpL w (L.map (chd B)) ((swL i j L).map (chd B')) ∧ ((∀ x ∈ L, roF B R x) → ∀ x ∈ swL i j L, roF B' R x)
  | [] => ⟨.nil, fun _ x hx => by cases hx⟩
  | x :: L => by
    obtain ⟨h1, h2⟩ := swL_imp h (w := w) (R := R) L
    refine ⟨.cons (fun F hF => ?_) h1, fun hr y hy => ?_⟩
    · cases x with
      | box n cs =>
        obtain ⟨b, z, vs, k1, k2, k3⟩ := hF
        exact ⟨b, z, vs, by rw [h]; exact k1, by rw [swCs_ok h]; exact k2, k3⟩
      | _ => exact hF
    · rcases List.mem_cons.1 hy with hy | hy
      · have hx := hr x (by simp)
        cases x with
        | box n cs => subst hy; trivial
        | ro n cs =>
          obtain ⟨b, z, vs, k1, k2, k3⟩ := hx
          subst hy
          exact ⟨b, z, vs, by rw [h]; exact k1, by rw [swCs_ok h]; exact k2, k3⟩
        | w n b z => subst hy; show B'[swN i j n]? = _; rw [h]; exact hx
        | o c => subst hy; trivial
        | no => subst hy; trivial
        | f f => subst hy; exact hx
      · exact h2 (fun x hx => hr x (List.mem_cons_of_mem _ hx)) y hy
end
theorem sw_ex {B : Bl} {i j : Nat} (hi : i < B.length) (hj : j < B.length) : ∃ B' : Bl, B'.length = B.length ∧ (∀ n, B'[swN i j n]? = B[n]?) := by
  refine ⟨(B.set i B[j]).set j B[i], by simp, fun n => ?_⟩
  unfold swN
  cases h1 : Nat.beq n i with
  | true =>
    have h1 := Nat.eq_of_beq_eq_true h1
    subst h1
    simp only
    rw [List.getElem?_set_self (by simpa using hj), List.getElem?_eq_getElem hi]
  | false =>
    have h1 : n ≠ i := fun h => by rw [h] at h1; simp at h1
    cases h2 : Nat.beq n j with
    | true =>
      have h2 := Nat.eq_of_beq_eq_true h2
      subst h2
      simp only
      rw [List.getElem?_set_ne h1, List.getElem?_set_self hi, List.getElem?_eq_getElem hj]
    | false =>
      have h2 : n ≠ j := fun h => by rw [h] at h2; simp at h2
      simp only
      rw [List.getElem?_set_ne (Ne.symm h2), List.getElem?_set_ne (Ne.symm h1)]
section
variable {n : Nat} {c : Ctx} {B0 : Bl} {m : Nat} {e : SE} {L : List Ch}
theorem swR {Z : Act → World → Prop} (i j : Nat) (h : (Nat.ble B0.length i && (Nat.ble B0.length j && (Nat.blt i m && Nat.blt j m))) = true)
    (kk : ∀ a w, RelN n c B0 m (swE i j e) (swL i j L) a w → Z a w) : ∀ a w, RelN n c B0 m e L a w → Z a w := by
  simp only [Bool.and_eq_true, Nat.ble_eq, Nat.blt_eq] at h
  obtain ⟨h1, h2, h3, h4⟩ := h
  intro a w ⟨B, hm, hA, hS⟩
  refine kk a w ?_
  rw [List.length_append] at hm
  obtain ⟨B', hl, hB⟩ := sw_ex (B := B) (i := i - B0.length) (j := j - B0.length) (by omega) (by omega)
  have key : ∀ n, (B0 ++ B')[swN i j n]? = (B0 ++ B)[n]? := by
    intro n
    have hsw : ∀ n, n < B0.length → swN i j n = n := fun n hn => by
      unfold swN
      cases e1 : Nat.beq n i with
      | true => have := Nat.eq_of_beq_eq_true e1; omega
      | false =>
        cases e2 : Nat.beq n j with
        | true => have := Nat.eq_of_beq_eq_true e2; omega
        | false => rfl
    have hge : ∀ n, B0.length ≤ n → swN i j n = B0.length + swN (i - B0.length) (j - B0.length) (n - B0.length) := fun n hn => by
      have q1 : Nat.beq (n - B0.length) (i - B0.length) = Nat.beq n i := by
        rw [Bool.eq_iff_iff]; simp only [Nat.beq_eq]; omega
      have q2 : Nat.beq (n - B0.length) (j - B0.length) = Nat.beq n j := by
        rw [Bool.eq_iff_iff]; simp only [Nat.beq_eq]; omega
      unfold swN
      rw [q1, q2]
      cases Nat.beq n i <;> cases Nat.beq n j <;> simp only <;> omega
    by_cases hn : n < B0.length
    · rw [hsw n hn, List.getElem?_append_left hn, List.getElem?_append_left hn]
    · rw [hge n (by omega), List.getElem?_append_right (by omega), List.getElem?_append_right (by omega), Nat.add_sub_cancel_left]
      exact hB _
  refine ⟨B', by rw [List.length_append]; omega, ⟨hA.d, hA.size, fun k x hk => ?_⟩, ?_⟩
  · obtain ⟨y, g1, rfl⟩ := swE_lk hk
    obtain ⟨v, g2, g3⟩ := hA.get k y g1
    exact ⟨v, by rw [swT_ok key]; exact g2, g3⟩
  · obtain ⟨⟨R, s1, s2⟩, s0⟩ := hS
    obtain ⟨g1, g2⟩ := swL_imp key (w := w) (R := R) L
    exact ⟨⟨R, s1.imp g1, g2 s2⟩, s0⟩
theorem pnR {Z : Act → World → Prop} {α : Type} [Rep α] (j : Nat) {s : AC} {l : List α} {n0 : Nat} (hl : l.length = n0) (hj : L[j]? = some (ow s l))
    (kk : ∀ a w, RelN n c B0 m e (L.set j (.o (cOwn [s.v n0] l))) a w → Z a w) : ∀ a w, RelN n c B0 m e L a w → Z a w := by
  subst hl
  have : L.set j (.o (cOwn [s.v l.length] l)) = L := by
    obtain ⟨h1, h2⟩ := List.getElem?_eq_some_iff.1 hj
    rw [← show L[j] = .o (cOwn [s.v l.length] l) from h2]; exact List.set_getElem_self h1
  rw [this] at kk
  exact kk
end
theorem fG {P : Program} {T : TT} {hT : TOk P T} {n : Nat} {c : Ctx} {B0 : Bl} {N : Act → World → Prop} {X : Nat → Act → World → Prop} {Q : Act → World → Prop} {K : List Fr} {m : Nat} {e e1 : SE} {L L1 : List Ch} {cf : Cfg} (h1 : frcE e = some e1) (h2 : frcL L = some L1) (k : G (.mk P T hT n c B0 N X Q) K m e1 L1 cf) : G (.mk P T hT n c B0 N X Q) K m e L cf := by
  have := frcE_eq h1
  have := frcL_eq h2
  subst e1; subst L1
  exact k
def fc1 : SV → Option SV
  | .i k x => some (.i k x)
  | .y b => some (.y b)
  | .b c => some (.b c)
  | .l c => some (.l c)
  | .s l => some (.s l)
  | .p n o => some (.p n o)
  | .h s n => some (.h s n)
  | .e s n i o => some (.e s n i o)
  | .k x => some (.k x)
  | .g cs => some (.g cs)
  | .t cs => some (.t cs)
  | .f f cs => some (.f f cs)
  | .u => some .u
def fcs : List SV → Option (List SV)
  | [] => some []
  | x :: r => match fc1 x with
    | some y => match fcs r with
      | some s => some (y :: s)
      | none => none
    | none => none
def fc2 : SV → Option SV
  | .g cs => match fcs cs with
    | some ds => some (.g ds)
    | none => none
  | x => fc1 x
def fgs : List SV → Option (List SV)
  | [] => some []
  | x :: r => match fc2 x with
    | some y => match fgs r with
      | some s => some (y :: s)
      | none => none
    | none => none
def fc3 : SV → Option SV
  | .t cs => match fgs cs with
    | some ds => some (.t ds)
    | none => none
  | x => fc2 x
def fdE : SE → Option SE
  | [] => some []
  | (k, v) :: r => match fc3 v with
    | some y => match fdE r with
      | some s => some ((k, y) :: s)
      | none => none
    | none => none
def fdL : List Ch → Option (List Ch)
  | [] => some []
  | x :: r => match fdL r with
    | some s => match x with
      | .box n cs => match fcs cs with
        | some ds => some (.box n ds :: s)
        | none => none
      | .ro n cs => match fcs cs with
        | some ds => some (.ro n ds :: s)
        | none => none
      | y => some (y :: s)
    | none => none
theorem fc1_eq {x y : SV} (h : fc1 x = some y) : y = x := by cases x <;> simp only [fc1] at h <;> cases h <;> rfl
theorem fcs_eq : ∀ {l r : List SV}, fcs l = some r → r = l
  | [], r, h => by cases h; rfl
  | x :: l, r, h => by
    simp only [fcs] at h
    split at h
    · rename_i y hy
      split at h
      · rename_i s hs; cases h; rw [fc1_eq hy, fcs_eq hs]
      · cases h
    · cases h
theorem fc2_eq {x y : SV} (h : fc2 x = some y) : y = x := by
  cases x with
  | g cs =>
    simp only [fc2] at h
    split at h
    · rename_i ds hd; cases h; rw [fcs_eq hd]
    · cases h
  | _ => exact fc1_eq h
theorem fgs_eq : ∀ {l r : List SV}, fgs l = some r → r = l
  | [], r, h => by cases h; rfl
  | x :: l, r, h => by
    simp only [fgs] at h
    split at h
    · rename_i y hy
      split at h
      · rename_i s hs; cases h; rw [fc2_eq hy, fgs_eq hs]
      · cases h
    · cases h
theorem fc3_eq {x y : SV} (h : fc3 x = some y) : y = x := by
  cases x with
  | t cs =>
    simp only [fc3] at h
    split at h
    · rename_i ds hd; cases h; rw [fgs_eq hd]
    · cases h
  | _ => exact fc2_eq h
theorem fdE_eq : ∀ {e r : SE}, fdE e = some r → r = e
  | [], r, h => by cases h; rfl
  | (k, v) :: l, r, h => by
    simp only [fdE] at h
    split at h
    · rename_i y hy
      split at h
      · rename_i s hs; cases h; rw [fc3_eq hy, fdE_eq hs]
      · cases h
    · cases h
theorem fdL_eq : ∀ {e r : List Ch}, fdL e = some r → r = e
  | [], r, h => by cases h; rfl
  | x :: l, r, h => by
    simp only [fdL] at h
    split at h
    · rename_i s hs
      have := fdL_eq hs
      subst this
      split at h
      · split at h
        · rename_i ds hds; cases h; rw [fcs_eq hds]
        · cases h
      · split at h
        · rename_i ds hds; cases h; rw [fcs_eq hds]
        · cases h
      · cases h; rfl
    · cases h
theorem fD {n : Nat} {c : Ctx} {B0 : Bl} {m : Nat} {e e1 : SE} {L L1 : List Ch} {Z : Act → World → Prop} (h1 : fdE e = some e1) (h2 : fdL L = some L1) (kk : ∀ a w, RelN n c B0 m e1 L1 a w → Z a w) : ∀ a w, RelN n c B0 m e L a w → Z a w := by
  have := fdE_eq h1
  have := fdL_eq h2
  subst e1; subst L1
  exact kk
end Go.Gv
end
section
namespace Go.Gv
structure Heap where
  Bytes : List Int
  Class : List Int
  deriving DecidableEq, Inhabited
instance : Rep Heap := Rep.via (fun d => (d.Bytes, d.Class))
instance : Fits Heap := Fits.via (fun d => (d.Bytes, d.Class))
theorem rd_Heap {S : Foot} {w : World} {cs : List Value} {d : Heap} (h : Rep.rd S w cs d) : ∃ v0 v1 : Value, cs = [v0, v1] ∧ Rep.rd S w [v0] d.Bytes ∧ Rep.rd S w [v1] d.Class := by
  obtain ⟨c0, r0, e0, h0, n0⟩ := h
  obtain ⟨u0, q0⟩ := rd_one_cell h0
  rw [q0] at h0
  obtain ⟨u1, q1⟩ := rd_one_cell n0
  rw [q1] at n0
  exact ⟨u0, u1, by rw [e0, q0, q1]; rfl, h0, n0⟩
structure SList where
  Slots : List Int
  deriving DecidableEq, Inhabited
instance : Rep SList := Rep.via (fun d => (d.Slots))
instance : Fits SList := Fits.via (fun d => (d.Slots))
theorem rd_SList {S : Foot} {w : World} {cs : List Value} {d : SList} (h : Rep.rd S w cs d) : ∃ v0 : Value, cs = [v0] ∧ Rep.rd S w [v0] d.Slots := by
  obtain ⟨u0, q0⟩ := rd_one_cell h
  rw [q0] at h
  exact ⟨u0, q0, h⟩
theorem op_SList (d : SList) {v0 : Value} : OP [v0] d [cOwn [v0] d.Slots] := (show OP (α := (List Int)) _ (d.Slots) _ from op_own)
theorem _root_.Go.Gv.St.el_SList {c : Ctx} {L : List Chunk} {R : List Fact} {w : World} {s : Value} {l : List SList} {i : Nat} {x : SList} (h : St c w L R) (j : Nat) (hj : R[j]? = some (fRd [s] l)) (hi : l[i]? = some x) : ∃ v0 : Value, CellsAt w (elB s) (elO 1 i s) [v0] ∧ St c w L (R ++ [fRd [v0] x.Slots]) := by
  obtain ⟨S, hS, hk⟩ := h.factS hj
  obtain ⟨ec, h1, h2⟩ := rd_el hS hi
  obtain ⟨v0, q, q0⟩ := rd_SList h2
  rw [q] at h1
  exact ⟨v0, h1, hk _ (by intro f hf; simp only [List.mem_cons, List.not_mem_nil, or_false] at hf; subst hf; exact q0)⟩
structure Lists where
  Global : List SList
  Own : List SList
  deriving DecidableEq, Inhabited
instance : Rep Lists := Rep.via (fun d => (d.Global, d.Own))
instance : Fits Lists := Fits.via (fun d => (d.Global, d.Own))
theorem rd_Lists {S : Foot} {w : World} {cs : List Value} {d : Lists} (h : Rep.rd S w cs d) : ∃ v0 v1 : Value, cs = [v0, v1] ∧ Rep.rd S w [v0] d.Global ∧ Rep.rd S w [v1] d.Own := by
  obtain ⟨c0, r0, e0, h0, n0⟩ := h
  obtain ⟨u0, q0⟩ := rd_one_cell h0
  rw [q0] at h0
  obtain ⟨u1, q1⟩ := rd_one_cell n0
  rw [q1] at n0
  exact ⟨u0, u1, by rw [e0, q0, q1]; rfl, h0, n0⟩
structure Mem where
  Heap : Heap
  Lists : Lists
  deriving DecidableEq, Inhabited
instance : Rep Mem := Rep.via (fun d => (d.Heap, d.Lists))
instance : Fits Mem := Fits.via (fun d => (d.Heap, d.Lists))
theorem rd_Mem {S : Foot} {w : World} {cs : List Value} {d : Mem} (h : Rep.rd S w cs d) : ∃ v0 v1 v2 v3 : Value, cs = [v0, v1, v2, v3] ∧ Rep.rd S w [v0] d.Heap.Bytes ∧ Rep.rd S w [v1] d.Heap.Class ∧ Rep.rd S w [v2] d.Lists.Global ∧ Rep.rd S w [v3] d.Lists.Own := by
  obtain ⟨c0, r0, e0, h0, n0⟩ := h
  obtain ⟨u0_0, u0_1, q0, hq0_0, hq0_1⟩ := rd_Heap h0
  obtain ⟨u1_0, u1_1, q1, hq1_0, hq1_1⟩ := rd_Lists n0
  exact ⟨u0_0, u0_1, u1_0, u1_1, by rw [e0, q0, q1]; rfl, hq0_0, hq0_1, hq1_0, hq1_1⟩
structure Pin where
  On : Bool
  Epoch : Int
  Marked : Bool
  Seen : Int
  deriving DecidableEq, Inhabited
instance : Rep Pin := Rep.via (fun d => (d.On, d.Epoch, d.Marked, d.Seen))
instance : Fits Pin := Fits.via (fun d => (d.On, d.Epoch, d.Marked, d.Seen))
theorem rd_Pin {S : Foot} {w : World} {cs : List Value} {d : Pin} (h : Rep.rd S w cs d) : cs = [.bool (d.On), .int .i64 (d.Epoch), .bool (d.Marked), .int .i64 (d.Seen)] := by
  obtain ⟨c0, r0, e0, h0, n0⟩ := h
  have q0 : c0 = [_] := h0
  obtain ⟨c1, r1, e1, h1, n1⟩ := n0
  have q1 : c1 = [_] := h1
  obtain ⟨c2, r2, e2, h2, n2⟩ := n1
  have q2 : c2 = [_] := h2
  have q3 : r2 = [_] := n2
  exact by rw [e0, e1, e2, q0, q1, q2, q3]; rfl
theorem mk_Pin {S : Foot} {w : World} (d : Pin)   : Rep.rd S w [.bool (d.On), .int .i64 (d.Epoch), .bool (d.Marked), .int .i64 (d.Seen)] d := ⟨[.bool (d.On)], [.int .i64 (d.Epoch), .bool (d.Marked), .int .i64 (d.Seen)], rfl, rfl, ⟨[.int .i64 (d.Epoch)], [.bool (d.Marked), .int .i64 (d.Seen)], rfl, rfl, ⟨[.bool (d.Marked)], [.int .i64 (d.Seen)], rfl, rfl, rfl⟩⟩⟩
instance : Flat Pin := ⟨fun h => Flat.own_of (α := Bool × Int × Bool × Int) h, fun h => Flat.no (α := Bool × Int × Bool × Int) h⟩
theorem op_Pin (d : Pin)  : OP [.bool (d.On), .int .i64 (d.Epoch), .bool (d.Marked), .int .i64 (d.Seen)] d [] := (show OP (α := Bool × Int × Bool × Int) _ (d.On, d.Epoch, d.Marked, d.Seen) _ from (op_pair (c1 := [.bool (d.On)]) (c2 := [.int .i64 (d.Epoch), .bool (d.Marked), .int .i64 (d.Seen)]) (A := []) (B := []) (op_flat rfl) (op_pair (c1 := [.int .i64 (d.Epoch)]) (c2 := [.bool (d.Marked), .int .i64 (d.Seen)]) (A := []) (B := []) (op_flat rfl) (op_pair (c1 := [.bool (d.Marked)]) (c2 := [.int .i64 (d.Seen)]) (A := []) (B := []) (op_flat rfl) (op_flat rfl) rfl) rfl) rfl))
theorem el_Pin {S : Foot} {w : World} {s : Value} {l : List Pin} {i : Nat} {x : Pin} (h : Rep.rd S w [s] l) (hi : l[i]? = some x) : CellsAt w (elB s) (elO 4 i s) [.bool (x.On), .int .i64 (x.Epoch), .bool (x.Marked), .int .i64 (x.Seen)] := by
  obtain ⟨ec, h1, h2⟩ := rd_el h hi
  rw [rd_Pin h2] at h1; exact h1
structure Clock where
  Epoch : Int
  Pins : List Pin
  deriving DecidableEq, Inhabited
instance : Rep Clock := Rep.via (fun d => (d.Epoch, d.Pins))
instance : Fits Clock := Fits.via (fun d => (d.Epoch, d.Pins))
theorem rd_Clock {S : Foot} {w : World} {cs : List Value} {d : Clock} (h : Rep.rd S w cs d) : ∃ v0 : Value, cs = [.int .i64 (d.Epoch), v0] ∧ Rep.rd S w [v0] d.Pins := by
  obtain ⟨c0, r0, e0, h0, n0⟩ := h
  have q0 : c0 = [_] := h0
  obtain ⟨u1, q1⟩ := rd_one_cell n0
  rw [q1] at n0
  exact ⟨u1, by rw [e0, q0, q1]; rfl, n0⟩
structure LRow where
  Handle : Int
  Epoch : Int
  deriving DecidableEq, Inhabited
instance : Rep LRow := Rep.via (fun d => (d.Handle, d.Epoch))
instance : Fits LRow := Fits.via (fun d => (d.Handle, d.Epoch))
theorem rd_LRow {S : Foot} {w : World} {cs : List Value} {d : LRow} (h : Rep.rd S w cs d) : cs = [.int .i64 (d.Handle), .int .i64 (d.Epoch)] := by
  obtain ⟨c0, r0, e0, h0, n0⟩ := h
  have q0 : c0 = [_] := h0
  have q1 : r0 = [_] := n0
  exact by rw [e0, q0, q1]; rfl
theorem mk_LRow {S : Foot} {w : World} (d : LRow)   : Rep.rd S w [.int .i64 (d.Handle), .int .i64 (d.Epoch)] d := ⟨[.int .i64 (d.Handle)], [.int .i64 (d.Epoch)], rfl, rfl, rfl⟩
instance : Flat LRow := ⟨fun h => Flat.own_of (α := Int × Int) h, fun h => Flat.no (α := Int × Int) h⟩
theorem op_LRow (d : LRow)  : OP [.int .i64 (d.Handle), .int .i64 (d.Epoch)] d [] := (show OP (α := Int × Int) _ (d.Handle, d.Epoch) _ from (op_pair (c1 := [.int .i64 (d.Handle)]) (c2 := [.int .i64 (d.Epoch)]) (A := []) (B := []) (op_flat rfl) (op_flat rfl) rfl))
theorem el_LRow {S : Foot} {w : World} {s : Value} {l : List LRow} {i : Nat} {x : LRow} (h : Rep.rd S w [s] l) (hi : l[i]? = some x) : CellsAt w (elB s) (elO 2 i s) [.int .i64 (x.Handle), .int .i64 (x.Epoch)] := by
  obtain ⟨ec, h1, h2⟩ := rd_el h hi
  rw [rd_LRow h2] at h1; exact h1
structure LList where
  Rows : List LRow
  deriving DecidableEq, Inhabited
instance : Rep LList := Rep.via (fun d => (d.Rows))
instance : Fits LList := Fits.via (fun d => (d.Rows))
theorem rd_LList {S : Foot} {w : World} {cs : List Value} {d : LList} (h : Rep.rd S w cs d) : ∃ v0 : Value, cs = [v0] ∧ Rep.rd S w [v0] d.Rows := by
  obtain ⟨u0, q0⟩ := rd_one_cell h
  rw [q0] at h
  exact ⟨u0, q0, h⟩
theorem op_LList (d : LList) {v0 : Value} : OP [v0] d [cOwn [v0] d.Rows] := (show OP (α := (List LRow)) _ (d.Rows) _ from op_own)
theorem _root_.Go.Gv.St.el_LList {c : Ctx} {L : List Chunk} {R : List Fact} {w : World} {s : Value} {l : List LList} {i : Nat} {x : LList} (h : St c w L R) (j : Nat) (hj : R[j]? = some (fRd [s] l)) (hi : l[i]? = some x) : ∃ v0 : Value, CellsAt w (elB s) (elO 1 i s) [v0] ∧ St c w L (R ++ [fRd [v0] x.Rows]) := by
  obtain ⟨S, hS, hk⟩ := h.factS hj
  obtain ⟨ec, h1, h2⟩ := rd_el hS hi
  obtain ⟨v0, q, q0⟩ := rd_LList h2
  rw [q] at h1
  exact ⟨v0, h1, hk _ (by intro f hf; simp only [List.mem_cons, List.not_mem_nil, or_false] at hf; subst hf; exact q0)⟩
structure Base where
  Mem : Mem
  Clock : Clock
  Limbo : List LList
  Haz : List Int
  deriving DecidableEq, Inhabited
instance : Rep Base := Rep.via (fun d => (d.Mem, d.Clock, d.Limbo, d.Haz))
instance : Fits Base := Fits.via (fun d => (d.Mem, d.Clock, d.Limbo, d.Haz))
theorem rd_Base {S : Foot} {w : World} {cs : List Value} {d : Base} (h : Rep.rd S w cs d) : ∃ v0 v1 v2 v3 v4 v5 v6 : Value, cs = [v0, v1, v2, v3, .int .i64 (d.Clock.Epoch), v4, v5, v6] ∧ Rep.rd S w [v0] d.Mem.Heap.Bytes ∧ Rep.rd S w [v1] d.Mem.Heap.Class ∧ Rep.rd S w [v2] d.Mem.Lists.Global ∧ Rep.rd S w [v3] d.Mem.Lists.Own ∧ Rep.rd S w [v4] d.Clock.Pins ∧ Rep.rd S w [v5] d.Limbo ∧ Rep.rd S w [v6] d.Haz := by
  obtain ⟨c0, r0, e0, h0, n0⟩ := h
  obtain ⟨u0_0, u0_1, u0_2, u0_3, q0, hq0_0, hq0_1, hq0_2, hq0_3⟩ := rd_Mem h0
  obtain ⟨c1, r1, e1, h1, n1⟩ := n0
  obtain ⟨u1_0, q1, hq1_0⟩ := rd_Clock h1
  obtain ⟨c2, r2, e2, h2, n2⟩ := n1
  obtain ⟨u2, q2⟩ := rd_one_cell h2
  rw [q2] at h2
  obtain ⟨u3, q3⟩ := rd_one_cell n2
  rw [q3] at n2
  exact ⟨u0_0, u0_1, u0_2, u0_3, u1_0, u2, u3, by rw [e0, e1, e2, q0, q1, q2, q3]; rfl, hq0_0, hq0_1, hq0_2, hq0_3, hq1_0, h2, n2⟩
structure Sub where
  Kind : Int
  A : Int
  Pc : Int
  E : Int
  Row : Int
  B : Int
  H : Int
  Out : Int
  Code : Int
  Done : Bool
  deriving DecidableEq, Inhabited
instance : Rep Sub := Rep.via (fun d => (d.Kind, d.A, d.Pc, d.E, d.Row, d.B, d.H, d.Out, d.Code, d.Done))
instance : Fits Sub := Fits.via (fun d => (d.Kind, d.A, d.Pc, d.E, d.Row, d.B, d.H, d.Out, d.Code, d.Done))
theorem rd_Sub {S : Foot} {w : World} {cs : List Value} {d : Sub} (h : Rep.rd S w cs d) : cs = [.int .i64 (d.Kind), .int .i64 (d.A), .int .i64 (d.Pc), .int .i64 (d.E), .int .i64 (d.Row), .int .i64 (d.B), .int .i64 (d.H), .int .i64 (d.Out), .int .i64 (d.Code), .bool (d.Done)] := by
  obtain ⟨c0, r0, e0, h0, n0⟩ := h
  have q0 : c0 = [_] := h0
  obtain ⟨c1, r1, e1, h1, n1⟩ := n0
  have q1 : c1 = [_] := h1
  obtain ⟨c2, r2, e2, h2, n2⟩ := n1
  have q2 : c2 = [_] := h2
  obtain ⟨c3, r3, e3, h3, n3⟩ := n2
  have q3 : c3 = [_] := h3
  obtain ⟨c4, r4, e4, h4, n4⟩ := n3
  have q4 : c4 = [_] := h4
  obtain ⟨c5, r5, e5, h5, n5⟩ := n4
  have q5 : c5 = [_] := h5
  obtain ⟨c6, r6, e6, h6, n6⟩ := n5
  have q6 : c6 = [_] := h6
  obtain ⟨c7, r7, e7, h7, n7⟩ := n6
  have q7 : c7 = [_] := h7
  obtain ⟨c8, r8, e8, h8, n8⟩ := n7
  have q8 : c8 = [_] := h8
  have q9 : r8 = [_] := n8
  exact by rw [e0, e1, e2, e3, e4, e5, e6, e7, e8, q0, q1, q2, q3, q4, q5, q6, q7, q8, q9]; rfl
instance : Flat Sub := ⟨fun h => Flat.own_of (α := Int × Int × Int × Int × Int × Int × Int × Int × Int × Bool) h, fun h => Flat.no (α := Int × Int × Int × Int × Int × Int × Int × Int × Int × Bool) h⟩
end Go.Gv
end
section
set_option linter.unusedVariables false
namespace Go.Gv
noncomputable def laws_szIntS (a_ : List Int) (left : Int) : Option Int :=
  (if decide ((w64 (left - ((a_.length : Int)))) < 0) then some ((-1)) else some (w64 (left - ((a_.length : Int)))))
noncomputable def laws_szHeap (a_ : Heap) (left : Int) : Option Int :=
  (laws_szIntS a_.Bytes left).bind fun x1 => (if decide (x1 < 0) then some ((-1)) else (laws_szIntS a_.Class x1).bind fun x2 => (if decide (x2 < 0) then some ((-1)) else some x2))
noncomputable def laws_szSList (a_ : SList) (left : Int) : Option Int :=
  (laws_szIntS a_.Slots left).bind fun x1 => (if decide (x1 < 0) then some ((-1)) else some x1)
noncomputable def laws_szSListS_j1 (x5 : Int) : Option Int :=
  some x5
noncomputable def laws_szSListS_l1 (a_ : List SList) : (Int × Int) → Option (Step (Int × Int) (Out Int Int))
  | (x3, x4) => (if decide (x4 < ((a_.length : Int))) then (idx a_ x4).bind fun x6 => (laws_szSList x6 x3).bind fun x7 => (if decide (x7 < 0) then some (.stop (Out.ret ((-1)))) else some (.next ((x7, w64 (x4 + 1))))) else some (.stop (Out.brk x3)))
noncomputable def laws_szSListS_m1  : (Out Int Int) → Option Int
  | .brk x5 => laws_szSListS_j1 x5
  | .ret r => some r
noncomputable def laws_szSListS (a_ : List SList) (left : Int) : Option Int :=
  (if decide ((w64 (left - ((a_.length : Int)))) < 0) then some ((-1)) else (loop (laws_szSListS_l1 a_) ((w64 (left - ((a_.length : Int))), 0))).bind (laws_szSListS_m1))
noncomputable def laws_szLists (a_ : Lists) (left : Int) : Option Int :=
  (laws_szSListS a_.Global left).bind fun x1 => (if decide (x1 < 0) then some ((-1)) else (laws_szSListS a_.Own x1).bind fun x2 => (if decide (x2 < 0) then some ((-1)) else some x2))
noncomputable def laws_szMem (a_ : Mem) (left : Int) : Option Int :=
  (laws_szHeap a_.Heap left).bind fun x1 => (if decide (x1 < 0) then some ((-1)) else (laws_szLists a_.Lists x1).bind fun x2 => (if decide (x2 < 0) then some ((-1)) else some x2))
noncomputable def laws_szPinS (a_ : List Pin) (left : Int) : Option Int :=
  (if decide ((w64 (left - ((a_.length : Int)))) < 0) then some ((-1)) else some (w64 (left - ((a_.length : Int)))))
noncomputable def laws_szClock (a_ : Clock) (left : Int) : Option Int :=
  (laws_szPinS a_.Pins left).bind fun x1 => (if decide (x1 < 0) then some ((-1)) else some x1)
noncomputable def laws_szLRowS (a_ : List LRow) (left : Int) : Option Int :=
  (if decide ((w64 (left - ((a_.length : Int)))) < 0) then some ((-1)) else some (w64 (left - ((a_.length : Int)))))
noncomputable def laws_szLList (a_ : LList) (left : Int) : Option Int :=
  (laws_szLRowS a_.Rows left).bind fun x1 => (if decide (x1 < 0) then some ((-1)) else some x1)
noncomputable def laws_szLListS_j1 (x5 : Int) : Option Int :=
  some x5
noncomputable def laws_szLListS_l1 (a_ : List LList) : (Int × Int) → Option (Step (Int × Int) (Out Int Int))
  | (x3, x4) => (if decide (x4 < ((a_.length : Int))) then (idx a_ x4).bind fun x6 => (laws_szLList x6 x3).bind fun x7 => (if decide (x7 < 0) then some (.stop (Out.ret ((-1)))) else some (.next ((x7, w64 (x4 + 1))))) else some (.stop (Out.brk x3)))
noncomputable def laws_szLListS_m1  : (Out Int Int) → Option Int
  | .brk x5 => laws_szLListS_j1 x5
  | .ret r => some r
noncomputable def laws_szLListS (a_ : List LList) (left : Int) : Option Int :=
  (if decide ((w64 (left - ((a_.length : Int)))) < 0) then some ((-1)) else (loop (laws_szLListS_l1 a_) ((w64 (left - ((a_.length : Int))), 0))).bind (laws_szLListS_m1))
noncomputable def laws_szBase (a_ : Base) (left : Int) : Option Int :=
  (laws_szMem a_.Mem left).bind fun x1 => (if decide (x1 < 0) then some ((-1)) else (laws_szClock a_.Clock x1).bind fun x2 => (if decide (x2 < 0) then some ((-1)) else (laws_szLListS a_.Limbo x2).bind fun x3 => (if decide (x3 < 0) then some ((-1)) else (laws_szIntS a_.Haz x3).bind fun x4 => (if decide (x4 < 0) then some ((-1)) else some x4))))
noncomputable def spec_l3Copy (b : List Int) : Option ((List Int)) :=
  need ((([] : List Int)).length + b.length ≤ 1073741824) (some ((([] : List Int)) ++ b))
noncomputable def spec_l7Copy (h : Heap) : Option Heap :=
  (spec_l3Copy h.Bytes).bind fun x1 => (spec_l3Copy h.Class).bind fun x2 => some ((⟨x1, x2⟩ : Heap))
noncomputable def spec_l8Rows_j1 (x5 : List SList) : Option ((List SList)) :=
  some x5
noncomputable def spec_l8Rows_l1 (l : List SList) : ((List SList) × Int) → Option (Step ((List SList) × Int) ((List SList)))
  | (x3, x4) => (if decide (x4 < ((l.length : Int))) then (idx l x4).bind fun x6 => (spec_l3Copy x6.Slots).bind fun x7 => need (x3.length + ([(⟨x7⟩ : SList)]).length ≤ 1073741824) (some (.next ((x3 ++ ([(⟨x7⟩ : SList)]), w64 (x4 + 1))))) else some (.stop (x3)))
noncomputable def spec_l8Rows_m1  : ((List SList)) → Option ((List SList))
  | x5 => spec_l8Rows_j1 x5
noncomputable def spec_l8Rows (l : List SList) : Option ((List SList)) :=
  (loop (spec_l8Rows_l1 l) ((([] : List SList), 0))).bind (spec_l8Rows_m1)
noncomputable def spec_l8Copy (l : Lists) : Option Lists :=
  (spec_l8Rows l.Global).bind fun x1 => (spec_l8Rows l.Own).bind fun x2 => some ((⟨x1, x2⟩ : Lists))
noncomputable def spec_l9Copy (m : Mem) : Option Mem :=
  (spec_l7Copy m.Heap).bind fun x1 => (spec_l8Copy m.Lists).bind fun x2 => some ((⟨x1, x2⟩ : Mem))
noncomputable def spec_l10Copy (c : Clock) : Option Clock :=
  need ((([] : List Pin)).length + c.Pins.length ≤ 1073741824) (some ((⟨c.Epoch, (([] : List Pin)) ++ c.Pins⟩ : Clock)))
noncomputable def spec_l11Copy_j1 (x5 : List LList) : Option ((List LList)) :=
  some x5
noncomputable def spec_l11Copy_l1 (l : List LList) : ((List LList) × Int) → Option (Step ((List LList) × Int) ((List LList)))
  | (x3, x4) => (if decide (x4 < ((l.length : Int))) then (idx l x4).bind fun x6 => need ((([] : List LRow)).length + x6.Rows.length ≤ 1073741824) (need (x3.length + ([(⟨(([] : List LRow)) ++ x6.Rows⟩ : LList)]).length ≤ 1073741824) (some (.next ((x3 ++ ([(⟨(([] : List LRow)) ++ x6.Rows⟩ : LList)]), w64 (x4 + 1)))))) else some (.stop (x3)))
noncomputable def spec_l11Copy_m1  : ((List LList)) → Option ((List LList))
  | x5 => spec_l11Copy_j1 x5
noncomputable def spec_l11Copy (l : List LList) : Option ((List LList)) :=
  (loop (spec_l11Copy_l1 l) ((([] : List LList), 0))).bind (spec_l11Copy_m1)
noncomputable def spec_l13Copy (b : Base) : Option Base :=
  (spec_l9Copy b.Mem).bind fun x1 => (spec_l10Copy b.Clock).bind fun x2 => (spec_l11Copy b.Limbo).bind fun x3 => (spec_l3Copy b.Haz).bind fun x4 => some ((⟨x1, x2, x3, x4⟩ : Base))
noncomputable def spec_l1In_j1 (x1 : Bool) : Option Bool :=
  some x1
noncomputable def spec_l1In (x : Int) (low : Int) (high : Int) : Option Bool :=
  (if decide (low ≤ x) then spec_l1In_j1 (decide (x ≤ high)) else spec_l1In_j1 false)
noncomputable def spec_BytesOk_j1 (b : List Int) : Option Bool :=
  some (decide (((b.length : Int)) ≤ 1000))
noncomputable def spec_BytesOk_l1 (b : List Int) : Int → Option (Step Int (Out Unit Bool))
  | x2 => (if decide (x2 < ((b.length : Int))) then (idx b x2).bind fun x3 => (spec_l1In x3 0 255).bind fun x4 => (if !x4 then some (.stop (Out.ret false)) else some (.next (w64 (x2 + 1)))) else some (.stop (Out.brk (()))))
noncomputable def spec_BytesOk_m1 (b : List Int) : (Out Unit Bool) → Option Bool
  | .brk (()) => spec_BytesOk_j1 b
  | .ret r => some r
noncomputable def spec_BytesOk (b : List Int) : Option Bool :=
  (loop (spec_BytesOk_l1 b) 0).bind (spec_BytesOk_m1 b)
noncomputable def spec_l7Shape_j2  : Option Bool :=
  some true
noncomputable def spec_l7Shape_l2 (h : Heap) : Int → Option (Step Int (Out Unit Bool))
  | x3 => (if decide (x3 < 6) then (idx h.Class x3).bind fun x4 => (spec_l1In x4 ((-1)) 2).bind fun x5 => (if !x5 then some (.stop (Out.ret false)) else some (.next (w64 (x3 + 1)))) else some (.stop (Out.brk (()))))
noncomputable def spec_l7Shape_m2  : (Out Unit Bool) → Option Bool
  | .brk (()) => spec_l7Shape_j2
  | .ret r => some r
noncomputable def spec_l7Shape_j1 (h : Heap) (x1 : Bool) : Option Bool :=
  (if x1 then some false else (loop (spec_l7Shape_l2 h) 0).bind (spec_l7Shape_m2))
noncomputable def spec_l7Shape (h : Heap) : Option Bool :=
  (if ((h.Bytes.length : Int)) != 384 then spec_l7Shape_j1 h true else (if ((h.Class.length : Int)) != 6 then spec_l7Shape_j1 h true else (spec_BytesOk h.Bytes).bind fun x6 => spec_l7Shape_j1 h (!x6)))
noncomputable def spec_l3Load_j1 (x5 : Int) : Option Int :=
  some x5
noncomputable def spec_l3Load_l1 (b : List Int) (at_ : Int) (width : Int) : (Int × Int) → Option (Step (Int × Int) Int)
  | (x3, x4) => (if decide (x4 < width) then (idx b (w64 (at_ + x4))).bind fun x6 => some (.next ((w64 ((w64 (x3 * 256)) + x6), w64 (x4 + 1)))) else some (.stop (x3)))
noncomputable def spec_l3Load_m1  : Int → Option Int
  | x5 => spec_l3Load_j1 x5
noncomputable def spec_l3Load (b : List Int) (at_ : Int) (width : Int) : Option Int :=
  (loop (spec_l3Load_l1 b at_ width) ((0, 0))).bind (spec_l3Load_m1)
noncomputable def spec_SizeOf (c : Int) : Option Int :=
  (if c == 0 then some 8 else (if c == 1 then some 16 else (if c == 2 then some 40 else some 0)))
noncomputable def spec_StrideOf (c : Int) : Option Int :=
  (spec_l1In c 0 2).bind fun x1 => (if !x1 then some 0 else (spec_SizeOf c).bind fun x2 => some (w64 (4 + x2)))
noncomputable def spec_PerPage (c : Int) : Option Int :=
  (spec_l1In c 0 2).bind fun x1 => (if !x1 then some 0 else (spec_StrideOf c).bind fun x2 => need (x2 ≠ 0) (some (w64 (Int.tdiv 56 x2))))
noncomputable def spec_PageOf (slot : Int) : Option Int :=
  (spec_l1In slot 0 23).bind fun x1 => (if !x1 then some ((-1)) else some (w64 (Int.tdiv slot 4)))
noncomputable def spec_IndexOf (slot : Int) : Option Int :=
  (spec_l1In slot 0 23).bind fun x1 => (if !x1 then some ((-1)) else some (Int.tmod slot 4))
noncomputable def spec_GenAt_j1 (slot : Int) (c : Int) (x1 : Bool) : Option Int :=
  (if x1 then some ((-1)) else (spec_PageOf slot).bind fun x2 => (spec_IndexOf slot).bind fun x3 => (spec_StrideOf c).bind fun x4 => some (w64 ((w64 ((w64 (x2 * 64)) + 8)) + (w64 (x3 * x4)))))
noncomputable def spec_GenAt (slot : Int) (c : Int) : Option Int :=
  (spec_PageOf slot).bind fun x5 => (if decide (x5 < 0) then spec_GenAt_j1 slot c true else (spec_IndexOf slot).bind fun x6 => (spec_PerPage c).bind fun x7 => (spec_l1In x6 0 (w64 (x7 - 1))).bind fun x8 => spec_GenAt_j1 slot c (!x8))
noncomputable def spec_SlotAt_j1 (page : Int) (index : Int) (x1 : Bool) : Option Int :=
  (if x1 then some ((-1)) else some (w64 ((w64 (page * 4)) + index)))
noncomputable def spec_SlotAt (page : Int) (index : Int) : Option Int :=
  (spec_l1In page 0 5).bind fun x2 => (if !x2 then spec_SlotAt_j1 page index true else (spec_l1In index 0 3).bind fun x3 => spec_SlotAt_j1 page index (!x3))
noncomputable def spec_l7Page_j1  : Option Bool :=
  some true
noncomputable def spec_l7Page_l1 (h : Heap) (p : Int) : Int → Option (Step Int (Out Unit Bool))
  | x3 => (if decide (x3 < (w64 ((w64 (p * 64)) + 64))) then (idx h.Bytes x3).bind fun x4 => (if x4 != 0 then some (.stop (Out.ret false)) else some (.next (w64 (x3 + 1)))) else some (.stop (Out.brk (()))))
noncomputable def spec_l7Page_m1  : (Out Unit Bool) → Option Bool
  | .brk (()) => spec_l7Page_j1
  | .ret r => some r
noncomputable def spec_l7Page_j4  : Option Bool :=
  some true
noncomputable def spec_l7Page_l4 (h : Heap) (p : Int) (x1 : Int) : Int → Option (Step Int (Out Unit Bool))
  | x9 => (spec_PerPage x1).bind fun x10 => (if decide (x9 < x10) then (spec_SlotAt p x9).bind fun x11 => (spec_GenAt x11 x1).bind fun x12 => (spec_l3Load h.Bytes x12 4).bind fun x13 => (spec_l1In x13 1 7).bind fun x14 => (if !x14 then some (.stop (Out.ret false)) else some (.next (w64 (x9 + 1)))) else some (.stop (Out.brk (()))))
noncomputable def spec_l7Page_m4  : (Out Unit Bool) → Option Bool
  | .brk (()) => spec_l7Page_j4
  | .ret r => some r
noncomputable def spec_l7Page_j3 (h : Heap) (p : Int) (x1 : Int) : Option Bool :=
  (loop (spec_l7Page_l4 h p x1) 0).bind (spec_l7Page_m4)
noncomputable def spec_l7Page_l3 (h : Heap) (p : Int) : Int → Option (Step Int (Out Unit Bool))
  | x7 => (if decide (x7 < (w64 ((w64 (p * 64)) + 8))) then (idx h.Bytes x7).bind fun x15 => (if x15 != 0 then some (.stop (Out.ret false)) else some (.next (w64 (x7 + 1)))) else some (.stop (Out.brk (()))))
noncomputable def spec_l7Page_m3 (h : Heap) (p : Int) (x1 : Int) : (Out Unit Bool) → Option Bool
  | .brk (()) => spec_l7Page_j3 h p x1
  | .ret r => some r
noncomputable def spec_l7Page_j2 (h : Heap) (p : Int) (x1 : Int) (x5 : Bool) : Option Bool :=
  (if x5 then some false else (loop (spec_l7Page_l3 h p) (w64 ((w64 (p * 64)) + 3))).bind (spec_l7Page_m3 h p x1))
noncomputable def spec_l7Page (h : Heap) (p : Int) : Option Bool :=
  (idx h.Class p).bind fun x1 => (if decide (x1 < 0) then (loop (spec_l7Page_l1 h p) (w64 (p * 64))).bind (spec_l7Page_m1) else (idx h.Bytes (w64 (p * 64))).bind fun x16 => (if x16 != 171 then spec_l7Page_j2 h p x1 true else (idx h.Bytes (w64 ((w64 (p * 64)) + 1))).bind fun x17 => (if x17 != x1 then spec_l7Page_j2 h p x1 true else (idx h.Bytes (w64 ((w64 (p * 64)) + 2))).bind fun x18 => (spec_PerPage x1).bind fun x19 => spec_l7Page_j2 h p x1 (x18 != x19))))
noncomputable def spec_HeapOk_j1  : Option Bool :=
  some true
noncomputable def spec_HeapOk_l1 (h : Heap) : Int → Option (Step Int (Out Unit Bool))
  | x3 => (if decide (x3 < 6) then (spec_l7Page h x3).bind fun x4 => (if !x4 then some (.stop (Out.ret false)) else some (.next (w64 (x3 + 1)))) else some (.stop (Out.brk (()))))
noncomputable def spec_HeapOk_m1  : (Out Unit Bool) → Option Bool
  | .brk (()) => spec_HeapOk_j1
  | .ret r => some r
noncomputable def spec_HeapOk (h : Heap) : Option Bool :=
  (spec_l7Shape h).bind fun x1 => (if !x1 then some false else (loop (spec_HeapOk_l1 h) 0).bind (spec_HeapOk_m1))
noncomputable def spec_l8Has_j1  : Option Bool :=
  some false
noncomputable def spec_l8Has_l1 (l : List Int) (x : Int) : Int → Option (Step Int (Out Unit Bool))
  | x2 => (if decide (x2 < ((l.length : Int))) then (idx l x2).bind fun x3 => (if x3 == x then some (.stop (Out.ret true)) else some (.next (w64 (x2 + 1)))) else some (.stop (Out.brk (()))))
noncomputable def spec_l8Has_m1  : (Out Unit Bool) → Option Bool
  | .brk (()) => spec_l8Has_j1
  | .ret r => some r
noncomputable def spec_l8Has (l : List Int) (x : Int) : Option Bool :=
  (loop (spec_l8Has_l1 l x) 0).bind (spec_l8Has_m1)
noncomputable def spec_l8All_j2 (x10 : List Int) : Option ((List Int)) :=
  some x10
noncomputable def spec_l8All_l2 (l : Lists) : ((List Int) × Int) → Option (Step ((List Int) × Int) ((List Int)))
  | (x8, x9) => (if decide (x9 < ((l.Own.length : Int))) then (idx l.Own x9).bind fun x11 => need (x8.length + x11.Slots.length ≤ 1073741824) (some (.next ((x8 ++ x11.Slots, w64 (x9 + 1))))) else some (.stop (x8)))
noncomputable def spec_l8All_m2  : ((List Int)) → Option ((List Int))
  | x10 => spec_l8All_j2 x10
noncomputable def spec_l8All_j1 (l : Lists) (x5 : List Int) : Option ((List Int)) :=
  (loop (spec_l8All_l2 l) ((x5, 0))).bind (spec_l8All_m2)
noncomputable def spec_l8All_l1 (l : Lists) : ((List Int) × Int) → Option (Step ((List Int) × Int) ((List Int)))
  | (x3, x4) => (if decide (x4 < ((l.Global.length : Int))) then (idx l.Global x4).bind fun x12 => need (x3.length + x12.Slots.length ≤ 1073741824) (some (.next ((x3 ++ x12.Slots, w64 (x4 + 1))))) else some (.stop (x3)))
noncomputable def spec_l8All_m1 (l : Lists) : ((List Int)) → Option ((List Int))
  | x5 => spec_l8All_j1 l x5
noncomputable def spec_l8All (l : Lists) : Option ((List Int)) :=
  (loop (spec_l8All_l1 l) ((([] : List Int), 0))).bind (spec_l8All_m1 l)
noncomputable def spec_ListsOk_j3  : Option Bool :=
  some true
noncomputable def spec_ListsOk_j4 (x6 : Int) (x7 : Bool) : Option (Step Int (Out Unit Bool)) :=
  (if x7 then some (.stop (Out.ret false)) else some (.next (w64 (x6 + 1))))
noncomputable def spec_ListsOk_l3 (x4 : (List Int)) : Int → Option (Step Int (Out Unit Bool))
  | x6 => (if decide (x6 < ((x4.length : Int))) then (idx x4 x6).bind fun x8 => (spec_l1In x8 0 23).bind fun x9 => (if !x9 then spec_ListsOk_j4 x6 true else need (0 ≤ (x6 : Int) ∧ (x6 : Int) ≤ (x4.length : Int)) ((idx x4 x6).bind fun x10 => (spec_l8Has ((x4.take x6.toNat).drop 0) x10).bind fun x11 => spec_ListsOk_j4 x6 x11)) else some (.stop (Out.brk (()))))
noncomputable def spec_ListsOk_m3  : (Out Unit Bool) → Option Bool
  | .brk (()) => spec_ListsOk_j3
  | .ret r => some r
noncomputable def spec_ListsOk_j2 (l : Lists) : Option Bool :=
  (spec_l8All l).bind fun x4 => (loop (spec_ListsOk_l3 x4) 0).bind (spec_ListsOk_m3)
noncomputable def spec_ListsOk_l2 (l : Lists) : Int → Option (Step Int (Out Unit Bool))
  | x3 => (if decide (x3 < ((l.Own.length : Int))) then (idx l.Own x3).bind fun x12 => (if decide (2 < ((x12.Slots.length : Int))) then some (.stop (Out.ret false)) else some (.next (w64 (x3 + 1)))) else some (.stop (Out.brk (()))))
noncomputable def spec_ListsOk_m2 (l : Lists) : (Out Unit Bool) → Option Bool
  | .brk (()) => spec_ListsOk_j2 l
  | .ret r => some r
noncomputable def spec_ListsOk_j1 (l : Lists) (x1 : Bool) : Option Bool :=
  (if x1 then some false else (loop (spec_ListsOk_l2 l) 0).bind (spec_ListsOk_m2 l))
noncomputable def spec_ListsOk (l : Lists) : Option Bool :=
  (if ((l.Global.length : Int)) != 3 then spec_ListsOk_j1 l true else spec_ListsOk_j1 l (((l.Own.length : Int)) != 9))
noncomputable def spec_l7Class_j1 (h : Heap) (x1 : Int) (x2 : Bool) : Option Int :=
  (if x2 then some ((-1)) else (idx h.Class x1).bind fun x3 => some x3)
noncomputable def spec_l7Class (h : Heap) (slot : Int) : Option Int :=
  (spec_PageOf slot).bind fun x1 => (if decide (x1 < 0) then spec_l7Class_j1 h x1 true else (idx h.Class x1).bind fun x4 => (if decide (x4 < 0) then spec_l7Class_j1 h x1 true else (idx h.Class x1).bind fun x5 => (spec_IndexOf slot).bind fun x6 => (spec_PerPage x5).bind fun x7 => spec_l7Class_j1 h x1 (decide (x7 ≤ x6))))
noncomputable def spec_l7Gen (h : Heap) (slot : Int) : Option Int :=
  (spec_l7Class h slot).bind fun x1 => (spec_GenAt slot x1).bind fun x2 => (spec_l3Load h.Bytes x2 4).bind fun x3 => some x3
noncomputable def spec_l9Listed_j1  : Option Bool :=
  some true
noncomputable def spec_l9Listed_j2 (x2 : Int) (x3 : Bool) : Option (Step Int (Out Unit Bool)) :=
  (if x3 then some (.stop (Out.ret false)) else some (.next (w64 (x2 + 1))))
noncomputable def spec_l9Listed_l1 (h : Heap) (l : List Int) (c : Int) : Int → Option (Step Int (Out Unit Bool))
  | x2 => (if decide (x2 < ((l.length : Int))) then (idx l x2).bind fun x4 => (spec_l7Class h x4).bind fun x5 => (if x5 != c then spec_l9Listed_j2 x2 true else (idx l x2).bind fun x6 => (spec_l7Gen h x6).bind fun x7 => spec_l9Listed_j2 x2 (decide (6 < x7))) else some (.stop (Out.brk (()))))
noncomputable def spec_l9Listed_m1  : (Out Unit Bool) → Option Bool
  | .brk (()) => spec_l9Listed_j1
  | .ret r => some r
noncomputable def spec_l9Listed (h : Heap) (l : List Int) (c : Int) : Option Bool :=
  (loop (spec_l9Listed_l1 h l c) 0).bind (spec_l9Listed_m1)
noncomputable def spec_OwnAt_j1 (w_ : Int) (c : Int) (x1 : Bool) : Option Int :=
  (if x1 then some ((-1)) else some (w64 ((w64 (w_ * 3)) + c)))
noncomputable def spec_OwnAt (w_ : Int) (c : Int) : Option Int :=
  (spec_l1In w_ 0 2).bind fun x2 => (if !x2 then spec_OwnAt_j1 w_ c true else (spec_l1In c 0 2).bind fun x3 => spec_OwnAt_j1 w_ c (!x3))
noncomputable def spec_MemOk_j2  : Option Bool :=
  some true
noncomputable def spec_MemOk_j3 (x3 : Int) : Option (Step Int (Out Unit Bool)) :=
  some (.next (w64 (x3 + 1)))
noncomputable def spec_MemOk_l3 (m : Mem) (x3 : Int) : Int → Option (Step Int (Out Unit Bool))
  | x7 => (if decide (x7 < 3) then (spec_OwnAt x7 x3).bind fun x8 => (idx m.Lists.Own x8).bind fun x9 => (spec_l9Listed m.Heap x9.Slots x3).bind fun x10 => (if !x10 then some (.stop (Out.ret false)) else some (.next (w64 (x7 + 1)))) else some (.stop (Out.brk (()))))
noncomputable def spec_MemOk_m3 (x3 : Int) : (Out Unit Bool) → Option (Step Int (Out Unit Bool))
  | .brk (()) => spec_MemOk_j3 x3
  | .ret r => some (.stop (Out.ret r))
noncomputable def spec_MemOk_l2 (m : Mem) : Int → Option (Step Int (Out Unit Bool))
  | x3 => (if decide (x3 < 3) then (idx m.Lists.Global x3).bind fun x4 => (spec_l9Listed m.Heap x4.Slots x3).bind fun x5 => (if !x5 then some (.stop (Out.ret false)) else (loop (spec_MemOk_l3 m x3) 0).bind (spec_MemOk_m3 x3)) else some (.stop (Out.brk (()))))
noncomputable def spec_MemOk_m2  : (Out Unit Bool) → Option Bool
  | .brk (()) => spec_MemOk_j2
  | .ret r => some r
noncomputable def spec_MemOk_j1 (m : Mem) (x1 : Bool) : Option Bool :=
  (if x1 then some false else (loop (spec_MemOk_l2 m) 0).bind (spec_MemOk_m2))
noncomputable def spec_MemOk (m : Mem) : Option Bool :=
  (spec_HeapOk m.Heap).bind fun x11 => (if !x11 then spec_MemOk_j1 m true else (spec_ListsOk m.Lists).bind fun x12 => spec_MemOk_j1 m (!x12))
noncomputable def spec_ClockOk_j2  : Option Bool :=
  some true
noncomputable def spec_ClockOk_j3 (x3 : Int) (x5 : Bool) : Option (Step Int (Out Unit Bool)) :=
  (if x5 then some (.stop (Out.ret false)) else some (.next (w64 (x3 + 1))))
noncomputable def spec_ClockOk_l2 (c : Clock) : Int → Option (Step Int (Out Unit Bool))
  | x3 => (if decide (x3 < 3) then (idx c.Pins x3).bind fun x4 => (if !x4.On then (if !(decide (x4 = (⟨false, 0, false, 0⟩ : Pin))) then spec_ClockOk_j3 x3 true else (spec_l1In x4.Epoch 0 c.Epoch).bind fun x6 => (if !x6 then spec_ClockOk_j3 x3 true else (spec_l1In x4.Seen 0 2).bind fun x7 => spec_ClockOk_j3 x3 (!x7))) else (spec_l1In x4.Epoch 0 c.Epoch).bind fun x8 => (if !x8 then spec_ClockOk_j3 x3 true else (spec_l1In x4.Seen 0 2).bind fun x9 => spec_ClockOk_j3 x3 (!x9))) else some (.stop (Out.brk (()))))
noncomputable def spec_ClockOk_m2  : (Out Unit Bool) → Option Bool
  | .brk (()) => spec_ClockOk_j2
  | .ret r => some r
noncomputable def spec_ClockOk_j1 (c : Clock) (x1 : Bool) : Option Bool :=
  (if x1 then some false else (loop (spec_ClockOk_l2 c) 0).bind (spec_ClockOk_m2))
noncomputable def spec_ClockOk (c : Clock) : Option Bool :=
  (spec_l1In c.Epoch 0 100000).bind fun x10 => (if !x10 then spec_ClockOk_j1 c true else spec_ClockOk_j1 c (((c.Pins.length : Int)) != 3))
noncomputable def spec_l11All_j1 (x5 : List LRow) : Option ((List LRow)) :=
  some x5
noncomputable def spec_l11All_l1 (l : List LList) : ((List LRow) × Int) → Option (Step ((List LRow) × Int) ((List LRow)))
  | (x3, x4) => (if decide (x4 < ((l.length : Int))) then (idx l x4).bind fun x6 => need (x3.length + x6.Rows.length ≤ 1073741824) (some (.next ((x3 ++ x6.Rows, w64 (x4 + 1))))) else some (.stop (x3)))
noncomputable def spec_l11All_m1  : ((List LRow)) → Option ((List LRow))
  | x5 => spec_l11All_j1 x5
noncomputable def spec_l11All (l : List LList) : Option ((List LRow)) :=
  (loop (spec_l11All_l1 l) ((([] : List LRow), 0))).bind (spec_l11All_m1)
noncomputable def spec_HandleOk_j1 (x1 : Bool) : Option Bool :=
  some x1
noncomputable def spec_HandleOk (h : Int) : Option Bool :=
  (spec_l1In h 32 223).bind fun x2 => (if x2 then spec_HandleOk_j1 (decide ((Int.tmod h 32) < 24)) else spec_HandleOk_j1 false)
noncomputable def spec_HandleSlot (h : Int) : Option Int :=
  (spec_HandleOk h).bind fun x1 => (if !x1 then some ((-1)) else some (Int.tmod h 32))
noncomputable def spec_LimboOk_j2  : Option Bool :=
  some true
noncomputable def spec_LimboOk_j3 (x5 : List Int) (x6 : Int) (x8 : Int) (x9 : Bool) : Option (Step ((List Int) × Int) (Out Unit Bool)) :=
  (if x9 then some (.stop (Out.ret false)) else need (x5.length + ([x8]).length ≤ 1073741824) (some (.next ((x5 ++ ([x8]), w64 (x6 + 1))))))
noncomputable def spec_LimboOk_l2 (x1 : (List LRow)) : ((List Int) × Int) → Option (Step ((List Int) × Int) (Out Unit Bool))
  | (x5, x6) => (if decide (x6 < ((x1.length : Int))) then (idx x1 x6).bind fun x7 => (spec_HandleSlot x7.Handle).bind fun x8 => (if decide (x8 < 0) then spec_LimboOk_j3 x5 x6 x8 true else (spec_l1In x7.Epoch 0 100000).bind fun x10 => (if !x10 then spec_LimboOk_j3 x5 x6 x8 true else (spec_l8Has x5 x8).bind fun x11 => spec_LimboOk_j3 x5 x6 x8 x11)) else some (.stop (Out.brk (()))))
noncomputable def spec_LimboOk_m2  : (Out Unit Bool) → Option Bool
  | .brk (()) => spec_LimboOk_j2
  | .ret r => some r
noncomputable def spec_LimboOk_j1 (x1 : (List LRow)) (x2 : Bool) : Option Bool :=
  (if x2 then some false else (loop (spec_LimboOk_l2 x1) ((([] : List Int), 0))).bind (spec_LimboOk_m2))
noncomputable def spec_LimboOk (l : List LList) : Option Bool :=
  (spec_l11All l).bind fun x1 => (if ((l.length : Int)) != 3 then spec_LimboOk_j1 x1 true else spec_LimboOk_j1 x1 (decide (24 < ((x1.length : Int)))))
noncomputable def spec_HazOk_j1 (z : List Int) : Option Bool :=
  some (((z.length : Int)) == 3)
noncomputable def spec_HazOk_j2 (x2 : Int) (x3 : Bool) : Option (Step Int (Out Unit Bool)) :=
  (if x3 then some (.stop (Out.ret false)) else some (.next (w64 (x2 + 1))))
noncomputable def spec_HazOk_l1 (z : List Int) : Int → Option (Step Int (Out Unit Bool))
  | x2 => (if decide (x2 < ((z.length : Int))) then (idx z x2).bind fun x4 => (if x4 != 0 then (idx z x2).bind fun x5 => (spec_HandleOk x5).bind fun x6 => spec_HazOk_j2 x2 (!x6) else spec_HazOk_j2 x2 false) else some (.stop (Out.brk (()))))
noncomputable def spec_HazOk_m1 (z : List Int) : (Out Unit Bool) → Option Bool
  | .brk (()) => spec_HazOk_j1 z
  | .ret r => some r
noncomputable def spec_HazOk (z : List Int) : Option Bool :=
  (loop (spec_HazOk_l1 z) 0).bind (spec_HazOk_m1 z)
noncomputable def spec_OnList (l : Lists) (slot : Int) : Option Bool :=
  (spec_l8All l).bind fun x1 => (spec_l8Has x1 slot).bind fun x2 => some x2
noncomputable def spec_l9State (m : Mem) (slot : Int) : Option Int :=
  (spec_l7Class m.Heap slot).bind fun x1 => (if decide (x1 < 0) then some 0 else (spec_OnList m.Lists slot).bind fun x2 => (if x2 then some 1 else (spec_l7Gen m.Heap slot).bind fun x3 => (if decide (6 < x3) then some 2 else some 3)))
noncomputable def spec_HandleGen (h : Int) : Option Int :=
  (spec_HandleOk h).bind fun x1 => (if !x1 then some 0 else some (w64 (Int.tdiv h 32)))
noncomputable def spec_l9Valid_j1 (x1 : Bool) : Option Bool :=
  some x1
noncomputable def spec_l9Valid (m : Mem) (h : Int) : Option Bool :=
  (spec_HandleOk h).bind fun x2 => (if x2 then (spec_HandleSlot h).bind fun x3 => (spec_l9State m x3).bind fun x4 => (if x4 == 3 then (spec_HandleSlot h).bind fun x5 => (spec_l7Gen m.Heap x5).bind fun x6 => (spec_HandleGen h).bind fun x7 => spec_l9Valid_j1 (x6 == x7) else spec_l9Valid_j1 false) else spec_l9Valid_j1 false)
noncomputable def spec_BaseOk_j2  : Option Bool :=
  some true
noncomputable def spec_BaseOk_j3 (x4 : Int) (x5 : Bool) : Option (Step Int (Out Unit Bool)) :=
  (if x5 then some (.stop (Out.ret false)) else some (.next (w64 (x4 + 1))))
noncomputable def spec_BaseOk_l2 (b : Base) (x2 : (List LRow)) : Int → Option (Step Int (Out Unit Bool))
  | x4 => (if decide (x4 < ((x2.length : Int))) then (idx x2 x4).bind fun x6 => (spec_l9Valid b.Mem x6.Handle).bind fun x7 => (if !x7 then spec_BaseOk_j3 x4 true else spec_BaseOk_j3 x4 (decide (b.Clock.Epoch < x6.Epoch))) else some (.stop (Out.brk (()))))
noncomputable def spec_BaseOk_m2  : (Out Unit Bool) → Option Bool
  | .brk (()) => spec_BaseOk_j2
  | .ret r => some r
noncomputable def spec_BaseOk_j1 (b : Base) (x1 : Bool) : Option Bool :=
  (if x1 then some false else (spec_l11All b.Limbo).bind fun x2 => (loop (spec_BaseOk_l2 b x2) 0).bind (spec_BaseOk_m2))
noncomputable def spec_BaseOk (b : Base) : Option Bool :=
  (spec_MemOk b.Mem).bind fun x8 => (if !x8 then spec_BaseOk_j1 b true else (spec_ClockOk b.Clock).bind fun x9 => (if !x9 then spec_BaseOk_j1 b true else (spec_LimboOk b.Limbo).bind fun x10 => (if !x10 then spec_BaseOk_j1 b true else (spec_HazOk b.Haz).bind fun x11 => spec_BaseOk_j1 b (!x11))))
noncomputable def spec_l14End (s : Sub) (code : Int) : Option Sub :=
  some ((⟨s.Kind, s.A, s.Pc, s.E, s.Row, s.B, s.H, s.Out, code, true⟩ : Sub))
noncomputable def spec_ClassOf_j1  : Option Int :=
  some ((-1))
noncomputable def spec_ClassOf_l1 (size : Int) : Int → Option (Step Int (Out Unit Int))
  | x2 => (if decide (x2 < 3) then (spec_SizeOf x2).bind fun x3 => (spec_l1In size 1 x3).bind fun x4 => (if x4 then some (.stop (Out.ret x2)) else some (.next (w64 (x2 + 1)))) else some (.stop (Out.brk (()))))
noncomputable def spec_ClassOf_m1  : (Out Unit Int) → Option Int
  | .brk (()) => spec_ClassOf_j1
  | .ret r => some r
noncomputable def spec_ClassOf (size : Int) : Option Int :=
  (loop (spec_ClassOf_l1 size) 0).bind (spec_ClassOf_m1)
noncomputable def spec_l8Pop_j1 (s : SList) (x1 : Int) : Option (SList × Int) :=
  some (((⟨(s.Slots.take ((w64 (((s.Slots.length : Int)) - 1)).toNat)).drop 0⟩ : SList), x1))
noncomputable def spec_l8Pop (s : SList) : Option (SList × Int) :=
  (if ((s.Slots.length : Int)) == 0 then some ((s, (-1))) else need (0 ≤ (w64 (((s.Slots.length : Int)) - 1) : Int) ∧ (w64 (((s.Slots.length : Int)) - 1) : Int) ≤ (s.Slots.length : Int)) ((idx s.Slots (w64 (((s.Slots.length : Int)) - 1))).bind fun x2 => spec_l8Pop_j1 s x2))
noncomputable def spec_l3Store_j1 (x7 : List Int) : Option ((List Int)) :=
  some x7
noncomputable def spec_l3Store_l1 (at_ : Int) : ((List Int) × Int × Int) → Option (Step ((List Int) × Int × Int) ((List Int)))
  | (x4, x5, x6) => (if decide (0 ≤ x6) then (idx x4 (w64 (at_ + x6))).bind fun x8 => some (.next ((x4.set ((w64 (at_ + x6)).toNat) (Int.tmod x5 256), w64 (Int.tdiv x5 256), w64 (x6 - 1)))) else some (.stop (x4)))
noncomputable def spec_l3Store_m1  : ((List Int)) → Option ((List Int))
  | x7 => spec_l3Store_j1 x7
noncomputable def spec_l3Store (b : List Int) (at_ : Int) (width : Int) (n : Int) : Option ((List Int)) :=
  (loop (spec_l3Store_l1 at_) ((b, n, w64 (width - 1)))).bind (spec_l3Store_m1)
noncomputable def spec_l7Grant_j1 (h : Heap) : Option (Heap × (List Int)) :=
  some ((h, ([] : List Int)))
noncomputable def spec_l7Grant_j2 (x2 : Int) : Option (Step Int (Out Unit (Heap × (List Int)))) :=
  some (.next (w64 (x2 + 1)))
noncomputable def spec_l7Grant_j3 (h : Heap) (c : Int) (x2 : Int) (x14 : List Int) (x15 : List Int) : Option (Step Int (Out Unit (Heap × (List Int)))) :=
  some (.stop (Out.ret (((⟨x15, h.Class.set x2.toNat c⟩ : Heap), x14))))
noncomputable def spec_l7Grant_j4 (x2 : Int) (x11 : List Int) (x12 : Int) (x17 : List Int) : Option (Step ((List Int) × Int × (List Int)) ((List Int) × (List Int))) :=
  (spec_SlotAt x2 x12).bind fun x18 => need (x11.length + ([x18]).length ≤ 1073741824) (some (.next ((x11 ++ ([x18]), w64 (x12 + 1), x17))))
noncomputable def spec_l7Grant_l3 (c : Int) (x2 : Int) : ((List Int) × Int × (List Int)) → Option (Step ((List Int) × Int × (List Int)) ((List Int) × (List Int)))
  | (x11, x12, x13) => (spec_PerPage c).bind fun x16 => (if decide (x12 < x16) then (spec_SlotAt x2 x12).bind fun x19 => (spec_GenAt x19 c).bind fun x20 => (spec_l3Store x13 x20 4 1).bind fun x21 => spec_l7Grant_j4 x2 x11 x12 x21 else some (.stop ((x11, x13))))
noncomputable def spec_l7Grant_m3 (h : Heap) (c : Int) (x2 : Int) : ((List Int) × (List Int)) → Option (Step Int (Out Unit (Heap × (List Int))))
  | (x14, x15) => spec_l7Grant_j3 h c x2 x14 x15
noncomputable def spec_l7Grant_l1 (h : Heap) (c : Int) : Int → Option (Step Int (Out Unit (Heap × (List Int))))
  | x2 => (if decide (x2 < 6) then (idx h.Class x2).bind fun x3 => (if x3 != ((-1)) then spec_l7Grant_j2 x2 else (idx h.Bytes (w64 (x2 * 64))).bind fun x4 => (idx (h.Bytes.set ((w64 (x2 * 64)).toNat) 171) (w64 ((w64 (x2 * 64)) + 1))).bind fun x5 => (spec_PerPage c).bind fun x6 => (idx ((h.Bytes.set ((w64 (x2 * 64)).toNat) 171).set ((w64 ((w64 (x2 * 64)) + 1)).toNat) c) (w64 ((w64 (x2 * 64)) + 2))).bind fun x7 => (loop (spec_l7Grant_l3 c x2) ((([] : List Int), 0, ((h.Bytes.set ((w64 (x2 * 64)).toNat) 171).set ((w64 ((w64 (x2 * 64)) + 1)).toNat) c).set ((w64 ((w64 (x2 * 64)) + 2)).toNat) x6))).bind (spec_l7Grant_m3 h c x2)) else some (.stop (Out.brk (()))))
noncomputable def spec_l7Grant_m1 (h : Heap) : (Out Unit (Heap × (List Int))) → Option (Heap × (List Int))
  | .brk (()) => spec_l7Grant_j1 h
  | .ret r => some r
noncomputable def spec_l7Grant (h : Heap) (c : Int) : Option (Heap × (List Int)) :=
  (loop (spec_l7Grant_l1 h c) 0).bind (spec_l7Grant_m1 h)
noncomputable def spec_l9Grant_j1 (m : Mem) (c : Int) (x1 : Heap × (List Int)) (x2 : SList) (x3 : Int) : Option (Mem × Int) :=
  some (((⟨x1.1, (⟨m.Lists.Global.set c.toNat ((⟨x2.Slots ++ ((x1.2.take x1.2.length).drop ((1 : Int).toNat))⟩ : SList)), m.Lists.Own⟩ : Lists)⟩ : Mem), x3))
noncomputable def spec_l9Grant (m : Mem) (c : Int) : Option (Mem × Int) :=
  (spec_l7Grant m.Heap c).bind fun x1 => (if ((x1.2.length : Int)) == 0 then some (((⟨x1.1, m.Lists⟩ : Mem), (-1))) else (idx m.Lists.Global c).bind fun x2 => need (0 ≤ (1 : Int) ∧ (1 : Int) ≤ (x1.2.length : Int)) (need (x2.Slots.length + ((x1.2.take x1.2.length).drop ((1 : Int).toNat)).length ≤ 1073741824) ((idx x1.2 0).bind fun x4 => spec_l9Grant_j1 m c x1 x2 x4)))
noncomputable def spec_HandleOf_j1 (slot : Int) (gen : Int) (x1 : Bool) : Option Int :=
  (if x1 then some 0 else some (w64 ((w64 (gen * 32)) + slot)))
noncomputable def spec_HandleOf (slot : Int) (gen : Int) : Option Int :=
  (spec_l1In slot 0 23).bind fun x2 => (if !x2 then spec_HandleOf_j1 slot gen true else (spec_l1In gen 1 6).bind fun x3 => spec_HandleOf_j1 slot gen (!x3))
noncomputable def spec_l9Handle (m : Mem) (slot : Int) : Option Int :=
  (spec_l7Gen m.Heap slot).bind fun x1 => (spec_HandleOf slot x1).bind fun x2 => some x2
noncomputable def spec_l14Took (b : Base) (s : Sub) (slot : Int) (pc : Int) : Option Sub :=
  (if decide (0 ≤ slot) then (spec_l9Handle b.Mem slot).bind fun x1 => (spec_l14End ((⟨s.Kind, s.A, s.Pc, s.E, s.Row, s.B, s.H, x1, s.Code, s.Done⟩ : Sub)) 0).bind fun x2 => some x2 else some ((⟨s.Kind, s.A, pc, s.E, s.Row, s.B, s.H, s.Out, s.Code, s.Done⟩ : Sub)))
noncomputable def spec_l14Alloc_j2 (b : Base) (s : Sub) (x3 : Int) (x4 : List Int) (x5 : List Int) (x6 : List SList) (x7 : List SList) (x8 : Bool) : Option (Base × Sub) :=
  (if x8 then (spec_l14End s 3).bind fun x9 => some (((⟨(⟨(⟨x4, x5⟩ : Heap), (⟨x6, x7⟩ : Lists)⟩ : Mem), b.Clock, b.Limbo, b.Haz⟩ : Base), x9)) else (spec_l14Took ((⟨(⟨(⟨x4, x5⟩ : Heap), (⟨x6, x7⟩ : Lists)⟩ : Mem), b.Clock, b.Limbo, b.Haz⟩ : Base)) s x3 (w64 (s.Pc + 1))).bind fun x10 => some (((⟨(⟨(⟨x4, x5⟩ : Heap), (⟨x6, x7⟩ : Lists)⟩ : Mem), b.Clock, b.Limbo, b.Haz⟩ : Base), x10)))
noncomputable def spec_l14Alloc_j1 (b : Base) (s : Sub) (x3 : Int) (x4 : List Int) (x5 : List Int) (x6 : List SList) (x7 : List SList) : Option (Base × Sub) :=
  (if decide (x3 < 0) then spec_l14Alloc_j2 b s x3 x4 x5 x6 x7 (s.Pc == 3) else spec_l14Alloc_j2 b s x3 x4 x5 x6 x7 false)
noncomputable def spec_l14Alloc_j3 (b : Base) (s : Sub) (x1 : Int) (x14 : Bool) : Option (Base × Sub) :=
  (if x14 then (idx b.Mem.Lists.Global x1).bind fun x15 => (spec_l8Pop x15).bind fun x16 => spec_l14Alloc_j1 b s x16.2 b.Mem.Heap.Bytes b.Mem.Heap.Class (b.Mem.Lists.Global.set x1.toNat x16.1) b.Mem.Lists.Own else (if s.Pc == 2 then (spec_l9Grant b.Mem x1).bind fun x17 => spec_l14Alloc_j1 b s x17.2 x17.1.Heap.Bytes x17.1.Heap.Class x17.1.Lists.Global x17.1.Lists.Own else (spec_l14End s 1).bind fun x18 => some ((b, x18))))
noncomputable def spec_l14Alloc (b : Base) (w_ : Int) (s : Sub) : Option (Base × Sub) :=
  (spec_ClassOf s.A).bind fun x1 => (if decide (x1 < 0) then (spec_l14End s 2).bind fun x2 => some ((b, x2)) else (if s.Pc == 0 then (spec_OwnAt w_ x1).bind fun x11 => (idx b.Mem.Lists.Own x11).bind fun x12 => (spec_l8Pop x12).bind fun x13 => spec_l14Alloc_j1 b s x13.2 b.Mem.Heap.Bytes b.Mem.Heap.Class b.Mem.Lists.Global (b.Mem.Lists.Own.set x11.toNat x13.1) else (if s.Pc == 1 then spec_l14Alloc_j3 b s x1 true else spec_l14Alloc_j3 b s x1 (s.Pc == 3))))
noncomputable def spec_InLimbo_j1  : Option Bool :=
  some false
noncomputable def spec_InLimbo_j2 (x3 : Int) (x4 : Bool) : Option (Step Int (Out Unit Bool)) :=
  (if x4 then some (.stop (Out.ret true)) else some (.next (w64 (x3 + 1))))
noncomputable def spec_InLimbo_l1 (slot : Int) (x1 : (List LRow)) : Int → Option (Step Int (Out Unit Bool))
  | x3 => (if decide (x3 < ((x1.length : Int))) then (idx x1 x3).bind fun x5 => (spec_HandleOk x5.Handle).bind fun x6 => (if x6 then (spec_HandleSlot x5.Handle).bind fun x7 => spec_InLimbo_j2 x3 (x7 == slot) else spec_InLimbo_j2 x3 false) else some (.stop (Out.brk (()))))
noncomputable def spec_InLimbo_m1  : (Out Unit Bool) → Option Bool
  | .brk (()) => spec_InLimbo_j1
  | .ret r => some r
noncomputable def spec_InLimbo (l : List LList) (slot : Int) : Option Bool :=
  (spec_l11All l).bind fun x1 => (loop (spec_InLimbo_l1 slot x1) 0).bind (spec_InLimbo_m1)
noncomputable def spec_l14Retire_j2 (b : Base) (s : Sub) (x5 : List LList) : Option (Base × Sub) :=
  (spec_l14End s 0).bind fun x6 => some (((⟨b.Mem, b.Clock, x5, b.Haz⟩ : Base), x6))
noncomputable def spec_l14Retire_j1 (b : Base) (w_ : Int) (s : Sub) (x3 : Bool) : Option (Base × Sub) :=
  (if x3 then (spec_l14End s 4).bind fun x4 => some ((b, x4)) else (idx b.Limbo w_).bind fun x7 => need (x7.Rows.length + ([(⟨s.A, s.E⟩ : LRow)]).length ≤ 1073741824) <| spec_l14Retire_j2 b s (b.Limbo.set w_.toNat ((⟨x7.Rows ++ ([(⟨s.A, s.E⟩ : LRow)])⟩ : LList))))
noncomputable def spec_l14Retire (b : Base) (w_ : Int) (s : Sub) : Option (Base × Sub) :=
  (if s.Pc == 0 then some ((b, (⟨s.Kind, s.A, 1, b.Clock.Epoch, s.Row, s.B, s.H, s.Out, s.Code, s.Done⟩ : Sub))) else (if s.Pc == 1 then (spec_l1In s.E 0 b.Clock.Epoch).bind fun x1 => (if !x1 then (spec_l14End s 1).bind fun x2 => some ((b, x2)) else (spec_l9Valid b.Mem s.A).bind fun x8 => (if !x8 then spec_l14Retire_j1 b w_ s true else (spec_HandleSlot s.A).bind fun x9 => (spec_InLimbo b.Limbo x9).bind fun x10 => spec_l14Retire_j1 b w_ s x10)) else (spec_l14End s 1).bind fun x11 => some ((b, x11))))
noncomputable def spec_LookAt_j2 (w_ : Int) (x1 : Clock) (x3 : Pin) (x4 : Bool) : Option (Clock × Bool) :=
  (if x4 then some ((x1, true)) else (if x3.Seen == 2 then (idx x1.Pins w_).bind fun x5 => some (((⟨x1.Epoch, x1.Pins.set w_.toNat ((⟨x5.On, x5.Epoch, true, 0⟩ : Pin))⟩ : Clock), true)) else (idx x1.Pins w_).bind fun x6 => some (((⟨x1.Epoch, x1.Pins.set w_.toNat ((⟨x6.On, x6.Epoch, x6.Marked, w64 (x3.Seen + 1)⟩ : Pin))⟩ : Clock), false))))
noncomputable def spec_LookAt_j1 (c : Clock) (w_ : Int) (e_ : Int) (x1 : Clock) (x2 : Bool) : Option (Clock × Bool) :=
  (if x2 then some ((x1, false)) else (idx c.Pins w_).bind fun x3 => (if !x3.On then spec_LookAt_j2 w_ x1 x3 true else (if x3.Marked then spec_LookAt_j2 w_ x1 x3 true else spec_LookAt_j2 w_ x1 x3 (x3.Epoch == e_))))
noncomputable def spec_LookAt (c : Clock) (w_ : Int) (e_ : Int) : Option (Clock × Bool) :=
  (spec_l10Copy c).bind fun x1 => (spec_ClockOk c).bind fun x7 => (if !x7 then spec_LookAt_j1 c w_ e_ x1 true else (spec_l1In w_ 0 2).bind fun x8 => spec_LookAt_j1 c w_ e_ x1 (!x8))
noncomputable def spec_Bump_j1 (e_ : Int) (x1 : Clock) (x2 : Bool) : Option (Clock × Bool) :=
  (if x2 then some ((x1, false)) else some (((⟨w64 (e_ + 1), x1.Pins⟩ : Clock), true)))
noncomputable def spec_Bump (c : Clock) (e_ : Int) : Option (Clock × Bool) :=
  (spec_l10Copy c).bind fun x1 => (spec_ClockOk c).bind fun x3 => (if !x3 then spec_Bump_j1 e_ x1 true else (if c.Epoch != e_ then spec_Bump_j1 e_ x1 true else spec_Bump_j1 e_ x1 (e_ == 100000)))
noncomputable def spec_l14Advance_j1 (b : Base) (s : Sub) (x3 : Clock × Bool) (x5 : Int) : Option (Base × Sub) :=
  some (((⟨b.Mem, x3.1, b.Limbo, b.Haz⟩ : Base), (⟨s.Kind, s.A, x5, s.E, s.Row, w64 (s.B + 1), s.H, s.Out, s.Code, s.Done⟩ : Sub)))
noncomputable def spec_l14Advance_j2 (b : Base) (s : Sub) (x6 : Clock × Bool) (x7 : Int) : Option (Base × Sub) :=
  (spec_l14End ((⟨s.Kind, s.A, s.Pc, s.E, s.Row, s.B, s.H, x7, s.Code, s.Done⟩ : Sub)) 0).bind fun x8 => some (((⟨b.Mem, x6.1, b.Limbo, b.Haz⟩ : Base), x8))
noncomputable def spec_l14Advance (b : Base) (s : Sub) : Option (Base × Sub) :=
  (if s.Pc == 0 then some ((b, (⟨s.Kind, s.A, 1, b.Clock.Epoch, s.Row, 0, s.H, s.Out, s.Code, s.Done⟩ : Sub))) else (if s.Pc == 1 then (spec_l1In s.B 0 2).bind fun x1 => (if !x1 then (spec_l14End s 1).bind fun x2 => some ((b, x2)) else (spec_LookAt b.Clock s.B s.E).bind fun x3 => (if !x3.2 then (spec_l14End s 8).bind fun x4 => some (((⟨b.Mem, x3.1, b.Limbo, b.Haz⟩ : Base), x4)) else (if (w64 (s.B + 1)) == 3 then spec_l14Advance_j1 b s x3 2 else spec_l14Advance_j1 b s x3 s.Pc))) else (if s.Pc == 2 then (spec_Bump b.Clock s.E).bind fun x6 => (if x6.2 then spec_l14Advance_j2 b s x6 1 else spec_l14Advance_j2 b s x6 s.Out) else (spec_l14End s 1).bind fun x9 => some ((b, x9)))))
noncomputable def spec_Ripe_j1 (x1 : Bool) : Option Bool :=
  some x1
noncomputable def spec_Ripe (r_ : LRow) (e_ : Int) : Option Bool :=
  (if decide (2 ≤ e_) then spec_Ripe_j1 (decide (r_.Epoch ≤ (w64 (e_ - 2)))) else spec_Ripe_j1 false)
noncomputable def spec_l14Next_j1  : Option Int :=
  some ((-1))
noncomputable def spec_l14Next_l1 (l : List LRow) (e_ : Int) : Int → Option (Step Int (Out Unit Int))
  | x2 => (if decide (x2 < ((l.length : Int))) then (idx l x2).bind fun x3 => (spec_Ripe x3 e_).bind fun x4 => (if x4 then some (.stop (Out.ret x2)) else some (.next (w64 (x2 + 1)))) else some (.stop (Out.brk (()))))
noncomputable def spec_l14Next_m1  : (Out Unit Int) → Option Int
  | .brk (()) => spec_l14Next_j1
  | .ret r => some r
noncomputable def spec_l14Next (l : List LRow) (from_ : Int) (e_ : Int) : Option Int :=
  (loop (spec_l14Next_l1 l e_) (if 0 < from_ then from_ else 0)).bind (spec_l14Next_m1)
noncomputable def spec_l8Give_j1 (x2 : List SList) (x3 : List SList) : Option Lists :=
  some ((⟨x2, x3⟩ : Lists))
noncomputable def spec_l8Give_j2 (x : Lists) (slot : Int) (x1 : Int) (x4 : SList) : Option Lists :=
  spec_l8Give_j1 x.Global (x.Own.set x1.toNat ((⟨x4.Slots ++ ([slot])⟩ : SList)))
noncomputable def spec_l8Give_j3 (x : Lists) (x5 : List SList) : Option Lists :=
  spec_l8Give_j1 x5 x.Own
noncomputable def spec_l8Give (x : Lists) (w_ : Int) (c : Int) (slot : Int) : Option Lists :=
  (spec_OwnAt w_ c).bind fun x1 => (idx x.Own x1).bind fun x4 => (if decide (((x4.Slots.length : Int)) < 2) then need (x4.Slots.length + ([slot]).length ≤ 1073741824) <| spec_l8Give_j2 x slot x1 x4 else (idx x.Global c).bind fun x6 => need (x6.Slots.length + ([slot]).length ≤ 1073741824) <| spec_l8Give_j3 x (x.Global.set c.toNat ((⟨x6.Slots ++ ([slot])⟩ : SList))))
noncomputable def spec_l9Free_j2 (x : Mem) (x3 : List Int) (x4 : List SList) (x5 : List SList) : Option Mem :=
  some ((⟨(⟨x3, x.Heap.Class⟩ : Heap), (⟨x4, x5⟩ : Lists)⟩ : Mem))
noncomputable def spec_l9Free_j1 (x : Mem) (w_ : Int) (slot : Int) (x1 : Int) (x2 : Int) (x3 : List Int) : Option Mem :=
  (if decide ((w64 (x2 + 1)) ≤ 6) then (spec_l8Give x.Lists w_ x1 slot).bind fun x6 => spec_l9Free_j2 x x3 x6.Global x6.Own else spec_l9Free_j2 x x3 x.Lists.Global x.Lists.Own)
noncomputable def spec_l9Free (x : Mem) (w_ : Int) (slot : Int) : Option Mem :=
  (spec_l7Class x.Heap slot).bind fun x1 => (spec_l7Gen x.Heap slot).bind fun x2 => (spec_GenAt slot x1).bind fun x7 => (spec_l3Store x.Heap.Bytes x7 4 (w64 (x2 + 1))).bind fun x8 => spec_l9Free_j1 x w_ slot x1 x2 x8
noncomputable def spec_l14Collect_j2 (b : Base) (s : Sub) (x8 : Int) : Option (Base × Sub) :=
  some ((b, (⟨s.Kind, s.A, x8, s.E, s.Row, w64 (s.B + 1), s.H, s.Out, s.Code, s.Done⟩ : Sub)))
noncomputable def spec_l14Collect_j1 (b : Base) (s : Sub) (x5 : Bool) : Option (Base × Sub) :=
  (if x5 then (spec_l14End s 1).bind fun x6 => some ((b, x6)) else (idx b.Haz s.B).bind fun x7 => (if x7 == s.H then some ((b, (⟨s.Kind, s.A, 1, s.E, w64 (s.Row + 1), s.B, s.H, s.Out, s.Code, s.Done⟩ : Sub))) else (if (w64 (s.B + 1)) == 3 then spec_l14Collect_j2 b s 3 else spec_l14Collect_j2 b s s.Pc)))
noncomputable def spec_l14Collect_j4 (b : Base) (w_ : Int) (s : Sub) (x1 : LList) (x14 : List Int) (x15 : List Int) (x16 : List SList) (x17 : List SList) : Option (Base × Sub) :=
  some (((⟨(⟨(⟨x14, x15⟩ : Heap), (⟨x16, x17⟩ : Lists)⟩ : Mem), b.Clock, b.Limbo.set w_.toNat ((⟨((blitL x1.Rows s.Row.toNat (x1.Rows.drop ((w64 (s.Row + 1)).toNat))).take (s.Row.toNat + (x1.Rows.length - ((w64 (s.Row + 1)).toNat)))).drop 0⟩ : LList)), b.Haz⟩ : Base), (⟨s.Kind, s.A, 1, s.E, s.Row, s.B, s.H, w64 (s.Out + 1), s.Code, s.Done⟩ : Sub)))
noncomputable def spec_l14Collect_j3 (b : Base) (w_ : Int) (s : Sub) (x1 : LList) (x12 : Bool) : Option (Base × Sub) :=
  (if x12 then (spec_l14End s 1).bind fun x13 => some ((b, x13)) else need (0 ≤ (s.Row : Int) ∧ (s.Row : Int) ≤ (x1.Rows.length : Int)) (need (0 ≤ (w64 (s.Row + 1) : Int) ∧ (w64 (s.Row + 1) : Int) ≤ (x1.Rows.length : Int)) (need (s.Row.toNat ≤ (w64 (s.Row + 1)).toNat) ((spec_HandleSlot s.H).bind fun x18 => (spec_l9Free b.Mem w_ x18).bind fun x19 => spec_l14Collect_j4 b w_ s x1 x19.Heap.Bytes x19.Heap.Class x19.Lists.Global x19.Lists.Own))))
noncomputable def spec_l14Collect (b : Base) (w_ : Int) (s : Sub) : Option (Base × Sub) :=
  (idx b.Limbo w_).bind fun x1 => (if s.Pc == 0 then some ((b, (⟨s.Kind, s.A, 1, b.Clock.Epoch, 0, s.B, s.H, s.Out, s.Code, s.Done⟩ : Sub))) else (if s.Pc == 1 then (spec_l14Next x1.Rows s.Row s.E).bind fun x2 => (if decide (x2 < 0) then (spec_l14End s 0).bind fun x3 => some ((b, x3)) else (idx x1.Rows x2).bind fun x4 => some ((b, (⟨s.Kind, s.A, 2, s.E, x2, 0, x4.Handle, s.Out, s.Code, s.Done⟩ : Sub)))) else (if s.Pc == 2 then (spec_l1In s.B 0 2).bind fun x9 => (if !x9 then spec_l14Collect_j1 b s true else (spec_l1In s.Row 0 (w64 (((x1.Rows.length : Int)) - 1))).bind fun x10 => (if !x10 then spec_l14Collect_j1 b s true else (idx x1.Rows s.Row).bind fun x11 => spec_l14Collect_j1 b s (x11.Handle != s.H))) else (if s.Pc == 3 then (spec_l1In s.Row 0 (w64 (((x1.Rows.length : Int)) - 1))).bind fun x20 => (if !x20 then spec_l14Collect_j3 b w_ s x1 true else (idx x1.Rows s.Row).bind fun x21 => (if x21.Handle != s.H then spec_l14Collect_j3 b w_ s x1 true else (spec_Ripe x21 s.E).bind fun x22 => spec_l14Collect_j3 b w_ s x1 (!x22))) else (spec_l14End s 1).bind fun x23 => some ((b, x23))))))
noncomputable def spec_PinTo_j1 (w_ : Int) (e_ : Int) (x1 : Clock) (x2 : Bool) : Option (Clock × Bool) :=
  (if x2 then some ((x1, false)) else (idx x1.Pins w_).bind fun x3 => some (((⟨x1.Epoch, x1.Pins.set w_.toNat ((⟨true, e_, false, 0⟩ : Pin))⟩ : Clock), true)))
noncomputable def spec_PinTo (c : Clock) (w_ : Int) (e_ : Int) : Option (Clock × Bool) :=
  (spec_l10Copy c).bind fun x1 => (spec_ClockOk c).bind fun x4 => (if !x4 then spec_PinTo_j1 w_ e_ x1 true else (spec_l1In w_ 0 2).bind fun x5 => (if !x5 then spec_PinTo_j1 w_ e_ x1 true else (spec_l1In e_ 0 c.Epoch).bind fun x6 => spec_PinTo_j1 w_ e_ x1 (!x6)))
noncomputable def spec_l14Pin (b : Base) (w_ : Int) (s : Sub) : Option (Base × Sub) :=
  (if s.Pc == 0 then some ((b, (⟨s.Kind, s.A, 1, b.Clock.Epoch, s.Row, s.B, s.H, s.Out, s.Code, s.Done⟩ : Sub))) else (if s.Pc == 1 then (spec_PinTo b.Clock w_ s.E).bind fun x1 => (if !x1.2 then (spec_l14End s 1).bind fun x2 => some (((⟨b.Mem, x1.1, b.Limbo, b.Haz⟩ : Base), x2)) else some (((⟨b.Mem, x1.1, b.Limbo, b.Haz⟩ : Base), (⟨s.Kind, s.A, 2, s.E, s.Row, s.B, s.H, s.Out, s.Code, s.Done⟩ : Sub)))) else (if s.Pc == 2 then (if b.Clock.Epoch == s.E then (spec_l14End s 0).bind fun x3 => some ((b, x3)) else some ((b, (⟨s.Kind, s.A, 0, s.E, s.Row, s.B, s.H, s.Out, s.Code, s.Done⟩ : Sub)))) else (spec_l14End s 1).bind fun x4 => some ((b, x4)))))
noncomputable def spec_l14Do (b : Base) (w_ : Int) (s : Sub) : Option (Base × Sub) :=
  (if s.Done then some ((b, s)) else (if s.Kind == 1 then (spec_l14Alloc b w_ s).bind fun x1 => some ((x1.1, x1.2)) else (if s.Kind == 2 then (spec_l14Retire b w_ s).bind fun x2 => some ((x2.1, x2.2)) else (if s.Kind == 3 then (spec_l14Advance b s).bind fun x3 => some ((x3.1, x3.2)) else (if s.Kind == 4 then (spec_l14Collect b w_ s).bind fun x4 => some ((x4.1, x4.2)) else (if s.Kind == 5 then (spec_l14Pin b w_ s).bind fun x5 => some ((x5.1, x5.2)) else (spec_l14End s 1).bind fun x6 => some ((b, x6))))))))
noncomputable def spec_SubStep_j1 (w_ : Int) (s : Sub) (x1 : Base) (x2 : Bool) : Option (Base × Sub) :=
  (if x2 then some ((x1, s)) else (spec_l14Do x1 w_ s).bind fun x3 => some ((x3.1, x3.2)))
noncomputable def spec_SubStep (b : Base) (w_ : Int) (s : Sub) : Option (Base × Sub) :=
  (spec_l13Copy b).bind fun x1 => (spec_BaseOk b).bind fun x4 => (if !x4 then spec_SubStep_j1 w_ s x1 true else (spec_l1In w_ 0 2).bind fun x5 => spec_SubStep_j1 w_ s x1 (!x5))
noncomputable def laws_toIntS_j1 (x5 : List Int) : Option ((List Int)) :=
  some x5
noncomputable def laws_toIntS_l1 (a_ : List Int) : ((List Int) × Int) → Option (Step ((List Int) × Int) ((List Int)))
  | (x3, x4) => (if decide (x4 < ((a_.length : Int))) then (idx a_ x4).bind fun x6 => (idx x3 x4).bind fun x7 => some (.next ((x3.set x4.toNat x6, w64 (x4 + 1)))) else some (.stop (x3)))
noncomputable def laws_toIntS_m1  : ((List Int)) → Option ((List Int))
  | x5 => laws_toIntS_j1 x5
noncomputable def laws_toIntS (a_ : List Int) : Option ((List Int)) :=
  need (0 ≤ ((a_.length : Int) : Int) ∧ ((a_.length : Int) : Int) ≤ 4294967296) ((loop (laws_toIntS_l1 a_) ((List.replicate (((a_.length : Int)).toNat) 0, 0))).bind (laws_toIntS_m1))
noncomputable def laws_toHeap (a_ : Heap) : Option Heap :=
  (laws_toIntS a_.Bytes).bind fun x1 => (laws_toIntS a_.Class).bind fun x2 => some ((⟨x1, x2⟩ : Heap))
noncomputable def laws_toSList (a_ : SList) : Option SList :=
  (laws_toIntS a_.Slots).bind fun x1 => some ((⟨x1⟩ : SList))
noncomputable def laws_toSListS_j1 (x5 : List SList) : Option ((List SList)) :=
  some x5
noncomputable def laws_toSListS_l1 (a_ : List SList) : ((List SList) × Int) → Option (Step ((List SList) × Int) ((List SList)))
  | (x3, x4) => (if decide (x4 < ((a_.length : Int))) then (idx a_ x4).bind fun x6 => (laws_toSList x6).bind fun x7 => (idx x3 x4).bind fun x8 => some (.next ((x3.set x4.toNat x7, w64 (x4 + 1)))) else some (.stop (x3)))
noncomputable def laws_toSListS_m1  : ((List SList)) → Option ((List SList))
  | x5 => laws_toSListS_j1 x5
noncomputable def laws_toSListS (a_ : List SList) : Option ((List SList)) :=
  need (0 ≤ ((a_.length : Int) : Int) ∧ ((a_.length : Int) : Int) ≤ 4294967296) ((loop (laws_toSListS_l1 a_) ((List.replicate (((a_.length : Int)).toNat) ((⟨[]⟩ : SList)), 0))).bind (laws_toSListS_m1))
noncomputable def laws_toLists (a_ : Lists) : Option Lists :=
  (laws_toSListS a_.Global).bind fun x1 => (laws_toSListS a_.Own).bind fun x2 => some ((⟨x1, x2⟩ : Lists))
noncomputable def laws_toMem (a_ : Mem) : Option Mem :=
  (laws_toHeap a_.Heap).bind fun x1 => (laws_toLists a_.Lists).bind fun x2 => some ((⟨x1, x2⟩ : Mem))
noncomputable def laws_toPin (a_ : Pin) : Option Pin :=
  some a_
noncomputable def laws_toPinS_j1 (x5 : List Pin) : Option ((List Pin)) :=
  some x5
noncomputable def laws_toPinS_l1 (a_ : List Pin) : ((List Pin) × Int) → Option (Step ((List Pin) × Int) ((List Pin)))
  | (x3, x4) => (if decide (x4 < ((a_.length : Int))) then (idx a_ x4).bind fun x6 => (laws_toPin x6).bind fun x7 => (idx x3 x4).bind fun x8 => some (.next ((x3.set x4.toNat x7, w64 (x4 + 1)))) else some (.stop (x3)))
noncomputable def laws_toPinS_m1  : ((List Pin)) → Option ((List Pin))
  | x5 => laws_toPinS_j1 x5
noncomputable def laws_toPinS (a_ : List Pin) : Option ((List Pin)) :=
  need (0 ≤ ((a_.length : Int) : Int) ∧ ((a_.length : Int) : Int) ≤ 4294967296) ((loop (laws_toPinS_l1 a_) ((List.replicate (((a_.length : Int)).toNat) ((⟨false, 0, false, 0⟩ : Pin)), 0))).bind (laws_toPinS_m1))
noncomputable def laws_toClock (a_ : Clock) : Option Clock :=
  (laws_toPinS a_.Pins).bind fun x1 => some ((⟨a_.Epoch, x1⟩ : Clock))
noncomputable def laws_toLRow (a_ : LRow) : Option LRow :=
  some a_
noncomputable def laws_toLRowS_j1 (x5 : List LRow) : Option ((List LRow)) :=
  some x5
noncomputable def laws_toLRowS_l1 (a_ : List LRow) : ((List LRow) × Int) → Option (Step ((List LRow) × Int) ((List LRow)))
  | (x3, x4) => (if decide (x4 < ((a_.length : Int))) then (idx a_ x4).bind fun x6 => (laws_toLRow x6).bind fun x7 => (idx x3 x4).bind fun x8 => some (.next ((x3.set x4.toNat x7, w64 (x4 + 1)))) else some (.stop (x3)))
noncomputable def laws_toLRowS_m1  : ((List LRow)) → Option ((List LRow))
  | x5 => laws_toLRowS_j1 x5
noncomputable def laws_toLRowS (a_ : List LRow) : Option ((List LRow)) :=
  need (0 ≤ ((a_.length : Int) : Int) ∧ ((a_.length : Int) : Int) ≤ 4294967296) ((loop (laws_toLRowS_l1 a_) ((List.replicate (((a_.length : Int)).toNat) ((⟨0, 0⟩ : LRow)), 0))).bind (laws_toLRowS_m1))
noncomputable def laws_toLList (a_ : LList) : Option LList :=
  (laws_toLRowS a_.Rows).bind fun x1 => some ((⟨x1⟩ : LList))
noncomputable def laws_toLListS_j1 (x5 : List LList) : Option ((List LList)) :=
  some x5
noncomputable def laws_toLListS_l1 (a_ : List LList) : ((List LList) × Int) → Option (Step ((List LList) × Int) ((List LList)))
  | (x3, x4) => (if decide (x4 < ((a_.length : Int))) then (idx a_ x4).bind fun x6 => (laws_toLList x6).bind fun x7 => (idx x3 x4).bind fun x8 => some (.next ((x3.set x4.toNat x7, w64 (x4 + 1)))) else some (.stop (x3)))
noncomputable def laws_toLListS_m1  : ((List LList)) → Option ((List LList))
  | x5 => laws_toLListS_j1 x5
noncomputable def laws_toLListS (a_ : List LList) : Option ((List LList)) :=
  need (0 ≤ ((a_.length : Int) : Int) ∧ ((a_.length : Int) : Int) ≤ 4294967296) ((loop (laws_toLListS_l1 a_) ((List.replicate (((a_.length : Int)).toNat) ((⟨[]⟩ : LList)), 0))).bind (laws_toLListS_m1))
noncomputable def laws_toBase (a_ : Base) : Option Base :=
  (laws_toMem a_.Mem).bind fun x1 => (laws_toClock a_.Clock).bind fun x2 => (laws_toLListS a_.Limbo).bind fun x3 => (laws_toIntS a_.Haz).bind fun x4 => some ((⟨x1, x2, x3, x4⟩ : Base))
noncomputable def laws_toSub (a_ : Sub) : Option Sub :=
  some a_
noncomputable def slices_Clone_int (s : List Int) : Option ((List Int)) :=
  need ((([] : List Int)).length + s.length ≤ 1073741824) (some ((([] : List Int)) ++ s))
noncomputable def impl_copyHeap (h : Heap) : Option Heap :=
  (slices_Clone_int h.Bytes).bind fun x1 => (slices_Clone_int h.Class).bind fun x2 => some ((⟨x1, x2⟩ : Heap))
noncomputable def impl_copyLists_j2 (x5 : List SList) (x10 : List SList) : Option Lists :=
  some ((⟨x5, x10⟩ : Lists))
noncomputable def impl_copyLists_j3 (x8 : Int) (x12 : List SList) : Option (Step (Int × (List SList)) ((List SList))) :=
  some (.next ((w64 (x8 + 1), x12)))
noncomputable def impl_copyLists_l2 (l : Lists) : (Int × (List SList)) → Option (Step (Int × (List SList)) ((List SList)))
  | (x8, x9) => (if decide (x8 < ((l.Own.length : Int))) then (idx l.Own x8).bind fun x11 => (slices_Clone_int x11.Slots).bind fun x13 => need (x9.length + ([(⟨x13⟩ : SList)]).length ≤ 1073741824) <| impl_copyLists_j3 x8 (x9 ++ ([(⟨x13⟩ : SList)])) else some (.stop (x9)))
noncomputable def impl_copyLists_m2 (x5 : List SList) : ((List SList)) → Option Lists
  | x10 => impl_copyLists_j2 x5 x10
noncomputable def impl_copyLists_j1 (l : Lists) (x5 : List SList) : Option Lists :=
  (loop (impl_copyLists_l2 l) ((0, []))).bind (impl_copyLists_m2 x5)
noncomputable def impl_copyLists_j4 (x3 : Int) (x15 : List SList) : Option (Step (Int × (List SList)) ((List SList))) :=
  some (.next ((w64 (x3 + 1), x15)))
noncomputable def impl_copyLists_l1 (l : Lists) : (Int × (List SList)) → Option (Step (Int × (List SList)) ((List SList)))
  | (x3, x4) => (if decide (x3 < ((l.Global.length : Int))) then (idx l.Global x3).bind fun x14 => (slices_Clone_int x14.Slots).bind fun x16 => need (x4.length + ([(⟨x16⟩ : SList)]).length ≤ 1073741824) <| impl_copyLists_j4 x3 (x4 ++ ([(⟨x16⟩ : SList)])) else some (.stop (x4)))
noncomputable def impl_copyLists_m1 (l : Lists) : ((List SList)) → Option Lists
  | x5 => impl_copyLists_j1 l x5
noncomputable def impl_copyLists (l : Lists) : Option Lists :=
  (loop (impl_copyLists_l1 l) ((0, []))).bind (impl_copyLists_m1 l)
noncomputable def impl_copyMem (m : Mem) : Option Mem :=
  (impl_copyHeap m.Heap).bind fun x1 => (impl_copyLists m.Lists).bind fun x2 => some ((⟨x1, x2⟩ : Mem))
noncomputable def slices_Clone_Pin (s : List Pin) : Option ((List Pin)) :=
  need ((([] : List Pin)).length + s.length ≤ 1073741824) (some ((([] : List Pin)) ++ s))
noncomputable def impl_copyClock (c : Clock) : Option Clock :=
  (slices_Clone_Pin c.Pins).bind fun x1 => some ((⟨c.Epoch, x1⟩ : Clock))
noncomputable def slices_Clone_LRow (s : List LRow) : Option ((List LRow)) :=
  need ((([] : List LRow)).length + s.length ≤ 1073741824) (some ((([] : List LRow)) ++ s))
noncomputable def impl_copyLimbo_j1 (x5 : List LList) : Option ((List LList)) :=
  some x5
noncomputable def impl_copyLimbo_l1 (l : List LList) : ((List LList) × Int) → Option (Step ((List LList) × Int) ((List LList)))
  | (x3, x4) => (if decide (x4 < ((l.length : Int))) then (idx l x4).bind fun x6 => (slices_Clone_LRow x6.Rows).bind fun x7 => need (x3.length + ([(⟨x7⟩ : LList)]).length ≤ 1073741824) (some (.next ((x3 ++ ([(⟨x7⟩ : LList)]), w64 (x4 + 1))))) else some (.stop (x3)))
noncomputable def impl_copyLimbo_m1  : ((List LList)) → Option ((List LList))
  | x5 => impl_copyLimbo_j1 x5
noncomputable def impl_copyLimbo (l : List LList) : Option ((List LList)) :=
  (loop (impl_copyLimbo_l1 l) ((([] : List LList), 0))).bind (impl_copyLimbo_m1)
noncomputable def impl_copyBase (b : Base) : Option Base :=
  (impl_copyMem b.Mem).bind fun x1 => (impl_copyClock b.Clock).bind fun x2 => (impl_copyLimbo b.Limbo).bind fun x3 => (slices_Clone_int b.Haz).bind fun x4 => some ((⟨x1, x2, x3, x4⟩ : Base))
noncomputable def slices_IndexFunc_int_j1  : Option Int :=
  some ((-1))
noncomputable def slices_IndexFunc_int_l1 (s : List Int) (f : (Int → Option Bool)) : Int → Option (Step Int (Out Unit Int))
  | x2 => (if decide (x2 < ((s.length : Int))) then (idx s x2).bind fun x3 => (f x3).bind fun x4 => (if x4 then some (.stop (Out.ret x2)) else some (.next (w64 (x2 + 1)))) else some (.stop (Out.brk (()))))
noncomputable def slices_IndexFunc_int_m1  : (Out Unit Int) → Option Int
  | .brk (()) => slices_IndexFunc_int_j1
  | .ret r => some r
noncomputable def slices_IndexFunc_int (s : List Int) (f : (Int → Option Bool)) : Option Int :=
  (loop (slices_IndexFunc_int_l1 s f) 0).bind (slices_IndexFunc_int_m1)
noncomputable def slices_ContainsFunc_int (s : List Int) (f : (Int → Option Bool)) : Option Bool :=
  (slices_IndexFunc_int s f).bind fun x1 => some (decide (0 ≤ x1))
noncomputable def impl_within_j1 (x1 : Bool) : Option Bool :=
  some x1
noncomputable def impl_within (n : Int) (low : Int) (high : Int) : Option Bool :=
  (if decide (low ≤ n) then impl_within_j1 (decide (n ≤ high)) else impl_within_j1 false)
noncomputable def impl_isByte (x : Int) : Option Bool :=
  (impl_within x 0 255).bind fun x1 => some x1
noncomputable def impl_BytesOk_1 (x : Int) : Option Bool :=
  (impl_isByte x).bind fun x1 => some (!x1)
noncomputable def impl_BytesOk_j1 (x1 : Bool) : Option Bool :=
  some x1
noncomputable def impl_BytesOk (b : List Int) : Option Bool :=
  (if decide (((b.length : Int)) ≤ 1000) then (slices_ContainsFunc_int b ((fun y0 => impl_BytesOk_1 y0 ))).bind fun x2 => impl_BytesOk_j1 (!x2) else impl_BytesOk_j1 false)
noncomputable def impl_shaped_1 (c : Int) : Option Bool :=
  (impl_within c ((-1)) 2).bind fun x1 => some (!x1)
noncomputable def impl_shaped_j1 (x1 : Bool) : Option Bool :=
  some x1
noncomputable def impl_shaped (h : Heap) : Option Bool :=
  (if ((h.Bytes.length : Int)) == 384 then (impl_BytesOk h.Bytes).bind fun x2 => (if x2 then (if ((h.Class.length : Int)) == 6 then (slices_ContainsFunc_int h.Class ((fun y0 => impl_shaped_1 y0 ))).bind fun x3 => impl_shaped_j1 (!x3) else impl_shaped_j1 false) else impl_shaped_j1 false) else impl_shaped_j1 false)
noncomputable def impl_loadNum_j1 (x5 : Int) : Option Int :=
  some x5
noncomputable def impl_loadNum_l1 (b : List Int) (at_ : Int) (width : Int) : (Int × Int) → Option (Step (Int × Int) Int)
  | (x3, x4) => (if decide (x4 < ((((b.take ((w64 (at_ + width)).toNat)).drop at_.toNat).length : Int))) then (idx ((b.take ((w64 (at_ + width)).toNat)).drop at_.toNat) x4).bind fun x6 => some (.next ((w64 ((w64 (256 * x3)) + x6), w64 (x4 + 1)))) else some (.stop (x3)))
noncomputable def impl_loadNum_m1  : Int → Option Int
  | x5 => impl_loadNum_j1 x5
noncomputable def impl_loadNum (b : List Int) (at_ : Int) (width : Int) : Option Int :=
  need (0 ≤ (at_ : Int) ∧ (at_ : Int) ≤ (w64 (at_ + width) : Int) ∧ (w64 (at_ + width) : Int) ≤ (b.length : Int)) ((loop (impl_loadNum_l1 b at_ width) ((0, 0))).bind (impl_loadNum_m1))
noncomputable def impl_isZero_1 (x : Int) : Option Bool :=
  some (x != 0)
noncomputable def impl_isZero (b : List Int) : Option Bool :=
  (slices_ContainsFunc_int b ((fun y0 => impl_isZero_1 y0 ))).bind fun x1 => some (!x1)
noncomputable def impl_isClass (c : Int) : Option Bool :=
  (impl_within c 0 2).bind fun x1 => some x1
noncomputable def impl_SizeOf (c : Int) : Option Int :=
  (impl_isClass c).bind fun x1 => (if !x1 then some 0 else (idx ([8, 16, 40] : List Int) c).bind fun x2 => some x2)
noncomputable def impl_StrideOf (c : Int) : Option Int :=
  (impl_isClass c).bind fun x1 => (if !x1 then some 0 else (impl_SizeOf c).bind fun x2 => some (w64 (4 + x2)))
noncomputable def impl_PerPage (c : Int) : Option Int :=
  (impl_isClass c).bind fun x1 => (if !x1 then some 0 else (impl_StrideOf c).bind fun x2 => need (x2 ≠ 0) (some (w64 (Int.tdiv 56 x2))))
noncomputable def impl_pageOk_j2  : Option Bool :=
  some true
noncomputable def impl_pageOk_l2 (h : Heap) (page : Int) (x1 : Int) (x4 : Int) : Int → Option (Step Int (Out Unit Bool))
  | x6 => (if decide (x6 < x4) then (impl_StrideOf x1).bind fun x7 => (impl_loadNum ((h.Bytes.take ((w64 ((w64 (page + 1)) * 64)).toNat)).drop ((w64 (page * 64)).toNat)) (w64 (8 + (w64 (x6 * x7)))) 4).bind fun x8 => (impl_within x8 1 7).bind fun x9 => (if !x9 then some (.stop (Out.ret false)) else some (.next (w64 (x6 + 1)))) else some (.stop (Out.brk (()))))
noncomputable def impl_pageOk_m2  : (Out Unit Bool) → Option Bool
  | .brk (()) => impl_pageOk_j2
  | .ret r => some r
noncomputable def impl_pageOk_j1 (h : Heap) (page : Int) (x1 : Int) (x3 : Bool) : Option Bool :=
  (if x3 then some false else (impl_PerPage x1).bind fun x4 => (loop (impl_pageOk_l2 h page x1 x4) 0).bind (impl_pageOk_m2))
noncomputable def impl_pageOk (h : Heap) (page : Int) : Option Bool :=
  (idx h.Class page).bind fun x1 => need (0 ≤ (w64 (page * 64) : Int) ∧ (w64 (page * 64) : Int) ≤ (w64 ((w64 (page + 1)) * 64) : Int) ∧ (w64 ((w64 (page + 1)) * 64) : Int) ≤ (h.Bytes.length : Int)) ((if decide (x1 < 0) then (impl_isZero ((h.Bytes.take ((w64 ((w64 (page + 1)) * 64)).toNat)).drop ((w64 (page * 64)).toNat))).bind fun x2 => some x2 else (idx ((h.Bytes.take ((w64 ((w64 (page + 1)) * 64)).toNat)).drop ((w64 (page * 64)).toNat)) 0).bind fun x10 => (if x10 != 171 then impl_pageOk_j1 h page x1 true else (idx ((h.Bytes.take ((w64 ((w64 (page + 1)) * 64)).toNat)).drop ((w64 (page * 64)).toNat)) 1).bind fun x11 => (if x11 != x1 then impl_pageOk_j1 h page x1 true else (idx ((h.Bytes.take ((w64 ((w64 (page + 1)) * 64)).toNat)).drop ((w64 (page * 64)).toNat)) 2).bind fun x12 => (impl_PerPage x1).bind fun x13 => (if x12 != x13 then impl_pageOk_j1 h page x1 true else need (0 ≤ (3 : Int) ∧ (3 : Int) ≤ (8 : Int) ∧ (8 : Int) ≤ (((h.Bytes.take ((w64 ((w64 (page + 1)) * 64)).toNat)).drop ((w64 (page * 64)).toNat)).length : Int)) ((impl_isZero ((((h.Bytes.take ((w64 ((w64 (page + 1)) * 64)).toNat)).drop ((w64 (page * 64)).toNat)).take ((8 : Int).toNat)).drop ((3 : Int).toNat))).bind fun x14 => impl_pageOk_j1 h page x1 (!x14)))))))
noncomputable def impl_HeapOk_j1  : Option Bool :=
  some true
noncomputable def impl_HeapOk_l1 (h : Heap) : Int → Option (Step Int (Out Unit Bool))
  | x3 => (if decide (x3 < 6) then (impl_pageOk h x3).bind fun x4 => (if !x4 then some (.stop (Out.ret false)) else some (.next (w64 (x3 + 1)))) else some (.stop (Out.brk (()))))
noncomputable def impl_HeapOk_m1  : (Out Unit Bool) → Option Bool
  | .brk (()) => impl_HeapOk_j1
  | .ret r => some r
noncomputable def impl_HeapOk (h : Heap) : Option Bool :=
  (impl_shaped h).bind fun x1 => (if !x1 then some false else (loop (impl_HeapOk_l1 h) 0).bind (impl_HeapOk_m1))
noncomputable def impl_isSlot (slot : Int) : Option Bool :=
  (impl_within slot 0 23).bind fun x1 => some x1
noncomputable def slices_Concat_SList_j2 (x10 : List Raw) : Option ((List Raw)) :=
  some x10
noncomputable def slices_Concat_SList_l2 (slices : List (List Raw)) : ((List Raw) × Int) → Option (Step ((List Raw) × Int) ((List Raw)))
  | (x8, x9) => (if decide (x9 < ((slices.length : Int))) then (idx slices x9).bind fun x11 => need (x8.length + x11.length ≤ 1073741824) (some (.next ((x8 ++ x11, w64 (x9 + 1))))) else some (.stop (x8)))
noncomputable def slices_Concat_SList_m2  : ((List Raw)) → Option ((List Raw))
  | x10 => slices_Concat_SList_j2 x10
noncomputable def slices_Concat_SList_j1 (slices : List (List Raw)) (x5 : Int) : Option ((List Raw)) :=
  need (0 ≤ x5 ∧ x5 ≤ 1073741824) ((loop (slices_Concat_SList_l2 slices) (([], 0))).bind (slices_Concat_SList_m2))
noncomputable def slices_Concat_SList_l1 (slices : List (List Raw)) : (Int × Int) → Option (Step (Int × Int) Int)
  | (x3, x4) => (if decide (x4 < ((slices.length : Int))) then (idx slices x4).bind fun x12 => (if decide ((w64 (x3 + ((x12.length : Int)))) < 0) then none else some (.next ((w64 (x3 + ((x12.length : Int))), w64 (x4 + 1))))) else some (.stop (x3)))
noncomputable def slices_Concat_SList_m1 (slices : List (List Raw)) : Int → Option ((List Raw))
  | x5 => slices_Concat_SList_j1 slices x5
noncomputable def slices_Concat_SList (slices : List (List Raw)) : Option ((List Raw)) :=
  (loop (slices_Concat_SList_l1 slices) ((0, 0))).bind (slices_Concat_SList_m1 slices)
theorem slices_Concat_SList_sizes {u1 u2 : List Raw} (h : u1.length + u2.length ≤ 1073741824) : loop (slices_Concat_SList_l1 [u1, u2]) (0, 0) = some ((u1.length + u2.length : Nat) : Int) := by
  have e1 : w64 (u1.length : Int) = u1.length := w64_id (by omega)
  have e2 : w64 ((u1.length : Int) + (u2.length : Int)) = ((u1.length + u2.length : Nat) : Int) := by rw [w64_id (by omega)]; rfl
  have e3 : w64 (0 + 1) = 1 := w64_id (by omega)
  have e4 : w64 2 = 2 := w64_id (by omega)
  have n1 : ¬ (u1.length : Int) < 0 := by omega
  have n2 : ¬ ((u1.length + u2.length : Nat) : Int) < 0 := by omega
  rw [loop_next (s' := ((u1.length : Int), 1)) ?_, loop_next (s' := (((u1.length + u2.length : Nat) : Int), 2)) ?_, loop_stop (r := ((u1.length + u2.length : Nat) : Int)) ?_]
  · simp [slices_Concat_SList_l1]
  · simp [slices_Concat_SList_l1, idx, e2, e4]
    omega
  · simp [slices_Concat_SList_l1, idx, e1, n1]
    exact e3
theorem slices_Concat_SList_two {u1 u2 : List Raw} {n1 n2 : Nat} (hl : u1.length = n1 ∧ u2.length = n2) (h : n1 + n2 ≤ 1073741824) : slices_Concat_SList [u1, u2] = some (u1 ++ u2) := by
  obtain ⟨rfl, rfl⟩ := hl
  have e3 : w64 (0 + 1) = 1 := w64_id (by omega)
  have e4 : w64 2 = 2 := w64_id (by omega)
  unfold slices_Concat_SList
  rw [slices_Concat_SList_sizes h]
  simp only [Option.bind_some, slices_Concat_SList_m1, slices_Concat_SList_j1]
  rw [need_yes (by omega), loop_next (s' := (u1, 1)) ?_, loop_next (s' := (u1 ++ u2, 2)) ?_, loop_stop (r := u1 ++ u2) ?_]
  · rfl
  · simp [slices_Concat_SList_l2]
  · simp [slices_Concat_SList_l2, idx, e4, need_yes h]
  · have h1 : u1.length ≤ 1073741824 := by omega
    simp [slices_Concat_SList_l2, idx, need_yes h1]
    exact e3
noncomputable def impl_ListsOk_j2  : Option Bool :=
  some true
noncomputable def impl_ListsOk_j4 (x4 : Int) (x12 : List Bool) : Option (Step (Int × (List Bool)) (Out Unit Bool)) :=
  some (.next ((w64 (x4 + 1), x12)))
noncomputable def impl_ListsOk_j5 (x10 : Int) (x11 : List Bool) (x13 : Int) (x14 : Bool) : Option (Step (Int × (List Bool)) (Out ((List Bool)) Bool)) :=
  (if x14 then some (.stop (Out.ret false)) else need (0 ≤ (x13 : Int) ∧ (x13 : Int) < 24) ((idx (x11 : List Bool) x13).bind fun x15 => some (.next ((w64 (x10 + 1), x11.set (x13.toNat) true)))))
noncomputable def impl_ListsOk_l4 (x6 : SList) : (Int × (List Bool)) → Option (Step (Int × (List Bool)) (Out ((List Bool)) Bool))
  | (x10, x11) => (if decide (x10 < ((x6.Slots.length : Int))) then (idx x6.Slots x10).bind fun x13 => (impl_isSlot x13).bind fun x16 => (if !x16 then impl_ListsOk_j5 x10 x11 x13 true else need (0 ≤ (x13 : Int) ∧ (x13 : Int) < 24) ((idx (x11 : List Bool) x13).bind fun x17 => impl_ListsOk_j5 x10 x11 x13 x17)) else some (.stop (Out.brk x11)))
noncomputable def impl_ListsOk_m4 (x4 : Int) : (Out ((List Bool)) Bool) → Option (Step (Int × (List Bool)) (Out Unit Bool))
  | .brk x12 => impl_ListsOk_j4 x4 x12
  | .ret r => some (.stop (Out.ret r))
noncomputable def impl_ListsOk_j3 (x4 : Int) (x5 : List Bool) (x6 : SList) (x7 : Bool) : Option (Step (Int × (List Bool)) (Out Unit Bool)) :=
  (if x7 then some (.stop (Out.ret false)) else (loop (impl_ListsOk_l4 x6) ((0, x5))).bind (impl_ListsOk_m4 x4))
noncomputable def impl_ListsOk_l2 (l : Lists) : (Int × (List Bool)) → Option (Step (Int × (List Bool)) (Out Unit Bool))
  | (x4, x5) => (if decide (x4 < (((l.Own ++ l.Global).length : Int))) then (idx (l.Own ++ l.Global) x4).bind fun x6 => (if decide (x4 < ((l.Own.length : Int))) then impl_ListsOk_j3 x4 x5 x6 (decide (2 < ((x6.Slots.length : Int)))) else impl_ListsOk_j3 x4 x5 x6 false) else some (.stop (Out.brk (()))))
noncomputable def impl_ListsOk_m2  : (Out Unit Bool) → Option Bool
  | .brk (()) => impl_ListsOk_j2
  | .ret r => some r
noncomputable def impl_ListsOk_j1 (l : Lists) (x1 : Bool) : Option Bool :=
  (if x1 then some false else need (l.Own.length + l.Global.length ≤ 1073741824) ((loop (impl_ListsOk_l2 l) ((0, [false, false, false, false, false, false, false, false, false, false, false, false, false, false, false, false, false, false, false, false, false, false, false, false]))).bind (impl_ListsOk_m2)))
noncomputable def impl_ListsOk (l : Lists) : Option Bool :=
  (if ((l.Global.length : Int)) != 3 then impl_ListsOk_j1 l true else impl_ListsOk_j1 l (((l.Own.length : Int)) != 9))
noncomputable def impl_GenAt_j1 (slot : Int) (c : Int) (x1 : Bool) : Option Int :=
  (if x1 then some ((-1)) else (impl_StrideOf c).bind fun x2 => some (w64 ((w64 ((w64 ((w64 (Int.tdiv slot 4)) * 64)) + 8)) + (w64 ((Int.tmod slot 4) * x2)))))
noncomputable def impl_GenAt (slot : Int) (c : Int) : Option Int :=
  (impl_isSlot slot).bind fun x3 => (if !x3 then impl_GenAt_j1 slot c true else (impl_isClass c).bind fun x4 => (if !x4 then impl_GenAt_j1 slot c true else (impl_PerPage c).bind fun x5 => impl_GenAt_j1 slot c (decide (x5 ≤ (Int.tmod slot 4)))))
noncomputable def impl_classIn_j1 (h : Heap) (slot : Int) (x1 : Bool) : Option Int :=
  (if x1 then some ((-1)) else (idx h.Class (w64 (Int.tdiv slot 4))).bind fun x2 => some x2)
noncomputable def impl_classIn (h : Heap) (slot : Int) : Option Int :=
  (impl_isSlot slot).bind fun x3 => (if !x3 then impl_classIn_j1 h slot true else (idx h.Class (w64 (Int.tdiv slot 4))).bind fun x4 => (impl_GenAt slot x4).bind fun x5 => impl_classIn_j1 h slot (decide (x5 < 0)))
noncomputable def impl_ClassAt (h : Heap) (slot : Int) : Option Int :=
  (impl_shaped h).bind fun x1 => (if !x1 then some ((-1)) else (impl_classIn h slot).bind fun x2 => some x2)
noncomputable def impl_GenIn (h : Heap) (slot : Int) : Option Int :=
  (impl_ClassAt h slot).bind fun x1 => (if decide (x1 < 0) then some 0 else (impl_GenAt slot x1).bind fun x2 => (impl_loadNum h.Bytes x2 4).bind fun x3 => some x3)
noncomputable def impl_listFits_j1  : Option Bool :=
  some true
noncomputable def impl_listFits_j2 (x2 : Int) (x4 : Bool) : Option (Step Int (Out Unit Bool)) :=
  (if x4 then some (.stop (Out.ret false)) else some (.next (w64 (x2 + 1))))
noncomputable def impl_listFits_l1 (h : Heap) (s : SList) (c : Int) : Int → Option (Step Int (Out Unit Bool))
  | x2 => (if decide (x2 < ((s.Slots.length : Int))) then (idx s.Slots x2).bind fun x3 => (impl_classIn h x3).bind fun x5 => (if x5 != c then impl_listFits_j2 x2 true else (impl_GenIn h x3).bind fun x6 => impl_listFits_j2 x2 (decide (6 < x6))) else some (.stop (Out.brk (()))))
noncomputable def impl_listFits_m1  : (Out Unit Bool) → Option Bool
  | .brk (()) => impl_listFits_j1
  | .ret r => some r
noncomputable def impl_listFits (h : Heap) (s : SList) (c : Int) : Option Bool :=
  (loop (impl_listFits_l1 h s c) 0).bind (impl_listFits_m1)
noncomputable def impl_MemOk_j3  : Option Bool :=
  some true
noncomputable def impl_MemOk_l3 (m : Mem) : Int → Option (Step Int (Out Unit Bool))
  | x5 => (if decide (x5 < ((m.Lists.Own.length : Int))) then (idx m.Lists.Own x5).bind fun x6 => (impl_listFits m.Heap x6 (Int.tmod x5 3)).bind fun x7 => (if !x7 then some (.stop (Out.ret false)) else some (.next (w64 (x5 + 1)))) else some (.stop (Out.brk (()))))
noncomputable def impl_MemOk_m3  : (Out Unit Bool) → Option Bool
  | .brk (()) => impl_MemOk_j3
  | .ret r => some r
noncomputable def impl_MemOk_j2 (m : Mem) : Option Bool :=
  (loop (impl_MemOk_l3 m) 0).bind (impl_MemOk_m3)
noncomputable def impl_MemOk_l2 (m : Mem) : Int → Option (Step Int (Out Unit Bool))
  | x3 => (if decide (x3 < ((m.Lists.Global.length : Int))) then (idx m.Lists.Global x3).bind fun x8 => (impl_listFits m.Heap x8 x3).bind fun x9 => (if !x9 then some (.stop (Out.ret false)) else some (.next (w64 (x3 + 1)))) else some (.stop (Out.brk (()))))
noncomputable def impl_MemOk_m2 (m : Mem) : (Out Unit Bool) → Option Bool
  | .brk (()) => impl_MemOk_j2 m
  | .ret r => some r
noncomputable def impl_MemOk_j1 (m : Mem) (x1 : Bool) : Option Bool :=
  (if x1 then some false else (loop (impl_MemOk_l2 m) 0).bind (impl_MemOk_m2 m))
noncomputable def impl_MemOk (m : Mem) : Option Bool :=
  (impl_HeapOk m.Heap).bind fun x10 => (if !x10 then impl_MemOk_j1 m true else (impl_ListsOk m.Lists).bind fun x11 => impl_MemOk_j1 m (!x11))
noncomputable def slices_IndexFunc_Pin_j1  : Option Int :=
  some ((-1))
noncomputable def slices_IndexFunc_Pin_l1 (s : List Pin) (f : (Pin → Option Bool)) : Int → Option (Step Int (Out Unit Int))
  | x2 => (if decide (x2 < ((s.length : Int))) then (idx s x2).bind fun x3 => (f x3).bind fun x4 => (if x4 then some (.stop (Out.ret x2)) else some (.next (w64 (x2 + 1)))) else some (.stop (Out.brk (()))))
noncomputable def slices_IndexFunc_Pin_m1  : (Out Unit Int) → Option Int
  | .brk (()) => slices_IndexFunc_Pin_j1
  | .ret r => some r
noncomputable def slices_IndexFunc_Pin (s : List Pin) (f : (Pin → Option Bool)) : Option Int :=
  (loop (slices_IndexFunc_Pin_l1 s f) 0).bind (slices_IndexFunc_Pin_m1)
noncomputable def slices_ContainsFunc_Pin (s : List Pin) (f : (Pin → Option Bool)) : Option Bool :=
  (slices_IndexFunc_Pin s f).bind fun x1 => some (decide (0 ≤ x1))
noncomputable def impl_ClockOk_1_j1 (x1 : Bool) : Option Bool :=
  some x1
noncomputable def impl_ClockOk_1 (p : Pin) (k0 : Clock) : Option Bool :=
  (impl_within p.Epoch 0 k0.Epoch).bind fun x2 => (if !x2 then impl_ClockOk_1_j1 true else (impl_within p.Seen 0 2).bind fun x3 => (if !x3 then impl_ClockOk_1_j1 true else (if !p.On then impl_ClockOk_1_j1 (!(decide (p = (⟨false, 0, false, 0⟩ : Pin)))) else impl_ClockOk_1_j1 false)))
noncomputable def impl_ClockOk_j1 (x1 : Bool) : Option Bool :=
  some x1
noncomputable def impl_ClockOk (c : Clock) : Option Bool :=
  (impl_within c.Epoch 0 100000).bind fun x2 => (if x2 then (if ((c.Pins.length : Int)) == 3 then (slices_ContainsFunc_Pin c.Pins ((fun y0 => impl_ClockOk_1 y0 c))).bind fun x3 => impl_ClockOk_j1 (!x3) else impl_ClockOk_j1 false) else impl_ClockOk_j1 false)
noncomputable def impl_HandleOk_j1 (x1 : Bool) : Option Bool :=
  some x1
noncomputable def impl_HandleOk (h : Int) : Option Bool :=
  (impl_within h 32 223).bind fun x2 => (if x2 then impl_HandleOk_j1 (decide ((Int.tmod h 32) < 24)) else impl_HandleOk_j1 false)
noncomputable def impl_LimboSize_j1 (x5 : Int) : Option Int :=
  some x5
noncomputable def impl_LimboSize_l1 (l : List LList) : (Int × Int) → Option (Step (Int × Int) Int)
  | (x3, x4) => (if decide (x4 < ((l.length : Int))) then (idx l x4).bind fun x6 => some (.next ((w64 (x3 + ((x6.Rows.length : Int))), w64 (x4 + 1)))) else some (.stop (x3)))
noncomputable def impl_LimboSize_m1  : Int → Option Int
  | x5 => impl_LimboSize_j1 x5
noncomputable def impl_LimboSize (l : List LList) : Option Int :=
  (loop (impl_LimboSize_l1 l) ((0, 0))).bind (impl_LimboSize_m1)
noncomputable def impl_LimboOk_j1 (l : List LList) : Option Bool :=
  (impl_LimboSize l).bind fun x5 => some (decide (x5 ≤ 24))
noncomputable def impl_LimboOk_j2 (x3 : Int) (x11 : List Bool) : Option (Step (Int × (List Bool)) (Out Unit Bool)) :=
  some (.next ((w64 (x3 + 1), x11)))
noncomputable def impl_LimboOk_j3 (x9 : Int) (x10 : List Bool) (x12 : LRow) (x13 : Bool) : Option (Step (Int × (List Bool)) (Out ((List Bool)) Bool)) :=
  (if x13 then some (.stop (Out.ret false)) else need (0 ≤ (Int.tmod x12.Handle 32 : Int) ∧ (Int.tmod x12.Handle 32 : Int) < 24) ((idx (x10 : List Bool) (Int.tmod x12.Handle 32)).bind fun x14 => some (.next ((w64 (x9 + 1), x10.set ((Int.tmod x12.Handle 32).toNat) true)))))
noncomputable def impl_LimboOk_l2 (x6 : LList) : (Int × (List Bool)) → Option (Step (Int × (List Bool)) (Out ((List Bool)) Bool))
  | (x9, x10) => (if decide (x9 < ((x6.Rows.length : Int))) then (idx x6.Rows x9).bind fun x12 => (impl_HandleOk x12.Handle).bind fun x15 => (if !x15 then impl_LimboOk_j3 x9 x10 x12 true else (impl_within x12.Epoch 0 100000).bind fun x16 => (if !x16 then impl_LimboOk_j3 x9 x10 x12 true else need (0 ≤ (Int.tmod x12.Handle 32 : Int) ∧ (Int.tmod x12.Handle 32 : Int) < 24) ((idx (x10 : List Bool) (Int.tmod x12.Handle 32)).bind fun x17 => impl_LimboOk_j3 x9 x10 x12 x17))) else some (.stop (Out.brk x10)))
noncomputable def impl_LimboOk_m2 (x3 : Int) : (Out ((List Bool)) Bool) → Option (Step (Int × (List Bool)) (Out Unit Bool))
  | .brk x11 => impl_LimboOk_j2 x3 x11
  | .ret r => some (.stop (Out.ret r))
noncomputable def impl_LimboOk_l1 (l : List LList) : (Int × (List Bool)) → Option (Step (Int × (List Bool)) (Out Unit Bool))
  | (x3, x4) => (if decide (x3 < ((l.length : Int))) then (idx l x3).bind fun x6 => (loop (impl_LimboOk_l2 x6) ((0, x4))).bind (impl_LimboOk_m2 x3) else some (.stop (Out.brk (()))))
noncomputable def impl_LimboOk_m1 (l : List LList) : (Out Unit Bool) → Option Bool
  | .brk (()) => impl_LimboOk_j1 l
  | .ret r => some r
noncomputable def impl_LimboOk (l : List LList) : Option Bool :=
  (if ((l.length : Int)) != 3 then some false else (loop (impl_LimboOk_l1 l) ((0, [false, false, false, false, false, false, false, false, false, false, false, false, false, false, false, false, false, false, false, false, false, false, false, false]))).bind (impl_LimboOk_m1 l))
noncomputable def impl_isLink_j1 (x1 : Bool) : Option Bool :=
  some x1
noncomputable def impl_isLink (h : Int) : Option Bool :=
  (if h == 0 then impl_isLink_j1 true else (impl_HandleOk h).bind fun x2 => impl_isLink_j1 x2)
noncomputable def impl_HazOk_1 (h : Int) : Option Bool :=
  (impl_isLink h).bind fun x1 => some (!x1)
noncomputable def impl_HazOk_j1 (x1 : Bool) : Option Bool :=
  some x1
noncomputable def impl_HazOk (z : List Int) : Option Bool :=
  (if ((z.length : Int)) == 3 then (slices_ContainsFunc_int z ((fun y0 => impl_HazOk_1 y0 ))).bind fun x2 => impl_HazOk_j1 (!x2) else impl_HazOk_j1 false)
noncomputable def slices_IndexFunc_LList_j1  : Option Int :=
  some ((-1))
noncomputable def slices_IndexFunc_LList_l1 (s : List LList) (f : (LList → Option Bool)) : Int → Option (Step Int (Out Unit Int))
  | x2 => (if decide (x2 < ((s.length : Int))) then (idx s x2).bind fun x3 => (f x3).bind fun x4 => (if x4 then some (.stop (Out.ret x2)) else some (.next (w64 (x2 + 1)))) else some (.stop (Out.brk (()))))
noncomputable def slices_IndexFunc_LList_m1  : (Out Unit Int) → Option Int
  | .brk (()) => slices_IndexFunc_LList_j1
  | .ret r => some r
noncomputable def slices_IndexFunc_LList (s : List LList) (f : (LList → Option Bool)) : Option Int :=
  (loop (slices_IndexFunc_LList_l1 s f) 0).bind (slices_IndexFunc_LList_m1)
noncomputable def slices_ContainsFunc_LList (s : List LList) (f : (LList → Option Bool)) : Option Bool :=
  (slices_IndexFunc_LList s f).bind fun x1 => some (decide (0 ≤ x1))
noncomputable def slices_IndexFunc_LRow_j1  : Option Int :=
  some ((-1))
noncomputable def slices_IndexFunc_LRow_l1 (s : List LRow) (f : (LRow → Option Bool)) : Int → Option (Step Int (Out Unit Int))
  | x2 => (if decide (x2 < ((s.length : Int))) then (idx s x2).bind fun x3 => (f x3).bind fun x4 => (if x4 then some (.stop (Out.ret x2)) else some (.next (w64 (x2 + 1)))) else some (.stop (Out.brk (()))))
noncomputable def slices_IndexFunc_LRow_m1  : (Out Unit Int) → Option Int
  | .brk (()) => slices_IndexFunc_LRow_j1
  | .ret r => some r
noncomputable def slices_IndexFunc_LRow (s : List LRow) (f : (LRow → Option Bool)) : Option Int :=
  (loop (slices_IndexFunc_LRow_l1 s f) 0).bind (slices_IndexFunc_LRow_m1)
noncomputable def slices_ContainsFunc_LRow (s : List LRow) (f : (LRow → Option Bool)) : Option Bool :=
  (slices_IndexFunc_LRow s f).bind fun x1 => some (decide (0 ≤ x1))
noncomputable def slices_Index_int_j1  : Option Int :=
  some ((-1))
noncomputable def slices_Index_int_l1 (s : List Int) (v : Int) : Int → Option (Step Int (Out Unit Int))
  | x2 => (if decide (x2 < ((s.length : Int))) then (idx s x2).bind fun x3 => (if v == x3 then some (.stop (Out.ret x2)) else some (.next (w64 (x2 + 1)))) else some (.stop (Out.brk (()))))
noncomputable def slices_Index_int_m1  : (Out Unit Int) → Option Int
  | .brk (()) => slices_Index_int_j1
  | .ret r => some r
noncomputable def slices_Index_int (s : List Int) (v : Int) : Option Int :=
  (loop (slices_Index_int_l1 s v) 0).bind (slices_Index_int_m1)
noncomputable def slices_Contains_int (s : List Int) (v : Int) : Option Bool :=
  (slices_Index_int s v).bind fun x1 => some (decide (0 ≤ x1))
noncomputable def impl_OnList_1 (s : SList) (k0 : Int) : Option Bool :=
  (slices_Contains_int s.Slots k0).bind fun x1 => some x1
noncomputable def slices_IndexFunc_SList_j1  : Option Int :=
  some ((-1))
noncomputable def slices_IndexFunc_SList_l1 (s : List SList) (f : (SList → Option Bool)) : Int → Option (Step Int (Out Unit Int))
  | x2 => (if decide (x2 < ((s.length : Int))) then (idx s x2).bind fun x3 => (f x3).bind fun x4 => (if x4 then some (.stop (Out.ret x2)) else some (.next (w64 (x2 + 1)))) else some (.stop (Out.brk (()))))
noncomputable def slices_IndexFunc_SList_m1  : (Out Unit Int) → Option Int
  | .brk (()) => slices_IndexFunc_SList_j1
  | .ret r => some r
noncomputable def slices_IndexFunc_SList (s : List SList) (f : (SList → Option Bool)) : Option Int :=
  (loop (slices_IndexFunc_SList_l1 s f) 0).bind (slices_IndexFunc_SList_m1)
noncomputable def slices_ContainsFunc_SList (s : List SList) (f : (SList → Option Bool)) : Option Bool :=
  (slices_IndexFunc_SList s f).bind fun x1 => some (decide (0 ≤ x1))
noncomputable def impl_OnList_j1 (x1 : Bool) : Option Bool :=
  some x1
noncomputable def impl_OnList (l : Lists) (slot : Int) : Option Bool :=
  (slices_ContainsFunc_SList l.Global ((fun y0 => impl_OnList_1 y0 slot))).bind fun x2 => (if x2 then impl_OnList_j1 true else (slices_ContainsFunc_SList l.Own ((fun y0 => impl_OnList_1 y0 slot))).bind fun x3 => impl_OnList_j1 x3)
noncomputable def impl_stateOf (m : Mem) (slot : Int) : Option Int :=
  (impl_classIn m.Heap slot).bind fun x1 => (if decide (x1 < 0) then some 0 else (impl_OnList m.Lists slot).bind fun x2 => (if x2 then some 1 else (impl_GenIn m.Heap slot).bind fun x3 => (if decide (6 < x3) then some 2 else some 3)))
noncomputable def impl_isLive_j1 (x1 : Bool) : Option Bool :=
  some x1
noncomputable def impl_isLive (m : Mem) (h : Int) : Option Bool :=
  (impl_HandleOk h).bind fun x2 => (if x2 then (impl_stateOf m (Int.tmod h 32)).bind fun x3 => (if x3 == 3 then (impl_GenIn m.Heap (Int.tmod h 32)).bind fun x4 => impl_isLive_j1 (x4 == (w64 (Int.tdiv h 32))) else impl_isLive_j1 false) else impl_isLive_j1 false)
noncomputable def impl_BaseOk_1_1_j1 (x1 : Bool) : Option Bool :=
  some x1
noncomputable def impl_BaseOk_1_1 (r_ : LRow) (k0 : Base) : Option Bool :=
  (impl_isLive k0.Mem r_.Handle).bind fun x2 => (if !x2 then impl_BaseOk_1_1_j1 true else impl_BaseOk_1_1_j1 (decide (k0.Clock.Epoch < r_.Epoch)))
noncomputable def impl_BaseOk_1 (l : LList) (k0 : Base) : Option Bool :=
  (slices_ContainsFunc_LRow l.Rows ((fun y0 => impl_BaseOk_1_1 y0 k0))).bind fun x1 => some x1
noncomputable def impl_BaseOk_j1 (b : Base) (x1 : Bool) : Option Bool :=
  (if x1 then some false else (slices_ContainsFunc_LList b.Limbo ((fun y0 => impl_BaseOk_1 y0 b))).bind fun x2 => some (!x2))
noncomputable def impl_BaseOk (b : Base) : Option Bool :=
  (impl_MemOk b.Mem).bind fun x3 => (if !x3 then impl_BaseOk_j1 b true else (impl_ClockOk b.Clock).bind fun x4 => (if !x4 then impl_BaseOk_j1 b true else (impl_LimboOk b.Limbo).bind fun x5 => (if !x5 then impl_BaseOk_j1 b true else (impl_HazOk b.Haz).bind fun x6 => impl_BaseOk_j1 b (!x6))))
noncomputable def impl_isWorker (w_ : Int) : Option Bool :=
  (impl_within w_ 0 2).bind fun x1 => some x1
noncomputable def impl_Sub_finish (s : Sub) (code : Int) : Option Sub :=
  some ((⟨s.Kind, s.A, s.Pc, s.E, s.Row, s.B, s.H, s.Out, code, true⟩ : Sub))
noncomputable def impl_ClassOf_j1  : Option Int :=
  some ((-1))
noncomputable def impl_ClassOf_j2 (x2 : Int) (x3 : Bool) : Option (Step Int (Out Unit Int)) :=
  (if x3 then some (.stop (Out.ret x2)) else some (.next (w64 (x2 + 1))))
noncomputable def impl_ClassOf_l1 (size : Int) : Int → Option (Step Int (Out Unit Int))
  | x2 => (if decide (x2 < 3) then (if decide (1 ≤ size) then (impl_SizeOf x2).bind fun x4 => impl_ClassOf_j2 x2 (decide (size ≤ x4)) else impl_ClassOf_j2 x2 false) else some (.stop (Out.brk (()))))
noncomputable def impl_ClassOf_m1  : (Out Unit Int) → Option Int
  | .brk (()) => impl_ClassOf_j1
  | .ret r => some r
noncomputable def impl_ClassOf (size : Int) : Option Int :=
  (loop (impl_ClassOf_l1 size) 0).bind (impl_ClassOf_m1)
noncomputable def impl_OwnAt_j1 (w_ : Int) (c : Int) (x1 : Bool) : Option Int :=
  (if x1 then some ((-1)) else some (w64 ((w64 (w_ * 3)) + c)))
noncomputable def impl_OwnAt (w_ : Int) (c : Int) : Option Int :=
  (impl_isWorker w_).bind fun x2 => (if !x2 then impl_OwnAt_j1 w_ c true else (impl_isClass c).bind fun x3 => impl_OwnAt_j1 w_ c (!x3))
noncomputable def impl_SList_pop (s : SList) : Option (Int × SList) :=
  (if decide ((w64 (((s.Slots.length : Int)) - 1)) < 0) then some (((-1), s)) else (idx s.Slots (w64 (((s.Slots.length : Int)) - 1))).bind fun x1 => need (0 ≤ (w64 (((s.Slots.length : Int)) - 1) : Int) ∧ (w64 (((s.Slots.length : Int)) - 1) : Int) ≤ (w64 (((s.Slots.length : Int)) - 1) : Int) ∧ (w64 (((s.Slots.length : Int)) - 1) : Int) ≤ (s.Slots.length : Int)) (some ((x1, (⟨(s.Slots.take ((w64 (((s.Slots.length : Int)) - 1)).toNat)).drop 0⟩ : SList)))))
noncomputable def impl_TakeOwn_j1 (x1 : Lists) (x2 : Int) (x3 : Bool) : Option (Lists × Int) :=
  (if x3 then some ((x1, (-1))) else (idx x1.Own x2).bind fun x4 => (impl_SList_pop x4).bind fun x5 => some (((⟨x1.Global, x1.Own.set x2.toNat x5.2⟩ : Lists), x5.1)))
noncomputable def impl_TakeOwn (l : Lists) (w_ : Int) (c : Int) : Option (Lists × Int) :=
  (impl_copyLists l).bind fun x1 => (impl_OwnAt w_ c).bind fun x2 => (impl_ListsOk l).bind fun x6 => (if !x6 then impl_TakeOwn_j1 x1 x2 true else impl_TakeOwn_j1 x1 x2 (decide (x2 < 0)))
noncomputable def impl_TakeGlobal_j1 (c : Int) (x1 : Lists) (x2 : Bool) : Option (Lists × Int) :=
  (if x2 then some ((x1, (-1))) else (idx x1.Global c).bind fun x3 => (impl_SList_pop x3).bind fun x4 => some (((⟨x1.Global.set c.toNat x4.2, x1.Own⟩ : Lists), x4.1)))
noncomputable def impl_TakeGlobal (l : Lists) (c : Int) : Option (Lists × Int) :=
  (impl_copyLists l).bind fun x1 => (impl_ListsOk l).bind fun x5 => (if !x5 then impl_TakeGlobal_j1 c x1 true else (impl_isClass c).bind fun x6 => impl_TakeGlobal_j1 c x1 (!x6))
noncomputable def impl_SlotAt_j1 (page : Int) (index : Int) (x1 : Bool) : Option Int :=
  (if x1 then some ((-1)) else some (w64 ((w64 (page * 4)) + index)))
noncomputable def impl_SlotAt (page : Int) (index : Int) : Option Int :=
  (impl_within page 0 5).bind fun x2 => (if !x2 then impl_SlotAt_j1 page index true else (impl_within index 0 3).bind fun x3 => impl_SlotAt_j1 page index (!x3))
noncomputable def impl_putNum_j1 (x5 : List Int) : Option ((List Int)) :=
  some x5
noncomputable def impl_putNum_l1 (at_ : Int) (text : List UInt8) : ((List Int) × Int) → Option (Step ((List Int) × Int) ((List Int)))
  | (x3, x4) => (if decide (x4 < ((text.length : Int))) then (idx text x4).bind fun x6 => (idx x3 (w64 (at_ + x4))).bind fun x7 => some (.next ((x3.set ((w64 (at_ + x4)).toNat) ((x6.toNat : Int)), w64 (x4 + 1)))) else some (.stop (x3)))
noncomputable def impl_putNum_m1  : ((List Int)) → Option ((List Int))
  | x5 => impl_putNum_j1 x5
noncomputable def impl_putNum (b : List Int) (at_ : Int) (text : List UInt8) : Option ((List Int)) :=
  (loop (impl_putNum_l1 at_ text) ((b, 0))).bind (impl_putNum_m1)
noncomputable def impl_isWidth (width : Int) : Option Bool :=
  (impl_within width 1 7).bind fun x1 => some x1
noncomputable def impl_Fixed_j2 (x8 : List UInt8) : Option ((List UInt8)) :=
  some x8
noncomputable def impl_Fixed_l2  : (Int × (List UInt8) × Int) → Option (Step (Int × (List UInt8) × Int) ((List UInt8)))
  | (x5, x6, x7) => (if decide (0 ≤ x7) then (idx x6 x7).bind fun x9 => some (.next ((shrOp .i64 x5 8, x6.set x7.toNat (u8 x5), w64 (x7 - 1)))) else some (.stop (x6)))
noncomputable def impl_Fixed_m2  : ((List UInt8)) → Option ((List UInt8))
  | x8 => impl_Fixed_j2 x8
noncomputable def impl_Fixed_j1 (n : Int) (width : Int) (x1 : Bool) : Option ((List UInt8)) :=
  (if x1 then some ([]) else need (0 ≤ (width : Int) ∧ (width : Int) ≤ 4294967296) ((loop (impl_Fixed_l2) ((n, List.replicate (width.toNat) 0, w64 (width - 1)))).bind (impl_Fixed_m2)))
noncomputable def impl_Fixed (n : Int) (width : Int) : Option ((List UInt8)) :=
  (impl_isWidth width).bind fun x10 => (if !x10 then impl_Fixed_j1 n width true else (if decide (n < 0) then impl_Fixed_j1 n width true else need (0 ≤ (IntKind.u64.wrap (w64 (8 * width)) : Int)) (impl_Fixed_j1 n width (decide ((shlOp .i64 1 (IntKind.u64.wrap (w64 (8 * width)))) ≤ n)))))
noncomputable def impl_Grant_j3 (c : Int) (x1 : Heap) (x2 : Int) (x13 : List Int) (x14 : List Int) : Option (Heap × (List Int)) :=
  some (((⟨x14, x1.Class.set x2.toNat c⟩ : Heap), x13))
noncomputable def impl_Grant_j4 (x10 : List Int) (x11 : Int) (x15 : Int) (x16 : List Int) : Option (Step ((List Int) × Int × (List Int)) ((List Int) × (List Int))) :=
  need (x10.length + ([x15]).length ≤ 1073741824) (some (.next ((x10 ++ ([x15]), w64 (x11 + 1), x16))))
noncomputable def impl_Grant_l3 (c : Int) (x2 : Int) (x6 : Int) : ((List Int) × Int × (List Int)) → Option (Step ((List Int) × Int × (List Int)) ((List Int) × (List Int)))
  | (x10, x11, x12) => (if decide (x11 < x6) then (impl_SlotAt x2 x11).bind fun x15 => (impl_GenAt x15 c).bind fun x17 => (impl_Fixed 1 4).bind fun x18 => (impl_putNum x12 x17 x18).bind fun x19 => impl_Grant_j4 x10 x11 x15 x19 else some (.stop ((x10, x12))))
noncomputable def impl_Grant_m3 (c : Int) (x1 : Heap) (x2 : Int) : ((List Int) × (List Int)) → Option (Heap × (List Int))
  | (x13, x14) => impl_Grant_j3 c x1 x2 x13 x14
noncomputable def impl_Grant_j2 (c : Int) (x1 : Heap) (x2 : Int) (x5 : List Int) : Option (Heap × (List Int)) :=
  (impl_PerPage c).bind fun x6 => (loop (impl_Grant_l3 c x2 x6) ((([] : List Int), 0, x5))).bind (impl_Grant_m3 c x1 x2)
noncomputable def impl_Grant_j1 (c : Int) (x1 : Heap) (x2 : Int) (x3 : Bool) : Option (Heap × (List Int)) :=
  (if x3 then some ((x1, ([] : List Int))) else (idx x1.Class x2).bind fun x4 => need (0 ≤ (w64 (x2 * 64) : Int) ∧ (w64 (x2 * 64) : Int) ≤ (x1.Bytes.length : Int)) <| (impl_PerPage c).bind fun x20 => impl_Grant_j2 c x1 x2 (blitL x1.Bytes ((w64 (x2 * 64)).toNat) (([171, c, x20] : List Int))))
noncomputable def impl_Grant (h : Heap) (c : Int) : Option (Heap × (List Int)) :=
  (impl_copyHeap h).bind fun x1 => (slices_Index_int h.Class ((-1))).bind fun x2 => (impl_HeapOk h).bind fun x21 => (if !x21 then impl_Grant_j1 c x1 x2 true else (impl_isClass c).bind fun x22 => (if !x22 then impl_Grant_j1 c x1 x2 true else impl_Grant_j1 c x1 x2 (decide (x2 < 0))))
noncomputable def impl_granted_j2 (c : Int) (x1 : Heap × (List Int)) (x2 : List SList) (x3 : List SList) (x4 : SList) (x5 : Int) : Option (Mem × Int) :=
  some (((⟨x1.1, (⟨x2.set c.toNat ((⟨x4.Slots ++ ((x1.2.take x1.2.length).drop ((1 : Int).toNat))⟩ : SList)), x3⟩ : Lists)⟩ : Mem), x5))
noncomputable def impl_granted_j1 (c : Int) (x1 : Heap × (List Int)) (x2 : List SList) (x3 : List SList) : Option (Mem × Int) :=
  (if ((x1.2.length : Int)) == 0 then some (((⟨x1.1, (⟨x2, x3⟩ : Lists)⟩ : Mem), (-1))) else (idx x2 c).bind fun x4 => need (0 ≤ (1 : Int) ∧ (1 : Int) ≤ (x1.2.length : Int)) (need (x4.Slots.length + ((x1.2.take x1.2.length).drop ((1 : Int).toNat)).length ≤ 1073741824) ((idx x1.2 0).bind fun x6 => impl_granted_j2 c x1 x2 x3 x4 x6)))
noncomputable def impl_granted (m : Mem) (c : Int) : Option (Mem × Int) :=
  (impl_Grant m.Heap c).bind fun x1 => (impl_copyLists m.Lists).bind fun x7 => impl_granted_j1 c x1 x7.Global x7.Own
noncomputable def impl_HandleOf_j1 (slot : Int) (gen : Int) (x1 : Bool) : Option Int :=
  (if x1 then some 0 else some (w64 ((w64 (gen * 32)) + slot)))
noncomputable def impl_HandleOf (slot : Int) (gen : Int) : Option Int :=
  (impl_isSlot slot).bind fun x2 => (if !x2 then impl_HandleOf_j1 slot gen true else (impl_within gen 1 6).bind fun x3 => impl_HandleOf_j1 slot gen (!x3))
noncomputable def impl_handleIn (m : Mem) (slot : Int) : Option Int :=
  (impl_GenIn m.Heap slot).bind fun x1 => (impl_HandleOf slot x1).bind fun x2 => some x2
noncomputable def impl_Sub_allocStep_j1 (s : Sub) (b : Base) (x3 : Int) (x4 : List Int) (x5 : List Int) (x6 : List SList) (x7 : List SList) : Option (Sub × Base) :=
  (if decide (0 ≤ x3) then (impl_handleIn ((⟨(⟨x4, x5⟩ : Heap), (⟨x6, x7⟩ : Lists)⟩ : Mem)) x3).bind fun x8 => (impl_Sub_finish ((⟨s.Kind, s.A, s.Pc, s.E, s.Row, s.B, s.H, x8, s.Code, s.Done⟩ : Sub)) 0).bind fun x9 => some ((x9, (⟨(⟨(⟨x4, x5⟩ : Heap), (⟨x6, x7⟩ : Lists)⟩ : Mem), b.Clock, b.Limbo, b.Haz⟩ : Base))) else (if s.Pc == 3 then (impl_Sub_finish s 3).bind fun x10 => some ((x10, (⟨(⟨(⟨x4, x5⟩ : Heap), (⟨x6, x7⟩ : Lists)⟩ : Mem), b.Clock, b.Limbo, b.Haz⟩ : Base))) else some (((⟨s.Kind, s.A, w64 (s.Pc + 1), s.E, s.Row, s.B, s.H, s.Out, s.Code, s.Done⟩ : Sub), (⟨(⟨(⟨x4, x5⟩ : Heap), (⟨x6, x7⟩ : Lists)⟩ : Mem), b.Clock, b.Limbo, b.Haz⟩ : Base)))))
noncomputable def impl_Sub_allocStep_j2 (s : Sub) (b : Base) (x1 : Int) (x12 : Bool) : Option (Sub × Base) :=
  (if x12 then (impl_TakeGlobal b.Mem.Lists x1).bind fun x13 => impl_Sub_allocStep_j1 s b x13.2 b.Mem.Heap.Bytes b.Mem.Heap.Class x13.1.Global x13.1.Own else (if s.Pc == 2 then (impl_granted b.Mem x1).bind fun x14 => impl_Sub_allocStep_j1 s b x14.2 x14.1.Heap.Bytes x14.1.Heap.Class x14.1.Lists.Global x14.1.Lists.Own else (impl_Sub_finish s 1).bind fun x15 => some ((x15, b))))
noncomputable def impl_Sub_allocStep (s : Sub) (b : Base) (w_ : Int) : Option (Sub × Base) :=
  (impl_ClassOf s.A).bind fun x1 => (if decide (x1 < 0) then (impl_Sub_finish s 2).bind fun x2 => some ((x2, b)) else (if s.Pc == 0 then (impl_TakeOwn b.Mem.Lists w_ x1).bind fun x11 => impl_Sub_allocStep_j1 s b x11.2 b.Mem.Heap.Bytes b.Mem.Heap.Class x11.1.Global x11.1.Own else (if s.Pc == 1 then impl_Sub_allocStep_j2 s b x1 true else impl_Sub_allocStep_j2 s b x1 (s.Pc == 3))))
noncomputable def impl_InLimbo_1_1_j1 (x1 : Bool) : Option Bool :=
  some x1
noncomputable def impl_InLimbo_1_1 (r_ : LRow) (k0 : Int) : Option Bool :=
  (impl_HandleOk r_.Handle).bind fun x2 => (if x2 then impl_InLimbo_1_1_j1 ((Int.tmod r_.Handle 32) == k0) else impl_InLimbo_1_1_j1 false)
noncomputable def impl_InLimbo_1 (own : LList) (k0 : Int) : Option Bool :=
  (slices_ContainsFunc_LRow own.Rows ((fun y0 => impl_InLimbo_1_1 y0 k0))).bind fun x1 => some x1
noncomputable def impl_InLimbo (l : List LList) (slot : Int) : Option Bool :=
  (slices_ContainsFunc_LList l ((fun y0 => impl_InLimbo_1 y0 slot))).bind fun x1 => some x1
noncomputable def impl_RetireTo_j1 (l : List LList) (w_ : Int) (h : Int) (e_ : Int) (x1 : Bool) : Option ((List LList) × Bool) :=
  (if x1 then (impl_copyLimbo l).bind fun x2 => some ((x2, false)) else (impl_copyLimbo l).bind fun x3 => (idx x3 w_).bind fun x4 => need (x4.Rows.length + ([(⟨h, e_⟩ : LRow)]).length ≤ 1073741824) ((impl_LimboOk (x3.set w_.toNat ((⟨x4.Rows ++ ([(⟨h, e_⟩ : LRow)])⟩ : LList)))).bind fun x5 => (if !x5 then (impl_copyLimbo l).bind fun x6 => some ((x6, false)) else some ((x3.set w_.toNat ((⟨x4.Rows ++ ([(⟨h, e_⟩ : LRow)])⟩ : LList)), true)))))
noncomputable def impl_RetireTo (l : List LList) (w_ : Int) (h : Int) (e_ : Int) : Option ((List LList) × Bool) :=
  (impl_LimboOk l).bind fun x7 => (if !x7 then impl_RetireTo_j1 l w_ h e_ true else (impl_isWorker w_).bind fun x8 => impl_RetireTo_j1 l w_ h e_ (!x8))
noncomputable def impl_Sub_retireStep_j2 (s : Sub) (b : Base) (w_ : Int) (x3 : Bool) : Option (Sub × Base) :=
  (if x3 then (impl_Sub_finish s 4).bind fun x4 => some ((x4, b)) else (impl_RetireTo b.Limbo w_ s.A s.E).bind fun x5 => (impl_Sub_finish s 0).bind fun x6 => some ((x6, (⟨b.Mem, b.Clock, x5.1, b.Haz⟩ : Base))))
noncomputable def impl_Sub_retireStep_j1 (s : Sub) (b : Base) (w_ : Int) (x1 : Bool) : Option (Sub × Base) :=
  (if x1 then (impl_Sub_finish s 1).bind fun x2 => some ((x2, b)) else (impl_isLive b.Mem s.A).bind fun x7 => (if !x7 then impl_Sub_retireStep_j2 s b w_ true else (impl_InLimbo b.Limbo (Int.tmod s.A 32)).bind fun x8 => impl_Sub_retireStep_j2 s b w_ x8))
noncomputable def impl_Sub_retireStep (s : Sub) (b : Base) (w_ : Int) : Option (Sub × Base) :=
  (if s.Pc == 0 then some (((⟨s.Kind, s.A, 1, b.Clock.Epoch, s.Row, s.B, s.H, s.Out, s.Code, s.Done⟩ : Sub), b)) else (if s.Pc != 1 then impl_Sub_retireStep_j1 s b w_ true else (impl_within s.E 0 b.Clock.Epoch).bind fun x9 => impl_Sub_retireStep_j1 s b w_ (!x9)))
noncomputable def impl_LookAt_j2 (w_ : Int) (x1 : Clock) (x4 : Bool) : Option (Clock × Bool) :=
  (if x4 then some ((x1, true)) else (idx x1.Pins w_).bind fun x5 => (if decide (x5.Seen < 2) then some (((⟨x1.Epoch, x1.Pins.set w_.toNat ((⟨x5.On, x5.Epoch, x5.Marked, w64 (x5.Seen + 1)⟩ : Pin))⟩ : Clock), false)) else some (((⟨x1.Epoch, x1.Pins.set w_.toNat ((⟨x5.On, x5.Epoch, true, 0⟩ : Pin))⟩ : Clock), true))))
noncomputable def impl_LookAt_j1 (w_ : Int) (e_ : Int) (x1 : Clock) (x2 : Bool) : Option (Clock × Bool) :=
  (if x2 then some ((x1, false)) else (idx x1.Pins w_).bind fun x3 => (if !x3.On then impl_LookAt_j2 w_ x1 true else (if x3.Marked then impl_LookAt_j2 w_ x1 true else impl_LookAt_j2 w_ x1 (x3.Epoch == e_))))
noncomputable def impl_LookAt (c : Clock) (w_ : Int) (e_ : Int) : Option (Clock × Bool) :=
  (impl_copyClock c).bind fun x1 => (impl_ClockOk c).bind fun x6 => (if !x6 then impl_LookAt_j1 w_ e_ x1 true else (impl_isWorker w_).bind fun x7 => impl_LookAt_j1 w_ e_ x1 (!x7))
noncomputable def impl_Bump_j1 (x1 : Clock) (x2 : Bool) : Option (Clock × Bool) :=
  (if x2 then some ((x1, false)) else some (((⟨w64 (x1.Epoch + 1), x1.Pins⟩ : Clock), true)))
noncomputable def impl_Bump (c : Clock) (e_ : Int) : Option (Clock × Bool) :=
  (impl_copyClock c).bind fun x1 => (impl_ClockOk c).bind fun x3 => (if !x3 then impl_Bump_j1 x1 true else (if c.Epoch != e_ then impl_Bump_j1 x1 true else impl_Bump_j1 x1 (c.Epoch == 100000)))
noncomputable def impl_Sub_advanceStep_j2 (s : Sub) (b : Base) (x4 : Clock × Bool) (x5 : Int) : Option (Sub × Base) :=
  (impl_Sub_finish ((⟨s.Kind, s.A, s.Pc, s.E, s.Row, s.B, s.H, x5, s.Code, s.Done⟩ : Sub)) 0).bind fun x6 => some ((x6, (⟨b.Mem, x4.1, b.Limbo, b.Haz⟩ : Base)))
noncomputable def impl_Sub_advanceStep_j1 (s : Sub) (b : Base) (x1 : Bool) : Option (Sub × Base) :=
  (if x1 then (impl_LookAt b.Clock s.B s.E).bind fun x2 => (if !x2.2 then (impl_Sub_finish s 8).bind fun x3 => some ((x3, (⟨b.Mem, x2.1, b.Limbo, b.Haz⟩ : Base))) else (if (w64 (s.B + 1)) == 3 then some (((⟨s.Kind, s.A, 2, s.E, s.Row, w64 (s.B + 1), s.H, s.Out, s.Code, s.Done⟩ : Sub), (⟨b.Mem, x2.1, b.Limbo, b.Haz⟩ : Base))) else some (((⟨s.Kind, s.A, s.Pc, s.E, s.Row, w64 (s.B + 1), s.H, s.Out, s.Code, s.Done⟩ : Sub), (⟨b.Mem, x2.1, b.Limbo, b.Haz⟩ : Base))))) else (if s.Pc == 2 then (impl_Bump b.Clock s.E).bind fun x4 => (if x4.2 then impl_Sub_advanceStep_j2 s b x4 1 else impl_Sub_advanceStep_j2 s b x4 s.Out) else (impl_Sub_finish s 1).bind fun x7 => some ((x7, b))))
noncomputable def impl_Sub_advanceStep (s : Sub) (b : Base) : Option (Sub × Base) :=
  (if s.Pc == 0 then some (((⟨s.Kind, s.A, 1, b.Clock.Epoch, s.Row, 0, s.H, s.Out, s.Code, s.Done⟩ : Sub), b)) else (if s.Pc == 1 then (impl_isWorker s.B).bind fun x8 => impl_Sub_advanceStep_j1 s b x8 else impl_Sub_advanceStep_j1 s b false))
noncomputable def impl_hasRow_j1 (x1 : Bool) : Option Bool :=
  some x1
noncomputable def impl_hasRow (l : List LList) (w_ : Int) (i : Int) : Option Bool :=
  (impl_isWorker w_).bind fun x2 => (if x2 then (idx l w_).bind fun x3 => (impl_within i 0 (w64 (((x3.Rows.length : Int)) - 1))).bind fun x4 => impl_hasRow_j1 x4 else impl_hasRow_j1 false)
noncomputable def impl_Ripe_j1 (x1 : Bool) : Option Bool :=
  some x1
noncomputable def impl_Ripe (r_ : LRow) (e_ : Int) : Option Bool :=
  (if decide (2 ≤ e_) then impl_Ripe_j1 (decide (r_.Epoch ≤ (w64 (e_ - 2)))) else impl_Ripe_j1 false)
noncomputable def impl_Sub_seekRipe_j1 (s : Sub) (b : Base) : Option (Sub × Base) :=
  (impl_Sub_finish s 0).bind fun x3 => some ((x3, b))
noncomputable def impl_Sub_seekRipe_l1 (s : Sub) (b : Base) (w_ : Int) : Int → Option (Step Int (Out Unit (Sub × Base)))
  | x2 => (idx b.Limbo w_).bind fun x4 => (if decide (x2 < ((x4.Rows.length : Int))) then (idx x4.Rows x2).bind fun x5 => (impl_Ripe x5 s.E).bind fun x6 => (if x6 then some (.stop (Out.ret (((⟨s.Kind, s.A, 2, s.E, x2, 0, x5.Handle, s.Out, s.Code, s.Done⟩ : Sub), b)))) else some (.next (w64 (x2 + 1)))) else some (.stop (Out.brk (()))))
noncomputable def impl_Sub_seekRipe_m1 (s : Sub) (b : Base) : (Out Unit (Sub × Base)) → Option (Sub × Base)
  | .brk (()) => impl_Sub_seekRipe_j1 s b
  | .ret r => some r
noncomputable def impl_Sub_seekRipe (s : Sub) (b : Base) (w_ : Int) : Option (Sub × Base) :=
  (loop (impl_Sub_seekRipe_l1 s b w_) (if s.Row < 0 then 0 else s.Row)).bind (impl_Sub_seekRipe_m1 s b)
noncomputable def slices_Delete_LRow (s : List LRow) (i : Int) (j : Int) : Option ((List LRow)) :=
  need (0 ≤ (i : Int) ∧ (i : Int) ≤ (j : Int) ∧ (j : Int) ≤ ((s.length : Int) : Int) ∧ ((s.length : Int) : Int) ≤ (s.length : Int)) ((if i == j then some s else need (0 ≤ (i : Int) ∧ (i : Int) ≤ (s.length : Int)) (need (0 ≤ (j : Int) ∧ (j : Int) ≤ (s.length : Int)) (need (i.toNat ≤ j.toNat) (need (0 ≤ (((((blitL s i.toNat (s.drop j.toNat)).take (i.toNat + (s.length - j.toNat))).drop 0).length : Int) : Int) ∧ (((((blitL s i.toNat (s.drop j.toNat)).take (i.toNat + (s.length - j.toNat))).drop 0).length : Int) : Int) ≤ ((s.length : Int) : Int) ∧ ((s.length : Int) : Int) ≤ ((blitL s i.toNat (s.drop j.toNat)).length : Int)) (some (((blitL s i.toNat (s.drop j.toNat)).take (i.toNat + (s.length - j.toNat))).drop 0)))))))
noncomputable def impl_DropRow_j1 (w_ : Int) (i : Int) (x1 : (List LList)) (x2 : Bool) : Option ((List LList) × Bool) :=
  (if x2 then some ((x1, false)) else (idx x1 w_).bind fun x3 => (slices_Delete_LRow x3.Rows i (w64 (i + 1))).bind fun x4 => some ((x1.set w_.toNat ((⟨x4⟩ : LList)), true)))
noncomputable def impl_DropRow (l : List LList) (w_ : Int) (i : Int) : Option ((List LList) × Bool) :=
  (impl_copyLimbo l).bind fun x1 => (impl_LimboOk l).bind fun x5 => (if !x5 then impl_DropRow_j1 w_ i x1 true else (impl_hasRow l w_ i).bind fun x6 => impl_DropRow_j1 w_ i x1 (!x6))
noncomputable def impl_SetGen_j3 (x3 : List Int) (x5 : List Int) : Option (Heap × Bool) :=
  some (((⟨x5, x3⟩ : Heap), true))
noncomputable def impl_SetGen_j2 (slot : Int) (gen : Int) (x1 : Int) (x2 : List Int) (x3 : List Int) (x4 : Bool) : Option (Heap × Bool) :=
  (if x4 then some (((⟨x2, x3⟩ : Heap), false)) else (impl_GenAt slot x1).bind fun x6 => (impl_Fixed gen 4).bind fun x7 => (impl_putNum x2 x6 x7).bind fun x8 => impl_SetGen_j3 x3 x8)
noncomputable def impl_SetGen_j1 (slot : Int) (gen : Int) (x1 : Int) (x2 : List Int) (x3 : List Int) : Option (Heap × Bool) :=
  (if decide (x1 < 0) then impl_SetGen_j2 slot gen x1 x2 x3 true else (impl_within gen 1 7).bind fun x9 => impl_SetGen_j2 slot gen x1 x2 x3 (!x9))
noncomputable def impl_SetGen (h : Heap) (slot : Int) (gen : Int) : Option (Heap × Bool) :=
  (impl_copyHeap h).bind fun x10 => (impl_ClassAt h slot).bind fun x11 => impl_SetGen_j1 slot gen x11 x10.Bytes x10.Class
noncomputable def impl_Give_j1 (c : Int) (slot : Int) (x1 : Lists) (x2 : Int) (x3 : Bool) : Option (Lists × Bool) :=
  (if x3 then some ((x1, false)) else (idx x1.Own x2).bind fun x4 => (if decide (2 ≤ ((x4.Slots.length : Int))) then (idx x1.Global c).bind fun x5 => need (x5.Slots.length + ([slot]).length ≤ 1073741824) (some (((⟨x1.Global.set c.toNat ((⟨x5.Slots ++ ([slot])⟩ : SList)), x1.Own⟩ : Lists), true))) else need (x4.Slots.length + ([slot]).length ≤ 1073741824) (some (((⟨x1.Global, x1.Own.set x2.toNat ((⟨x4.Slots ++ ([slot])⟩ : SList))⟩ : Lists), true)))))
noncomputable def impl_Give (l : Lists) (w_ : Int) (c : Int) (slot : Int) : Option (Lists × Bool) :=
  (impl_copyLists l).bind fun x1 => (impl_OwnAt w_ c).bind fun x2 => (impl_ListsOk l).bind fun x6 => (if !x6 then impl_Give_j1 c slot x1 x2 true else (if decide (x2 < 0) then impl_Give_j1 c slot x1 x2 true else (impl_isSlot slot).bind fun x7 => (if !x7 then impl_Give_j1 c slot x1 x2 true else (impl_OnList l slot).bind fun x8 => impl_Give_j1 c slot x1 x2 x8)))
noncomputable def impl_freed_j2 (x1 : Heap × Bool) (x4 : List SList) (x5 : List SList) : Option Mem :=
  some ((⟨x1.1, (⟨x4, x5⟩ : Lists)⟩ : Mem))
noncomputable def impl_freed_j1 (m : Mem) (w_ : Int) (h : Int) (x1 : Heap × Bool) (x2 : List SList) (x3 : List SList) : Option Mem :=
  (if decide ((w64 ((w64 (Int.tdiv h 32)) + 1)) ≤ 6) then (impl_classIn m.Heap (Int.tmod h 32)).bind fun x6 => (impl_Give m.Lists w_ x6 (Int.tmod h 32)).bind fun x7 => impl_freed_j2 x1 x7.1.Global x7.1.Own else impl_freed_j2 x1 x2 x3)
noncomputable def impl_freed (m : Mem) (w_ : Int) (h : Int) : Option Mem :=
  (impl_SetGen m.Heap (Int.tmod h 32) (w64 ((w64 (Int.tdiv h 32)) + 1))).bind fun x1 => (impl_copyLists m.Lists).bind fun x8 => impl_freed_j1 m w_ h x1 x8.Global x8.Own
noncomputable def impl_Sub_collectStep_j3 (s : Sub) (b : Base) (w_ : Int) (x5 : Bool) : Option (Sub × Base) :=
  (if x5 then (impl_DropRow b.Limbo w_ s.Row).bind fun x6 => (impl_freed b.Mem w_ s.H).bind fun x7 => some (((⟨s.Kind, s.A, 1, s.E, s.Row, s.B, s.H, w64 (s.Out + 1), s.Code, s.Done⟩ : Sub), (⟨x7, b.Clock, x6.1, b.Haz⟩ : Base))) else (impl_Sub_finish s 1).bind fun x8 => some ((x8, b)))
noncomputable def impl_Sub_collectStep_j2 (s : Sub) (b : Base) (w_ : Int) (x1 : Bool) (x3 : Bool) : Option (Sub × Base) :=
  (if x3 then (idx b.Haz s.B).bind fun x4 => (if x4 == s.H then some (((⟨s.Kind, s.A, 1, s.E, w64 (s.Row + 1), s.B, s.H, s.Out, s.Code, s.Done⟩ : Sub), b)) else (if (w64 (s.B + 1)) == 3 then some (((⟨s.Kind, s.A, 3, s.E, s.Row, w64 (s.B + 1), s.H, s.Out, s.Code, s.Done⟩ : Sub), b)) else some (((⟨s.Kind, s.A, s.Pc, s.E, s.Row, w64 (s.B + 1), s.H, s.Out, s.Code, s.Done⟩ : Sub), b)))) else (if s.Pc == 3 then (if x1 then (idx b.Limbo w_).bind fun x9 => (idx x9.Rows s.Row).bind fun x10 => (impl_Ripe x10 s.E).bind fun x11 => impl_Sub_collectStep_j3 s b w_ x11 else impl_Sub_collectStep_j3 s b w_ false) else impl_Sub_collectStep_j3 s b w_ false))
noncomputable def impl_Sub_collectStep_j1 (s : Sub) (b : Base) (w_ : Int) (x1 : Bool) : Option (Sub × Base) :=
  (if s.Pc == 0 then some (((⟨s.Kind, s.A, 1, b.Clock.Epoch, 0, s.B, s.H, s.Out, s.Code, s.Done⟩ : Sub), b)) else (if s.Pc == 1 then (impl_Sub_seekRipe s b w_).bind fun x2 => some ((x2.1, x2.2)) else (if s.Pc == 2 then (impl_isWorker s.B).bind fun x12 => (if x12 then impl_Sub_collectStep_j2 s b w_ x1 x1 else impl_Sub_collectStep_j2 s b w_ x1 false) else impl_Sub_collectStep_j2 s b w_ x1 false)))
noncomputable def impl_Sub_collectStep (s : Sub) (b : Base) (w_ : Int) : Option (Sub × Base) :=
  (impl_hasRow b.Limbo w_ s.Row).bind fun x13 => (if x13 then (idx b.Limbo w_).bind fun x14 => (idx x14.Rows s.Row).bind fun x15 => impl_Sub_collectStep_j1 s b w_ (x15.Handle == s.H) else impl_Sub_collectStep_j1 s b w_ false)
noncomputable def impl_PinTo_j1 (w_ : Int) (e_ : Int) (x1 : Clock) (x2 : Bool) : Option (Clock × Bool) :=
  (if x2 then some ((x1, false)) else (idx x1.Pins w_).bind fun x3 => some (((⟨x1.Epoch, x1.Pins.set w_.toNat ((⟨true, e_, false, 0⟩ : Pin))⟩ : Clock), true)))
noncomputable def impl_PinTo (c : Clock) (w_ : Int) (e_ : Int) : Option (Clock × Bool) :=
  (impl_copyClock c).bind fun x1 => (impl_ClockOk c).bind fun x4 => (if !x4 then impl_PinTo_j1 w_ e_ x1 true else (impl_isWorker w_).bind fun x5 => (if !x5 then impl_PinTo_j1 w_ e_ x1 true else (impl_within e_ 0 c.Epoch).bind fun x6 => impl_PinTo_j1 w_ e_ x1 (!x6)))
noncomputable def impl_Sub_pinStep_j1 (s : Sub) (b : Base) (x1 : Bool) (x2 : Int) (x3 : List Pin) : Option (Sub × Base) :=
  (if !x1 then (impl_Sub_finish s 1).bind fun x4 => some ((x4, b)) else some (((⟨s.Kind, s.A, 2, s.E, s.Row, s.B, s.H, s.Out, s.Code, s.Done⟩ : Sub), (⟨b.Mem, (⟨x2, x3⟩ : Clock), b.Limbo, b.Haz⟩ : Base))))
noncomputable def impl_Sub_pinStep (s : Sub) (b : Base) (w_ : Int) : Option (Sub × Base) :=
  (if s.Pc == 0 then some (((⟨s.Kind, s.A, 1, b.Clock.Epoch, s.Row, s.B, s.H, s.Out, s.Code, s.Done⟩ : Sub), b)) else (if s.Pc == 1 then (impl_PinTo b.Clock w_ s.E).bind fun x5 => impl_Sub_pinStep_j1 s b x5.2 x5.1.Epoch x5.1.Pins else (if s.Pc == 2 then (if b.Clock.Epoch == s.E then (impl_Sub_finish s 0).bind fun x6 => some ((x6, b)) else some (((⟨s.Kind, s.A, 0, s.E, s.Row, s.B, s.H, s.Out, s.Code, s.Done⟩ : Sub), b))) else (impl_Sub_finish s 1).bind fun x7 => some ((x7, b)))))
noncomputable def impl_Sub_step (s : Sub) (b : Base) (w_ : Int) : Option (Sub × Base) :=
  (if s.Done then some ((s, b)) else (if s.Kind == 1 then (impl_Sub_allocStep s b w_).bind fun x1 => some ((x1.1, x1.2)) else (if s.Kind == 2 then (impl_Sub_retireStep s b w_).bind fun x2 => some ((x2.1, x2.2)) else (if s.Kind == 3 then (impl_Sub_advanceStep s b).bind fun x3 => some ((x3.1, x3.2)) else (if s.Kind == 4 then (impl_Sub_collectStep s b w_).bind fun x4 => some ((x4.1, x4.2)) else (if s.Kind == 5 then (impl_Sub_pinStep s b w_).bind fun x5 => some ((x5.1, x5.2)) else (impl_Sub_finish s 1).bind fun x6 => some ((x6, b))))))))
noncomputable def impl_SubStep_j1 (w_ : Int) (s : Sub) (x1 : Base) (x2 : Bool) : Option (Base × Sub) :=
  (if x2 then some ((x1, s)) else (impl_Sub_step s x1 w_).bind fun x3 => some ((x3.2, x3.1)))
noncomputable def impl_SubStep (b : Base) (w_ : Int) (s : Sub) : Option (Base × Sub) :=
  (impl_copyBase b).bind fun x1 => (impl_BaseOk b).bind fun x4 => (if !x4 then impl_SubStep_j1 w_ s x1 true else (impl_isWorker w_).bind fun x5 => impl_SubStep_j1 w_ s x1 (!x5))
noncomputable def laws_eqIntS_j1  : Option Bool :=
  some true
noncomputable def laws_eqIntS_l1 (a_ : List Int) (b : List Int) : Int → Option (Step Int (Out Unit Bool))
  | x2 => (if decide (x2 < ((a_.length : Int))) then (idx a_ x2).bind fun x3 => (idx b x2).bind fun x4 => (if x3 != x4 then some (.stop (Out.ret false)) else some (.next (w64 (x2 + 1)))) else some (.stop (Out.brk (()))))
noncomputable def laws_eqIntS_m1  : (Out Unit Bool) → Option Bool
  | .brk (()) => laws_eqIntS_j1
  | .ret r => some r
noncomputable def laws_eqIntS (a_ : List Int) (b : List Int) : Option Bool :=
  (if ((a_.length : Int)) != ((b.length : Int)) then some false else (loop (laws_eqIntS_l1 a_ b) 0).bind (laws_eqIntS_m1))
noncomputable def laws_eqHeap (a_ : Heap) (b : Heap) : Option Bool :=
  (laws_eqIntS a_.Bytes b.Bytes).bind fun x1 => (if !x1 then some false else (laws_eqIntS a_.Class b.Class).bind fun x2 => (if !x2 then some false else some true))
noncomputable def laws_eqSList (a_ : SList) (b : SList) : Option Bool :=
  (laws_eqIntS a_.Slots b.Slots).bind fun x1 => (if !x1 then some false else some true)
noncomputable def laws_eqSListS_j1  : Option Bool :=
  some true
noncomputable def laws_eqSListS_l1 (a_ : List SList) (b : List SList) : Int → Option (Step Int (Out Unit Bool))
  | x2 => (if decide (x2 < ((a_.length : Int))) then (idx a_ x2).bind fun x3 => (idx b x2).bind fun x4 => (laws_eqSList x3 x4).bind fun x5 => (if !x5 then some (.stop (Out.ret false)) else some (.next (w64 (x2 + 1)))) else some (.stop (Out.brk (()))))
noncomputable def laws_eqSListS_m1  : (Out Unit Bool) → Option Bool
  | .brk (()) => laws_eqSListS_j1
  | .ret r => some r
noncomputable def laws_eqSListS (a_ : List SList) (b : List SList) : Option Bool :=
  (if ((a_.length : Int)) != ((b.length : Int)) then some false else (loop (laws_eqSListS_l1 a_ b) 0).bind (laws_eqSListS_m1))
noncomputable def laws_eqLists (a_ : Lists) (b : Lists) : Option Bool :=
  (laws_eqSListS a_.Global b.Global).bind fun x1 => (if !x1 then some false else (laws_eqSListS a_.Own b.Own).bind fun x2 => (if !x2 then some false else some true))
noncomputable def laws_eqMem (a_ : Mem) (b : Mem) : Option Bool :=
  (laws_eqHeap a_.Heap b.Heap).bind fun x1 => (if !x1 then some false else (laws_eqLists a_.Lists b.Lists).bind fun x2 => (if !x2 then some false else some true))
noncomputable def laws_eqPin (a_ : Pin) (b : Pin) : Option Bool :=
  (if !(a_.On == b.On) then some false else (if a_.Epoch != b.Epoch then some false else (if !(a_.Marked == b.Marked) then some false else (if a_.Seen != b.Seen then some false else some true))))
noncomputable def laws_eqPinS_j1  : Option Bool :=
  some true
noncomputable def laws_eqPinS_l1 (a_ : List Pin) (b : List Pin) : Int → Option (Step Int (Out Unit Bool))
  | x2 => (if decide (x2 < ((a_.length : Int))) then (idx a_ x2).bind fun x3 => (idx b x2).bind fun x4 => (laws_eqPin x3 x4).bind fun x5 => (if !x5 then some (.stop (Out.ret false)) else some (.next (w64 (x2 + 1)))) else some (.stop (Out.brk (()))))
noncomputable def laws_eqPinS_m1  : (Out Unit Bool) → Option Bool
  | .brk (()) => laws_eqPinS_j1
  | .ret r => some r
noncomputable def laws_eqPinS (a_ : List Pin) (b : List Pin) : Option Bool :=
  (if ((a_.length : Int)) != ((b.length : Int)) then some false else (loop (laws_eqPinS_l1 a_ b) 0).bind (laws_eqPinS_m1))
noncomputable def laws_eqClock (a_ : Clock) (b : Clock) : Option Bool :=
  (if a_.Epoch != b.Epoch then some false else (laws_eqPinS a_.Pins b.Pins).bind fun x1 => (if !x1 then some false else some true))
noncomputable def laws_eqLRow (a_ : LRow) (b : LRow) : Option Bool :=
  (if a_.Handle != b.Handle then some false else (if a_.Epoch != b.Epoch then some false else some true))
noncomputable def laws_eqLRowS_j1  : Option Bool :=
  some true
noncomputable def laws_eqLRowS_l1 (a_ : List LRow) (b : List LRow) : Int → Option (Step Int (Out Unit Bool))
  | x2 => (if decide (x2 < ((a_.length : Int))) then (idx a_ x2).bind fun x3 => (idx b x2).bind fun x4 => (laws_eqLRow x3 x4).bind fun x5 => (if !x5 then some (.stop (Out.ret false)) else some (.next (w64 (x2 + 1)))) else some (.stop (Out.brk (()))))
noncomputable def laws_eqLRowS_m1  : (Out Unit Bool) → Option Bool
  | .brk (()) => laws_eqLRowS_j1
  | .ret r => some r
noncomputable def laws_eqLRowS (a_ : List LRow) (b : List LRow) : Option Bool :=
  (if ((a_.length : Int)) != ((b.length : Int)) then some false else (loop (laws_eqLRowS_l1 a_ b) 0).bind (laws_eqLRowS_m1))
noncomputable def laws_eqLList (a_ : LList) (b : LList) : Option Bool :=
  (laws_eqLRowS a_.Rows b.Rows).bind fun x1 => (if !x1 then some false else some true)
noncomputable def laws_eqLListS_j1  : Option Bool :=
  some true
noncomputable def laws_eqLListS_l1 (a_ : List LList) (b : List LList) : Int → Option (Step Int (Out Unit Bool))
  | x2 => (if decide (x2 < ((a_.length : Int))) then (idx a_ x2).bind fun x3 => (idx b x2).bind fun x4 => (laws_eqLList x3 x4).bind fun x5 => (if !x5 then some (.stop (Out.ret false)) else some (.next (w64 (x2 + 1)))) else some (.stop (Out.brk (()))))
noncomputable def laws_eqLListS_m1  : (Out Unit Bool) → Option Bool
  | .brk (()) => laws_eqLListS_j1
  | .ret r => some r
noncomputable def laws_eqLListS (a_ : List LList) (b : List LList) : Option Bool :=
  (if ((a_.length : Int)) != ((b.length : Int)) then some false else (loop (laws_eqLListS_l1 a_ b) 0).bind (laws_eqLListS_m1))
noncomputable def laws_eqBase (a_ : Base) (b : Base) : Option Bool :=
  (laws_eqMem a_.Mem b.Mem).bind fun x1 => (if !x1 then some false else (laws_eqClock a_.Clock b.Clock).bind fun x2 => (if !x2 then some false else (laws_eqLListS a_.Limbo b.Limbo).bind fun x3 => (if !x3 then some false else (laws_eqIntS a_.Haz b.Haz).bind fun x4 => (if !x4 then some false else some true))))
noncomputable def laws_eqSub (a_ : Sub) (b : Sub) : Option Bool :=
  (if a_.Kind != b.Kind then some false else (if a_.A != b.A then some false else (if a_.Pc != b.Pc then some false else (if a_.E != b.E then some false else (if a_.Row != b.Row then some false else (if a_.B != b.B then some false else (if a_.H != b.H then some false else (if a_.Out != b.Out then some false else (if a_.Code != b.Code then some false else (if !(a_.Done == b.Done) then some false else some true))))))))))
noncomputable def laws_markIntS_j1 (x7 : List Int) (x8 : Int) : Option (Int × (List Int)) :=
  some ((x8, x7))
noncomputable def laws_markIntS_l1  : ((List Int) × Int × Int) → Option (Step ((List Int) × Int × Int) ((List Int) × Int))
  | (x4, x5, x6) => (if decide (x6 < ((x4.length : Int))) then (idx x4 x6).bind fun x9 => some (.next ((x4.set (x6.toNat) x5, w64 (x5 + 1), w64 (x6 + 1)))) else some (.stop ((x4, x5))))
noncomputable def laws_markIntS_m1  : ((List Int) × Int) → Option (Int × (List Int))
  | (x7, x8) => laws_markIntS_j1 x7 x8
noncomputable def laws_markIntS (a_ : List Int) (k : Int) : Option (Int × (List Int)) :=
  (loop (laws_markIntS_l1) ((a_, k, 0))).bind (laws_markIntS_m1)
noncomputable def laws_markHeap (a_ : Heap) (k : Int) : Option (Int × (List Int) × (List Int)) :=
  (laws_markIntS a_.Bytes k).bind fun x1 => (laws_markIntS a_.Class x1.1).bind fun x2 => some ((x2.1, x1.2, x2.2))
noncomputable def laws_markSListS_j1 (x7 : List SList) (x8 : Int) : Option (Int × (List SList)) :=
  some ((x8, x7))
noncomputable def laws_markSListS_l1  : ((List SList) × Int × Int) → Option (Step ((List SList) × Int × Int) ((List SList) × Int))
  | (x4, x5, x6) => (if decide (x6 < ((x4.length : Int))) then (idx x4 x6).bind fun x9 => (laws_markIntS x9.Slots x5).bind fun x10 => some (.next ((x4.set x6.toNat ((⟨x10.2⟩ : SList)), x10.1, w64 (x6 + 1)))) else some (.stop ((x4, x5))))
noncomputable def laws_markSListS_m1  : ((List SList) × Int) → Option (Int × (List SList))
  | (x7, x8) => laws_markSListS_j1 x7 x8
noncomputable def laws_markSListS (a_ : List SList) (k : Int) : Option (Int × (List SList)) :=
  (loop (laws_markSListS_l1) ((a_, k, 0))).bind (laws_markSListS_m1)
noncomputable def laws_markLists (a_ : Lists) (k : Int) : Option (Int × (List SList) × (List SList)) :=
  (laws_markSListS a_.Global k).bind fun x1 => (laws_markSListS a_.Own x1.1).bind fun x2 => some ((x2.1, x1.2, x2.2))
noncomputable def laws_markMem (a_ : Mem) (k : Int) : Option (Int × (List Int) × (List Int) × (List SList) × (List SList)) :=
  (laws_markHeap a_.Heap k).bind fun x1 => (laws_markLists a_.Lists x1.1).bind fun x2 => some ((x2.1, x1.2.1, x1.2.2, x2.2.1, x2.2.2))
noncomputable def laws_markPinS_j1 (x7 : List Pin) (x8 : Int) : Option (Int × (List Pin)) :=
  some ((x8, x7))
noncomputable def laws_markPinS_l1  : ((List Pin) × Int × Int) → Option (Step ((List Pin) × Int × Int) ((List Pin) × Int))
  | (x4, x5, x6) => (if decide (x6 < ((x4.length : Int))) then (idx x4 x6).bind fun x9 => (idx (x4.set (x6.toNat) ((⟨(Int.tmod x5 3) == 0, x9.Epoch, x9.Marked, x9.Seen⟩ : Pin))) x6).bind fun x10 => (idx ((x4.set (x6.toNat) ((⟨(Int.tmod x5 3) == 0, x9.Epoch, x9.Marked, x9.Seen⟩ : Pin))).set (x6.toNat) ((⟨x10.On, w64 (x5 + 1), x10.Marked, x10.Seen⟩ : Pin))) x6).bind fun x11 => (idx (((x4.set (x6.toNat) ((⟨(Int.tmod x5 3) == 0, x9.Epoch, x9.Marked, x9.Seen⟩ : Pin))).set (x6.toNat) ((⟨x10.On, w64 (x5 + 1), x10.Marked, x10.Seen⟩ : Pin))).set (x6.toNat) ((⟨x11.On, x11.Epoch, (Int.tmod (w64 ((w64 (x5 + 1)) + 1)) 3) == 0, x11.Seen⟩ : Pin))) x6).bind fun x12 => some (.next (((((x4.set (x6.toNat) ((⟨(Int.tmod x5 3) == 0, x9.Epoch, x9.Marked, x9.Seen⟩ : Pin))).set (x6.toNat) ((⟨x10.On, w64 (x5 + 1), x10.Marked, x10.Seen⟩ : Pin))).set (x6.toNat) ((⟨x11.On, x11.Epoch, (Int.tmod (w64 ((w64 (x5 + 1)) + 1)) 3) == 0, x11.Seen⟩ : Pin))).set (x6.toNat) ((⟨x12.On, x12.Epoch, x12.Marked, w64 ((w64 ((w64 (x5 + 1)) + 1)) + 1)⟩ : Pin)), w64 ((w64 ((w64 ((w64 (x5 + 1)) + 1)) + 1)) + 1), w64 (x6 + 1)))) else some (.stop ((x4, x5))))
noncomputable def laws_markPinS_m1  : ((List Pin) × Int) → Option (Int × (List Pin))
  | (x7, x8) => laws_markPinS_j1 x7 x8
noncomputable def laws_markPinS (a_ : List Pin) (k : Int) : Option (Int × (List Pin)) :=
  (loop (laws_markPinS_l1) ((a_, k, 0))).bind (laws_markPinS_m1)
noncomputable def laws_markClock (a_ : Clock) (k : Int) : Option (Int × (List Pin)) :=
  (laws_markPinS a_.Pins k).bind fun x1 => some ((x1.1, x1.2))
noncomputable def laws_markLRowS_j1 (x7 : List LRow) (x8 : Int) : Option (Int × (List LRow)) :=
  some ((x8, x7))
noncomputable def laws_markLRowS_l1  : ((List LRow) × Int × Int) → Option (Step ((List LRow) × Int × Int) ((List LRow) × Int))
  | (x4, x5, x6) => (if decide (x6 < ((x4.length : Int))) then (idx x4 x6).bind fun x9 => (idx (x4.set (x6.toNat) ((⟨x5, x9.Epoch⟩ : LRow))) x6).bind fun x10 => some (.next (((x4.set (x6.toNat) ((⟨x5, x9.Epoch⟩ : LRow))).set (x6.toNat) ((⟨x10.Handle, w64 (x5 + 1)⟩ : LRow)), w64 ((w64 (x5 + 1)) + 1), w64 (x6 + 1)))) else some (.stop ((x4, x5))))
noncomputable def laws_markLRowS_m1  : ((List LRow) × Int) → Option (Int × (List LRow))
  | (x7, x8) => laws_markLRowS_j1 x7 x8
noncomputable def laws_markLRowS (a_ : List LRow) (k : Int) : Option (Int × (List LRow)) :=
  (loop (laws_markLRowS_l1) ((a_, k, 0))).bind (laws_markLRowS_m1)
noncomputable def laws_markLListS_j1 (x7 : List LList) (x8 : Int) : Option (Int × (List LList)) :=
  some ((x8, x7))
noncomputable def laws_markLListS_l1  : ((List LList) × Int × Int) → Option (Step ((List LList) × Int × Int) ((List LList) × Int))
  | (x4, x5, x6) => (if decide (x6 < ((x4.length : Int))) then (idx x4 x6).bind fun x9 => (laws_markLRowS x9.Rows x5).bind fun x10 => some (.next ((x4.set x6.toNat ((⟨x10.2⟩ : LList)), x10.1, w64 (x6 + 1)))) else some (.stop ((x4, x5))))
noncomputable def laws_markLListS_m1  : ((List LList) × Int) → Option (Int × (List LList))
  | (x7, x8) => laws_markLListS_j1 x7 x8
noncomputable def laws_markLListS (a_ : List LList) (k : Int) : Option (Int × (List LList)) :=
  (loop (laws_markLListS_l1) ((a_, k, 0))).bind (laws_markLListS_m1)
noncomputable def laws_markBase (a_ : Base) (k : Int) : Option (Int × (List Int) × (List Int) × (List SList) × (List SList) × (List Pin) × (List LList) × (List Int)) :=
  (laws_markMem a_.Mem k).bind fun x1 => (laws_markClock a_.Clock x1.1).bind fun x2 => (laws_markLListS a_.Limbo x2.1).bind fun x3 => (laws_markIntS a_.Haz x3.1).bind fun x4 => some ((x4.1, x1.2.1, x1.2.2.1, x1.2.2.2.1, x1.2.2.2.2, x2.2, x3.2, x4.2))
noncomputable def laws_heldIntS_j1 (x5 : Int) : Option Int :=
  some x5
noncomputable def laws_heldIntS_l1 (a_ : List Int) : (Int × Int) → Option (Step (Int × Int) (Out Int Int))
  | (x3, x4) => (if decide (x4 < ((a_.length : Int))) then (idx a_ x4).bind fun x6 => (if x6 != x3 then some (.stop (Out.ret ((-1)))) else some (.next ((w64 (x3 + 1), w64 (x4 + 1))))) else some (.stop (Out.brk x3)))
noncomputable def laws_heldIntS_m1  : (Out Int Int) → Option Int
  | .brk x5 => laws_heldIntS_j1 x5
  | .ret r => some r
noncomputable def laws_heldIntS (a_ : List Int) (k : Int) : Option Int :=
  (loop (laws_heldIntS_l1 a_) ((k, 0))).bind (laws_heldIntS_m1)
noncomputable def laws_heldHeap (a_ : Heap) (k : Int) : Option Int :=
  (laws_heldIntS a_.Bytes k).bind fun x1 => (if decide (x1 < 0) then some ((-1)) else (laws_heldIntS a_.Class x1).bind fun x2 => (if decide (x2 < 0) then some ((-1)) else some x2))
noncomputable def laws_heldSListS_j1 (x5 : Int) : Option Int :=
  some x5
noncomputable def laws_heldSListS_l1 (a_ : List SList) : (Int × Int) → Option (Step (Int × Int) (Out Int Int))
  | (x3, x4) => (if decide (x4 < ((a_.length : Int))) then (idx a_ x4).bind fun x6 => (laws_heldIntS x6.Slots x3).bind fun x7 => (if decide (x7 < 0) then some (.stop (Out.ret ((-1)))) else some (.next ((x7, w64 (x4 + 1))))) else some (.stop (Out.brk x3)))
noncomputable def laws_heldSListS_m1  : (Out Int Int) → Option Int
  | .brk x5 => laws_heldSListS_j1 x5
  | .ret r => some r
noncomputable def laws_heldSListS (a_ : List SList) (k : Int) : Option Int :=
  (loop (laws_heldSListS_l1 a_) ((k, 0))).bind (laws_heldSListS_m1)
noncomputable def laws_heldLists (a_ : Lists) (k : Int) : Option Int :=
  (laws_heldSListS a_.Global k).bind fun x1 => (if decide (x1 < 0) then some ((-1)) else (laws_heldSListS a_.Own x1).bind fun x2 => (if decide (x2 < 0) then some ((-1)) else some x2))
noncomputable def laws_heldMem (a_ : Mem) (k : Int) : Option Int :=
  (laws_heldHeap a_.Heap k).bind fun x1 => (if decide (x1 < 0) then some ((-1)) else (laws_heldLists a_.Lists x1).bind fun x2 => (if decide (x2 < 0) then some ((-1)) else some x2))
noncomputable def laws_heldPinS_j1 (x5 : Int) : Option Int :=
  some x5
noncomputable def laws_heldPinS_l1 (a_ : List Pin) : (Int × Int) → Option (Step (Int × Int) (Out Int Int))
  | (x3, x4) => (if decide (x4 < ((a_.length : Int))) then (idx a_ x4).bind fun x6 => (if !(x6.On == ((Int.tmod x3 3) == 0)) then some (.stop (Out.ret ((-1)))) else (idx a_ x4).bind fun x7 => (if x7.Epoch != (w64 (x3 + 1)) then some (.stop (Out.ret ((-1)))) else (idx a_ x4).bind fun x8 => (if !(x8.Marked == ((Int.tmod (w64 ((w64 (x3 + 1)) + 1)) 3) == 0)) then some (.stop (Out.ret ((-1)))) else (idx a_ x4).bind fun x9 => (if x9.Seen != (w64 ((w64 ((w64 (x3 + 1)) + 1)) + 1)) then some (.stop (Out.ret ((-1)))) else some (.next ((w64 ((w64 ((w64 ((w64 (x3 + 1)) + 1)) + 1)) + 1), w64 (x4 + 1)))))))) else some (.stop (Out.brk x3)))
noncomputable def laws_heldPinS_m1  : (Out Int Int) → Option Int
  | .brk x5 => laws_heldPinS_j1 x5
  | .ret r => some r
noncomputable def laws_heldPinS (a_ : List Pin) (k : Int) : Option Int :=
  (loop (laws_heldPinS_l1 a_) ((k, 0))).bind (laws_heldPinS_m1)
noncomputable def laws_heldClock (a_ : Clock) (k : Int) : Option Int :=
  (laws_heldPinS a_.Pins k).bind fun x1 => (if decide (x1 < 0) then some ((-1)) else some x1)
noncomputable def laws_heldLRowS_j1 (x5 : Int) : Option Int :=
  some x5
noncomputable def laws_heldLRowS_l1 (a_ : List LRow) : (Int × Int) → Option (Step (Int × Int) (Out Int Int))
  | (x3, x4) => (if decide (x4 < ((a_.length : Int))) then (idx a_ x4).bind fun x6 => (if x6.Handle != x3 then some (.stop (Out.ret ((-1)))) else (idx a_ x4).bind fun x7 => (if x7.Epoch != (w64 (x3 + 1)) then some (.stop (Out.ret ((-1)))) else some (.next ((w64 ((w64 (x3 + 1)) + 1), w64 (x4 + 1)))))) else some (.stop (Out.brk x3)))
noncomputable def laws_heldLRowS_m1  : (Out Int Int) → Option Int
  | .brk x5 => laws_heldLRowS_j1 x5
  | .ret r => some r
noncomputable def laws_heldLRowS (a_ : List LRow) (k : Int) : Option Int :=
  (loop (laws_heldLRowS_l1 a_) ((k, 0))).bind (laws_heldLRowS_m1)
noncomputable def laws_heldLListS_j1 (x5 : Int) : Option Int :=
  some x5
noncomputable def laws_heldLListS_l1 (a_ : List LList) : (Int × Int) → Option (Step (Int × Int) (Out Int Int))
  | (x3, x4) => (if decide (x4 < ((a_.length : Int))) then (idx a_ x4).bind fun x6 => (laws_heldLRowS x6.Rows x3).bind fun x7 => (if decide (x7 < 0) then some (.stop (Out.ret ((-1)))) else some (.next ((x7, w64 (x4 + 1))))) else some (.stop (Out.brk x3)))
noncomputable def laws_heldLListS_m1  : (Out Int Int) → Option Int
  | .brk x5 => laws_heldLListS_j1 x5
  | .ret r => some r
noncomputable def laws_heldLListS (a_ : List LList) (k : Int) : Option Int :=
  (loop (laws_heldLListS_l1 a_) ((k, 0))).bind (laws_heldLListS_m1)
noncomputable def laws_heldBase (a_ : Base) (k : Int) : Option Int :=
  (laws_heldMem a_.Mem k).bind fun x1 => (if decide (x1 < 0) then some ((-1)) else (laws_heldClock a_.Clock x1).bind fun x2 => (if decide (x2 < 0) then some ((-1)) else (laws_heldLListS a_.Limbo x2).bind fun x3 => (if decide (x3 < 0) then some ((-1)) else (laws_heldIntS a_.Haz x3).bind fun x4 => (if decide (x4 < 0) then some ((-1)) else some x4))))
noncomputable def laws_FnExactSubStep_j6 (x25 : Int) (x44 : Int × (List Int) × (List Int) × (List SList) × (List SList) × (List Pin) × (List LList) × (List Int)) (x64 : Bool) : Option Bool :=
  (if x64 then some false else (laws_heldBase ((⟨(⟨(⟨x44.2.1, x44.2.2.1⟩ : Heap), (⟨x44.2.2.2.1, x44.2.2.2.2.1⟩ : Lists)⟩ : Mem), (⟨x25, x44.2.2.2.2.2.1⟩ : Clock), x44.2.2.2.2.2.2.1, x44.2.2.2.2.2.2.2⟩ : Base)) 1).bind fun x65 => (if decide (x65 < 0) then some false else (if x65 != x44.1 then some false else some true)))
noncomputable def laws_FnExactSubStep_j5 (x2 : List Int) (x3 : List Int) (x4 : List SList) (x5 : List SList) (x6 : Int) (x7 : List Pin) (x8 : List LList) (x9 : List Int) (x10 : Int) (x11 : Int) (x12 : Int) (x13 : Int) (x14 : Int) (x15 : Int) (x16 : Int) (x17 : Int) (x18 : Int) (x19 : Bool) (x25 : Int) (x44 : Int × (List Int) × (List Int) × (List SList) × (List SList) × (List Pin) × (List LList) × (List Int)) (x46 : List Int) (x47 : List Int) (x48 : List SList) (x49 : List SList) (x50 : Int) (x51 : List Pin) (x52 : List LList) (x53 : List Int) (x54 : Int) (x55 : Int) (x56 : Int) (x57 : Int) (x58 : Int) (x59 : Int) (x60 : Int) (x61 : Int) (x62 : Int) (x63 : Bool) : Option Bool :=
  (laws_eqBase ((⟨(⟨(⟨x46, x47⟩ : Heap), (⟨x48, x49⟩ : Lists)⟩ : Mem), (⟨x50, x51⟩ : Clock), x52, x53⟩ : Base)) ((⟨(⟨(⟨x2, x3⟩ : Heap), (⟨x4, x5⟩ : Lists)⟩ : Mem), (⟨x6, x7⟩ : Clock), x8, x9⟩ : Base))).bind fun x66 => (if !x66 then laws_FnExactSubStep_j6 x25 x44 true else (laws_eqSub ((⟨x54, x55, x56, x57, x58, x59, x60, x61, x62, x63⟩ : Sub)) ((⟨x10, x11, x12, x13, x14, x15, x16, x17, x18, x19⟩ : Sub))).bind fun x67 => laws_FnExactSubStep_j6 x25 x44 (!x67))
noncomputable def laws_FnExactSubStep_j4 (aB : Base) (aW : Int) (aS : Sub) (x2 : List Int) (x3 : List Int) (x4 : List SList) (x5 : List SList) (x6 : Int) (x7 : List Pin) (x8 : List LList) (x9 : List Int) (x10 : Int) (x11 : Int) (x12 : Int) (x13 : Int) (x14 : Int) (x15 : Int) (x16 : Int) (x17 : Int) (x18 : Int) (x19 : Bool) (x21 : List Int) (x22 : List Int) (x23 : List SList) (x24 : List SList) (x25 : Int) (x26 : List Pin) (x27 : List LList) (x28 : List Int) (x43 : Bool) : Option Bool :=
  (if x43 then some false else (laws_markBase ((⟨(⟨(⟨x21, x22⟩ : Heap), (⟨x23, x24⟩ : Lists)⟩ : Mem), (⟨x25, x26⟩ : Clock), x27, x28⟩ : Base)) 1).bind fun x44 => (laws_heldBase ((⟨(⟨(⟨x44.2.1, x44.2.2.1⟩ : Heap), (⟨x44.2.2.2.1, x44.2.2.2.2.1⟩ : Lists)⟩ : Mem), (⟨x25, x44.2.2.2.2.2.1⟩ : Clock), x44.2.2.2.2.2.2.1, x44.2.2.2.2.2.2.2⟩ : Base)) 1).bind fun x45 => (if decide (x45 < 0) then some false else (if x45 != x44.1 then some false else (laws_toBase aB).bind fun x68 => (laws_toSub aS).bind fun x69 => (impl_SubStep x68 aW x69).bind fun x70 => laws_FnExactSubStep_j5 x2 x3 x4 x5 x6 x7 x8 x9 x10 x11 x12 x13 x14 x15 x16 x17 x18 x19 x25 x44 x70.1.Mem.Heap.Bytes x70.1.Mem.Heap.Class x70.1.Mem.Lists.Global x70.1.Mem.Lists.Own x70.1.Clock.Epoch x70.1.Clock.Pins x70.1.Limbo x70.1.Haz x70.2.Kind x70.2.A x70.2.Pc x70.2.E x70.2.Row x70.2.B x70.2.H x70.2.Out x70.2.Code x70.2.Done)))
noncomputable def laws_FnExactSubStep_j3 (aB : Base) (aW : Int) (aS : Sub) (x2 : List Int) (x3 : List Int) (x4 : List SList) (x5 : List SList) (x6 : Int) (x7 : List Pin) (x8 : List LList) (x9 : List Int) (x10 : Int) (x11 : Int) (x12 : Int) (x13 : Int) (x14 : Int) (x15 : Int) (x16 : Int) (x17 : Int) (x18 : Int) (x19 : Bool) (x20 : Base) (x21 : List Int) (x22 : List Int) (x23 : List SList) (x24 : List SList) (x25 : Int) (x26 : List Pin) (x27 : List LList) (x28 : List Int) (x29 : Int) (x30 : Int) (x31 : Int) (x32 : Int) (x33 : Int) (x34 : Int) (x35 : Int) (x36 : Int) (x37 : Int) (x38 : Bool) (x39 : Bool) : Option Bool :=
  (if x39 then some false else (laws_toBase aB).bind fun x40 => (laws_eqBase x20 x40).bind fun x41 => (if !x41 then some false else (laws_markBase x20 1).bind fun x42 => (if decide (x42.1 < 0) then laws_FnExactSubStep_j4 aB aW aS x2 x3 x4 x5 x6 x7 x8 x9 x10 x11 x12 x13 x14 x15 x16 x17 x18 x19 x21 x22 x23 x24 x25 x26 x27 x28 true else (laws_eqBase ((⟨(⟨(⟨x21, x22⟩ : Heap), (⟨x23, x24⟩ : Lists)⟩ : Mem), (⟨x25, x26⟩ : Clock), x27, x28⟩ : Base)) ((⟨(⟨(⟨x2, x3⟩ : Heap), (⟨x4, x5⟩ : Lists)⟩ : Mem), (⟨x6, x7⟩ : Clock), x8, x9⟩ : Base))).bind fun x71 => (if !x71 then laws_FnExactSubStep_j4 aB aW aS x2 x3 x4 x5 x6 x7 x8 x9 x10 x11 x12 x13 x14 x15 x16 x17 x18 x19 x21 x22 x23 x24 x25 x26 x27 x28 true else (laws_eqSub ((⟨x29, x30, x31, x32, x33, x34, x35, x36, x37, x38⟩ : Sub)) ((⟨x10, x11, x12, x13, x14, x15, x16, x17, x18, x19⟩ : Sub))).bind fun x72 => laws_FnExactSubStep_j4 aB aW aS x2 x3 x4 x5 x6 x7 x8 x9 x10 x11 x12 x13 x14 x15 x16 x17 x18 x19 x21 x22 x23 x24 x25 x26 x27 x28 (!x72)))))
noncomputable def laws_FnExactSubStep_j2 (aB : Base) (aW : Int) (aS : Sub) (x2 : List Int) (x3 : List Int) (x4 : List SList) (x5 : List SList) (x6 : Int) (x7 : List Pin) (x8 : List LList) (x9 : List Int) (x10 : Int) (x11 : Int) (x12 : Int) (x13 : Int) (x14 : Int) (x15 : Int) (x16 : Int) (x17 : Int) (x18 : Int) (x19 : Bool) (x20 : Base) (x21 : List Int) (x22 : List Int) (x23 : List SList) (x24 : List SList) (x25 : Int) (x26 : List Pin) (x27 : List LList) (x28 : List Int) (x29 : Int) (x30 : Int) (x31 : Int) (x32 : Int) (x33 : Int) (x34 : Int) (x35 : Int) (x36 : Int) (x37 : Int) (x38 : Bool) : Option Bool :=
  (laws_eqBase ((⟨(⟨(⟨x21, x22⟩ : Heap), (⟨x23, x24⟩ : Lists)⟩ : Mem), (⟨x25, x26⟩ : Clock), x27, x28⟩ : Base)) ((⟨(⟨(⟨x2, x3⟩ : Heap), (⟨x4, x5⟩ : Lists)⟩ : Mem), (⟨x6, x7⟩ : Clock), x8, x9⟩ : Base))).bind fun x73 => (if !x73 then laws_FnExactSubStep_j3 aB aW aS x2 x3 x4 x5 x6 x7 x8 x9 x10 x11 x12 x13 x14 x15 x16 x17 x18 x19 x20 x21 x22 x23 x24 x25 x26 x27 x28 x29 x30 x31 x32 x33 x34 x35 x36 x37 x38 true else (laws_eqSub ((⟨x29, x30, x31, x32, x33, x34, x35, x36, x37, x38⟩ : Sub)) ((⟨x10, x11, x12, x13, x14, x15, x16, x17, x18, x19⟩ : Sub))).bind fun x74 => laws_FnExactSubStep_j3 aB aW aS x2 x3 x4 x5 x6 x7 x8 x9 x10 x11 x12 x13 x14 x15 x16 x17 x18 x19 x20 x21 x22 x23 x24 x25 x26 x27 x28 x29 x30 x31 x32 x33 x34 x35 x36 x37 x38 (!x74))
noncomputable def laws_FnExactSubStep_j1 (aB : Base) (aW : Int) (aS : Sub) (x2 : List Int) (x3 : List Int) (x4 : List SList) (x5 : List SList) (x6 : Int) (x7 : List Pin) (x8 : List LList) (x9 : List Int) (x10 : Int) (x11 : Int) (x12 : Int) (x13 : Int) (x14 : Int) (x15 : Int) (x16 : Int) (x17 : Int) (x18 : Int) (x19 : Bool) : Option Bool :=
  (laws_toBase aB).bind fun x20 => (laws_toSub aS).bind fun x75 => (impl_SubStep x20 aW x75).bind fun x76 => laws_FnExactSubStep_j2 aB aW aS x2 x3 x4 x5 x6 x7 x8 x9 x10 x11 x12 x13 x14 x15 x16 x17 x18 x19 x20 x76.1.Mem.Heap.Bytes x76.1.Mem.Heap.Class x76.1.Mem.Lists.Global x76.1.Mem.Lists.Own x76.1.Clock.Epoch x76.1.Clock.Pins x76.1.Limbo x76.1.Haz x76.2.Kind x76.2.A x76.2.Pc x76.2.E x76.2.Row x76.2.B x76.2.H x76.2.Out x76.2.Code x76.2.Done
noncomputable def laws_FnExactSubStep (aB : Base) (aW : Int) (aS : Sub) : Option Bool :=
  (laws_szBase aB 1048576).bind fun x1 => (if decide (x1 < 0) then some true else (laws_toBase aB).bind fun x77 => (laws_toSub aS).bind fun x78 => (spec_SubStep x77 aW x78).bind fun x79 => laws_FnExactSubStep_j1 aB aW aS x79.1.Mem.Heap.Bytes x79.1.Mem.Heap.Class x79.1.Mem.Lists.Global x79.1.Mem.Lists.Own x79.1.Clock.Epoch x79.1.Clock.Pins x79.1.Limbo x79.1.Haz x79.2.Kind x79.2.A x79.2.Pc x79.2.E x79.2.Row x79.2.B x79.2.H x79.2.Out x79.2.Code x79.2.Done)
end Go.Gv
end
section
set_option linter.unusedVariables false
set_option maxHeartbeats 4000000
set_option maxRecDepth 100000
namespace Go.Proofs.YtlhhifdhlkihkaaGreat
open Go.Gv
theorem inf_Tryz3 : Inf Tryz.prog 3 1 (.int .i64 0) := inf_of (b := 8) (by kernel_rfl) rfl
theorem inf_Tryz131 : Inf Tryz.prog 131 1 (.agg #[.slice none 0 0]) := inf_of (b := 24) (by kernel_rfl) rfl
theorem inf_Tryz134 : Inf Tryz.prog 134 4 (.agg #[.bool false, .int .i64 0, .bool false, .int .i64 0]) := inf_of (b := 32) (by kernel_rfl) rfl
theorem inf_Tryz106 : Inf Tryz.prog 106 1 (.agg #[.slice none 0 0]) := inf_of (b := 24) (by kernel_rfl) rfl
theorem inf_Tryz99 : Inf Tryz.prog 99 2 (.agg #[.int .i64 0, .int .i64 0]) := inf_of (b := 16) (by kernel_rfl) rfl
theorem inf_Tryz40 : Inf Tryz.prog 40 1 (.slice none 0 0) := inf_of (b := 24) (by kernel_rfl) rfl
theorem inf_Tryz5 : Inf Tryz.prog 5 1 (.int .u8 0) := inf_of (b := 1) (by kernel_rfl) rfl
theorem mixed_Tryz : Tryz.prog.follows .mixedOrders = true := by kernel_rfl
theorem eqf_Tryz134 (D : Nat) (d d' : Pin) (w : World) : (Op.eqFields (D + 2) #[.bool (d.On), .int .i64 (d.Epoch), .bool (d.Marked), .int .i64 (d.Seen)] #[.bool (d'.On), .int .i64 (d'.Epoch), .bool (d'.Marked), .int .i64 (d'.Seen)] (match Tryz.prog.underlying 134 with | some (.struct fs) => fs | _ => #[]).toList).run Tryz.prog w = .ok (decide (d = d')) w := by
  rw [Tryz.underlying134]
  have h : (d.On == d'.On && (d.Epoch == d'.Epoch && (d.Marked == d'.Marked && (d.Seen == d'.Seen && true)))) = decide (d = d') := by
    cases d; cases d'; rw [Bool.eq_iff_iff]; simp
  rw [← h]
  exact eqf_cons _ _ _ _ _ rfl (part1 Tryz.isAgg4 rfl) (part1 Tryz.isAgg4 rfl) (ei_bool Tryz.underlying4) <|
    eqf_cons _ _ _ _ _ rfl (part1 Tryz.isAgg3 rfl) (part1 Tryz.isAgg3 rfl) (ei_int Tryz.underlying3) <|
    eqf_cons _ _ _ _ _ rfl (part1 Tryz.isAgg4 rfl) (part1 Tryz.isAgg4 rfl) (ei_bool Tryz.underlying4) <|
    eqf_cons _ _ _ _ _ rfl (part1 Tryz.isAgg3 rfl) (part1 Tryz.isAgg3 rfl) (ei_int Tryz.underlying3) <|
    eqf_nil _ _ _
set_option maxRecDepth 100000 in
theorem c_slices_Grow_SList_nil {w0 : World} {n : Int} (hn : 0 ≤ n ∧ n ≤ 1073741824) :
    Calls Tryz.prog 215 #[.slice none 0 0, .int .i64 n] w0 (Ret fun v w' => ∃ s0_0 : Value, v = s0_0 ∧ St (cxAll w0) w' [cOwn [s0_0] ([] : List Raw)] []) := by
  have hS : St (cxAll w0) w0 [] [] := St.enter (by intro f hf; cases hf)
  have hw : w64 (n - w64 (0 - 0)) = n := by
    rw [w64_id (x := 0 - 0) (by omega), w64_id (by omega)]; omega
  refine calls_cw (args := [_, _]) Tryz.func215 rfl Tryz.ntmps215 rfl ?_
  intro a hA
  refine cw_seq ?_
  refine cw_ops hA ?_
  clear hA
  refine ops_v (rv_assign rfl rfl) (want_yes rfl) rfl rfl ?_
  refine ops_nil ?_
  intro a hA
  refine cw_seq ?_
  refine cw_seq ?_
  refine cw_ops hA ?_
  clear hA
  refine ops_v (rv_move rfl rfl) (want_yes rfl) rfl rfl ?_
  refine ops_v (rv_lss rfl rfl rfl) (want_yes rfl) rfl rfl ?_
  refine ops_nil ?_
  intro a hA
  refine cw_cond hA rfl (fun hc => ?_) (fun hc => ?_)
  · exfalso; simp at hc; omega
  refine cw_skip ?_
  refine cw_seq ?_
  refine cw_seq ?_
  refine cw_ops hA ?_
  clear hA
  refine ops_v (rv_move rfl rfl) (want_yes rfl) rfl rfl ?_
  refine ops_v (rv_move rfl rfl) (want_yes rfl) rfl rfl ?_
  refine ops_v (rv_capnil Tryz.underlying40 rfl rfl) (want_yes rfl) rfl rfl ?_
  refine ops_v (rv_move rfl rfl) (want_yes rfl) rfl rfl ?_
  refine ops_v (rv_lenS (rd_nil (α := Raw) (S := F0)) Tryz.underlying40 rfl rfl) (want_yes rfl) rfl rfl ?_
  refine ops_v (rv_sub rfl rfl rfl) (want_yes rfl) rfl rfl ?_
  refine ops_v (rv_sub rfl rfl rfl) (want_yes rfl) rfl rfl ?_
  refine ops_v (rv_assign rfl rfl) (want_yes rfl) rfl rfl ?_
  refine ops_nil ?_
  intro a hA
  refine cw_seq ?_
  refine cw_ops hA ?_
  clear hA
  refine ops_v (rv_move rfl rfl) (want_yes rfl) rfl rfl ?_
  refine ops_v (rv_gtr rfl rfl rfl) (want_yes rfl) rfl rfl ?_
  refine ops_nil ?_
  intro a hA
  refine cw_cond hA rfl (fun hc => ?_) (fun hc => ?_)
  · have hn1 : 0 < n := by
      have h2 : decide (0 < w64 (n - w64 (0 - 0))) = true := hc
      rw [hw] at h2; simpa using h2
    refine cw_ops hA ?_
    clear hA
    refine ops_v (rv_move rfl rfl) (want_yes rfl) rfl rfl ?_
    refine ops_v (rv_move rfl rfl) (want_yes rfl) rfl rfl ?_
    refine ops_v (rv_capnil Tryz.underlying40 rfl rfl) (want_yes rfl) rfl rfl ?_
    refine ops_v (rv_sub0 (s := .slice none 0 0) ⟨_, _, _, rfl⟩ Tryz.underlying40 Tryz.sizeOf131 rfl rfl rfl) (want_yes rfl) rfl rfl ?_
    refine ops_v (rv_move rfl rfl) (want_yes rfl) rfl rfl ?_
    refine ops_mv (rv_appZ (i := w64 (n - w64 (0 - 0))) hS Tryz.underlying40 Tryz.underlying3 inf_Tryz131 rfl rfl (by rw [hw]; omega) rfl rfl rfl) (want_yes rfl) rfl rfl ?_
    clear hS
    intro s w hS
    refine ops_v (rv_move rfl rfl) (want_yes rfl) rfl rfl ?_
    refine ops_v (rv_lenS (rd_nil (α := Raw) (S := F0)) Tryz.underlying40 rfl rfl) (want_yes rfl) rfl rfl ?_
    refine ops_v (rv_sub0 (hS.rowShape 0 rfl) Tryz.underlying40 Tryz.sizeOf131 rfl rfl rfl) (want_yes rfl) rfl rfl ?_
    refine ops_v (rv_assign rfl rfl) (want_yes rfl) rfl rfl ?_
    refine ops_nil ?_
    intro a hA
    replace hS := hS.rowNil (α := Raw) 0 rfl rfl
    refine cw_seq ?_
    refine cw_ops hA ?_
    clear hA
    refine ops_v (rv_move rfl rfl) (want_yes rfl) rfl rfl ?_
    refine ops_v (rv_assign rfl rfl) (want_yes rfl) rfl rfl ?_
    refine ops_nil ?_
    intro a hA
    refine cw_ret ?_
    exact fin1 Tryz.results215 hA (res_tmp rfl) ⟨_, rfl, (hS.sel [0] rfl).weaken (R' := []) (fun _ h => nomatch h)⟩
  · refine cw_skip ?_
    replace hS := hS.nilOwn (α := Raw)
    refine cw_seq ?_
    refine cw_ops hA ?_
    clear hA
    refine ops_v (rv_move rfl rfl) (want_yes rfl) rfl rfl ?_
    refine ops_v (rv_assign rfl rfl) (want_yes rfl) rfl rfl ?_
    refine ops_nil ?_
    intro a hA
    refine cw_ret ?_
    exact fin1 Tryz.results215 hA (res_tmp rfl) ⟨_, rfl, (hS.sel [0] rfl).weaken (R' := []) (fun _ h => nomatch h)⟩
theorem c_slices_Concat_SList {w0 : World} {slices : List (List Raw)} {s1 : Value} {r : (List Raw)} (h1 : Rep.rd (All w0) w0 [s1] (slices : List (List Raw))) (hF : slices_Concat_SList slices = some r) :
    Calls Tryz.prog 181 #[s1] w0 (Ret fun v w' => ∃ (s0_0 : Value), v = s0_0 ∧ St (cxAll w0) w' [cOwn [s0_0] (r : List Raw)] []) := by
 have hS : St (cxAll w0) w0 [] [fRd [s1] (slices : List (List Raw))] := St.enter (by
   intro f hf
   simp only [List.mem_cons, List.not_mem_nil, or_false] at hf
   subst hf; exact h1)
 refine calls_cwN (args := [_]) Tryz.func181 rfl Tryz.ntmps181 rfl ?_
 unfold slices_Concat_SList at hF
 intro a hA
 refine cw_seq <| cw_ops hA ?_
 clear hA
 refine oa rfl rfl <| ops_nil fun a hA => cw_seq <| cw_ops hA ?_
 clear hA
 refine oa rfl rfl <| ops_nil fun a hA => cw_seq <| cw_seq <| cw_ops hA ?_
 clear hA
 refine om rfl rfl <| oy (rv_lenS (hS.rd 0 rfl) Tryz.underlying200 rfl rfl) rfl <| om rfl rfl <| ops_nil fun a hA => ?_
 obtain ⟨o1, hl1, hF⟩ := bindE hF
 refine cw_cut (J := fun a' w' => ∃ (x5 : Int), o1 = x5 ∧ AEnv 36 [(0, s1), (3, .int .i64 (x5))] a' ∧ St (cxAll w0) w' [] [fRd [s1] (slices : List (List Raw))]) ?_ ?_
 ·refine cw_block ?_
  refine cw_loop (body := slices_Concat_SList_l1 slices) (r := o1) (fun sg a' w' => AEnv 36 [(0, s1), (3, .int .i64 (sg.1)), (9, s1), (10, .int .i64 ((slices.length : Int))), (11, .int .i64 (sg.2))] a' ∧ St (cxAll w0) w' [] [fRd [s1] (slices : List (List Raw))]) ?_ hl1 ⟨hA.part ⟨rfl, rfl, rfl, rfl, rfl, trivial⟩, ((hS).sel [] rfl).selR [0] rfl⟩
  clear hA hS hl1
  rintro ⟨x3, x4⟩ a w q1 ⟨hA, hS⟩ hG1 hr1
  try dsimp only at hA hS
  unfold slices_Concat_SList_l1 at hG1
  refine cw_seq <| cw_ops hA ?_
  clear hA
  refine oy (rv_lss rfl rfl rfl) rfl <| ops_nil fun a hA => cw_seq <| cw_cond hA rfl (fun hc2 => ?_) (fun hc2 => ?_)
  ·replace hG1 := iteT hc2 hG1
   refine cw_skip <| cw_seq <| cw_block <| cw_seq <| cw_ops hA ?_
   clear hA
   obtain ⟨x12, hx12, hG1⟩ := bindE hG1
   refine oy (rv_idx (m := 1) (hS.rd 0 rfl) rfl hx12 Tryz.underlying200 Tryz.sizeOf40 rfl rfl rfl) rfl ?_
   obtain ⟨s8, hel, hS⟩ := hS.el_Slice 0 rfl (idx_some hx12).2.2
   refine oy (rv_load1 rfl rfl Tryz.isAgg40 (cell1 hel)) rfl <| oa rfl rfl <| ops_nil fun a hA => cw_seq <| cw_ops hA ?_
   clear hA
   refine om rfl rfl <| om rfl rfl <| oy (rv_lenS (hS.rd 1 rfl) Tryz.underlying40 rfl rfl) rfl <| oy (rv_add rfl rfl rfl) rfl <| oa rfl rfl <| ops_nil fun a hA => cw_seq <| cw_ops hA ?_
   clear hA
   refine om rfl rfl <| oy (rv_lss rfl rfl rfl) rfl <| ops_nil fun a hA => cw_cond hA rfl (fun hc3 => ?_) (fun hc3 => ?_)
   ·replace hG1 := iteT hc3 hG1
    refine cw_ops hA ?_
    clear hA
    cases hG1
   ·replace hG1 := iteF hc3 hG1
    refine cw_skip <| cw_ops hA ?_
    clear hA
    refine oy (rv_add rfl rfl rfl) rfl <| om rfl rfl <| ops_nil fun a hA => ?_
    cases hG1
    exact ⟨_, rfl, ⟨hA.part ⟨rfl, rfl, rfl, rfl, rfl, trivial⟩, ((hS).sel [] rfl).selR [0] rfl⟩⟩
  ·replace hG1 := iteF hc2 hG1
   refine cw_exit <| xcons_hit ?_
   cases hG1
   have ho := hr1 _ rfl; subst ho
   exact ⟨x3, rfl, hA.part ⟨rfl, rfl, trivial⟩, ((hS).sel [] rfl).selR [0] rfl⟩
 ·skip
  clear hA hS hl1
  rintro a w ⟨x5, heq, hA, hS⟩
  replace hF : slices_Concat_SList_j1 slices x5 = some r := by rw [heq] at hF; exact hF
  clear heq
  unfold slices_Concat_SList_j1 at hF
  refine cw_seq <| cw_ops hA ?_
  clear hA
  refine om rfl rfl ?_
  obtain ⟨hn1, hF⟩ := needE hF
  refine ops_c (rc_call Tryz.call215 rfl rfl) (want_yes rfl) rfl rfl (c_slices_Grow_SList_nil hn1) ?_
  rintro s2 w ⟨_, rfl, hk⟩
  replace hS := hS.after hk; clear hk
  refine oa rfl rfl <| ops_nil fun a hA => cw_seq <| cw_seq <| cw_ops hA ?_
  clear hA
  refine om rfl rfl <| oy (rv_lenS (hS.rd 0 rfl) Tryz.underlying200 rfl rfl) rfl <| om rfl rfl <| ops_nil fun a hA => ?_
  obtain ⟨o2, hl2, hF⟩ := bindE hF
  refine cw_cut (J := fun a' w' => ∃ (x10 : List Raw) (s5 : Value), o2 = x10 ∧ AEnv 36 [(6, s5)] a' ∧ St (cxAll w0) w' [cOwn [s5] (x10 : List Raw)] []) ?_ ?_
  ·refine cw_block ?_
   refine cw_loop (body := slices_Concat_SList_l2 slices) (r := o2) (fun sg a' w' => ∃ (s4 : Value), AEnv 36 [(6, s4), (25, s1), (26, .int .i64 ((slices.length : Int))), (27, .int .i64 (sg.2))] a' ∧ St (cxAll w0) w' [cOwn [s4] (sg.1 : List Raw)] [fRd [s1] (slices : List (List Raw))]) ?_ hl2 ⟨s2, hA.part ⟨rfl, rfl, rfl, rfl, trivial⟩, ((hS).sel [0] rfl).selR [0] rfl⟩
   clear hA hS hl2
   rintro ⟨x8, x9⟩ a w q2 ⟨s4, hA, hS⟩ hG2 hr2
   try dsimp only at hA hS
   unfold slices_Concat_SList_l2 at hG2
   refine cw_seq <| cw_ops hA ?_
   clear hA
   refine oy (rv_lss rfl rfl rfl) rfl <| ops_nil fun a hA => cw_seq <| cw_cond hA rfl (fun hc1 => ?_) (fun hc1 => ?_)
   ·replace hG2 := iteT hc1 hG2
    refine cw_skip <| cw_seq <| cw_block <| cw_seq <| cw_ops hA ?_
    clear hA
    obtain ⟨x11, hx11, hG2⟩ := bindE hG2
    refine oy (rv_idx (m := 1) (hS.rd 0 rfl) rfl hx11 Tryz.underlying200 Tryz.sizeOf40 rfl rfl rfl) rfl ?_
    obtain ⟨s6, hel, hS⟩ := hS.el_Slice 0 rfl (idx_some hx11).2.2
    refine oy (rv_load1 rfl rfl Tryz.isAgg40 (cell1 hel)) rfl <| oa rfl rfl <| ops_nil fun a hA => cw_ops hA ?_
    clear hA
    refine om rfl rfl <| om rfl rfl ?_
    obtain ⟨hn2, hG2⟩ := needE hG2
    refine ops_mv (rv_append (α := Raw) 0 hS rfl (hS.rd 1 rfl) rfl Tryz.underlying40 inf_Tryz131 rfl hn2 rfl rfl rfl) (want_yes rfl) rfl rfl ?_
    clear hS
    rintro s7 w hS
    refine oa rfl rfl <| ops_nil fun a hA => cw_ops hA ?_
    clear hA
    refine oy (rv_add rfl rfl rfl) rfl <| om rfl rfl <| ops_nil fun a hA => ?_
    cases hG2
    exact ⟨_, rfl, ⟨s7, hA.part ⟨rfl, rfl, rfl, rfl, trivial⟩, ((hS).sel [0] rfl).selR [0] rfl⟩⟩
   ·replace hG2 := iteF hc1 hG2
    refine cw_exit <| xcons_hit ?_
    cases hG2
    have ho := hr2 _ rfl; subst ho
    exact ⟨x8, s4, rfl, hA.part ⟨rfl, trivial⟩, ((hS).sel [0] rfl).selR [] rfl⟩
  ·skip
   clear hA hS hl2
   rintro a w ⟨x10, s5, heq, hA, hS⟩
   replace hF : slices_Concat_SList_j2 x10 = some r := by rw [heq] at hF; exact hF
   clear heq
   unfold slices_Concat_SList_j2 at hF
   refine cw_seq <| cw_ops hA ?_
   clear hA
   refine om rfl rfl <| oa rfl rfl <| ops_nil fun a hA => cw_ret ?_
   cases hF
   exact fin1 Tryz.results181 hA (res_tmp rfl) ⟨s5, rfl, (hS.sel [0] rfl).weaken (R' := []) (fun _ h => nomatch h)⟩
theorem c_impl_within {w0 : World} {n : Int} {low : Int} {high : Int}  {r : Bool}  (hF : impl_within n low high = some r) :
    Calls Tryz.prog 78 #[.int .i64 (n), .int .i64 (low), .int .i64 (high)] w0 (Ret fun v w' => v = .bool (r) ∧ St (cxAll w0) w' [] []) := by
 have hS : St (cxAll w0) w0 [] [] := St.enter (by
   intro f hf; cases hf)
 refine calls_cwN (args := [_, _, _]) Tryz.func78 rfl Tryz.ntmps78 rfl ?_
 unfold impl_within at hF
 intro a hA
 refine cw_seq <| cw_ops hA ?_
 clear hA
 refine oa rfl rfl <| ops_nil fun a hA => cw_seq <| cw_cut (J := fun a' w' => ∃ (x1 : Bool), impl_within_j1 x1 = some r ∧ AEnv 15 [(6, .bool (x1))] a' ∧ St (cxAll w0) w' [] []) ?_ ?_
 ·skip
  refine cw_ops hA ?_
  clear hA
  refine om rfl rfl <| om rfl rfl <| oy (rv_geq rfl rfl rfl) rfl <| om rfl rfl <| ops_case (s := 10) rfl (fun hc1 => ?_) (fun hc1 => ?_)
  ·replace hF := iteT hc1 hF
   refine ops_v (rv_move rfl rfl) (want_if rfl rfl rfl (by rw [hc1]; rfl)) rfl rfl ?_
   refine ops_v (rv_move rfl rfl) (want_if rfl rfl rfl (by rw [hc1]; rfl)) rfl rfl ?_
   refine ops_v (rv_leq rfl rfl rfl) (want_if rfl rfl rfl (by rw [hc1]; rfl)) rfl rfl ?_
   refine oy (rv_pick_t rfl rfl hc1 rfl) rfl <| oa rfl rfl <| ops_nil fun a hA => ?_
   exact ⟨decide (n ≤ high), hF, hA.part ⟨rfl, trivial⟩, ((hS).sel [] rfl).selR [] rfl⟩
  ·replace hF := iteF hc1 hF
   refine ops_off (want_if rfl rfl rfl (by rw [hc1]; rfl)) rfl rfl ?_
   refine ops_off (want_if rfl rfl rfl (by rw [hc1]; rfl)) rfl rfl ?_
   refine ops_off (want_if rfl rfl rfl (by rw [hc1]; rfl)) rfl rfl ?_
   refine oy (rv_pick_f rfl rfl hc1 rfl) rfl <| oa rfl rfl <| ops_nil fun a hA => ?_
   exact ⟨false, hF, hA.part ⟨rfl, trivial⟩, ((hS).sel [] rfl).selR [] rfl⟩
 ·skip
  clear hA hS hF
  rintro a w ⟨x1, hF, hA, hS⟩
  unfold impl_within_j1 at hF
  refine cw_ret ?_
  cases hF
  exact fy Tryz.results78 hA rfl hS
theorem c_impl_isSlot {w0 : World} {slot : Int}  {r : Bool}  (hF : impl_isSlot slot = some r) :
    Calls Tryz.prog 182 #[.int .i64 (slot)] w0 (Ret fun v w' => v = .bool (r) ∧ St (cxAll w0) w' [] []) := by
 have hS : St (cxAll w0) w0 [] [] := St.enter (by
   intro f hf; cases hf)
 refine calls_cwN (args := [_]) Tryz.func182 rfl Tryz.ntmps182 rfl ?_
 unfold impl_isSlot at hF
 intro a hA
 refine cw_seq <| cw_ops hA ?_
 clear hA
 refine oa rfl rfl <| ops_nil fun a hA => cw_seq <| cw_ops hA ?_
 clear hA
 refine om rfl rfl ?_
 obtain ⟨x1, hx1, hF⟩ := bindE hF
 refine ops_c (rc_call Tryz.call78 rfl rfl) (want_yes rfl) rfl rfl (c_impl_within (n := slot) (low := 0) (high := 23)  hx1) ?_
 rintro _ w ⟨rfl, hk⟩
 replace hS := hS.after hk; clear hk
 refine oa rfl rfl <| ops_nil fun a hA => cw_ret ?_
 cases hF
 exact fy Tryz.results182 hA rfl hS
theorem c_impl_ListsOk {w0 : World} {l : Lists} {s1 : Value} {s2 : Value} {r : Bool} (h1 : Rep.rd (All w0) w0 [s1] (l.Global : List SList)) (h2 : Rep.rd (All w0) w0 [s2] (l.Own : List SList)) (hF : impl_ListsOk l = some r) :
    Calls Tryz.prog 130 #[.agg #[s1, s2]] w0 (Ret fun v w' => v = .bool (r) ∧ St (cxAll w0) w' [] []) := by
 have hS : St (cxAll w0) w0 [] [fRd [s1] (l.Global : List SList), fRd [s2] (l.Own : List SList)] := St.enter (by
   intro f hf
   simp only [List.mem_cons, List.not_mem_nil, or_false] at hf
   rcases hf with rfl | rfl
   · exact h1
   · exact h2)
 refine calls_cwN (args := [_]) Tryz.func130 rfl Tryz.ntmps130 rfl ?_
 unfold impl_ListsOk at hF
 intro a hA
 refine cw_seq <| cw_ops hA ?_
 clear hA
 refine ops_mv (rv_box (cs := [s1, s2]) hS rfl rfl rfl) (want_yes rfl) rfl rfl ?_
 clear hS
 rintro _ w ⟨b1, rfl, hS⟩
 refine oa rfl rfl <| ops_nil fun a hA => cw_seq <| cw_seq <| cw_cut (J := fun a' w' => ∃ (x1 : Bool), impl_ListsOk_j1 l x1 = some r ∧ AEnv 61 [(1, .pointer (some ⟨b1, 0, none⟩)), (17, .bool (x1))] a' ∧ St (cxAll w0) w' [cBox b1 [s1, s2]] [fRd [s1] (l.Global : List SList), fRd [s2] (l.Own : List SList)]) ?_ ?_
 ·skip
  refine cw_ops hA ?_
  clear hA
  refine oy (rv_fld (m := 0) Tryz.underlying42 rfl rfl Tryz.sizeOf40 rfl rfl) rfl <| oy (rv_load1 rfl rfl Tryz.isAgg40 (hS.cell 0 rfl rfl)) rfl <| oy (rv_lenS (hS.rd 0 rfl) Tryz.underlying40 rfl rfl) rfl <| oy (rv_neq rfl rfl rfl) rfl <| om rfl rfl <| ops_case (s := 12) rfl (fun hc8 => ?_) (fun hc8 => ?_)
  ·replace hF := iteT hc8 hF
   refine ops_off (want_if rfl rfl rfl (by rw [hc8]; rfl)) rfl rfl ?_
   refine ops_off (want_if rfl rfl rfl (by rw [hc8]; rfl)) rfl rfl ?_
   refine ops_off (want_if rfl rfl rfl (by rw [hc8]; rfl)) rfl rfl ?_
   refine ops_off (want_if rfl rfl rfl (by rw [hc8]; rfl)) rfl rfl ?_
   refine oy (rv_pick_t rfl rfl hc8 rfl) rfl <| ops_nil fun a hA => ?_
   exact ⟨true, hF, hA.part ⟨rfl, rfl, trivial⟩, ((hS).sel [0] rfl).selR [0, 1] rfl⟩
  ·replace hF := iteF hc8 hF
   refine ops_v (rv_fld (m := 0) Tryz.underlying42 rfl rfl Tryz.sizeOf40 rfl rfl) (want_if rfl rfl rfl (by rw [hc8]; rfl)) rfl rfl ?_
   refine ops_v (rv_load1 rfl rfl Tryz.isAgg40 (hS.cell 0 rfl rfl)) (want_if rfl rfl rfl (by rw [hc8]; rfl)) rfl rfl ?_
   refine ops_v (rv_lenS (hS.rd 1 rfl) Tryz.underlying40 rfl rfl) (want_if rfl rfl rfl (by rw [hc8]; rfl)) rfl rfl ?_
   refine ops_v (rv_neq rfl rfl rfl) (want_if rfl rfl rfl (by rw [hc8]; rfl)) rfl rfl ?_
   refine oy (rv_pick_f rfl rfl hc8 rfl) rfl <| ops_nil fun a hA => ?_
   exact ⟨((l.Own.length : Int)) != 9, hF, hA.part ⟨rfl, rfl, trivial⟩, ((hS).sel [0] rfl).selR [0, 1] rfl⟩
 ·skip
  clear hA hS hF
  rintro a w ⟨x1, hF, hA, hS⟩
  unfold impl_ListsOk_j1 at hF
  refine cw_cond hA rfl (fun hc1 => ?_) (fun hc1 => ?_)
  ·replace hF := iteT hc1 hF
   refine cw_seq <| cw_ops hA ?_
   clear hA
   refine oa rfl rfl <| ops_nil fun a hA => cw_ret ?_
   cases hF
   exact fy Tryz.results130 hA rfl hS
  ·replace hF := iteF hc1 hF
   refine cw_skip <| cw_seq <| cw_ops hA ?_
   clear hA
   refine oy (rv_buildA (cells := #[.bool (false), .bool (false), .bool (false), .bool (false), .bool (false), .bool (false), .bool (false), .bool (false), .bool (false), .bool (false), .bool (false), .bool (false), .bool (false), .bool (false), .bool (false), .bool (false), .bool (false), .bool (false), .bool (false), .bool (false), .bool (false), .bool (false), .bool (false), .bool (false)]) rfl Tryz.zeroValue158 Tryz.underlying158 Tryz.sizeOf4 rfl rfl) rfl <| ops_mv (rv_alloc (cs := List.map (fun q : Bool => Value.bool q) [false, false, false, false, false, false, false, false, false, false, false, false, false, false, false, false, false, false, false, false, false, false, false, false]) hS rfl Tryz.zeroValue158 rfl) (want_yes rfl) rfl rfl ?_
   clear hS
   rintro _ w ⟨b2, rfl, hS⟩
   refine ops_ms (rs_box (vs := [.bool (false), .bool (false), .bool (false), .bool (false), .bool (false), .bool (false), .bool (false), .bool (false), .bool (false), .bool (false), .bool (false), .bool (false), .bool (false), .bool (false), .bool (false), .bool (false), .bool (false), .bool (false), .bool (false), .bool (false), .bool (false), .bool (false), .bool (false), .bool (false)]) hS (i := 1) rfl rfl rfl rfl rfl Tryz.sizeOf158 rfl rfl rfl) (want_yes rfl) rfl ?_
   clear hS
   intro w hS
   refine ops_nil fun a hA => cw_seq <| cw_seq <| cw_ops hA ?_
   clear hA
   refine oy (rv_fld (m := 0) Tryz.underlying42 rfl rfl Tryz.sizeOf40 rfl rfl) rfl <| oy (rv_load1 rfl rfl Tryz.isAgg40 (hS.cell 0 rfl rfl)) rfl <| oy (rv_fld (m := 0) Tryz.underlying42 rfl rfl Tryz.sizeOf40 rfl rfl) rfl <| oy (rv_load1 rfl rfl Tryz.isAgg40 (hS.cell 0 rfl rfl)) rfl <| ops_mv (rv_litRaw2 hS (hS.rd 1 rfl) (hS.rd 0 rfl) Tryz.underlying200 inf_Tryz40 rfl rfl rfl) (want_yes rfl) rfl rfl ?_
   clear hS
   rintro s3 w hS
   obtain ⟨hn1, hF⟩ := needE hF
   replace hS := hS.leak 2 rfl
   obtain ⟨u1, u2, hu1, hl1, hS⟩ := hS.concat2 rfl 2 1 0 rfl rfl rfl
   refine ops_c (rc_call Tryz.call181 rfl rfl) (want_yes rfl) rfl rfl (c_slices_Concat_SList hu1 (slices_Concat_SList_two hl1 hn1)) ?_
   rintro s4 w ⟨_, rfl, hk⟩
   replace hS := hS.after hk; clear hk
   replace hS := hS.leak 3 rfl
   replace hS := hS.unraw rfl 4 3 rfl rfl
   refine oy (rv_lenS (hS.rd 5 rfl) Tryz.underlying40 rfl rfl) rfl <| om rfl rfl <| ops_nil fun a hA => ?_
   obtain ⟨o1, hl2, hF⟩ := bindE hF
   refine cw_cut (J := fun a' w' => o1 = Out.brk (()) ∧ AEnv 61 [] a' ∧ St (cxAll w0) w' [] []) ?_ ?_
   ·refine cw_block ?_
    refine cw_loop (body := impl_ListsOk_l2 l) (r := o1) (fun sg a' w' => AEnv 61 [(1, .pointer (some ⟨b1, 0, none⟩)), (3, .pointer (some ⟨b2, 0, none⟩)), (24, s4), (25, .int .i64 (((l.Own ++ l.Global).length : Int))), (26, .int .i64 (sg.1))] a' ∧ St (cxAll w0) w' [cBox b1 [s1, s2], cBox b2 (List.map (fun q : Bool => Value.bool q) (sg.2 : List Bool))] [fRd [s4] (l.Own ++ l.Global : List SList), fRd [s1] (l.Global : List SList), fRd [s2] (l.Own : List SList)]) ?_ hl2 ⟨hA.part ⟨rfl, rfl, rfl, rfl, rfl, trivial⟩, ((hS).sel [0, 1] rfl).selR [5, 0, 1] rfl⟩
    clear hA hS hl2
    rintro ⟨x4, x5⟩ a w q2 ⟨hA, hS⟩ hG2 hr2
    try dsimp only at hA hS
    unfold impl_ListsOk_l2 at hG2
    refine cw_seq <| cw_ops hA ?_
    clear hA
    refine oy (rv_lss rfl rfl rfl) rfl <| ops_nil fun a hA => cw_seq <| cw_cond hA rfl (fun hc2 => ?_) (fun hc2 => ?_)
    ·replace hG2 := iteT hc2 hG2
     refine cw_skip <| cw_seq <| cw_block <| cw_seq <| cw_ops hA ?_
     clear hA
     refine om rfl rfl ?_
     obtain ⟨x6, hx6, hG2⟩ := bindE hG2
     refine oy (rv_idx (m := 1) (hS.rd 0 rfl) rfl hx6 Tryz.underlying40 Tryz.sizeOf131 rfl rfl rfl) rfl ?_
     obtain ⟨s5, hel, hS⟩ := hS.el_SList 0 rfl (idx_some hx6).2.2
     refine oy (rv_loadN rfl rfl Tryz.isAgg131 Tryz.sizeOf131 rfl hel) rfl <| ops_mv (rv_alloc (cs := [(.slice none 0 0)]) hS rfl Tryz.zeroValue131 rfl) (want_yes rfl) rfl rfl ?_
     clear hS
     rintro _ w ⟨b3, rfl, hS⟩
     refine oa rfl rfl <| ops_ms (rs_box (vs := [s5]) hS (i := 2) rfl rfl rfl rfl rfl Tryz.sizeOf131 rfl rfl (all1 (one_rd (hS.rd 3 rfl)) rfl)) (want_yes rfl) rfl ?_
     clear hS
     intro w hS
     refine ops_nil fun a hA => cw_seq <| cw_seq <| cw_cut (J := fun a' w' => ∃ (x7 : Bool), impl_ListsOk_j3 x4 x5 x6 x7 = some q2 ∧ AEnv 61 [(1, .pointer (some ⟨b1, 0, none⟩)), (3, .pointer (some ⟨b2, 0, none⟩)), (5, .pointer (some ⟨b3, 0, none⟩)), (24, s4), (25, .int .i64 (((l.Own ++ l.Global).length : Int))), (26, .int .i64 (x4)), (41, .bool (x7))] a' ∧ St (cxAll w0) w' [cBox b1 [s1, s2], cBox b2 (List.map (fun q : Bool => Value.bool q) (x5 : List Bool)), cBox b3 [s5]] [fRd [s4] (l.Own ++ l.Global : List SList), fRd [s1] (l.Global : List SList), fRd [s2] (l.Own : List SList), fRd [s5] (x6.Slots : List Int)]) ?_ ?_
     ·skip
      refine cw_ops hA ?_
      clear hA
      refine om rfl rfl <| oy (rv_fld (m := 0) Tryz.underlying42 rfl rfl Tryz.sizeOf40 rfl rfl) rfl <| oy (rv_load1 rfl rfl Tryz.isAgg40 (hS.cell 0 rfl rfl)) rfl <| oy (rv_lenS (hS.rd 2 rfl) Tryz.underlying40 rfl rfl) rfl <| oy (rv_lss rfl rfl rfl) rfl <| om rfl rfl <| ops_case (s := 36) rfl (fun hc7 => ?_) (fun hc7 => ?_)
      ·replace hG2 := iteT hc7 hG2
       refine ops_v (rv_fld (m := 0) Tryz.underlying131 rfl rfl Tryz.sizeOf22 rfl rfl) (want_if rfl rfl rfl (by rw [hc7]; rfl)) rfl rfl ?_
       refine ops_v (rv_load1 rfl rfl Tryz.isAgg22 (hS.cell 2 rfl rfl)) (want_if rfl rfl rfl (by rw [hc7]; rfl)) rfl rfl ?_
       refine ops_v (rv_lenS (hS.rd 3 rfl) Tryz.underlying22 rfl rfl) (want_if rfl rfl rfl (by rw [hc7]; rfl)) rfl rfl ?_
       refine ops_v (rv_gtr rfl rfl rfl) (want_if rfl rfl rfl (by rw [hc7]; rfl)) rfl rfl ?_
       refine oy (rv_pick_t rfl rfl hc7 rfl) rfl <| ops_nil fun a hA => ?_
       exact ⟨decide (2 < ((x6.Slots.length : Int))), hG2, hA.part ⟨rfl, rfl, rfl, rfl, rfl, rfl, rfl, trivial⟩, ((hS).sel [0, 1, 2] rfl).selR [0, 1, 2, 3] rfl⟩
      ·replace hG2 := iteF hc7 hG2
       refine ops_off (want_if rfl rfl rfl (by rw [hc7]; rfl)) rfl rfl ?_
       refine ops_off (want_if rfl rfl rfl (by rw [hc7]; rfl)) rfl rfl ?_
       refine ops_off (want_if rfl rfl rfl (by rw [hc7]; rfl)) rfl rfl ?_
       refine ops_off (want_if rfl rfl rfl (by rw [hc7]; rfl)) rfl rfl ?_
       refine oy (rv_pick_f rfl rfl hc7 rfl) rfl <| ops_nil fun a hA => ?_
       exact ⟨false, hG2, hA.part ⟨rfl, rfl, rfl, rfl, rfl, rfl, rfl, trivial⟩, ((hS).sel [0, 1, 2] rfl).selR [0, 1, 2, 3] rfl⟩
     ·skip
      clear hA hS hG2
      rintro a w ⟨x7, hG2, hA, hS⟩
      unfold impl_ListsOk_j3 at hG2
      refine cw_cond hA rfl (fun hc3 => ?_) (fun hc3 => ?_)
      ·replace hG2 := iteT hc3 hG2
       refine cw_seq <| cw_ops hA ?_
       clear hA
       refine oa rfl rfl <| ops_nil fun a hA => cw_ret ?_
       cases hG2
       have ho := hr2 _ rfl; subst ho
       replace hF : some false = some r := hF
       cases hF
       exact fy Tryz.results130 hA rfl hS
      ·replace hG2 := iteF hc3 hG2
       refine cw_skip <| cw_seq <| cw_ops hA ?_
       clear hA
       refine oy (rv_fld (m := 0) Tryz.underlying131 rfl rfl Tryz.sizeOf22 rfl rfl) rfl <| oy (rv_load1 rfl rfl Tryz.isAgg22 (hS.cell 2 rfl rfl)) rfl <| oy (rv_lenS (hS.rd 3 rfl) Tryz.underlying22 rfl rfl) rfl <| om rfl rfl <| ops_nil fun a hA => ?_
       obtain ⟨o2, hl3, hG2⟩ := bindE hG2
       refine cw_cut (J := fun a' w' => ∃ (x12 : List Bool), o2 = Out.brk x12 ∧ AEnv 61 [(1, .pointer (some ⟨b1, 0, none⟩)), (3, .pointer (some ⟨b2, 0, none⟩)), (24, s4), (25, .int .i64 (((l.Own ++ l.Global).length : Int))), (26, .int .i64 (x4))] a' ∧ St (cxAll w0) w' [cBox b1 [s1, s2], cBox b2 (List.map (fun q : Bool => Value.bool q) (x12 : List Bool))] [fRd [s4] (l.Own ++ l.Global : List SList), fRd [s1] (l.Global : List SList), fRd [s2] (l.Own : List SList)]) ?_ ?_
       ·refine cw_block ?_
        refine cw_loop (body := impl_ListsOk_l4 x6) (r := o2) (fun sg a' w' => AEnv 61 [(1, .pointer (some ⟨b1, 0, none⟩)), (3, .pointer (some ⟨b2, 0, none⟩)), (24, s4), (25, .int .i64 (((l.Own ++ l.Global).length : Int))), (26, .int .i64 (x4)), (43, s5), (44, .int .i64 ((x6.Slots.length : Int))), (45, .int .i64 (sg.1))] a' ∧ St (cxAll w0) w' [cBox b1 [s1, s2], cBox b2 (List.map (fun q : Bool => Value.bool q) (sg.2 : List Bool))] [fRd [s4] (l.Own ++ l.Global : List SList), fRd [s5] (x6.Slots : List Int), fRd [s1] (l.Global : List SList), fRd [s2] (l.Own : List SList)]) ?_ hl3 ⟨hA.part ⟨rfl, rfl, rfl, rfl, rfl, rfl, rfl, rfl, trivial⟩, ((hS).sel [0, 1] rfl).selR [0, 3, 1, 2] rfl⟩
        clear hA hS hl3
        rintro ⟨x10, x11⟩ a w q4 ⟨hA, hS⟩ hG4 hr4
        try dsimp only at hA hS
        unfold impl_ListsOk_l4 at hG4
        refine cw_seq <| cw_ops hA ?_
        clear hA
        refine oy (rv_lss rfl rfl rfl) rfl <| ops_nil fun a hA => cw_seq <| cw_cond hA rfl (fun hc4 => ?_) (fun hc4 => ?_)
        ·replace hG4 := iteT hc4 hG4
         refine cw_skip <| cw_seq <| cw_block <| cw_seq <| cw_ops hA ?_
         clear hA
         obtain ⟨x13, hx13, hG4⟩ := bindE hG4
         refine oy (rv_idx (m := 1) (hS.rd 1 rfl) rfl hx13 Tryz.underlying22 Tryz.sizeOf3 rfl rfl rfl) rfl <| oy (rv_load1 rfl rfl Tryz.isAgg3 (cell1 (el_Int (hS.rd 1 rfl) (idx_some hx13).2.2))) rfl <| oa rfl rfl <| ops_nil fun a hA => cw_seq <| cw_seq <| cw_cut (J := fun a' w' => ∃ (x14 : Bool), impl_ListsOk_j5 x10 x11 x13 x14 = some q4 ∧ AEnv 61 [(1, .pointer (some ⟨b1, 0, none⟩)), (3, .pointer (some ⟨b2, 0, none⟩)), (7, .int .i64 (x13)), (24, s4), (25, .int .i64 (((l.Own ++ l.Global).length : Int))), (26, .int .i64 (x4)), (43, s5), (44, .int .i64 ((x6.Slots.length : Int))), (45, .int .i64 (x10)), (56, .bool (x14))] a' ∧ St (cxAll w0) w' [cBox b1 [s1, s2], cBox b2 (List.map (fun q : Bool => Value.bool q) (x11 : List Bool))] [fRd [s4] (l.Own ++ l.Global : List SList), fRd [s5] (x6.Slots : List Int), fRd [s1] (l.Global : List SList), fRd [s2] (l.Own : List SList)]) ?_ ?_
         ·skip
          refine cw_ops hA ?_
          clear hA
          refine om rfl rfl ?_
          obtain ⟨x16, hx16, hG4⟩ := bindE hG4
          refine ops_c (rc_call Tryz.call182 rfl rfl) (want_yes rfl) rfl rfl (c_impl_isSlot (slot := x13)  hx16) ?_
          rintro _ w ⟨rfl, hk⟩
          replace hS := hS.after hk; clear hk
          refine oy (rv_not rfl rfl) rfl <| om rfl rfl <| ops_case (s := 52) rfl (fun hc6 => ?_) (fun hc6 => ?_)
          ·replace hG4 := iteT hc6 hG4
           refine ops_off (want_if rfl rfl rfl (by rw [hc6]; rfl)) rfl rfl ?_
           refine ops_off (want_if rfl rfl rfl (by rw [hc6]; rfl)) rfl rfl ?_
           refine ops_off (want_if rfl rfl rfl (by rw [hc6]; rfl)) rfl rfl ?_
           refine oy (rv_pick_t rfl rfl hc6 rfl) rfl <| ops_nil fun a hA => ?_
           exact ⟨true, hG4, hA.part ⟨rfl, rfl, rfl, rfl, rfl, rfl, rfl, rfl, rfl, rfl, trivial⟩, ((hS).sel [0, 1] rfl).selR [0, 1, 2, 3] rfl⟩
          ·replace hG4 := iteF hc6 hG4
           refine ops_v (rv_move rfl rfl) (want_if rfl rfl rfl (by rw [hc6]; rfl)) rfl rfl ?_
           obtain ⟨hn3, hG4⟩ := needE hG4
           refine ops_v (rv_idxA Tryz.underlying158 Tryz.sizeOf4 hn3 rfl rfl rfl) (want_if rfl rfl rfl (by rw [hc6]; rfl)) rfl rfl ?_
           obtain ⟨x17, hx17, hG4⟩ := bindE hG4
           refine ops_v (rv_load1 rfl rfl Tryz.isAgg4 (hS.arrcell 1 rfl hx17)) (want_if rfl rfl rfl (by rw [hc6]; rfl)) rfl rfl ?_
           refine oy (rv_pick_f rfl rfl hc6 rfl) rfl <| ops_nil fun a hA => ?_
           exact ⟨x17, hG4, hA.part ⟨rfl, rfl, rfl, rfl, rfl, rfl, rfl, rfl, rfl, rfl, trivial⟩, ((hS).sel [0, 1] rfl).selR [0, 1, 2, 3] rfl⟩
         ·skip
          clear hA hS hG4
          rintro a w ⟨x14, hG4, hA, hS⟩
          unfold impl_ListsOk_j5 at hG4
          refine cw_cond hA rfl (fun hc5 => ?_) (fun hc5 => ?_)
          ·replace hG4 := iteT hc5 hG4
           refine cw_seq <| cw_ops hA ?_
           clear hA
           refine oa rfl rfl <| ops_nil fun a hA => cw_ret ?_
           cases hG4
           have ho := hr4 _ rfl; subst ho
           replace hG2 : some (.stop (Out.ret false)) = some q2 := hG2
           cases hG2
           have ho := hr2 _ rfl; subst ho
           replace hF : some false = some r := hF
           cases hF
           exact fy Tryz.results130 hA rfl hS
          ·replace hG4 := iteF hc5 hG4
           refine cw_skip <| cw_ops hA ?_
           clear hA
           refine om rfl rfl ?_
           obtain ⟨hn2, hG4⟩ := needE hG4
           refine oy (rv_idxA Tryz.underlying158 Tryz.sizeOf4 hn2 rfl rfl rfl) rfl ?_
           obtain ⟨x15, hx15, hG4⟩ := bindE hG4
           refine ops_ms (rs_arr (xd := true) hS (m := 1) rfl hx15 Tryz.sizeOf4 rfl rfl rfl rfl rfl rfl) (want_yes rfl) rfl ?_
           clear hS
           intro w hS
           refine ops_nil fun a hA => cw_ops hA ?_
           clear hA
           refine oy (rv_add rfl rfl rfl) rfl <| om rfl rfl <| ops_nil fun a hA => ?_
           cases hG4
           exact ⟨_, rfl, ⟨hA.part ⟨rfl, rfl, rfl, rfl, rfl, rfl, rfl, rfl, trivial⟩, ((hS).sel [0, 1] rfl).selR [0, 1, 2, 3] rfl⟩⟩
        ·replace hG4 := iteF hc4 hG4
         refine cw_exit <| xcons_hit ?_
         cases hG4
         have ho := hr4 _ rfl; subst ho
         exact ⟨x11, rfl, hA.part ⟨rfl, rfl, rfl, rfl, rfl, trivial⟩, ((hS).sel [0, 1] rfl).selR [0, 2, 3] rfl⟩
       ·skip
        clear hA hS hl3
        rintro a w ⟨x12, heq, hA, hS⟩
        replace hG2 : impl_ListsOk_j4 x4 x12 = some q2 := by rw [heq] at hG2; exact hG2
        clear heq
        unfold impl_ListsOk_j4 at hG2
        refine cw_ops hA ?_
        clear hA
        refine oy (rv_add rfl rfl rfl) rfl <| om rfl rfl <| ops_nil fun a hA => ?_
        cases hG2
        exact ⟨_, rfl, ⟨hA.part ⟨rfl, rfl, rfl, rfl, rfl, trivial⟩, ((hS).sel [0, 1] rfl).selR [0, 1, 2] rfl⟩⟩
    ·replace hG2 := iteF hc2 hG2
     refine cw_exit <| xcons_hit ?_
     cases hG2
     have ho := hr2 _ rfl; subst ho
     exact ⟨rfl, hA.part trivial, ((hS).sel [] rfl).selR [] rfl⟩
   ·skip
    clear hA hS hl2
    rintro a w ⟨heq, hA, hS⟩
    replace hF : impl_ListsOk_j2 = some r := by rw [heq] at hF; exact hF
    clear heq
    unfold impl_ListsOk_j2 at hF
    refine cw_seq <| cw_ops hA ?_
    clear hA
    refine oa rfl rfl <| ops_nil fun a hA => cw_ret ?_
    cases hF
    exact fy Tryz.results130 hA rfl hS
theorem c_impl_HandleOk {w0 : World} {h : Int}  {r : Bool}  (hF : impl_HandleOk h = some r) :
    Calls Tryz.prog 134 #[.int .i64 (h)] w0 (Ret fun v w' => v = .bool (r) ∧ St (cxAll w0) w' [] []) := by
 have hS : St (cxAll w0) w0 [] [] := St.enter (by
   intro f hf; cases hf)
 refine calls_cwN (args := [_]) Tryz.func134 rfl Tryz.ntmps134 rfl ?_
 unfold impl_HandleOk at hF
 intro a hA
 refine cw_seq <| cw_ops hA ?_
 clear hA
 refine oa rfl rfl <| ops_nil fun a hA => cw_seq <| cw_cut (J := fun a' w' => ∃ (x1 : Bool), impl_HandleOk_j1 x1 = some r ∧ AEnv 10 [(2, .bool (x1))] a' ∧ St (cxAll w0) w' [] []) ?_ ?_
 ·skip
  refine cw_ops hA ?_
  clear hA
  refine om rfl rfl ?_
  obtain ⟨x2, hx2, hF⟩ := bindE hF
  refine ops_c (rc_call Tryz.call78 rfl rfl) (want_yes rfl) rfl rfl (c_impl_within (n := h) (low := 32) (high := 223)  hx2) ?_
  rintro _ w ⟨rfl, hk⟩
  replace hS := hS.after hk; clear hk
  refine om rfl rfl <| ops_case (s := 5) rfl (fun hc1 => ?_) (fun hc1 => ?_)
  ·replace hF := iteT hc1 hF
   refine ops_v (rv_move rfl rfl) (want_if rfl rfl rfl (by rw [hc1]; rfl)) rfl rfl ?_
   refine ops_v (rv_rem rfl rfl rfl (by decide)) (want_if rfl rfl rfl (by rw [hc1]; rfl)) rfl rfl ?_
   refine ops_v (rv_lss rfl rfl rfl) (want_if rfl rfl rfl (by rw [hc1]; rfl)) rfl rfl ?_
   refine oy (rv_pick_t rfl rfl hc1 rfl) rfl <| oa rfl rfl <| ops_nil fun a hA => ?_
   exact ⟨decide ((Int.tmod h 32) < 24), hF, hA.part ⟨rfl, trivial⟩, ((hS).sel [] rfl).selR [] rfl⟩
  ·replace hF := iteF hc1 hF
   refine ops_off (want_if rfl rfl rfl (by rw [hc1]; rfl)) rfl rfl ?_
   refine ops_off (want_if rfl rfl rfl (by rw [hc1]; rfl)) rfl rfl ?_
   refine ops_off (want_if rfl rfl rfl (by rw [hc1]; rfl)) rfl rfl ?_
   refine oy (rv_pick_f rfl rfl hc1 rfl) rfl <| oa rfl rfl <| ops_nil fun a hA => ?_
   exact ⟨false, hF, hA.part ⟨rfl, trivial⟩, ((hS).sel [] rfl).selR [] rfl⟩
 ·skip
  clear hA hS hF
  rintro a w ⟨x1, hF, hA, hS⟩
  unfold impl_HandleOk_j1 at hF
  refine cw_ret ?_
  cases hF
  exact fy Tryz.results134 hA rfl hS
theorem c_impl_LimboSize {w0 : World} {l : List LList} {s1 : Value} {r : Int} (h1 : Rep.rd (All w0) w0 [s1] (l : List LList)) (hF : impl_LimboSize l = some r) :
    Calls Tryz.prog 135 #[s1] w0 (Ret fun v w' => v = .int .i64 (r) ∧ St (cxAll w0) w' [] []) := by
 have hS : St (cxAll w0) w0 [] [fRd [s1] (l : List LList)] := St.enter (by
   intro f hf
   simp only [List.mem_cons, List.not_mem_nil, or_false] at hf
   subst hf; exact h1)
 refine calls_cwN (args := [_]) Tryz.func135 rfl Tryz.ntmps135 rfl ?_
 unfold impl_LimboSize at hF
 intro a hA
 refine cw_seq <| cw_ops hA ?_
 clear hA
 refine oa rfl rfl <| ops_nil fun a hA => cw_seq <| cw_ops hA ?_
 clear hA
 refine oa rfl rfl <| ops_nil fun a hA => cw_seq <| cw_seq <| cw_ops hA ?_
 clear hA
 refine om rfl rfl <| oy (rv_lenS (hS.rd 0 rfl) Tryz.underlying48 rfl rfl) rfl <| om rfl rfl <| ops_nil fun a hA => ?_
 obtain ⟨o1, hl1, hF⟩ := bindE hF
 refine cw_cut (J := fun a' w' => ∃ (x5 : Int), o1 = x5 ∧ AEnv 19 [(3, .int .i64 (x5))] a' ∧ St (cxAll w0) w' [] []) ?_ ?_
 ·refine cw_block ?_
  refine cw_loop (body := impl_LimboSize_l1 l) (r := o1) (fun sg a' w' => AEnv 19 [(3, .int .i64 (sg.1)), (6, s1), (7, .int .i64 ((l.length : Int))), (8, .int .i64 (sg.2))] a' ∧ St (cxAll w0) w' [] [fRd [s1] (l : List LList)]) ?_ hl1 ⟨hA.part ⟨rfl, rfl, rfl, rfl, trivial⟩, ((hS).sel [] rfl).selR [0] rfl⟩
  clear hA hS hl1
  rintro ⟨x3, x4⟩ a w q1 ⟨hA, hS⟩ hG1 hr1
  try dsimp only at hA hS
  unfold impl_LimboSize_l1 at hG1
  refine cw_seq <| cw_ops hA ?_
  clear hA
  refine oy (rv_lss rfl rfl rfl) rfl <| ops_nil fun a hA => cw_seq <| cw_cond hA rfl (fun hc1 => ?_) (fun hc1 => ?_)
  ·replace hG1 := iteT hc1 hG1
   refine cw_skip <| cw_seq <| cw_block <| cw_seq <| cw_ops hA ?_
   clear hA
   obtain ⟨x6, hx6, hG1⟩ := bindE hG1
   refine oy (rv_idx (m := 1) (hS.rd 0 rfl) rfl hx6 Tryz.underlying48 Tryz.sizeOf106 rfl rfl rfl) rfl ?_
   obtain ⟨s2, hel, hS⟩ := hS.el_LList 0 rfl (idx_some hx6).2.2
   refine oy (rv_loadN rfl rfl Tryz.isAgg106 Tryz.sizeOf106 rfl hel) rfl <| ops_mv (rv_alloc (cs := [(.slice none 0 0)]) hS rfl Tryz.zeroValue106 rfl) (want_yes rfl) rfl rfl ?_
   clear hS
   rintro _ w ⟨b1, rfl, hS⟩
   refine ops_ms (rs_box (vs := [s2]) hS (i := 0) rfl rfl rfl rfl rfl Tryz.sizeOf106 rfl rfl (all1 (one_rd (hS.rd 1 rfl)) rfl)) (want_yes rfl) rfl ?_
   clear hS
   intro w hS
   refine ops_nil fun a hA => cw_ops hA ?_
   clear hA
   refine om rfl rfl <| oy (rv_fld (m := 0) Tryz.underlying106 rfl rfl Tryz.sizeOf95 rfl rfl) rfl <| oy (rv_load1 rfl rfl Tryz.isAgg95 (hS.cell 0 rfl rfl)) rfl <| oy (rv_lenS (hS.rd 1 rfl) Tryz.underlying95 rfl rfl) rfl <| oy (rv_add rfl rfl rfl) rfl <| oa rfl rfl <| ops_nil fun a hA => cw_ops hA ?_
   clear hA
   refine oy (rv_add rfl rfl rfl) rfl <| om rfl rfl <| ops_nil fun a hA => ?_
   cases hG1
   exact ⟨_, rfl, ⟨hA.part ⟨rfl, rfl, rfl, rfl, trivial⟩, ((hS).sel [] rfl).selR [0] rfl⟩⟩
  ·replace hG1 := iteF hc1 hG1
   refine cw_exit <| xcons_hit ?_
   cases hG1
   have ho := hr1 _ rfl; subst ho
   exact ⟨x3, rfl, hA.part ⟨rfl, trivial⟩, ((hS).sel [] rfl).selR [] rfl⟩
 ·skip
  clear hA hS hl1
  rintro a w ⟨x5, heq, hA, hS⟩
  replace hF : impl_LimboSize_j1 x5 = some r := by rw [heq] at hF; exact hF
  clear heq
  unfold impl_LimboSize_j1 at hF
  refine cw_seq <| cw_ops hA ?_
  clear hA
  refine om rfl rfl <| oa rfl rfl <| ops_nil fun a hA => cw_ret ?_
  cases hF
  exact fy Tryz.results135 hA rfl hS
theorem c_impl_LimboOk {w0 : World} {l : List LList} {s1 : Value} {r : Bool} (h1 : Rep.rd (All w0) w0 [s1] (l : List LList)) (hF : impl_LimboOk l = some r) :
    Calls Tryz.prog 71 #[s1] w0 (Ret fun v w' => v = .bool (r) ∧ St (cxAll w0) w' [] []) := by
 have hS : St (cxAll w0) w0 [] [fRd [s1] (l : List LList)] := St.enter (by
   intro f hf
   simp only [List.mem_cons, List.not_mem_nil, or_false] at hf
   subst hf; exact h1)
 refine calls_cwN (args := [_]) Tryz.func71 rfl Tryz.ntmps71 rfl ?_
 unfold impl_LimboOk at hF
 intro a hA
 refine cw_seq <| cw_ops hA ?_
 clear hA
 refine oa rfl rfl <| ops_nil fun a hA => cw_seq <| cw_seq <| cw_ops hA ?_
 clear hA
 refine om rfl rfl <| oy (rv_lenS (hS.rd 0 rfl) Tryz.underlying48 rfl rfl) rfl <| oy (rv_neq rfl rfl rfl) rfl <| ops_nil fun a hA => cw_cond hA rfl (fun hc1 => ?_) (fun hc1 => ?_)
 ·replace hF := iteT hc1 hF
  refine cw_seq <| cw_ops hA ?_
  clear hA
  refine oa rfl rfl <| ops_nil fun a hA => cw_ret ?_
  cases hF
  exact fy Tryz.results71 hA rfl hS
 ·replace hF := iteF hc1 hF
  refine cw_skip <| cw_seq <| cw_ops hA ?_
  clear hA
  refine oy (rv_buildA (cells := #[.bool (false), .bool (false), .bool (false), .bool (false), .bool (false), .bool (false), .bool (false), .bool (false), .bool (false), .bool (false), .bool (false), .bool (false), .bool (false), .bool (false), .bool (false), .bool (false), .bool (false), .bool (false), .bool (false), .bool (false), .bool (false), .bool (false), .bool (false), .bool (false)]) rfl Tryz.zeroValue158 Tryz.underlying158 Tryz.sizeOf4 rfl rfl) rfl <| ops_mv (rv_alloc (cs := List.map (fun q : Bool => Value.bool q) [false, false, false, false, false, false, false, false, false, false, false, false, false, false, false, false, false, false, false, false, false, false, false, false]) hS rfl Tryz.zeroValue158 rfl) (want_yes rfl) rfl rfl ?_
  clear hS
  rintro _ w ⟨b1, rfl, hS⟩
  refine ops_ms (rs_box (vs := [.bool (false), .bool (false), .bool (false), .bool (false), .bool (false), .bool (false), .bool (false), .bool (false), .bool (false), .bool (false), .bool (false), .bool (false), .bool (false), .bool (false), .bool (false), .bool (false), .bool (false), .bool (false), .bool (false), .bool (false), .bool (false), .bool (false), .bool (false), .bool (false)]) hS (i := 0) rfl rfl rfl rfl rfl Tryz.sizeOf158 rfl rfl rfl) (want_yes rfl) rfl ?_
  clear hS
  intro w hS
  refine ops_nil fun a hA => cw_seq <| cw_seq <| cw_ops hA ?_
  clear hA
  refine om rfl rfl <| oy (rv_lenS (hS.rd 0 rfl) Tryz.underlying48 rfl rfl) rfl <| om rfl rfl <| ops_nil fun a hA => ?_
  obtain ⟨o1, hl1, hF⟩ := bindE hF
  refine cw_cut (J := fun a' w' => o1 = Out.brk (()) ∧ AEnv 51 [(0, s1)] a' ∧ St (cxAll w0) w' [] [fRd [s1] (l : List LList)]) ?_ ?_
  ·refine cw_block ?_
   refine cw_loop (body := impl_LimboOk_l1 l) (r := o1) (fun sg a' w' => AEnv 51 [(0, s1), (3, .pointer (some ⟨b1, 0, none⟩)), (12, s1), (13, .int .i64 ((l.length : Int))), (14, .int .i64 (sg.1))] a' ∧ St (cxAll w0) w' [cBox b1 (List.map (fun q : Bool => Value.bool q) (sg.2 : List Bool))] [fRd [s1] (l : List LList)]) ?_ hl1 ⟨hA.part ⟨rfl, rfl, rfl, rfl, rfl, trivial⟩, ((hS).sel [0] rfl).selR [0] rfl⟩
   clear hA hS hl1
   rintro ⟨x3, x4⟩ a w q1 ⟨hA, hS⟩ hG1 hr1
   try dsimp only at hA hS
   unfold impl_LimboOk_l1 at hG1
   refine cw_seq <| cw_ops hA ?_
   clear hA
   refine oy (rv_lss rfl rfl rfl) rfl <| ops_nil fun a hA => cw_seq <| cw_cond hA rfl (fun hc2 => ?_) (fun hc2 => ?_)
   ·replace hG1 := iteT hc2 hG1
    refine cw_skip <| cw_seq <| cw_block <| cw_seq <| cw_ops hA ?_
    clear hA
    obtain ⟨x6, hx6, hG1⟩ := bindE hG1
    refine oy (rv_idx (m := 1) (hS.rd 0 rfl) rfl hx6 Tryz.underlying48 Tryz.sizeOf106 rfl rfl rfl) rfl ?_
    obtain ⟨s2, hel, hS⟩ := hS.el_LList 0 rfl (idx_some hx6).2.2
    refine oy (rv_loadN rfl rfl Tryz.isAgg106 Tryz.sizeOf106 rfl hel) rfl <| ops_mv (rv_alloc (cs := [(.slice none 0 0)]) hS rfl Tryz.zeroValue106 rfl) (want_yes rfl) rfl rfl ?_
    clear hS
    rintro _ w ⟨b2, rfl, hS⟩
    refine ops_ms (rs_box (vs := [s2]) hS (i := 1) rfl rfl rfl rfl rfl Tryz.sizeOf106 rfl rfl (all1 (one_rd (hS.rd 1 rfl)) rfl)) (want_yes rfl) rfl ?_
    clear hS
    intro w hS
    refine ops_nil fun a hA => cw_seq <| cw_ops hA ?_
    clear hA
    refine oy (rv_fld (m := 0) Tryz.underlying106 rfl rfl Tryz.sizeOf95 rfl rfl) rfl <| oy (rv_load1 rfl rfl Tryz.isAgg95 (hS.cell 1 rfl rfl)) rfl <| oy (rv_lenS (hS.rd 1 rfl) Tryz.underlying95 rfl rfl) rfl <| om rfl rfl <| ops_nil fun a hA => ?_
    obtain ⟨o2, hl2, hG1⟩ := bindE hG1
    refine cw_cut (J := fun a' w' => ∃ (x11 : List Bool), o2 = Out.brk x11 ∧ AEnv 51 [(0, s1), (3, .pointer (some ⟨b1, 0, none⟩)), (12, s1), (13, .int .i64 ((l.length : Int))), (14, .int .i64 (x3))] a' ∧ St (cxAll w0) w' [cBox b1 (List.map (fun q : Bool => Value.bool q) (x11 : List Bool))] [fRd [s1] (l : List LList)]) ?_ ?_
    ·refine cw_block ?_
     refine cw_loop (body := impl_LimboOk_l2 x6) (r := o2) (fun sg a' w' => AEnv 51 [(0, s1), (3, .pointer (some ⟨b1, 0, none⟩)), (12, s1), (13, .int .i64 ((l.length : Int))), (14, .int .i64 (x3)), (19, s2), (20, .int .i64 ((x6.Rows.length : Int))), (21, .int .i64 (sg.1))] a' ∧ St (cxAll w0) w' [cBox b1 (List.map (fun q : Bool => Value.bool q) (sg.2 : List Bool))] [fRd [s1] (l : List LList), fRd [s2] (x6.Rows : List LRow)]) ?_ hl2 ⟨hA.part ⟨rfl, rfl, rfl, rfl, rfl, rfl, rfl, rfl, trivial⟩, ((hS).sel [0] rfl).selR [0, 1] rfl⟩
     clear hA hS hl2
     rintro ⟨x9, x10⟩ a w q2 ⟨hA, hS⟩ hG2 hr2
     try dsimp only at hA hS
     unfold impl_LimboOk_l2 at hG2
     refine cw_seq <| cw_ops hA ?_
     clear hA
     refine oy (rv_lss rfl rfl rfl) rfl <| ops_nil fun a hA => cw_seq <| cw_cond hA rfl (fun hc3 => ?_) (fun hc3 => ?_)
     ·replace hG2 := iteT hc3 hG2
      refine cw_skip <| cw_seq <| cw_block <| cw_seq <| cw_ops hA ?_
      clear hA
      obtain ⟨x12, hx12, hG2⟩ := bindE hG2
      refine oy (rv_idx (m := 2) (hS.rd 1 rfl) rfl hx12 Tryz.underlying95 Tryz.sizeOf99 rfl rfl rfl) rfl <| oy (rv_loadN rfl rfl Tryz.isAgg99 Tryz.sizeOf99 rfl (el_LRow (hS.rd 1 rfl) (idx_some hx12).2.2)) rfl <| ops_mv (rv_alloc (cs := [.int .i64 (0), .int .i64 (0)]) hS rfl Tryz.zeroValue99 rfl) (want_yes rfl) rfl rfl ?_
      clear hS
      rintro _ w ⟨b3, rfl, hS⟩
      refine ops_ms (rs_box (vs := [.int .i64 (x12.Handle), .int .i64 (x12.Epoch)]) hS (i := 1) rfl rfl rfl rfl rfl Tryz.sizeOf99 rfl rfl rfl) (want_yes rfl) rfl ?_
      clear hS
      intro w hS
      refine ops_nil fun a hA => cw_seq <| cw_seq <| cw_cut (J := fun a' w' => ∃ (x13 : Bool), impl_LimboOk_j3 x9 x10 x12 x13 = some q2 ∧ AEnv 51 [(0, s1), (3, .pointer (some ⟨b1, 0, none⟩)), (7, .pointer (some ⟨b3, 0, none⟩)), (12, s1), (13, .int .i64 ((l.length : Int))), (14, .int .i64 (x3)), (19, s2), (20, .int .i64 ((x6.Rows.length : Int))), (21, .int .i64 (x9)), (41, .bool (x13))] a' ∧ St (cxAll w0) w' [cBox b1 (List.map (fun q : Bool => Value.bool q) (x10 : List Bool)), cBox b3 [.int .i64 (x12.Handle), .int .i64 (x12.Epoch)]] [fRd [s1] (l : List LList), fRd [s2] (x6.Rows : List LRow)]) ?_ ?_
      ·skip
       refine cw_ops hA ?_
       clear hA
       refine oy (rv_fld (m := 0) Tryz.underlying99 rfl rfl Tryz.sizeOf3 rfl rfl) rfl <| oy (rv_load1 rfl rfl Tryz.isAgg3 (hS.cell 1 rfl rfl)) rfl ?_
       obtain ⟨x15, hx15, hG2⟩ := bindE hG2
       refine ops_c (rc_call Tryz.call134 rfl rfl) (want_yes rfl) rfl rfl (c_impl_HandleOk (h := x12.Handle)  hx15) ?_
       rintro _ w ⟨rfl, hk⟩
       replace hS := hS.after hk; clear hk
       refine oy (rv_not rfl rfl) rfl <| om rfl rfl <| ops_case (s := 29) rfl (fun hc5 => ?_) (fun hc5 => ?_)
       ·replace hG2 := iteT hc5 hG2
        refine ops_off (want_if rfl rfl rfl (by rw [hc5]; rfl)) rfl rfl ?_
        refine ops_off (want_if rfl rfl rfl (by rw [hc5]; rfl)) rfl rfl ?_
        refine ops_off (want_if rfl rfl rfl (by rw [hc5]; rfl)) rfl rfl ?_
        refine ops_off (want_if rfl rfl rfl (by rw [hc5]; rfl)) rfl rfl ?_
        refine oy (rv_pick_t rfl rfl hc5 rfl) rfl <| om rfl rfl <| ops_off (want_if rfl rfl rfl rfl) rfl rfl <| ops_off (want_if rfl rfl rfl rfl) rfl rfl <| ops_off (want_if rfl rfl rfl rfl) rfl rfl <| ops_off (want_if rfl rfl rfl rfl) rfl rfl <| ops_off (want_if rfl rfl rfl rfl) rfl rfl <| oy (rv_pick_t rfl rfl rfl rfl) rfl <| ops_nil fun a hA => ?_
        exact ⟨true, hG2, hA.part ⟨rfl, rfl, rfl, rfl, rfl, rfl, rfl, rfl, rfl, rfl, trivial⟩, ((hS).sel [0, 1] rfl).selR [0, 1] rfl⟩
       ·replace hG2 := iteF hc5 hG2
        refine ops_v (rv_fld (m := 0) Tryz.underlying99 rfl rfl Tryz.sizeOf3 rfl rfl) (want_if rfl rfl rfl (by rw [hc5]; rfl)) rfl rfl ?_
        refine ops_v (rv_load1 rfl rfl Tryz.isAgg3 (hS.cell 1 rfl rfl)) (want_if rfl rfl rfl (by rw [hc5]; rfl)) rfl rfl ?_
        obtain ⟨x16, hx16, hG2⟩ := bindE hG2
        refine ops_c (rc_call Tryz.call78 rfl rfl) (want_if rfl rfl rfl (by rw [hc5]; rfl)) rfl rfl (c_impl_within (n := x12.Epoch) (low := 0) (high := 100000)  hx16) ?_
        rintro _ w ⟨rfl, hk⟩
        replace hS := hS.after hk; clear hk
        refine ops_v (rv_not rfl rfl) (want_if rfl rfl rfl (by rw [hc5]; rfl)) rfl rfl ?_
        refine oy (rv_pick_f rfl rfl hc5 rfl) rfl <| om rfl rfl <| ops_case (s := 35) rfl (fun hc6 => ?_) (fun hc6 => ?_)
        ·replace hG2 := iteT hc6 hG2
         refine ops_off (want_if rfl rfl rfl (by rw [hc6]; rfl)) rfl rfl ?_
         refine ops_off (want_if rfl rfl rfl (by rw [hc6]; rfl)) rfl rfl ?_
         refine ops_off (want_if rfl rfl rfl (by rw [hc6]; rfl)) rfl rfl ?_
         refine ops_off (want_if rfl rfl rfl (by rw [hc6]; rfl)) rfl rfl ?_
         refine ops_off (want_if rfl rfl rfl (by rw [hc6]; rfl)) rfl rfl ?_
         refine oy (rv_pick_t rfl rfl hc6 rfl) rfl <| ops_nil fun a hA => ?_
         exact ⟨true, hG2, hA.part ⟨rfl, rfl, rfl, rfl, rfl, rfl, rfl, rfl, rfl, rfl, trivial⟩, ((hS).sel [0, 1] rfl).selR [0, 1] rfl⟩
        ·replace hG2 := iteF hc6 hG2
         refine ops_v (rv_fld (m := 0) Tryz.underlying99 rfl rfl Tryz.sizeOf3 rfl rfl) (want_if rfl rfl rfl (by rw [hc6]; rfl)) rfl rfl ?_
         refine ops_v (rv_load1 rfl rfl Tryz.isAgg3 (hS.cell 1 rfl rfl)) (want_if rfl rfl rfl (by rw [hc6]; rfl)) rfl rfl ?_
         refine ops_v (rv_rem rfl rfl rfl (by decide)) (want_if rfl rfl rfl (by rw [hc6]; rfl)) rfl rfl ?_
         obtain ⟨hn2, hG2⟩ := needE hG2
         refine ops_v (rv_idxA Tryz.underlying158 Tryz.sizeOf4 hn2 rfl rfl rfl) (want_if rfl rfl rfl (by rw [hc6]; rfl)) rfl rfl ?_
         obtain ⟨x17, hx17, hG2⟩ := bindE hG2
         refine ops_v (rv_load1 rfl rfl Tryz.isAgg4 (hS.arrcell 0 rfl hx17)) (want_if rfl rfl rfl (by rw [hc6]; rfl)) rfl rfl ?_
         refine oy (rv_pick_f rfl rfl hc6 rfl) rfl <| ops_nil fun a hA => ?_
         exact ⟨x17, hG2, hA.part ⟨rfl, rfl, rfl, rfl, rfl, rfl, rfl, rfl, rfl, rfl, trivial⟩, ((hS).sel [0, 1] rfl).selR [0, 1] rfl⟩
      ·skip
       clear hA hS hG2
       rintro a w ⟨x13, hG2, hA, hS⟩
       unfold impl_LimboOk_j3 at hG2
       refine cw_cond hA rfl (fun hc4 => ?_) (fun hc4 => ?_)
       ·replace hG2 := iteT hc4 hG2
        refine cw_seq <| cw_ops hA ?_
        clear hA
        refine oa rfl rfl <| ops_nil fun a hA => cw_ret ?_
        cases hG2
        have ho := hr2 _ rfl; subst ho
        replace hG1 : some (.stop (Out.ret false)) = some q1 := hG1
        cases hG1
        have ho := hr1 _ rfl; subst ho
        replace hF : some false = some r := hF
        cases hF
        exact fy Tryz.results71 hA rfl hS
       ·replace hG2 := iteF hc4 hG2
        refine cw_skip <| cw_ops hA ?_
        clear hA
        refine oy (rv_fld (m := 0) Tryz.underlying99 rfl rfl Tryz.sizeOf3 rfl rfl) rfl <| oy (rv_load1 rfl rfl Tryz.isAgg3 (hS.cell 1 rfl rfl)) rfl <| oy (rv_rem rfl rfl rfl (by decide)) rfl ?_
        obtain ⟨hn1, hG2⟩ := needE hG2
        refine oy (rv_idxA Tryz.underlying158 Tryz.sizeOf4 hn1 rfl rfl rfl) rfl ?_
        obtain ⟨x14, hx14, hG2⟩ := bindE hG2
        refine ops_ms (rs_arr (xd := true) hS (m := 0) rfl hx14 Tryz.sizeOf4 rfl rfl rfl rfl rfl rfl) (want_yes rfl) rfl ?_
        clear hS
        intro w hS
        refine ops_nil fun a hA => cw_ops hA ?_
        clear hA
        refine oy (rv_add rfl rfl rfl) rfl <| om rfl rfl <| ops_nil fun a hA => ?_
        cases hG2
        exact ⟨_, rfl, ⟨hA.part ⟨rfl, rfl, rfl, rfl, rfl, rfl, rfl, rfl, trivial⟩, ((hS).sel [0] rfl).selR [0, 1] rfl⟩⟩
     ·replace hG2 := iteF hc3 hG2
      refine cw_exit <| xcons_hit ?_
      cases hG2
      have ho := hr2 _ rfl; subst ho
      exact ⟨x10, rfl, hA.part ⟨rfl, rfl, rfl, rfl, rfl, trivial⟩, ((hS).sel [0] rfl).selR [0] rfl⟩
    ·skip
     clear hA hS hl2
     rintro a w ⟨x11, heq, hA, hS⟩
     replace hG1 : impl_LimboOk_j2 x3 x11 = some q1 := by rw [heq] at hG1; exact hG1
     clear heq
     unfold impl_LimboOk_j2 at hG1
     refine cw_ops hA ?_
     clear hA
     refine oy (rv_add rfl rfl rfl) rfl <| om rfl rfl <| ops_nil fun a hA => ?_
     cases hG1
     exact ⟨_, rfl, ⟨hA.part ⟨rfl, rfl, rfl, rfl, rfl, trivial⟩, ((hS).sel [0] rfl).selR [0] rfl⟩⟩
   ·replace hG1 := iteF hc2 hG1
    refine cw_exit <| xcons_hit ?_
    cases hG1
    have ho := hr1 _ rfl; subst ho
    exact ⟨rfl, hA.part ⟨rfl, trivial⟩, ((hS).sel [] rfl).selR [0] rfl⟩
  ·skip
   clear hA hS hl1
   rintro a w ⟨heq, hA, hS⟩
   replace hF : impl_LimboOk_j1 l = some r := by rw [heq] at hF; exact hF
   clear heq
   unfold impl_LimboOk_j1 at hF
   refine cw_seq <| cw_ops hA ?_
   clear hA
   refine om rfl rfl ?_
   obtain ⟨x5, hx5, hF⟩ := bindE hF
   refine ops_c (rc_call Tryz.call135 rfl rfl) (want_yes rfl) rfl rfl (c_impl_LimboSize (l := l) (hS.rd 0 rfl) hx5) ?_
   rintro _ w ⟨rfl, hk⟩
   replace hS := hS.after hk; clear hk
   refine oy (rv_leq rfl rfl rfl) rfl <| oa rfl rfl <| ops_nil fun a hA => cw_ret ?_
   cases hF
   exact fy Tryz.results71 hA rfl hS
theorem c_impl_putNum {c : Ctx} {w0 : World} {b : List Int} {at_ : Int} {text : List UInt8} {s1 : Value} {r : (List Int)} (hS : St c w0 [cOwn [s1] (b : List Int)] []) (hF : impl_putNum b at_ text = some r) :
    Calls Tryz.prog 221 #[s1, .int .i64 (at_), sv (text)] w0 (Ret fun v w' => v = .tuple #[] ∧ St (c) w' [cOwn [s1] (r : List Int)] []) := by
 refine calls_cwN (args := [_, _, _]) Tryz.func221 rfl Tryz.ntmps221 rfl ?_
 unfold impl_putNum at hF
 intro a hA
 refine cw_seq <| cw_ops hA ?_
 clear hA
 refine om rfl rfl <| oy (rv_lens Tryz.underlying9 rfl rfl) rfl <| om rfl rfl <| ops_nil fun a hA => ?_
 obtain ⟨o1, hl1, hF⟩ := bindE hF
 refine cw_cut (J := fun a' w' => ∃ (x5 : List Int), o1 = x5 ∧ AEnv 22 [(0, s1)] a' ∧ St (c) w' [cOwn [s1] (x5 : List Int)] []) ?_ ?_
 ·refine cw_block ?_
  refine cw_loop (body := impl_putNum_l1 at_ text) (r := o1) (fun sg a' w' => AEnv 22 [(0, s1), (1, .int .i64 (at_)), (2, sv (text)), (8, .int .i64 ((text.length : Int))), (9, .int .i64 (sg.2))] a' ∧ St (c) w' [cOwn [s1] (sg.1 : List Int)] []) ?_ hl1 ⟨hA.part ⟨rfl, rfl, rfl, rfl, rfl, trivial⟩, ((hS).sel [0] rfl).selR [] rfl⟩
  clear hA hS hl1
  rintro ⟨x3, x4⟩ a w q1 ⟨hA, hS⟩ hG1 hr1
  try dsimp only at hA hS
  unfold impl_putNum_l1 at hG1
  refine cw_seq <| cw_ops hA ?_
  clear hA
  refine oy (rv_lss rfl rfl rfl) rfl <| ops_nil fun a hA => cw_seq <| cw_cond hA rfl (fun hc1 => ?_) (fun hc1 => ?_)
  ·replace hG1 := iteT hc1 hG1
   refine cw_skip <| cw_seq <| cw_block <| cw_seq <| cw_ops hA ?_
   clear hA
   refine om rfl rfl <| oa rfl rfl <| ops_nil fun a hA => cw_ops hA ?_
   clear hA
   refine om rfl rfl <| om rfl rfl <| om rfl rfl <| oy (rv_add rfl rfl rfl) rfl <| om rfl rfl <| om rfl rfl ?_
   obtain ⟨x6, hx6, hG1⟩ := bindE hG1
   refine oy (rv_stri Tryz.underlying9 hx6 rfl rfl rfl) rfl <| oy (rv_convU Tryz.underlying5 Tryz.underlying3 rfl rfl) rfl ?_
   obtain ⟨x7, hx7, hG1⟩ := bindE hG1
   refine oy (rv_idx (m := 1) (hS.rdOwn 0 rfl) rfl hx7 Tryz.underlying22 Tryz.sizeOf3 rfl rfl rfl) rfl <| ops_ms (rs_elem (vs := [.int .i64 ((x6.toNat : Int))]) (f := 0) (xd := (x6.toNat : Int)) hS (i := 0) rfl hx7 rfl (el_Int (hS.rdOwn 0 rfl) (idx_some hx7).2.2) rfl rfl Tryz.sizeOf3 rfl rfl rfl rfl rfl rfl rfl) (want_yes rfl) rfl ?_
   clear hS
   intro w hS
   refine ops_nil fun a hA => cw_ops hA ?_
   clear hA
   refine oy (rv_add rfl rfl rfl) rfl <| om rfl rfl <| ops_nil fun a hA => ?_
   cases hG1
   exact ⟨_, rfl, ⟨hA.part ⟨rfl, rfl, rfl, rfl, rfl, trivial⟩, ((hS).sel [0] rfl).selR [] rfl⟩⟩
  ·replace hG1 := iteF hc1 hG1
   refine cw_exit <| xcons_hit ?_
   cases hG1
   have ho := hr1 _ rfl; subst ho
   exact ⟨x3, rfl, hA.part ⟨rfl, trivial⟩, ((hS).sel [0] rfl).selR [] rfl⟩
 ·skip
  clear hA hS hl1
  rintro a w ⟨x5, heq, hA, hS⟩
  replace hF : impl_putNum_j1 x5 = some r := by rw [heq] at hF; exact hF
  clear heq
  unfold impl_putNum_j1 at hF
  cases hF
  exact fin0 Tryz.results221 hA ⟨rfl, (hS.sel [0] rfl).weaken (R' := []) (fun _ h => nomatch h)⟩
theorem c_laws_markIntS {c : Ctx} {w0 : World} {a_ : List Int} {k : Int} {s1 : Value} {r : Int × (List Int)} (hS : St c w0 [cOwn [s1] (a_ : List Int)] []) (hF : laws_markIntS a_ k = some r) :
    Calls Tryz.prog 36 #[s1, .int .i64 (k)] w0 (Ret fun v w' => v = .int .i64 (r.1) ∧ St (c) w' [cOwn [s1] (r.2 : List Int)] []) := by
 refine calls_cwN (args := [_, _]) Tryz.func36 rfl Tryz.ntmps36 rfl ?_
 unfold laws_markIntS at hF
 intro a hA
 refine cw_seq <| cw_ops hA ?_
 clear hA
 refine oa rfl rfl <| ops_nil fun a hA => cw_seq <| cw_seq <| cw_ops hA ?_
 clear hA
 refine oa rfl rfl <| ops_nil fun a hA => ?_
 obtain ⟨o1, hl1, hF⟩ := bindE hF
 refine cw_cut (J := fun a' w' => ∃ (x7 : List Int) (x8 : Int), o1 = (x7, x8) ∧ AEnv 19 [(0, s1), (1, .int .i64 (x8))] a' ∧ St (c) w' [cOwn [s1] (x7 : List Int)] []) ?_ ?_
 ·refine cw_block ?_
  refine cw_loop (body := laws_markIntS_l1) (r := o1) (fun sg a' w' => AEnv 19 [(0, s1), (1, .int .i64 (sg.2.1)), (5, .int .i64 (sg.2.2))] a' ∧ St (c) w' [cOwn [s1] (sg.1 : List Int)] []) ?_ hl1 ⟨hA.part ⟨rfl, rfl, rfl, trivial⟩, ((hS).sel [0] rfl).selR [] rfl⟩
  clear hA hS hl1
  rintro ⟨x4, x5, x6⟩ a w q1 ⟨hA, hS⟩ hG1 hr1
  try dsimp only at hA hS
  unfold laws_markIntS_l1 at hG1
  refine cw_seq <| cw_seq <| cw_ops hA ?_
  clear hA
  refine om rfl rfl <| om rfl rfl <| oy (rv_lenS (hS.rdOwn 0 rfl) Tryz.underlying22 rfl rfl) rfl <| oy (rv_lss rfl rfl rfl) rfl <| ops_nil fun a hA => cw_cond hA rfl (fun hc1 => ?_) (fun hc1 => ?_)
  ·replace hG1 := iteT hc1 hG1
   refine cw_skip <| cw_seq <| cw_block <| cw_seq <| cw_ops hA ?_
   clear hA
   refine om rfl rfl <| om rfl rfl <| om rfl rfl ?_
   obtain ⟨x9, hx9, hG1⟩ := bindE hG1
   refine oy (rv_idx (m := 1) (hS.rdOwn 0 rfl) rfl hx9 Tryz.underlying22 Tryz.sizeOf3 rfl rfl rfl) rfl <| ops_ms (rs_elem (vs := [.int .i64 (x5)]) (f := 0) (xd := x5) hS (i := 0) rfl hx9 rfl (el_Int (hS.rdOwn 0 rfl) (idx_some hx9).2.2) rfl rfl Tryz.sizeOf3 rfl rfl rfl rfl rfl rfl rfl) (want_yes rfl) rfl ?_
   clear hS
   intro w hS
   refine ops_nil fun a hA => cw_ops hA ?_
   clear hA
   refine om rfl rfl <| oy (rv_add rfl rfl rfl) rfl <| oa rfl rfl <| ops_nil fun a hA => cw_ops hA ?_
   clear hA
   refine om rfl rfl <| oy (rv_add rfl rfl rfl) rfl <| oa rfl rfl <| ops_nil fun a hA => ?_
   cases hG1
   exact ⟨_, rfl, ⟨hA.part ⟨rfl, rfl, rfl, trivial⟩, ((hS).sel [0] rfl).selR [] rfl⟩⟩
  ·replace hG1 := iteF hc1 hG1
   refine cw_exit <| xcons_hit ?_
   cases hG1
   have ho := hr1 _ rfl; subst ho
   exact ⟨x4, x5, rfl, hA.part ⟨rfl, rfl, trivial⟩, ((hS).sel [0] rfl).selR [] rfl⟩
 ·skip
  clear hA hS hl1
  rintro a w ⟨x7, x8, heq, hA, hS⟩
  replace hF : laws_markIntS_j1 x7 x8 = some r := by rw [heq] at hF; exact hF
  clear heq
  unfold laws_markIntS_j1 at hF
  refine cw_seq <| cw_ops hA ?_
  clear hA
  refine om rfl rfl <| oa rfl rfl <| ops_nil fun a hA => cw_ret ?_
  cases hF
  exact fin1 Tryz.results36 hA (res_tmp rfl) ⟨rfl, (hS.sel [0] rfl).weaken (R' := []) (fun _ h => nomatch h)⟩
theorem c_laws_markSListS {c : Ctx} {w0 : World} {a_ : List SList} {k : Int} {s1 : Value} {r : Int × (List SList)} (hS : St c w0 [cOwn [s1] (a_ : List SList)] []) (hF : laws_markSListS a_ k = some r) :
    Calls Tryz.prog 161 #[s1, .int .i64 (k)] w0 (Ret fun v w' => v = .int .i64 (r.1) ∧ St (c) w' [cOwn [s1] (r.2 : List SList)] []) := by
 refine calls_cwN (args := [_, _]) Tryz.func161 rfl Tryz.ntmps161 rfl ?_
 unfold laws_markSListS at hF
 intro a hA
 refine cw_seq <| cw_ops hA ?_
 clear hA
 refine oa rfl rfl <| ops_nil fun a hA => cw_seq <| cw_seq <| cw_ops hA ?_
 clear hA
 refine oa rfl rfl <| ops_nil fun a hA => ?_
 obtain ⟨o1, hl1, hF⟩ := bindE hF
 refine cw_cut (J := fun a' w' => ∃ (x7 : List SList) (x8 : Int), o1 = (x7, x8) ∧ AEnv 20 [(0, s1), (1, .int .i64 (x8))] a' ∧ St (c) w' [cOwn [s1] (x7 : List SList)] []) ?_ ?_
 ·refine cw_block ?_
  refine cw_loop (body := laws_markSListS_l1) (r := o1) (fun sg a' w' => AEnv 20 [(0, s1), (1, .int .i64 (sg.2.1)), (5, .int .i64 (sg.2.2))] a' ∧ St (c) w' [cOwn [s1] (sg.1 : List SList)] []) ?_ hl1 ⟨hA.part ⟨rfl, rfl, rfl, trivial⟩, ((hS).sel [0] rfl).selR [] rfl⟩
  clear hA hS hl1
  rintro ⟨x4, x5, x6⟩ a w q1 ⟨hA, hS⟩ hG1 hr1
  try dsimp only at hA hS
  unfold laws_markSListS_l1 at hG1
  refine cw_seq <| cw_seq <| cw_ops hA ?_
  clear hA
  refine om rfl rfl <| om rfl rfl <| oy (rv_lenS (hS.rdOwn 0 rfl) Tryz.underlying40 rfl rfl) rfl <| oy (rv_lss rfl rfl rfl) rfl <| ops_nil fun a hA => cw_cond hA rfl (fun hc1 => ?_) (fun hc1 => ?_)
  ·replace hG1 := iteT hc1 hG1
   refine cw_skip <| cw_seq <| cw_block <| cw_ops hA ?_
   clear hA
   refine om rfl rfl <| om rfl rfl ?_
   obtain ⟨x9, hx9, hG1⟩ := bindE hG1
   refine oy (rv_idx (m := 1) (hS.rdOwn 0 rfl) rfl hx9 Tryz.underlying40 Tryz.sizeOf131 rfl rfl rfl) rfl <| oy (rv_fld (m := 0) Tryz.underlying131 rfl rfl Tryz.sizeOf22 rfl rfl) rfl ?_
   obtain ⟨ec, hS⟩ := hS.open 0 rfl (idx_some hx9).2.2
   obtain ⟨s2, he, _⟩ := rd_SList (hS.rdOwn 3 rfl)
   subst he
   replace hS := hS.unpack 3 rfl (op_SList x9)
   refine oy (rv_load1 rfl rfl Tryz.isAgg22 (hS.acell (q := elO 1 (x6.toNat) s1) (j := 0) 2 rfl rfl)) rfl <| om rfl rfl ?_
   obtain ⟨c1, hg, hb⟩ := hS.give [4] rfl rfl
   obtain ⟨x10, hx10, hG1⟩ := bindE hG1
   refine ops_c (rc_call Tryz.call36 rfl rfl) (want_yes rfl) rfl rfl (c_laws_markIntS (c := c1) (a_ := x9.Slots) (s1 := s2) (k := x5) (hg _ all_nil) hx10) ?_
   rintro _ w ⟨rfl, hk⟩
   replace hS := hb _ _ _ hk; clear hk hg hb
   refine oa rfl rfl <| ops_nil fun a hA => cw_ops hA ?_
   clear hA
   refine om rfl rfl <| oy (rv_add rfl rfl rfl) rfl <| oa rfl rfl <| ops_nil fun a hA => ?_
   replace hS := hS.pack [5] rfl rfl (op_SList ((⟨x10.2⟩ : SList)))
   replace hS := hS.close [1, 2, 6] rfl rfl
   cases hG1
   exact ⟨_, rfl, ⟨hA.part ⟨rfl, rfl, rfl, trivial⟩, ((hS).sel [7] rfl).selR [] rfl⟩⟩
  ·replace hG1 := iteF hc1 hG1
   refine cw_exit <| xcons_hit ?_
   cases hG1
   have ho := hr1 _ rfl; subst ho
   exact ⟨x4, x5, rfl, hA.part ⟨rfl, rfl, trivial⟩, ((hS).sel [0] rfl).selR [] rfl⟩
 ·skip
  clear hA hS hl1
  rintro a w ⟨x7, x8, heq, hA, hS⟩
  replace hF : laws_markSListS_j1 x7 x8 = some r := by rw [heq] at hF; exact hF
  clear heq
  unfold laws_markSListS_j1 at hF
  refine cw_seq <| cw_ops hA ?_
  clear hA
  refine om rfl rfl <| oa rfl rfl <| ops_nil fun a hA => cw_ret ?_
  cases hF
  exact fin1 Tryz.results161 hA (res_tmp rfl) ⟨rfl, (hS.sel [0] rfl).weaken (R' := []) (fun _ h => nomatch h)⟩
theorem c_laws_markPinS {c : Ctx} {w0 : World} {a_ : List Pin} {k : Int} {s1 : Value} {r : Int × (List Pin)} (hS : St c w0 [cOwn [s1] (a_ : List Pin)] []) (hF : laws_markPinS a_ k = some r) :
    Calls Tryz.prog 91 #[s1, .int .i64 (k)] w0 (Ret fun v w' => v = .int .i64 (r.1) ∧ St (c) w' [cOwn [s1] (r.2 : List Pin)] []) := by
 refine calls_cwN (args := [_, _]) Tryz.func91 rfl Tryz.ntmps91 rfl ?_
 unfold laws_markPinS at hF
 intro a hA
 refine cw_seq <| cw_ops hA ?_
 clear hA
 refine oa rfl rfl <| ops_nil fun a hA => cw_seq <| cw_seq <| cw_ops hA ?_
 clear hA
 refine oa rfl rfl <| ops_nil fun a hA => ?_
 obtain ⟨o1, hl1, hF⟩ := bindE hF
 refine cw_cut (J := fun a' w' => ∃ (x7 : List Pin) (x8 : Int), o1 = (x7, x8) ∧ AEnv 45 [(0, s1), (1, .int .i64 (x8))] a' ∧ St (c) w' [cOwn [s1] (x7 : List Pin)] []) ?_ ?_
 ·refine cw_block ?_
  refine cw_loop (body := laws_markPinS_l1) (r := o1) (fun sg a' w' => AEnv 45 [(0, s1), (1, .int .i64 (sg.2.1)), (5, .int .i64 (sg.2.2))] a' ∧ St (c) w' [cOwn [s1] (sg.1 : List Pin)] []) ?_ hl1 ⟨hA.part ⟨rfl, rfl, rfl, trivial⟩, ((hS).sel [0] rfl).selR [] rfl⟩
  clear hA hS hl1
  rintro ⟨x4, x5, x6⟩ a w q1 ⟨hA, hS⟩ hG1 hr1
  try dsimp only at hA hS
  unfold laws_markPinS_l1 at hG1
  refine cw_seq <| cw_seq <| cw_ops hA ?_
  clear hA
  refine om rfl rfl <| om rfl rfl <| oy (rv_lenS (hS.rdOwn 0 rfl) Tryz.underlying45 rfl rfl) rfl <| oy (rv_lss rfl rfl rfl) rfl <| ops_nil fun a hA => cw_cond hA rfl (fun hc1 => ?_) (fun hc1 => ?_)
  ·replace hG1 := iteT hc1 hG1
   refine cw_skip <| cw_seq <| cw_block <| cw_seq <| cw_ops hA ?_
   clear hA
   refine om rfl rfl <| om rfl rfl <| om rfl rfl <| oy (rv_rem rfl rfl rfl (by decide)) rfl ?_
   refine oy (rv_eql rfl rfl rfl) rfl ?_
   obtain ⟨x9, hx9, hG1⟩ := bindE hG1
   refine oy (rv_idx (m := 4) (hS.rdOwn 0 rfl) rfl hx9 Tryz.underlying45 Tryz.sizeOf134 rfl rfl rfl) rfl <| oy (rv_fld (m := 0) Tryz.underlying134 rfl rfl Tryz.sizeOf4 rfl rfl) rfl <| ops_ms (rs_elem (vs := [.bool ((Int.tmod x5 3) == 0)]) (f := 0) (xd := (⟨(Int.tmod x5 3) == 0, x9.Epoch, x9.Marked, x9.Seen⟩ : Pin)) hS (i := 0) rfl hx9 rfl (el_Pin (hS.rdOwn 0 rfl) (idx_some hx9).2.2) rfl (mk_Pin ((⟨(Int.tmod x5 3) == 0, x9.Epoch, x9.Marked, x9.Seen⟩ : Pin))) Tryz.sizeOf4 rfl rfl rfl rfl rfl rfl rfl) (want_yes rfl) rfl ?_
   clear hS
   intro w hS
   refine ops_nil fun a hA => cw_seq <| cw_ops hA ?_
   clear hA
   refine om rfl rfl <| oy (rv_add rfl rfl rfl) rfl <| oa rfl rfl <| ops_nil fun a hA => cw_seq <| cw_ops hA ?_
   clear hA
   refine om rfl rfl <| om rfl rfl <| om rfl rfl ?_
   obtain ⟨x10, hx10, hG1⟩ := bindE hG1
   refine oy (rv_idx (m := 4) (hS.rdOwn 0 rfl) rfl hx10 Tryz.underlying45 Tryz.sizeOf134 rfl rfl rfl) rfl <| oy (rv_fld (m := 0) Tryz.underlying134 rfl rfl Tryz.sizeOf3 rfl rfl) rfl <| ops_ms (rs_elem (vs := [.int .i64 (w64 (x5 + 1))]) (f := 1) (xd := (⟨x10.On, w64 (x5 + 1), x10.Marked, x10.Seen⟩ : Pin)) hS (i := 0) rfl hx10 rfl (el_Pin (hS.rdOwn 0 rfl) (idx_some hx10).2.2) rfl (mk_Pin ((⟨x10.On, w64 (x5 + 1), x10.Marked, x10.Seen⟩ : Pin))) Tryz.sizeOf3 rfl rfl rfl rfl rfl rfl rfl) (want_yes rfl) rfl ?_
   clear hS
   intro w hS
   refine ops_nil fun a hA => cw_seq <| cw_ops hA ?_
   clear hA
   refine om rfl rfl <| oy (rv_add rfl rfl rfl) rfl <| oa rfl rfl <| ops_nil fun a hA => cw_seq <| cw_ops hA ?_
   clear hA
   refine om rfl rfl <| om rfl rfl <| om rfl rfl <| oy (rv_rem rfl rfl rfl (by decide)) rfl ?_
   refine oy (rv_eql rfl rfl rfl) rfl ?_
   obtain ⟨x11, hx11, hG1⟩ := bindE hG1
   refine oy (rv_idx (m := 4) (hS.rdOwn 0 rfl) rfl hx11 Tryz.underlying45 Tryz.sizeOf134 rfl rfl rfl) rfl <| oy (rv_fld (m := 0) Tryz.underlying134 rfl rfl Tryz.sizeOf4 rfl rfl) rfl <| ops_ms (rs_elem (vs := [.bool ((Int.tmod (w64 ((w64 (x5 + 1)) + 1)) 3) == 0)]) (f := 2) (xd := (⟨x11.On, x11.Epoch, (Int.tmod (w64 ((w64 (x5 + 1)) + 1)) 3) == 0, x11.Seen⟩ : Pin)) hS (i := 0) rfl hx11 rfl (el_Pin (hS.rdOwn 0 rfl) (idx_some hx11).2.2) rfl (mk_Pin ((⟨x11.On, x11.Epoch, (Int.tmod (w64 ((w64 (x5 + 1)) + 1)) 3) == 0, x11.Seen⟩ : Pin))) Tryz.sizeOf4 rfl rfl rfl rfl rfl rfl rfl) (want_yes rfl) rfl ?_
   clear hS
   intro w hS
   refine ops_nil fun a hA => cw_seq <| cw_ops hA ?_
   clear hA
   refine om rfl rfl <| oy (rv_add rfl rfl rfl) rfl <| oa rfl rfl <| ops_nil fun a hA => cw_seq <| cw_ops hA ?_
   clear hA
   refine om rfl rfl <| om rfl rfl <| om rfl rfl ?_
   obtain ⟨x12, hx12, hG1⟩ := bindE hG1
   refine oy (rv_idx (m := 4) (hS.rdOwn 0 rfl) rfl hx12 Tryz.underlying45 Tryz.sizeOf134 rfl rfl rfl) rfl <| oy (rv_fld (m := 0) Tryz.underlying134 rfl rfl Tryz.sizeOf3 rfl rfl) rfl <| ops_ms (rs_elem (vs := [.int .i64 (w64 ((w64 ((w64 (x5 + 1)) + 1)) + 1))]) (f := 3) (xd := (⟨x12.On, x12.Epoch, x12.Marked, w64 ((w64 ((w64 (x5 + 1)) + 1)) + 1)⟩ : Pin)) hS (i := 0) rfl hx12 rfl (el_Pin (hS.rdOwn 0 rfl) (idx_some hx12).2.2) rfl (mk_Pin ((⟨x12.On, x12.Epoch, x12.Marked, w64 ((w64 ((w64 (x5 + 1)) + 1)) + 1)⟩ : Pin))) Tryz.sizeOf3 rfl rfl rfl rfl rfl rfl rfl) (want_yes rfl) rfl ?_
   clear hS
   intro w hS
   refine ops_nil fun a hA => cw_ops hA ?_
   clear hA
   refine om rfl rfl <| oy (rv_add rfl rfl rfl) rfl <| oa rfl rfl <| ops_nil fun a hA => cw_ops hA ?_
   clear hA
   refine om rfl rfl <| oy (rv_add rfl rfl rfl) rfl <| oa rfl rfl <| ops_nil fun a hA => ?_
   cases hG1
   exact ⟨_, rfl, ⟨hA.part ⟨rfl, rfl, rfl, trivial⟩, ((hS).sel [0] rfl).selR [] rfl⟩⟩
  ·replace hG1 := iteF hc1 hG1
   refine cw_exit <| xcons_hit ?_
   cases hG1
   have ho := hr1 _ rfl; subst ho
   exact ⟨x4, x5, rfl, hA.part ⟨rfl, rfl, trivial⟩, ((hS).sel [0] rfl).selR [] rfl⟩
 ·skip
  clear hA hS hl1
  rintro a w ⟨x7, x8, heq, hA, hS⟩
  replace hF : laws_markPinS_j1 x7 x8 = some r := by rw [heq] at hF; exact hF
  clear heq
  unfold laws_markPinS_j1 at hF
  refine cw_seq <| cw_ops hA ?_
  clear hA
  refine om rfl rfl <| oa rfl rfl <| ops_nil fun a hA => cw_ret ?_
  cases hF
  exact fin1 Tryz.results91 hA (res_tmp rfl) ⟨rfl, (hS.sel [0] rfl).weaken (R' := []) (fun _ h => nomatch h)⟩
theorem c_laws_markLRowS {c : Ctx} {w0 : World} {a_ : List LRow} {k : Int} {s1 : Value} {r : Int × (List LRow)} (hS : St c w0 [cOwn [s1] (a_ : List LRow)] []) (hF : laws_markLRowS a_ k = some r) :
    Calls Tryz.prog 92 #[s1, .int .i64 (k)] w0 (Ret fun v w' => v = .int .i64 (r.1) ∧ St (c) w' [cOwn [s1] (r.2 : List LRow)] []) := by
 refine calls_cwN (args := [_, _]) Tryz.func92 rfl Tryz.ntmps92 rfl ?_
 unfold laws_markLRowS at hF
 intro a hA
 refine cw_seq <| cw_ops hA ?_
 clear hA
 refine oa rfl rfl <| ops_nil fun a hA => cw_seq <| cw_seq <| cw_ops hA ?_
 clear hA
 refine oa rfl rfl <| ops_nil fun a hA => ?_
 obtain ⟨o1, hl1, hF⟩ := bindE hF
 refine cw_cut (J := fun a' w' => ∃ (x7 : List LRow) (x8 : Int), o1 = (x7, x8) ∧ AEnv 27 [(0, s1), (1, .int .i64 (x8))] a' ∧ St (c) w' [cOwn [s1] (x7 : List LRow)] []) ?_ ?_
 ·refine cw_block ?_
  refine cw_loop (body := laws_markLRowS_l1) (r := o1) (fun sg a' w' => AEnv 27 [(0, s1), (1, .int .i64 (sg.2.1)), (5, .int .i64 (sg.2.2))] a' ∧ St (c) w' [cOwn [s1] (sg.1 : List LRow)] []) ?_ hl1 ⟨hA.part ⟨rfl, rfl, rfl, trivial⟩, ((hS).sel [0] rfl).selR [] rfl⟩
  clear hA hS hl1
  rintro ⟨x4, x5, x6⟩ a w q1 ⟨hA, hS⟩ hG1 hr1
  try dsimp only at hA hS
  unfold laws_markLRowS_l1 at hG1
  refine cw_seq <| cw_seq <| cw_ops hA ?_
  clear hA
  refine om rfl rfl <| om rfl rfl <| oy (rv_lenS (hS.rdOwn 0 rfl) Tryz.underlying95 rfl rfl) rfl <| oy (rv_lss rfl rfl rfl) rfl <| ops_nil fun a hA => cw_cond hA rfl (fun hc1 => ?_) (fun hc1 => ?_)
  ·replace hG1 := iteT hc1 hG1
   refine cw_skip <| cw_seq <| cw_block <| cw_seq <| cw_ops hA ?_
   clear hA
   refine om rfl rfl <| om rfl rfl <| om rfl rfl ?_
   obtain ⟨x9, hx9, hG1⟩ := bindE hG1
   refine oy (rv_idx (m := 2) (hS.rdOwn 0 rfl) rfl hx9 Tryz.underlying95 Tryz.sizeOf99 rfl rfl rfl) rfl <| oy (rv_fld (m := 0) Tryz.underlying99 rfl rfl Tryz.sizeOf3 rfl rfl) rfl <| ops_ms (rs_elem (vs := [.int .i64 (x5)]) (f := 0) (xd := (⟨x5, x9.Epoch⟩ : LRow)) hS (i := 0) rfl hx9 rfl (el_LRow (hS.rdOwn 0 rfl) (idx_some hx9).2.2) rfl (mk_LRow ((⟨x5, x9.Epoch⟩ : LRow))) Tryz.sizeOf3 rfl rfl rfl rfl rfl rfl rfl) (want_yes rfl) rfl ?_
   clear hS
   intro w hS
   refine ops_nil fun a hA => cw_seq <| cw_ops hA ?_
   clear hA
   refine om rfl rfl <| oy (rv_add rfl rfl rfl) rfl <| oa rfl rfl <| ops_nil fun a hA => cw_seq <| cw_ops hA ?_
   clear hA
   refine om rfl rfl <| om rfl rfl <| om rfl rfl ?_
   obtain ⟨x10, hx10, hG1⟩ := bindE hG1
   refine oy (rv_idx (m := 2) (hS.rdOwn 0 rfl) rfl hx10 Tryz.underlying95 Tryz.sizeOf99 rfl rfl rfl) rfl <| oy (rv_fld (m := 0) Tryz.underlying99 rfl rfl Tryz.sizeOf3 rfl rfl) rfl <| ops_ms (rs_elem (vs := [.int .i64 (w64 (x5 + 1))]) (f := 1) (xd := (⟨x10.Handle, w64 (x5 + 1)⟩ : LRow)) hS (i := 0) rfl hx10 rfl (el_LRow (hS.rdOwn 0 rfl) (idx_some hx10).2.2) rfl (mk_LRow ((⟨x10.Handle, w64 (x5 + 1)⟩ : LRow))) Tryz.sizeOf3 rfl rfl rfl rfl rfl rfl rfl) (want_yes rfl) rfl ?_
   clear hS
   intro w hS
   refine ops_nil fun a hA => cw_ops hA ?_
   clear hA
   refine om rfl rfl <| oy (rv_add rfl rfl rfl) rfl <| oa rfl rfl <| ops_nil fun a hA => cw_ops hA ?_
   clear hA
   refine om rfl rfl <| oy (rv_add rfl rfl rfl) rfl <| oa rfl rfl <| ops_nil fun a hA => ?_
   cases hG1
   exact ⟨_, rfl, ⟨hA.part ⟨rfl, rfl, rfl, trivial⟩, ((hS).sel [0] rfl).selR [] rfl⟩⟩
  ·replace hG1 := iteF hc1 hG1
   refine cw_exit <| xcons_hit ?_
   cases hG1
   have ho := hr1 _ rfl; subst ho
   exact ⟨x4, x5, rfl, hA.part ⟨rfl, rfl, trivial⟩, ((hS).sel [0] rfl).selR [] rfl⟩
 ·skip
  clear hA hS hl1
  rintro a w ⟨x7, x8, heq, hA, hS⟩
  replace hF : laws_markLRowS_j1 x7 x8 = some r := by rw [heq] at hF; exact hF
  clear heq
  unfold laws_markLRowS_j1 at hF
  refine cw_seq <| cw_ops hA ?_
  clear hA
  refine om rfl rfl <| oa rfl rfl <| ops_nil fun a hA => cw_ret ?_
  cases hF
  exact fin1 Tryz.results92 hA (res_tmp rfl) ⟨rfl, (hS.sel [0] rfl).weaken (R' := []) (fun _ h => nomatch h)⟩
theorem c_laws_markLListS {c : Ctx} {w0 : World} {a_ : List LList} {k : Int} {s1 : Value} {r : Int × (List LList)} (hS : St c w0 [cOwn [s1] (a_ : List LList)] []) (hF : laws_markLListS a_ k = some r) :
    Calls Tryz.prog 35 #[s1, .int .i64 (k)] w0 (Ret fun v w' => v = .int .i64 (r.1) ∧ St (c) w' [cOwn [s1] (r.2 : List LList)] []) := by
 refine calls_cwN (args := [_, _]) Tryz.func35 rfl Tryz.ntmps35 rfl ?_
 unfold laws_markLListS at hF
 intro a hA
 refine cw_seq <| cw_ops hA ?_
 clear hA
 refine oa rfl rfl <| ops_nil fun a hA => cw_seq <| cw_seq <| cw_ops hA ?_
 clear hA
 refine oa rfl rfl <| ops_nil fun a hA => ?_
 obtain ⟨o1, hl1, hF⟩ := bindE hF
 refine cw_cut (J := fun a' w' => ∃ (x7 : List LList) (x8 : Int), o1 = (x7, x8) ∧ AEnv 20 [(0, s1), (1, .int .i64 (x8))] a' ∧ St (c) w' [cOwn [s1] (x7 : List LList)] []) ?_ ?_
 ·refine cw_block ?_
  refine cw_loop (body := laws_markLListS_l1) (r := o1) (fun sg a' w' => AEnv 20 [(0, s1), (1, .int .i64 (sg.2.1)), (5, .int .i64 (sg.2.2))] a' ∧ St (c) w' [cOwn [s1] (sg.1 : List LList)] []) ?_ hl1 ⟨hA.part ⟨rfl, rfl, rfl, trivial⟩, ((hS).sel [0] rfl).selR [] rfl⟩
  clear hA hS hl1
  rintro ⟨x4, x5, x6⟩ a w q1 ⟨hA, hS⟩ hG1 hr1
  try dsimp only at hA hS
  unfold laws_markLListS_l1 at hG1
  refine cw_seq <| cw_seq <| cw_ops hA ?_
  clear hA
  refine om rfl rfl <| om rfl rfl <| oy (rv_lenS (hS.rdOwn 0 rfl) Tryz.underlying48 rfl rfl) rfl <| oy (rv_lss rfl rfl rfl) rfl <| ops_nil fun a hA => cw_cond hA rfl (fun hc1 => ?_) (fun hc1 => ?_)
  ·replace hG1 := iteT hc1 hG1
   refine cw_skip <| cw_seq <| cw_block <| cw_ops hA ?_
   clear hA
   refine om rfl rfl <| om rfl rfl ?_
   obtain ⟨x9, hx9, hG1⟩ := bindE hG1
   refine oy (rv_idx (m := 1) (hS.rdOwn 0 rfl) rfl hx9 Tryz.underlying48 Tryz.sizeOf106 rfl rfl rfl) rfl <| oy (rv_fld (m := 0) Tryz.underlying106 rfl rfl Tryz.sizeOf95 rfl rfl) rfl ?_
   obtain ⟨ec, hS⟩ := hS.open 0 rfl (idx_some hx9).2.2
   obtain ⟨s2, he, _⟩ := rd_LList (hS.rdOwn 3 rfl)
   subst he
   replace hS := hS.unpack 3 rfl (op_LList x9)
   refine oy (rv_load1 rfl rfl Tryz.isAgg95 (hS.acell (q := elO 1 (x6.toNat) s1) (j := 0) 2 rfl rfl)) rfl <| om rfl rfl ?_
   obtain ⟨c1, hg, hb⟩ := hS.give [4] rfl rfl
   obtain ⟨x10, hx10, hG1⟩ := bindE hG1
   refine ops_c (rc_call Tryz.call92 rfl rfl) (want_yes rfl) rfl rfl (c_laws_markLRowS (c := c1) (a_ := x9.Rows) (s1 := s2) (k := x5) (hg _ all_nil) hx10) ?_
   rintro _ w ⟨rfl, hk⟩
   replace hS := hb _ _ _ hk; clear hk hg hb
   refine oa rfl rfl <| ops_nil fun a hA => cw_ops hA ?_
   clear hA
   refine om rfl rfl <| oy (rv_add rfl rfl rfl) rfl <| oa rfl rfl <| ops_nil fun a hA => ?_
   replace hS := hS.pack [5] rfl rfl (op_LList ((⟨x10.2⟩ : LList)))
   replace hS := hS.close [1, 2, 6] rfl rfl
   cases hG1
   exact ⟨_, rfl, ⟨hA.part ⟨rfl, rfl, rfl, trivial⟩, ((hS).sel [7] rfl).selR [] rfl⟩⟩
  ·replace hG1 := iteF hc1 hG1
   refine cw_exit <| xcons_hit ?_
   cases hG1
   have ho := hr1 _ rfl; subst ho
   exact ⟨x4, x5, rfl, hA.part ⟨rfl, rfl, trivial⟩, ((hS).sel [0] rfl).selR [] rfl⟩
 ·skip
  clear hA hS hl1
  rintro a w ⟨x7, x8, heq, hA, hS⟩
  replace hF : laws_markLListS_j1 x7 x8 = some r := by rw [heq] at hF; exact hF
  clear heq
  unfold laws_markLListS_j1 at hF
  refine cw_seq <| cw_ops hA ?_
  clear hA
  refine om rfl rfl <| oa rfl rfl <| ops_nil fun a hA => cw_ret ?_
  cases hF
  exact fin1 Tryz.results35 hA (res_tmp rfl) ⟨rfl, (hS.sel [0] rfl).weaken (R' := []) (fun _ h => nomatch h)⟩
end Go.Proofs.YtlhhifdhlkihkaaGreat
end
