import Derived.Test.YtpndngnohcffnaaGvLoop
namespace Go.Gv
structure Heap where
  Bytes : List Int
  Class : List Int
  deriving DecidableEq, Inhabited

instance : Rep Heap := Rep.via (fun d => (d.Bytes, d.Class))
instance : Fits Heap := Fits.via (fun d => (d.Bytes, d.Class))

theorem rd_Heap {S : Foot} {w : World} {cs : List Value} {d : Heap} (h : Rep.rd S w cs d) : ∃ v0 v1 : Value, cs = [v0, v1] ∧ Rep.rd S w [v0] d.Bytes ∧ Rep.rd S w [v1] d.Class := by
  obtain ⟨c0, r0, e0, h0, n0⟩ := h
  obtain ⟨u0, q0⟩ := rd_one_cell h0
  rw [q0] at h0
  obtain ⟨u1, q1⟩ := rd_one_cell n0
  rw [q1] at n0
  exact ⟨u0, u1, by rw [e0, q0, q1]; rfl, h0, n0⟩

theorem mk_Heap {S : Foot} {w : World} (d : Heap) {v0 : Value} {v1 : Value} (h0 : Rep.rd S w [v0] d.Bytes) (h1 : Rep.rd S w [v1] d.Class) : Rep.rd S w [v0, v1] d := ⟨[v0], [v1], rfl, h0, h1⟩

theorem op_Heap (d : Heap) {v0 : Value} {v1 : Value} : OP [v0, v1] d [cOwn [v0] d.Bytes, cOwn [v1] d.Class] := (show OP (α := (List Int) × (List Int)) _ (d.Bytes, d.Class) _ from (op_pair (c1 := [v0]) (c2 := [v1]) op_own op_own rfl))

theorem _root_.Go.Gv.St.el_Heap {c : Ctx} {L : List Chunk} {R : List Fact} {w : World} {s : Value} {l : List Heap} {i : Nat} {x : Heap} (h : St c w L R) (j : Nat) (hj : R[j]? = some (fRd [s] l)) (hi : l[i]? = some x) : ∃ v0 v1 : Value, CellsAt w (elB s) (elO 2 i s) [v0, v1] ∧ St c w L (R ++ [fRd [v0] x.Bytes, fRd [v1] x.Class]) := by
  obtain ⟨S, hS, hk⟩ := h.factS hj
  obtain ⟨ec, h1, h2⟩ := rd_el hS hi
  obtain ⟨v0, v1, q, q0, q1⟩ := rd_Heap h2
  rw [q] at h1
  exact ⟨v0, v1, h1, hk _ (by intro f hf; simp only [List.mem_cons, List.not_mem_nil, or_false] at hf; rcases hf with rfl | rfl <;> assumption)⟩

structure SList where
  Slots : List Int
  deriving DecidableEq, Inhabited

instance : Rep SList := Rep.via (fun d => (d.Slots))
instance : Fits SList := Fits.via (fun d => (d.Slots))

theorem rd_SList {S : Foot} {w : World} {cs : List Value} {d : SList} (h : Rep.rd S w cs d) : ∃ v0 : Value, cs = [v0] ∧ Rep.rd S w [v0] d.Slots := by
  obtain ⟨u0, q0⟩ := rd_one_cell h
  rw [q0] at h
  exact ⟨u0, q0, h⟩

theorem mk_SList {S : Foot} {w : World} (d : SList) {v0 : Value} (h0 : Rep.rd S w [v0] d.Slots) : Rep.rd S w [v0] d := h0

theorem op_SList (d : SList) {v0 : Value} : OP [v0] d [cOwn [v0] d.Slots] := (show OP (α := (List Int)) _ (d.Slots) _ from op_own)

theorem _root_.Go.Gv.St.el_SList {c : Ctx} {L : List Chunk} {R : List Fact} {w : World} {s : Value} {l : List SList} {i : Nat} {x : SList} (h : St c w L R) (j : Nat) (hj : R[j]? = some (fRd [s] l)) (hi : l[i]? = some x) : ∃ v0 : Value, CellsAt w (elB s) (elO 1 i s) [v0] ∧ St c w L (R ++ [fRd [v0] x.Slots]) := by
  obtain ⟨S, hS, hk⟩ := h.factS hj
  obtain ⟨ec, h1, h2⟩ := rd_el hS hi
  obtain ⟨v0, q, q0⟩ := rd_SList h2
  rw [q] at h1
  exact ⟨v0, h1, hk _ (by intro f hf; simp only [List.mem_cons, List.not_mem_nil, or_false] at hf; subst hf; exact q0)⟩

structure Lists where
  Global : List SList
  Own : List SList
  deriving DecidableEq, Inhabited

instance : Rep Lists := Rep.via (fun d => (d.Global, d.Own))
instance : Fits Lists := Fits.via (fun d => (d.Global, d.Own))

theorem rd_Lists {S : Foot} {w : World} {cs : List Value} {d : Lists} (h : Rep.rd S w cs d) : ∃ v0 v1 : Value, cs = [v0, v1] ∧ Rep.rd S w [v0] d.Global ∧ Rep.rd S w [v1] d.Own := by
  obtain ⟨c0, r0, e0, h0, n0⟩ := h
  obtain ⟨u0, q0⟩ := rd_one_cell h0
  rw [q0] at h0
  obtain ⟨u1, q1⟩ := rd_one_cell n0
  rw [q1] at n0
  exact ⟨u0, u1, by rw [e0, q0, q1]; rfl, h0, n0⟩

theorem mk_Lists {S : Foot} {w : World} (d : Lists) {v0 : Value} {v1 : Value} (h0 : Rep.rd S w [v0] d.Global) (h1 : Rep.rd S w [v1] d.Own) : Rep.rd S w [v0, v1] d := ⟨[v0], [v1], rfl, h0, h1⟩

theorem op_Lists (d : Lists) {v0 : Value} {v1 : Value} : OP [v0, v1] d [cOwn [v0] d.Global, cOwn [v1] d.Own] := (show OP (α := (List SList) × (List SList)) _ (d.Global, d.Own) _ from (op_pair (c1 := [v0]) (c2 := [v1]) op_own op_own rfl))

theorem _root_.Go.Gv.St.el_Lists {c : Ctx} {L : List Chunk} {R : List Fact} {w : World} {s : Value} {l : List Lists} {i : Nat} {x : Lists} (h : St c w L R) (j : Nat) (hj : R[j]? = some (fRd [s] l)) (hi : l[i]? = some x) : ∃ v0 v1 : Value, CellsAt w (elB s) (elO 2 i s) [v0, v1] ∧ St c w L (R ++ [fRd [v0] x.Global, fRd [v1] x.Own]) := by
  obtain ⟨S, hS, hk⟩ := h.factS hj
  obtain ⟨ec, h1, h2⟩ := rd_el hS hi
  obtain ⟨v0, v1, q, q0, q1⟩ := rd_Lists h2
  rw [q] at h1
  exact ⟨v0, v1, h1, hk _ (by intro f hf; simp only [List.mem_cons, List.not_mem_nil, or_false] at hf; rcases hf with rfl | rfl <;> assumption)⟩

structure Mem where
  Heap : Heap
  Lists : Lists
  deriving DecidableEq, Inhabited

instance : Rep Mem := Rep.via (fun d => (d.Heap, d.Lists))
instance : Fits Mem := Fits.via (fun d => (d.Heap, d.Lists))

theorem rd_Mem {S : Foot} {w : World} {cs : List Value} {d : Mem} (h : Rep.rd S w cs d) : ∃ v0 v1 v2 v3 : Value, cs = [v0, v1, v2, v3] ∧ Rep.rd S w [v0] d.Heap.Bytes ∧ Rep.rd S w [v1] d.Heap.Class ∧ Rep.rd S w [v2] d.Lists.Global ∧ Rep.rd S w [v3] d.Lists.Own := by
  obtain ⟨c0, r0, e0, h0, n0⟩ := h
  obtain ⟨u0_0, u0_1, q0, hq0_0, hq0_1⟩ := rd_Heap h0
  obtain ⟨u1_0, u1_1, q1, hq1_0, hq1_1⟩ := rd_Lists n0
  exact ⟨u0_0, u0_1, u1_0, u1_1, by rw [e0, q0, q1]; rfl, hq0_0, hq0_1, hq1_0, hq1_1⟩

theorem mk_Mem {S : Foot} {w : World} (d : Mem) {v0 : Value} {v1 : Value} {v2 : Value} {v3 : Value} (h0 : Rep.rd S w [v0] d.Heap.Bytes) (h1 : Rep.rd S w [v1] d.Heap.Class) (h2 : Rep.rd S w [v2] d.Lists.Global) (h3 : Rep.rd S w [v3] d.Lists.Own) : Rep.rd S w [v0, v1, v2, v3] d := ⟨[v0, v1], [v2, v3], rfl, (mk_Heap _ h0 h1), (mk_Lists _ h2 h3)⟩

theorem op_Mem (d : Mem) {v0 : Value} {v1 : Value} {v2 : Value} {v3 : Value} : OP [v0, v1, v2, v3] d [cOwn [v0] d.Heap.Bytes, cOwn [v1] d.Heap.Class, cOwn [v2] d.Lists.Global, cOwn [v3] d.Lists.Own] := (show OP (α := Heap × Lists) _ (d.Heap, d.Lists) _ from (op_pair (c1 := [v0, v1]) (c2 := [v2, v3]) (op_Heap _) (op_Lists _) rfl))

theorem _root_.Go.Gv.St.el_Mem {c : Ctx} {L : List Chunk} {R : List Fact} {w : World} {s : Value} {l : List Mem} {i : Nat} {x : Mem} (h : St c w L R) (j : Nat) (hj : R[j]? = some (fRd [s] l)) (hi : l[i]? = some x) : ∃ v0 v1 v2 v3 : Value, CellsAt w (elB s) (elO 4 i s) [v0, v1, v2, v3] ∧ St c w L (R ++ [fRd [v0] x.Heap.Bytes, fRd [v1] x.Heap.Class, fRd [v2] x.Lists.Global, fRd [v3] x.Lists.Own]) := by
  obtain ⟨S, hS, hk⟩ := h.factS hj
  obtain ⟨ec, h1, h2⟩ := rd_el hS hi
  obtain ⟨v0, v1, v2, v3, q, q0, q1, q2, q3⟩ := rd_Mem h2
  rw [q] at h1
  exact ⟨v0, v1, v2, v3, h1, hk _ (by intro f hf; simp only [List.mem_cons, List.not_mem_nil, or_false] at hf; rcases hf with rfl | rfl | rfl | rfl <;> assumption)⟩

structure Reader where
  left : GStr
  bad : Bool
  deriving DecidableEq, Inhabited

instance : Rep Reader := Rep.via (fun d => (d.left, d.bad))
instance : Fits Reader := Fits.via (fun d => (d.left, d.bad))

theorem rd_Reader {S : Foot} {w : World} {cs : List Value} {d : Reader} (h : Rep.rd S w cs d) : cs = [sv (d.left.b), .bool (d.bad)] := by
  obtain ⟨c0, r0, e0, h0, n0⟩ := h
  have q0 : c0 = [_] := h0
  have q1 : r0 = [_] := n0
  exact by rw [e0, q0, q1]; rfl

theorem mk_Reader {S : Foot} {w : World} (d : Reader)   : Rep.rd S w [sv (d.left.b), .bool (d.bad)] d := ⟨[sv (d.left.b)], [.bool (d.bad)], rfl, rfl, rfl⟩

instance : Flat Reader := ⟨fun h => Flat.own_of (α := GStr × Bool) h, fun h => Flat.no (α := GStr × Bool) h⟩

theorem op_Reader (d : Reader)  : OP [sv (d.left.b), .bool (d.bad)] d [] := (show OP (α := GStr × Bool) _ (d.left, d.bad) _ from (op_pair (c1 := [sv (d.left.b)]) (c2 := [.bool (d.bad)]) (op_flat rfl) (op_flat rfl) rfl))

theorem el_Reader {S : Foot} {w : World} {s : Value} {l : List Reader} {i : Nat} {x : Reader} (h : Rep.rd S w [s] l) (hi : l[i]? = some x) : CellsAt w (elB s) (elO 2 i s) [sv (x.left.b), .bool (x.bad)] := by
  obtain ⟨ec, h1, h2⟩ := rd_el h hi
  rw [rd_Reader h2] at h1; exact h1
end Go.Gv
