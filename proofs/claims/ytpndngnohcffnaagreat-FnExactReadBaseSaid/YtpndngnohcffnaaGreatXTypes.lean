import Derived.Test.YtpndngnohcffnaaGreatGvLoop
namespace Go.Gv
structure Heap where
  Bytes : List Int
  Class : List Int
  deriving DecidableEq, Inhabited

instance : Rep Heap := Rep.via (fun d => (d.Bytes, d.Class))
instance : Fits Heap := Fits.via (fun d => (d.Bytes, d.Class))

theorem rd_Heap {S : Foot} {w : World} {cs : List Value} {d : Heap} (h : Rep.rd S w cs d) : ∃ v0 v1 : Value, cs = [v0, v1] ∧ Rep.rd S w [v0] d.Bytes ∧ Rep.rd S w [v1] d.Class := by
  obtain ⟨c0, r0, e0, h0, n0⟩ := h
  obtain ⟨u0, q0⟩ := rd_one_cell h0
  rw [q0] at h0
  obtain ⟨u1, q1⟩ := rd_one_cell n0
  rw [q1] at n0
  exact ⟨u0, u1, by rw [e0, q0, q1]; rfl, h0, n0⟩

theorem mk_Heap {S : Foot} {w : World} (d : Heap) {v0 : Value} {v1 : Value} (h0 : Rep.rd S w [v0] d.Bytes) (h1 : Rep.rd S w [v1] d.Class) : Rep.rd S w [v0, v1] d := ⟨[v0], [v1], rfl, h0, h1⟩

theorem op_Heap (d : Heap) {v0 : Value} {v1 : Value} : OP [v0, v1] d [cOwn [v0] d.Bytes, cOwn [v1] d.Class] := (show OP (α := (List Int) × (List Int)) _ (d.Bytes, d.Class) _ from (op_pair (c1 := [v0]) (c2 := [v1]) (A := [cOwn [v0] d.Bytes]) (B := [cOwn [v1] d.Class]) op_own op_own rfl))

theorem _root_.Go.Gv.St.el_Heap {c : Ctx} {L : List Chunk} {R : List Fact} {w : World} {s : Value} {l : List Heap} {i : Nat} {x : Heap} (h : St c w L R) (j : Nat) (hj : R[j]? = some (fRd [s] l)) (hi : l[i]? = some x) : ∃ v0 v1 : Value, CellsAt w (elB s) (elO 2 i s) [v0, v1] ∧ St c w L (R ++ [fRd [v0] x.Bytes, fRd [v1] x.Class]) := by
  obtain ⟨S, hS, hk⟩ := h.factS hj
  obtain ⟨ec, h1, h2⟩ := rd_el hS hi
  obtain ⟨v0, v1, q, q0, q1⟩ := rd_Heap h2
  rw [q] at h1
  exact ⟨v0, v1, h1, hk _ (by intro f hf; simp only [List.mem_cons, List.not_mem_nil, or_false] at hf; rcases hf with rfl | rfl <;> assumption)⟩
theorem _root_.Go.Gv.St.elF_Heap {c : Ctx} {L : List Chunk} {R : List Fact} {w : World} {s : Value} {l : List Heap} {i : Nat} {x : Heap} (h : St c w L R) (j : Nat) (hj : R[j]? = some (fRd [s] l)) (hi : l[i]? = some x) : ∃ v0 v1 : Value, St c w L (R ++ [fAt (elB s) (elO 2 i s) [v0, v1], fRd [v0] x.Bytes, fRd [v1] x.Class]) := by
  obtain ⟨S, hS, hk⟩ := h.factS hj
  obtain ⟨ec, h1, h2⟩ := rd_elF hS hi
  obtain ⟨v0, v1, q, q0, q1⟩ := rd_Heap h2
  rw [q] at h1
  exact ⟨v0, v1, hk _ (by intro f hf; simp only [List.mem_cons, List.not_mem_nil, or_false] at hf; rcases hf with rfl | rfl | rfl <;> assumption)⟩

structure SList where
  Slots : List Int
  deriving DecidableEq, Inhabited

instance : Rep SList := Rep.via (fun d => (d.Slots))
instance : Fits SList := Fits.via (fun d => (d.Slots))

theorem rd_SList {S : Foot} {w : World} {cs : List Value} {d : SList} (h : Rep.rd S w cs d) : ∃ v0 : Value, cs = [v0] ∧ Rep.rd S w [v0] d.Slots := by
  obtain ⟨u0, q0⟩ := rd_one_cell h
  rw [q0] at h
  exact ⟨u0, q0, h⟩

theorem mk_SList {S : Foot} {w : World} (d : SList) {v0 : Value} (h0 : Rep.rd S w [v0] d.Slots) : Rep.rd S w [v0] d := h0

theorem op_SList (d : SList) {v0 : Value} : OP [v0] d [cOwn [v0] d.Slots] := (show OP (α := (List Int)) _ (d.Slots) _ from op_own)

theorem _root_.Go.Gv.St.el_SList {c : Ctx} {L : List Chunk} {R : List Fact} {w : World} {s : Value} {l : List SList} {i : Nat} {x : SList} (h : St c w L R) (j : Nat) (hj : R[j]? = some (fRd [s] l)) (hi : l[i]? = some x) : ∃ v0 : Value, CellsAt w (elB s) (elO 1 i s) [v0] ∧ St c w L (R ++ [fRd [v0] x.Slots]) := by
  obtain ⟨S, hS, hk⟩ := h.factS hj
  obtain ⟨ec, h1, h2⟩ := rd_el hS hi
  obtain ⟨v0, q, q0⟩ := rd_SList h2
  rw [q] at h1
  exact ⟨v0, h1, hk _ (by intro f hf; simp only [List.mem_cons, List.not_mem_nil, or_false] at hf; subst hf; exact q0)⟩
theorem _root_.Go.Gv.St.elF_SList {c : Ctx} {L : List Chunk} {R : List Fact} {w : World} {s : Value} {l : List SList} {i : Nat} {x : SList} (h : St c w L R) (j : Nat) (hj : R[j]? = some (fRd [s] l)) (hi : l[i]? = some x) : ∃ v0 : Value, St c w L (R ++ [fAt (elB s) (elO 1 i s) [v0], fRd [v0] x.Slots]) := by
  obtain ⟨S, hS, hk⟩ := h.factS hj
  obtain ⟨ec, h1, h2⟩ := rd_elF hS hi
  obtain ⟨v0, q, q0⟩ := rd_SList h2
  rw [q] at h1
  exact ⟨v0, hk _ (by intro f hf; simp only [List.mem_cons, List.not_mem_nil, or_false] at hf; rcases hf with rfl | rfl <;> assumption)⟩

structure Lists where
  Global : List SList
  Own : List SList
  deriving DecidableEq, Inhabited

instance : Rep Lists := Rep.via (fun d => (d.Global, d.Own))
instance : Fits Lists := Fits.via (fun d => (d.Global, d.Own))

theorem rd_Lists {S : Foot} {w : World} {cs : List Value} {d : Lists} (h : Rep.rd S w cs d) : ∃ v0 v1 : Value, cs = [v0, v1] ∧ Rep.rd S w [v0] d.Global ∧ Rep.rd S w [v1] d.Own := by
  obtain ⟨c0, r0, e0, h0, n0⟩ := h
  obtain ⟨u0, q0⟩ := rd_one_cell h0
  rw [q0] at h0
  obtain ⟨u1, q1⟩ := rd_one_cell n0
  rw [q1] at n0
  exact ⟨u0, u1, by rw [e0, q0, q1]; rfl, h0, n0⟩

theorem mk_Lists {S : Foot} {w : World} (d : Lists) {v0 : Value} {v1 : Value} (h0 : Rep.rd S w [v0] d.Global) (h1 : Rep.rd S w [v1] d.Own) : Rep.rd S w [v0, v1] d := ⟨[v0], [v1], rfl, h0, h1⟩

theorem op_Lists (d : Lists) {v0 : Value} {v1 : Value} : OP [v0, v1] d [cOwn [v0] d.Global, cOwn [v1] d.Own] := (show OP (α := (List SList) × (List SList)) _ (d.Global, d.Own) _ from (op_pair (c1 := [v0]) (c2 := [v1]) (A := [cOwn [v0] d.Global]) (B := [cOwn [v1] d.Own]) op_own op_own rfl))

theorem _root_.Go.Gv.St.el_Lists {c : Ctx} {L : List Chunk} {R : List Fact} {w : World} {s : Value} {l : List Lists} {i : Nat} {x : Lists} (h : St c w L R) (j : Nat) (hj : R[j]? = some (fRd [s] l)) (hi : l[i]? = some x) : ∃ v0 v1 : Value, CellsAt w (elB s) (elO 2 i s) [v0, v1] ∧ St c w L (R ++ [fRd [v0] x.Global, fRd [v1] x.Own]) := by
  obtain ⟨S, hS, hk⟩ := h.factS hj
  obtain ⟨ec, h1, h2⟩ := rd_el hS hi
  obtain ⟨v0, v1, q, q0, q1⟩ := rd_Lists h2
  rw [q] at h1
  exact ⟨v0, v1, h1, hk _ (by intro f hf; simp only [List.mem_cons, List.not_mem_nil, or_false] at hf; rcases hf with rfl | rfl <;> assumption)⟩
theorem _root_.Go.Gv.St.elF_Lists {c : Ctx} {L : List Chunk} {R : List Fact} {w : World} {s : Value} {l : List Lists} {i : Nat} {x : Lists} (h : St c w L R) (j : Nat) (hj : R[j]? = some (fRd [s] l)) (hi : l[i]? = some x) : ∃ v0 v1 : Value, St c w L (R ++ [fAt (elB s) (elO 2 i s) [v0, v1], fRd [v0] x.Global, fRd [v1] x.Own]) := by
  obtain ⟨S, hS, hk⟩ := h.factS hj
  obtain ⟨ec, h1, h2⟩ := rd_elF hS hi
  obtain ⟨v0, v1, q, q0, q1⟩ := rd_Lists h2
  rw [q] at h1
  exact ⟨v0, v1, hk _ (by intro f hf; simp only [List.mem_cons, List.not_mem_nil, or_false] at hf; rcases hf with rfl | rfl | rfl <;> assumption)⟩

structure Mem where
  Heap : Heap
  Lists : Lists
  deriving DecidableEq, Inhabited

instance : Rep Mem := Rep.via (fun d => (d.Heap, d.Lists))
instance : Fits Mem := Fits.via (fun d => (d.Heap, d.Lists))

theorem rd_Mem {S : Foot} {w : World} {cs : List Value} {d : Mem} (h : Rep.rd S w cs d) : ∃ v0 v1 v2 v3 : Value, cs = [v0, v1, v2, v3] ∧ Rep.rd S w [v0] d.Heap.Bytes ∧ Rep.rd S w [v1] d.Heap.Class ∧ Rep.rd S w [v2] d.Lists.Global ∧ Rep.rd S w [v3] d.Lists.Own := by
  obtain ⟨c0, r0, e0, h0, n0⟩ := h
  obtain ⟨u0_0, u0_1, q0, hq0_0, hq0_1⟩ := rd_Heap h0
  obtain ⟨u1_0, u1_1, q1, hq1_0, hq1_1⟩ := rd_Lists n0
  exact ⟨u0_0, u0_1, u1_0, u1_1, by rw [e0, q0, q1]; rfl, hq0_0, hq0_1, hq1_0, hq1_1⟩

theorem mk_Mem {S : Foot} {w : World} (d : Mem) {v0 : Value} {v1 : Value} {v2 : Value} {v3 : Value} (h0 : Rep.rd S w [v0] d.Heap.Bytes) (h1 : Rep.rd S w [v1] d.Heap.Class) (h2 : Rep.rd S w [v2] d.Lists.Global) (h3 : Rep.rd S w [v3] d.Lists.Own) : Rep.rd S w [v0, v1, v2, v3] d := ⟨[v0, v1], [v2, v3], rfl, (mk_Heap _ h0 h1), (mk_Lists _ h2 h3)⟩

theorem op_Mem (d : Mem) {v0 : Value} {v1 : Value} {v2 : Value} {v3 : Value} : OP [v0, v1, v2, v3] d [cOwn [v0] d.Heap.Bytes, cOwn [v1] d.Heap.Class, cOwn [v2] d.Lists.Global, cOwn [v3] d.Lists.Own] := (show OP (α := Heap × Lists) _ (d.Heap, d.Lists) _ from (op_pair (c1 := [v0, v1]) (c2 := [v2, v3]) (A := [cOwn [v0] d.Heap.Bytes, cOwn [v1] d.Heap.Class]) (B := [cOwn [v2] d.Lists.Global, cOwn [v3] d.Lists.Own]) (op_Heap _) (op_Lists _) rfl))

theorem _root_.Go.Gv.St.el_Mem {c : Ctx} {L : List Chunk} {R : List Fact} {w : World} {s : Value} {l : List Mem} {i : Nat} {x : Mem} (h : St c w L R) (j : Nat) (hj : R[j]? = some (fRd [s] l)) (hi : l[i]? = some x) : ∃ v0 v1 v2 v3 : Value, CellsAt w (elB s) (elO 4 i s) [v0, v1, v2, v3] ∧ St c w L (R ++ [fRd [v0] x.Heap.Bytes, fRd [v1] x.Heap.Class, fRd [v2] x.Lists.Global, fRd [v3] x.Lists.Own]) := by
  obtain ⟨S, hS, hk⟩ := h.factS hj
  obtain ⟨ec, h1, h2⟩ := rd_el hS hi
  obtain ⟨v0, v1, v2, v3, q, q0, q1, q2, q3⟩ := rd_Mem h2
  rw [q] at h1
  exact ⟨v0, v1, v2, v3, h1, hk _ (by intro f hf; simp only [List.mem_cons, List.not_mem_nil, or_false] at hf; rcases hf with rfl | rfl | rfl | rfl <;> assumption)⟩
theorem _root_.Go.Gv.St.elF_Mem {c : Ctx} {L : List Chunk} {R : List Fact} {w : World} {s : Value} {l : List Mem} {i : Nat} {x : Mem} (h : St c w L R) (j : Nat) (hj : R[j]? = some (fRd [s] l)) (hi : l[i]? = some x) : ∃ v0 v1 v2 v3 : Value, St c w L (R ++ [fAt (elB s) (elO 4 i s) [v0, v1, v2, v3], fRd [v0] x.Heap.Bytes, fRd [v1] x.Heap.Class, fRd [v2] x.Lists.Global, fRd [v3] x.Lists.Own]) := by
  obtain ⟨S, hS, hk⟩ := h.factS hj
  obtain ⟨ec, h1, h2⟩ := rd_elF hS hi
  obtain ⟨v0, v1, v2, v3, q, q0, q1, q2, q3⟩ := rd_Mem h2
  rw [q] at h1
  exact ⟨v0, v1, v2, v3, hk _ (by intro f hf; simp only [List.mem_cons, List.not_mem_nil, or_false] at hf; rcases hf with rfl | rfl | rfl | rfl | rfl <;> assumption)⟩

structure Pin where
  On : Bool
  Epoch : Int
  Marked : Bool
  Seen : Int
  deriving DecidableEq, Inhabited

instance : Rep Pin := Rep.via (fun d => (d.On, d.Epoch, d.Marked, d.Seen))
instance : Fits Pin := Fits.via (fun d => (d.On, d.Epoch, d.Marked, d.Seen))

theorem rd_Pin {S : Foot} {w : World} {cs : List Value} {d : Pin} (h : Rep.rd S w cs d) : cs = [.bool (d.On), .int .i64 (d.Epoch), .bool (d.Marked), .int .i64 (d.Seen)] := by
  obtain ⟨c0, r0, e0, h0, n0⟩ := h
  have q0 : c0 = [_] := h0
  obtain ⟨c1, r1, e1, h1, n1⟩ := n0
  have q1 : c1 = [_] := h1
  obtain ⟨c2, r2, e2, h2, n2⟩ := n1
  have q2 : c2 = [_] := h2
  have q3 : r2 = [_] := n2
  exact by rw [e0, e1, e2, q0, q1, q2, q3]; rfl

theorem mk_Pin {S : Foot} {w : World} (d : Pin)   : Rep.rd S w [.bool (d.On), .int .i64 (d.Epoch), .bool (d.Marked), .int .i64 (d.Seen)] d := ⟨[.bool (d.On)], [.int .i64 (d.Epoch), .bool (d.Marked), .int .i64 (d.Seen)], rfl, rfl, ⟨[.int .i64 (d.Epoch)], [.bool (d.Marked), .int .i64 (d.Seen)], rfl, rfl, ⟨[.bool (d.Marked)], [.int .i64 (d.Seen)], rfl, rfl, rfl⟩⟩⟩

instance : Flat Pin := ⟨fun h => Flat.own_of (α := Bool × Int × Bool × Int) h, fun h => Flat.no (α := Bool × Int × Bool × Int) h⟩

theorem op_Pin (d : Pin)  : OP [.bool (d.On), .int .i64 (d.Epoch), .bool (d.Marked), .int .i64 (d.Seen)] d [] := (show OP (α := Bool × Int × Bool × Int) _ (d.On, d.Epoch, d.Marked, d.Seen) _ from (op_pair (c1 := [.bool (d.On)]) (c2 := [.int .i64 (d.Epoch), .bool (d.Marked), .int .i64 (d.Seen)]) (A := []) (B := []) (op_flat rfl) (op_pair (c1 := [.int .i64 (d.Epoch)]) (c2 := [.bool (d.Marked), .int .i64 (d.Seen)]) (A := []) (B := []) (op_flat rfl) (op_pair (c1 := [.bool (d.Marked)]) (c2 := [.int .i64 (d.Seen)]) (A := []) (B := []) (op_flat rfl) (op_flat rfl) rfl) rfl) rfl))

theorem el_Pin {S : Foot} {w : World} {s : Value} {l : List Pin} {i : Nat} {x : Pin} (h : Rep.rd S w [s] l) (hi : l[i]? = some x) : CellsAt w (elB s) (elO 4 i s) [.bool (x.On), .int .i64 (x.Epoch), .bool (x.Marked), .int .i64 (x.Seen)] := by
  obtain ⟨ec, h1, h2⟩ := rd_el h hi
  rw [rd_Pin h2] at h1; exact h1

structure Clock where
  Epoch : Int
  Pins : List Pin
  deriving DecidableEq, Inhabited

instance : Rep Clock := Rep.via (fun d => (d.Epoch, d.Pins))
instance : Fits Clock := Fits.via (fun d => (d.Epoch, d.Pins))

theorem rd_Clock {S : Foot} {w : World} {cs : List Value} {d : Clock} (h : Rep.rd S w cs d) : ∃ v0 : Value, cs = [.int .i64 (d.Epoch), v0] ∧ Rep.rd S w [v0] d.Pins := by
  obtain ⟨c0, r0, e0, h0, n0⟩ := h
  have q0 : c0 = [_] := h0
  obtain ⟨u1, q1⟩ := rd_one_cell n0
  rw [q1] at n0
  exact ⟨u1, by rw [e0, q0, q1]; rfl, n0⟩

theorem mk_Clock {S : Foot} {w : World} (d : Clock) {v0 : Value} (h0 : Rep.rd S w [v0] d.Pins) : Rep.rd S w [.int .i64 (d.Epoch), v0] d := ⟨[.int .i64 (d.Epoch)], [v0], rfl, rfl, h0⟩

theorem op_Clock (d : Clock) {v0 : Value} : OP [.int .i64 (d.Epoch), v0] d [cOwn [v0] d.Pins] := (show OP (α := Int × (List Pin)) _ (d.Epoch, d.Pins) _ from (op_pair (c1 := [.int .i64 (d.Epoch)]) (c2 := [v0]) (A := []) (B := [cOwn [v0] d.Pins]) (op_flat rfl) op_own rfl))

theorem _root_.Go.Gv.St.el_Clock {c : Ctx} {L : List Chunk} {R : List Fact} {w : World} {s : Value} {l : List Clock} {i : Nat} {x : Clock} (h : St c w L R) (j : Nat) (hj : R[j]? = some (fRd [s] l)) (hi : l[i]? = some x) : ∃ v0 : Value, CellsAt w (elB s) (elO 2 i s) [.int .i64 (x.Epoch), v0] ∧ St c w L (R ++ [fRd [v0] x.Pins]) := by
  obtain ⟨S, hS, hk⟩ := h.factS hj
  obtain ⟨ec, h1, h2⟩ := rd_el hS hi
  obtain ⟨v0, q, q0⟩ := rd_Clock h2
  rw [q] at h1
  exact ⟨v0, h1, hk _ (by intro f hf; simp only [List.mem_cons, List.not_mem_nil, or_false] at hf; subst hf; exact q0)⟩
theorem _root_.Go.Gv.St.elF_Clock {c : Ctx} {L : List Chunk} {R : List Fact} {w : World} {s : Value} {l : List Clock} {i : Nat} {x : Clock} (h : St c w L R) (j : Nat) (hj : R[j]? = some (fRd [s] l)) (hi : l[i]? = some x) : ∃ v0 : Value, St c w L (R ++ [fAt (elB s) (elO 2 i s) [.int .i64 (x.Epoch), v0], fRd [v0] x.Pins]) := by
  obtain ⟨S, hS, hk⟩ := h.factS hj
  obtain ⟨ec, h1, h2⟩ := rd_elF hS hi
  obtain ⟨v0, q, q0⟩ := rd_Clock h2
  rw [q] at h1
  exact ⟨v0, hk _ (by intro f hf; simp only [List.mem_cons, List.not_mem_nil, or_false] at hf; rcases hf with rfl | rfl <;> assumption)⟩

structure LRow where
  Handle : Int
  Epoch : Int
  deriving DecidableEq, Inhabited

instance : Rep LRow := Rep.via (fun d => (d.Handle, d.Epoch))
instance : Fits LRow := Fits.via (fun d => (d.Handle, d.Epoch))

theorem rd_LRow {S : Foot} {w : World} {cs : List Value} {d : LRow} (h : Rep.rd S w cs d) : cs = [.int .i64 (d.Handle), .int .i64 (d.Epoch)] := by
  obtain ⟨c0, r0, e0, h0, n0⟩ := h
  have q0 : c0 = [_] := h0
  have q1 : r0 = [_] := n0
  exact by rw [e0, q0, q1]; rfl

theorem mk_LRow {S : Foot} {w : World} (d : LRow)   : Rep.rd S w [.int .i64 (d.Handle), .int .i64 (d.Epoch)] d := ⟨[.int .i64 (d.Handle)], [.int .i64 (d.Epoch)], rfl, rfl, rfl⟩

instance : Flat LRow := ⟨fun h => Flat.own_of (α := Int × Int) h, fun h => Flat.no (α := Int × Int) h⟩

theorem op_LRow (d : LRow)  : OP [.int .i64 (d.Handle), .int .i64 (d.Epoch)] d [] := (show OP (α := Int × Int) _ (d.Handle, d.Epoch) _ from (op_pair (c1 := [.int .i64 (d.Handle)]) (c2 := [.int .i64 (d.Epoch)]) (A := []) (B := []) (op_flat rfl) (op_flat rfl) rfl))

theorem el_LRow {S : Foot} {w : World} {s : Value} {l : List LRow} {i : Nat} {x : LRow} (h : Rep.rd S w [s] l) (hi : l[i]? = some x) : CellsAt w (elB s) (elO 2 i s) [.int .i64 (x.Handle), .int .i64 (x.Epoch)] := by
  obtain ⟨ec, h1, h2⟩ := rd_el h hi
  rw [rd_LRow h2] at h1; exact h1

structure LList where
  Rows : List LRow
  deriving DecidableEq, Inhabited

instance : Rep LList := Rep.via (fun d => (d.Rows))
instance : Fits LList := Fits.via (fun d => (d.Rows))

theorem rd_LList {S : Foot} {w : World} {cs : List Value} {d : LList} (h : Rep.rd S w cs d) : ∃ v0 : Value, cs = [v0] ∧ Rep.rd S w [v0] d.Rows := by
  obtain ⟨u0, q0⟩ := rd_one_cell h
  rw [q0] at h
  exact ⟨u0, q0, h⟩

theorem mk_LList {S : Foot} {w : World} (d : LList) {v0 : Value} (h0 : Rep.rd S w [v0] d.Rows) : Rep.rd S w [v0] d := h0

theorem op_LList (d : LList) {v0 : Value} : OP [v0] d [cOwn [v0] d.Rows] := (show OP (α := (List LRow)) _ (d.Rows) _ from op_own)

theorem _root_.Go.Gv.St.el_LList {c : Ctx} {L : List Chunk} {R : List Fact} {w : World} {s : Value} {l : List LList} {i : Nat} {x : LList} (h : St c w L R) (j : Nat) (hj : R[j]? = some (fRd [s] l)) (hi : l[i]? = some x) : ∃ v0 : Value, CellsAt w (elB s) (elO 1 i s) [v0] ∧ St c w L (R ++ [fRd [v0] x.Rows]) := by
  obtain ⟨S, hS, hk⟩ := h.factS hj
  obtain ⟨ec, h1, h2⟩ := rd_el hS hi
  obtain ⟨v0, q, q0⟩ := rd_LList h2
  rw [q] at h1
  exact ⟨v0, h1, hk _ (by intro f hf; simp only [List.mem_cons, List.not_mem_nil, or_false] at hf; subst hf; exact q0)⟩
theorem _root_.Go.Gv.St.elF_LList {c : Ctx} {L : List Chunk} {R : List Fact} {w : World} {s : Value} {l : List LList} {i : Nat} {x : LList} (h : St c w L R) (j : Nat) (hj : R[j]? = some (fRd [s] l)) (hi : l[i]? = some x) : ∃ v0 : Value, St c w L (R ++ [fAt (elB s) (elO 1 i s) [v0], fRd [v0] x.Rows]) := by
  obtain ⟨S, hS, hk⟩ := h.factS hj
  obtain ⟨ec, h1, h2⟩ := rd_elF hS hi
  obtain ⟨v0, q, q0⟩ := rd_LList h2
  rw [q] at h1
  exact ⟨v0, hk _ (by intro f hf; simp only [List.mem_cons, List.not_mem_nil, or_false] at hf; rcases hf with rfl | rfl <;> assumption)⟩

structure Base where
  Mem : Mem
  Clock : Clock
  Limbo : List LList
  Haz : List Int
  deriving DecidableEq, Inhabited

instance : Rep Base := Rep.via (fun d => (d.Mem, d.Clock, d.Limbo, d.Haz))
instance : Fits Base := Fits.via (fun d => (d.Mem, d.Clock, d.Limbo, d.Haz))

theorem rd_Base {S : Foot} {w : World} {cs : List Value} {d : Base} (h : Rep.rd S w cs d) : ∃ v0 v1 v2 v3 v4 v5 v6 : Value, cs = [v0, v1, v2, v3, .int .i64 (d.Clock.Epoch), v4, v5, v6] ∧ Rep.rd S w [v0] d.Mem.Heap.Bytes ∧ Rep.rd S w [v1] d.Mem.Heap.Class ∧ Rep.rd S w [v2] d.Mem.Lists.Global ∧ Rep.rd S w [v3] d.Mem.Lists.Own ∧ Rep.rd S w [v4] d.Clock.Pins ∧ Rep.rd S w [v5] d.Limbo ∧ Rep.rd S w [v6] d.Haz := by
  obtain ⟨c0, r0, e0, h0, n0⟩ := h
  obtain ⟨u0_0, u0_1, u0_2, u0_3, q0, hq0_0, hq0_1, hq0_2, hq0_3⟩ := rd_Mem h0
  obtain ⟨c1, r1, e1, h1, n1⟩ := n0
  obtain ⟨u1_0, q1, hq1_0⟩ := rd_Clock h1
  obtain ⟨c2, r2, e2, h2, n2⟩ := n1
  obtain ⟨u2, q2⟩ := rd_one_cell h2
  rw [q2] at h2
  obtain ⟨u3, q3⟩ := rd_one_cell n2
  rw [q3] at n2
  exact ⟨u0_0, u0_1, u0_2, u0_3, u1_0, u2, u3, by rw [e0, e1, e2, q0, q1, q2, q3]; rfl, hq0_0, hq0_1, hq0_2, hq0_3, hq1_0, h2, n2⟩

theorem mk_Base {S : Foot} {w : World} (d : Base) {v0 : Value} {v1 : Value} {v2 : Value} {v3 : Value} {v4 : Value} {v5 : Value} {v6 : Value} (h0 : Rep.rd S w [v0] d.Mem.Heap.Bytes) (h1 : Rep.rd S w [v1] d.Mem.Heap.Class) (h2 : Rep.rd S w [v2] d.Mem.Lists.Global) (h3 : Rep.rd S w [v3] d.Mem.Lists.Own) (h4 : Rep.rd S w [v4] d.Clock.Pins) (h5 : Rep.rd S w [v5] d.Limbo) (h6 : Rep.rd S w [v6] d.Haz) : Rep.rd S w [v0, v1, v2, v3, .int .i64 (d.Clock.Epoch), v4, v5, v6] d := ⟨[v0, v1, v2, v3], [.int .i64 (d.Clock.Epoch), v4, v5, v6], rfl, (mk_Mem _ h0 h1 h2 h3), ⟨[.int .i64 (d.Clock.Epoch), v4], [v5, v6], rfl, (mk_Clock _ h4), ⟨[v5], [v6], rfl, h5, h6⟩⟩⟩

theorem op_Base (d : Base) {v0 : Value} {v1 : Value} {v2 : Value} {v3 : Value} {v4 : Value} {v5 : Value} {v6 : Value} : OP [v0, v1, v2, v3, .int .i64 (d.Clock.Epoch), v4, v5, v6] d [cOwn [v0] d.Mem.Heap.Bytes, cOwn [v1] d.Mem.Heap.Class, cOwn [v2] d.Mem.Lists.Global, cOwn [v3] d.Mem.Lists.Own, cOwn [v4] d.Clock.Pins, cOwn [v5] d.Limbo, cOwn [v6] d.Haz] := (show OP (α := Mem × Clock × (List LList) × (List Int)) _ (d.Mem, d.Clock, d.Limbo, d.Haz) _ from (op_pair (c1 := [v0, v1, v2, v3]) (c2 := [.int .i64 (d.Clock.Epoch), v4, v5, v6]) (A := [cOwn [v0] d.Mem.Heap.Bytes, cOwn [v1] d.Mem.Heap.Class, cOwn [v2] d.Mem.Lists.Global, cOwn [v3] d.Mem.Lists.Own]) (B := [cOwn [v4] d.Clock.Pins, cOwn [v5] d.Limbo, cOwn [v6] d.Haz]) (op_Mem _) (op_pair (c1 := [.int .i64 (d.Clock.Epoch), v4]) (c2 := [v5, v6]) (A := [cOwn [v4] d.Clock.Pins]) (B := [cOwn [v5] d.Limbo, cOwn [v6] d.Haz]) (op_Clock _) (op_pair (c1 := [v5]) (c2 := [v6]) (A := [cOwn [v5] d.Limbo]) (B := [cOwn [v6] d.Haz]) op_own op_own rfl) rfl) rfl))

theorem _root_.Go.Gv.St.el_Base {c : Ctx} {L : List Chunk} {R : List Fact} {w : World} {s : Value} {l : List Base} {i : Nat} {x : Base} (h : St c w L R) (j : Nat) (hj : R[j]? = some (fRd [s] l)) (hi : l[i]? = some x) : ∃ v0 v1 v2 v3 v4 v5 v6 : Value, CellsAt w (elB s) (elO 8 i s) [v0, v1, v2, v3, .int .i64 (x.Clock.Epoch), v4, v5, v6] ∧ St c w L (R ++ [fRd [v0] x.Mem.Heap.Bytes, fRd [v1] x.Mem.Heap.Class, fRd [v2] x.Mem.Lists.Global, fRd [v3] x.Mem.Lists.Own, fRd [v4] x.Clock.Pins, fRd [v5] x.Limbo, fRd [v6] x.Haz]) := by
  obtain ⟨S, hS, hk⟩ := h.factS hj
  obtain ⟨ec, h1, h2⟩ := rd_el hS hi
  obtain ⟨v0, v1, v2, v3, v4, v5, v6, q, q0, q1, q2, q3, q4, q5, q6⟩ := rd_Base h2
  rw [q] at h1
  exact ⟨v0, v1, v2, v3, v4, v5, v6, h1, hk _ (by intro f hf; simp only [List.mem_cons, List.not_mem_nil, or_false] at hf; rcases hf with rfl | rfl | rfl | rfl | rfl | rfl | rfl <;> assumption)⟩
theorem _root_.Go.Gv.St.elF_Base {c : Ctx} {L : List Chunk} {R : List Fact} {w : World} {s : Value} {l : List Base} {i : Nat} {x : Base} (h : St c w L R) (j : Nat) (hj : R[j]? = some (fRd [s] l)) (hi : l[i]? = some x) : ∃ v0 v1 v2 v3 v4 v5 v6 : Value, St c w L (R ++ [fAt (elB s) (elO 8 i s) [v0, v1, v2, v3, .int .i64 (x.Clock.Epoch), v4, v5, v6], fRd [v0] x.Mem.Heap.Bytes, fRd [v1] x.Mem.Heap.Class, fRd [v2] x.Mem.Lists.Global, fRd [v3] x.Mem.Lists.Own, fRd [v4] x.Clock.Pins, fRd [v5] x.Limbo, fRd [v6] x.Haz]) := by
  obtain ⟨S, hS, hk⟩ := h.factS hj
  obtain ⟨ec, h1, h2⟩ := rd_elF hS hi
  obtain ⟨v0, v1, v2, v3, v4, v5, v6, q, q0, q1, q2, q3, q4, q5, q6⟩ := rd_Base h2
  rw [q] at h1
  exact ⟨v0, v1, v2, v3, v4, v5, v6, hk _ (by intro f hf; simp only [List.mem_cons, List.not_mem_nil, or_false] at hf; rcases hf with rfl | rfl | rfl | rfl | rfl | rfl | rfl | rfl <;> assumption)⟩

structure Reader where
  left : GStr
  bad : Bool
  deriving DecidableEq, Inhabited

instance : Rep Reader := Rep.via (fun d => (d.left, d.bad))
instance : Fits Reader := Fits.via (fun d => (d.left, d.bad))

theorem rd_Reader {S : Foot} {w : World} {cs : List Value} {d : Reader} (h : Rep.rd S w cs d) : cs = [sv (d.left.b), .bool (d.bad)] := by
  obtain ⟨c0, r0, e0, h0, n0⟩ := h
  have q0 : c0 = [_] := h0
  have q1 : r0 = [_] := n0
  exact by rw [e0, q0, q1]; rfl

theorem mk_Reader {S : Foot} {w : World} (d : Reader)   : Rep.rd S w [sv (d.left.b), .bool (d.bad)] d := ⟨[sv (d.left.b)], [.bool (d.bad)], rfl, rfl, rfl⟩

instance : Flat Reader := ⟨fun h => Flat.own_of (α := GStr × Bool) h, fun h => Flat.no (α := GStr × Bool) h⟩

theorem op_Reader (d : Reader)  : OP [sv (d.left.b), .bool (d.bad)] d [] := (show OP (α := GStr × Bool) _ (d.left, d.bad) _ from (op_pair (c1 := [sv (d.left.b)]) (c2 := [.bool (d.bad)]) (A := []) (B := []) (op_flat rfl) (op_flat rfl) rfl))

theorem el_Reader {S : Foot} {w : World} {s : Value} {l : List Reader} {i : Nat} {x : Reader} (h : Rep.rd S w [s] l) (hi : l[i]? = some x) : CellsAt w (elB s) (elO 2 i s) [sv (x.left.b), .bool (x.bad)] := by
  obtain ⟨ec, h1, h2⟩ := rd_el h hi
  rw [rd_Reader h2] at h1; exact h1
end Go.Gv
