import Derived.Test.YtgblknnfnamafaaGvLoop
namespace Go.Gv
structure Pin where
  On : Bool
  Epoch : Int
  Marked : Bool
  Seen : Int
  deriving DecidableEq, Inhabited

instance : Rep Pin := Rep.via (fun d => (d.On, d.Epoch, d.Marked, d.Seen))
instance : Fits Pin := Fits.via (fun d => (d.On, d.Epoch, d.Marked, d.Seen))

theorem rd_Pin {S : Foot} {w : World} {cs : List Value} {d : Pin} (h : Rep.rd S w cs d) : cs = [.bool (d.On), .int .i64 (d.Epoch), .bool (d.Marked), .int .i64 (d.Seen)] := by
  obtain ⟨c0, r0, e0, h0, n0⟩ := h
  have q0 : c0 = [_] := h0
  obtain ⟨c1, r1, e1, h1, n1⟩ := n0
  have q1 : c1 = [_] := h1
  obtain ⟨c2, r2, e2, h2, n2⟩ := n1
  have q2 : c2 = [_] := h2
  have q3 : r2 = [_] := n2
  rw [e0, e1, e2, q0, q1, q2, q3]; rfl

theorem mk_Pin {S : Foot} {w : World} (d : Pin)   : Rep.rd S w [.bool (d.On), .int .i64 (d.Epoch), .bool (d.Marked), .int .i64 (d.Seen)] d := ⟨[.bool (d.On)], [.int .i64 (d.Epoch), .bool (d.Marked), .int .i64 (d.Seen)], rfl, rfl, ⟨[.int .i64 (d.Epoch)], [.bool (d.Marked), .int .i64 (d.Seen)], rfl, rfl, ⟨[.bool (d.Marked)], [.int .i64 (d.Seen)], rfl, rfl, rfl⟩⟩⟩

instance : Flat Pin := ⟨fun h => Flat.own_of (α := Bool × Int × Bool × Int) h⟩

theorem el_Pin {S : Foot} {w : World} {s : Value} {l : List Pin} {i : Nat} {x : Pin} (h : Rep.rd S w [s] l) (hi : l[i]? = some x) : CellsAt w (elB s) (elO 4 i s) [.bool (x.On), .int .i64 (x.Epoch), .bool (x.Marked), .int .i64 (x.Seen)] := by
  obtain ⟨ec, h1, h2⟩ := rd_el h hi
  rw [rd_Pin h2] at h1; exact h1

structure Clock where
  Epoch : Int
  Pins : List Pin
  deriving DecidableEq, Inhabited

instance : Rep Clock := Rep.via (fun d => (d.Epoch, d.Pins))
instance : Fits Clock := Fits.via (fun d => (d.Epoch, d.Pins))

theorem rd_Clock {S : Foot} {w : World} {cs : List Value} {d : Clock} (h : Rep.rd S w cs d) : ∃ v0 : Value, cs = [.int .i64 (d.Epoch), v0] ∧ Rep.rd S w [v0] d.Pins := by
  obtain ⟨c0, r0, e0, h0, n0⟩ := h
  have q0 : c0 = [_] := h0
  obtain ⟨u1, q1⟩ := rd_one_cell n0
  rw [q1] at n0
  exact ⟨u1, by rw [e0, q0, q1]; rfl, n0⟩

theorem mk_Clock {S : Foot} {w : World} (d : Clock) {v0 : Value} (h0 : Rep.rd S w [v0] d.Pins) : Rep.rd S w [.int .i64 (d.Epoch), v0] d := ⟨[.int .i64 (d.Epoch)], [v0], rfl, rfl, h0⟩

theorem _root_.Go.Gv.St.el_Clock {c : Ctx} {L : List Chunk} {R : List Fact} {w : World} {s : Value} {l : List Clock} {j i : Nat} {x : Clock} (h : St c w L R) (hj : R[j]? = some (fRd [s] l)) (hi : l[i]? = some x) : ∃ v0 : Value, CellsAt w (elB s) (elO 2 i s) [.int .i64 (x.Epoch), v0] ∧ St c w L (R ++ [fRd [v0] x.Pins]) := by
  obtain ⟨S, hS, hk⟩ := h.factS hj
  obtain ⟨ec, h1, h2⟩ := rd_el hS hi
  obtain ⟨v0, q, q0⟩ := rd_Clock h2
  rw [q] at h1
  exact ⟨v0, h1, hk _ (by intro f hf; simp only [List.mem_cons, List.not_mem_nil, or_false] at hf; subst hf; exact q0)⟩
end Go.Gv
