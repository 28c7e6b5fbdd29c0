import Derived.Test.YtpkgcalilmlljaaGreatDoorXKD
import Derived.Test.YtpkgcalilmlljaaGreatDoorXKE
import Derived.Test.YtpkgcalilmlljaaGreatDoorXMA
import Derived.Test.YtpkgcalilmlljaaGreatDoorXMC
import Derived.Test.YtpkgcalilmlljaaGreatDoorXMD
import Derived.Test.YtpkgcalilmlljaaGreatDoorProg
set_option linter.unusedVariables false
set_option linter.unusedSimpArgs false
set_option linter.unusedSectionVars false
set_option linter.unnecessarySimpa false
set_option linter.constructorNameAsVariable false
section
/- Texts: the walks by hand, in the form in which the other walks take them. -/
namespace Go.Proofs.YtpkgcalilmlljaaGreatDoor
open Go.Gv Go.RowKit
set_option linter.unusedVariables false
structure Glob (c : Ctx) : Prop where
  nw : ∀ b o, ¬ c.W b o
  g : GW c.w0
theorem Glob.all {W : World} (h : GW W) : Glob (cxAll W) := ⟨fun _ _ h => h, h⟩
theorem _root_.Go.Gv.HS.gl {c : Ctx} {w : World} {L : List Ch} (h : HS c w L) (hg : Glob c) : Glob (cxAll w) := by
  obtain ⟨B, ⟨⟨R, s1, _⟩, _⟩⟩ := h.ex
  exact .all (hg.g.below ⟨s1.keep.os, s1.keep.tape, s1.keep.output, s1.keep.size, fun k hk => s1.keep.block k hk fun o => hg.nw k o⟩)
theorem call0 {P : Program} {f : FuncId} {W : World} {xs : List SV} {ρ : Type} {sv : ρ → SV} {r : ρ} (H : Fn0 P f (cxAll W) xs sv r) {vs : List Value} (hv : mapO (toV []) xs = some vs) {v : Value} (hr : toV [] (sv r) = some v) : Calls P f vs.toArray W fun e W' => e = .returned v ∧ Below W.heap.size W W' :=
  Calls.mono (H.run vs hv (stS0 W)) fun e W' ⟨v', he, y, h1, h2⟩ => ⟨by rw [he]; rw [hr] at h1; cases h1; rfl, below_of h2⟩
theorem ints_at {c : Ctx} {s : AC} {l : List Int} (h : RdA c s l) : l = [] ∨ ∃ b off, s.a = some ⟨b, off, none⟩ ∧ ∀ j, j < l.length → c.w0.cell? ⟨b, off + j, none⟩ = some (.int .i64 (l.getD j 0)) := by
  obtain ⟨a, cc, e, h1, h2, h3⟩ := (h : rdSlice c.S0 c.w0 [s.v l.length] l)
  simp only [AC.v, List.cons.injEq, Value.slice.injEq, and_true, true_and] at e
  refine h3.imp id fun ⟨b, off, ha, hc⟩ => ⟨b, off, e.1.trans ha, fun j hj => ?_⟩
  obtain ⟨ec, k1, _, k3⟩ := hc j hj
  have k3 : ec = [.int .i64 l[j]] := k3
  have := k1 0 (.int .i64 l[j]) (by rw [k3]; rfl)
  rw [show l.getD j 0 = l[j] by simp [List.getD_eq_getElem?_getD, List.getElem?_eq_getElem hj]]
  simpa [Rep.n] using this
theorem strs_at {c : Ctx} {s : AC} {l : List GStr} (h : RdA c s l) : l.length ≤ s.c ∧ (l = [] ∨ ∃ b off, s.a = some ⟨b, off, none⟩ ∧ ∀ j (hj : j < l.length), c.w0.cell? ⟨b, off + j, none⟩ = some (.string ⟨l[j].b.toArray⟩)) := by
  obtain ⟨a, cc, e, h1, h2, h3⟩ := (h : rdSlice c.S0 c.w0 [s.v l.length] l)
  simp only [AC.v, List.cons.injEq, Value.slice.injEq, and_true, true_and] at e
  refine ⟨by rw [e.2]; exact h1, h3.imp id fun ⟨b, off, ha, hc⟩ => ⟨b, off, e.1.trans ha, fun j hj => ?_⟩⟩
  obtain ⟨ec, k1, _, k3⟩ := hc j hj
  have k3 : ec = [.string ⟨l[j].b.toArray⟩] := k3
  have := k1 0 _ (by rw [k3]; rfl)
  simpa [Rep.n] using this
section
variable {κ : Ctx}
/-- What is new memory alone, and holds strings. -/
theorem own_strs {W' : World} {b N : Nat} {l : List GStr} {cs : Array Value} {t : TypeId} (hb : W'.heap[b]? = some (.cells cs t (0, 0))) (hN : cs.size = N) (hl : l.length ≤ N) (hm : N ≤ maxLen) (hc : ∀ j (hj : j < l.length), cs[j]? = some (.string ⟨l[j].b.toArray⟩)) {n0 : Nat} (h0 : n0 ≤ b) : OwZ n0 (b + 1) W' (AC.v ⟨some ⟨b, 0, none⟩, N⟩ l.length) l := by
  refine ⟨fun b' o => b' = b ∧ o < N, ⟨some ⟨b, 0, none⟩, N, rfl, hl, hm, .inr ⟨b, 0, fun _ => F0, rfl, fun o ho => ?_, fun i hi => ⟨[.string ⟨l[i].b.toArray⟩], fun j x hj => ?_, ⟨rfl, fun _ _ h => h⟩⟩, fun i j _ _ _ _ _ h => h.elim, fun i _ _ _ h => h.elim, fun b' o => ?_⟩⟩, fun b' o q => ?_⟩
  · obtain ⟨_, _, h2⟩ := ho
    have h2 : o < N := by simpa [Rep.n] using h2
    refine ⟨?_, frozen_of_row W' b o cs t hb⟩
    simp only [World.cell?, hb]
    rw [Array.getElem?_eq_getElem (by omega)]; rfl
  · match j, hj with
    | 0, hj =>
      cases hj
      have := hc i hi
      simp only [World.cell?, hb]
      simpa [Rep.n] using this
  · constructor
    · rintro ⟨rfl, h⟩
      exact .inl ⟨rfl, Nat.zero_le _, by simpa [Rep.n] using h⟩
    · rintro (⟨rfl, _, h⟩ | ⟨_, _, h⟩)
      · exact ⟨rfl, by simpa [Rep.n] using h⟩
      · exact h.elim
  · exact ⟨by omega, by omega⟩
theorem n_impl_decs_nil {a : Option Addr} {c : Nat} {w : World} : Calls Tryz.prog 24 #[.slice a 0 c] w fun e w' => e = .returned (.string ⟨#[]⟩) ∧ Below w.heap.size w w' := by
  go_enter Tryz.func24, Tryz.ntmps24
  go_wp2
  go_loopw [3, 8] (fun o i wr => i = .int .i64 0 ∧ o = .string ⟨#[]⟩ ∧ Below w.heap.size w wr) (fun _ _ _ => 0)
  case atStart => exact ⟨rfl, rfl, Below.refl _ _⟩
  case round =>
    obtain ⟨rfl, rfl, hB⟩ := hrel
    go_wp2
    go_ret
    exact ⟨rfl, hB⟩
theorem n_impl_decs (hg : Glob κ) {l : List Int} {s1 : AC} (h_s1 : RdA κ s1 l) : V0 Tryz.prog κ 24 (impl_decs l) [.h s1 l.length] .s := fun r hF => by
  obtain ⟨⟨h1, h2⟩, hF⟩ := needE hF
  cases hF
  refine oldF Tryz.call24 fun hm vs hv => ?_
  cases hv
  rcases ints_at h_s1 with rfl | ⟨b, off, ha, hcell⟩
  · exact Calls.mono n_impl_decs_nil fun e w' ⟨he, hb⟩ => ⟨_, he, rfl, st_of_below hb⟩
  · by_cases hl0 : l.length = 0
    · obtain rfl := List.eq_nil_of_length_eq_zero hl0
      exact Calls.mono n_impl_decs_nil fun e w' ⟨he, hb⟩ => ⟨_, he, rfl, st_of_below hb⟩
    · have := c_decs (c := s1.c) h1 h2 hg.g (World.block_lt_of_cell? _ _ (hcell 0 (by omega))) hcell
      rw [← ha] at this
      exact Calls.mono this fun e w' ⟨he, hb⟩ => ⟨_, he, rfl, st_of_below hb⟩
theorem n_strings_Join (hg : Glob κ) {l : List GStr} {sep : List UInt8} {s1 : AC} (h_s1 : RdA κ s1 l) : V0 Tryz.prog κ 33 (strings_Join l sep) [.h s1 l.length, .s sep] .s := fun r hF => by
  obtain ⟨⟨h1, h2⟩, hF⟩ := needE hF
  cases hF
  refine oldF Tryz.call33 fun hm vs hv => ?_
  cases hv
  obtain ⟨hc, hz⟩ := strs_at h_s1
  by_cases hl0 : l.length = 0
  · obtain rfl := List.eq_nil_of_length_eq_zero hl0
    refine Calls.mono (Any.strings_Join_none Tryz.lays156 Tryz.Builder_Extra_156 s1.a s1.c ⟨sep.toArray⟩ κ.w0) fun e w' ⟨he, hw⟩ => ⟨_, he, ?_, hw ▸ st_of_below (Below.refl _ _)⟩
    rfl
  · obtain ⟨b, off, ha, hcell⟩ := hz.resolve_left fun q => hl0 (by rw [q]; rfl)
    have em : (l.map fun x => (⟨x.b.toArray⟩ : ByteArray)).map (·.data.toList) = l.map GStr.b := by
      rw [List.map_map]; rfl
    have := Any.strings_Join Tryz.lays156 Tryz.Builder_Extra_156 b off s1.c (l.map fun x => (⟨x.b.toArray⟩ : ByteArray)) ⟨sep.toArray⟩ κ.w0 (fun j x hj => by
      rw [List.getElem?_map] at hj
      cases e : l[j]? with
      | none => rw [e] at hj; cases hj
      | some y =>
        rw [e] at hj; cases hj
        obtain ⟨hj, rfl⟩ := List.getElem?_eq_some_iff.1 e
        exact hcell j hj) ?_ (by rw [List.length_map]; omega) (by rw [List.length_map]; exact hc) (by rw [em]; exact h2)
    · rw [em, List.length_map, ← ha] at this
      exact Calls.mono this fun e w' ⟨he, hb⟩ => ⟨_, he, rfl, st_of_below hb⟩
    · exact World.block_lt_of_cell? _ _ (hcell 0 (by omega))
theorem n_strings_SplitN (hg : Glob κ) {s sep : List UInt8} {n : Int} : VS Tryz.prog κ 34 (strings_SplitN s sep n) [.s s, .s sep, I n] [] [] (fun r (y : AC) => .h y r.length) (fun r y => [ow y r]) := fun r hF => by
  obtain ⟨⟨h1, h2, h3, h4⟩, hF⟩ := needE hF
  cases hF
  refine ⟨Tryz.call34, fun vs hv hS => ?_⟩
  cases hv
  obtain ⟨m, hm⟩ := hg.g.max
  obtain ⟨k, rfl⟩ : ∃ k : Nat, n = k := ⟨n.toNat, by omega⟩
  have hs : (⟨s.toArray⟩ : ByteArray).size = s.length := by simp [ByteArray.size]
  refine Calls.mono (Any.strings_SplitN Tryz.lays147 (by kernel_rfl) ⟨s.toArray⟩ ⟨sep.toArray⟩ k m κ.w0 (by rw [hs]; exact h1) hm (by simpa [ByteArray.size] using h2) (by omega) (by omega)) ?_
  rintro e W' ⟨rfl, rfl⟩
  have hle := Lib.splitB_length_le ⟨sep.toArray⟩ 0 (min k ((⟨s.toArray⟩ : ByteArray).size + 1) - 1) ⟨s.toArray⟩
  have hd := Lib.splitB_data ⟨sep.toArray⟩ 0 (min k ((⟨s.toArray⟩ : ByteArray).size + 1) - 1) ⟨s.toArray⟩
  rw [hs] at hle hd
  generalize hP : Lib.splitB ⟨sep.toArray⟩ 0 (min k (s.length + 1) - 1) ⟨s.toArray⟩ = P at hle hd
  have hd : P.map (·.data.toList) = Lib.splitK sep 0 (min (k : Int).toNat (s.length + 1) - 1) s := hd
  have hN : 1 ≤ min k (s.length + 1) := by omega
  rw [hs, hP, ← hd]
  have hlen : ((P.map (·.data.toList)).map GStr.mk).length = P.length := by simp
  refine ⟨_, rfl, ⟨some ⟨κ.w0.heap.size, 0, none⟩, min k (s.length + 1)⟩, ?_, stS_own hS (alloc_below _ _) (own_strs (heap_alloc_new _ _) (Lib.cellsOf_size (by omega)) (by omega) (by unfold maxLen; omega) (fun j hj => ?_) (Nat.le_refl _))⟩
  · simp [toV, gV, cellV]
  · have hj' : j < P.length := by omega
    simp [Lib.cellsOf, List.getElem?_append_left, List.getElem?_eq_getElem, hj']
theorem wordHd (s : List UInt8) : ((spB ⟨s.toArray⟩).getD 0 ByteArray.empty).data.toList = (wordsL s).getD 0 [] := by
  rw [show wordsL s = (spB ⟨s.toArray⟩).map (·.data.toList) from (spB_eq ⟨s.toArray⟩).symm]
  cases spB ⟨s.toArray⟩ with
  | nil => rfl
  | cons a l => rfl
theorem baL (x y : ByteArray) : (x = y) = (y.data.toList = x.data.toList) := propext ⟨fun h => by rw [h], fun h => by
  cases x; cases y; congr 1; exact (Array.ext' h).symm⟩
theorem kind_eq (s : List UInt8) : Lib.idxOfS words4 ((spB ⟨s.toArray⟩).getD 0 ByteArray.empty) + 1 = kindC s := by
  unfold Lib.idxOfS words4 kindC
  rw [← wordHd]
  generalize (spB ⟨s.toArray⟩).getD 0 ByteArray.empty = x
  simp only [Lib.idxFromS, baL]
  repeat' split
  all_goals first | rfl | (exfalso; simp_all; done) | skip
end
end Go.Proofs.YtpkgcalilmlljaaGreatDoor
end
section
set_option linter.unusedVariables false
set_option maxHeartbeats 4000000
set_option maxRecDepth 100000
namespace Go.Proofs.YtpkgcalilmlljaaGreatDoor
open Go.Gv
theorem inf_Tryz3 : Inf Tryz.prog 3 1 (.int .i64 0) := inf_of (b := 8) (by kernel_rfl) rfl

theorem inf_Tryz31 : Inf Tryz.prog 31 3 (.agg #[.int .i64 0, .int .i64 0, .int .i64 0]) := inf_of (b := 24) (by kernel_rfl) rfl

theorem inf_Tryz9 : Inf Tryz.prog 9 1 (.string ⟨#[]⟩) := inf_of (b := 16) (by kernel_rfl) rfl

theorem inf_Tryz5 : Inf Tryz.prog 5 1 (.int .u8 0) := inf_of (b := 1) (by kernel_rfl) rfl

theorem mixed_Tryz : Tryz.prog.follows .mixedOrders = true := by kernel_rfl

theorem eqf_Tryz25 (D : Nat) (d d' : GOp) (w : World) : (Op.eqFields (D + 2) #[.int .i64 (d.Kind), .int .i64 (d.Cell), .int .i64 (d.Size), .int .i64 (d.Val)] #[.int .i64 (d'.Kind), .int .i64 (d'.Cell), .int .i64 (d'.Size), .int .i64 (d'.Val)] (match Tryz.prog.underlying 25 with | some (.struct fs) => fs | _ => #[]).toList).run Tryz.prog w = .ok (decide (d = d')) w := by
  rw [Tryz.underlying25]
  have h : (d.Kind == d'.Kind && (d.Cell == d'.Cell && (d.Size == d'.Size && (d.Val == d'.Val && true)))) = decide (d = d') := by
    cases d; cases d'; rw [Bool.eq_iff_iff]; simp
  rw [← h]
  exact eqf_cons _ _ _ _ _ rfl (part1 Tryz.isAgg3 rfl) (part1 Tryz.isAgg3 rfl) (ei_int Tryz.underlying3) <|
    eqf_cons _ _ _ _ _ rfl (part1 Tryz.isAgg3 rfl) (part1 Tryz.isAgg3 rfl) (ei_int Tryz.underlying3) <|
    eqf_cons _ _ _ _ _ rfl (part1 Tryz.isAgg3 rfl) (part1 Tryz.isAgg3 rfl) (ei_int Tryz.underlying3) <|
    eqf_cons _ _ _ _ _ rfl (part1 Tryz.isAgg3 rfl) (part1 Tryz.isAgg3 rfl) (ei_int Tryz.underlying3) <|
    eqf_nil _ _ _

theorem eqf_Tryz31 (D : Nat) (d d' : Cmd) (w : World) : (Op.eqFields (D + 2) #[.int .i64 (d.Kind), .int .i64 (d.Key), .int .i64 (d.Val)] #[.int .i64 (d'.Kind), .int .i64 (d'.Key), .int .i64 (d'.Val)] (match Tryz.prog.underlying 31 with | some (.struct fs) => fs | _ => #[]).toList).run Tryz.prog w = .ok (decide (d = d')) w := by
  rw [Tryz.underlying31]
  have h : (d.Kind == d'.Kind && (d.Key == d'.Key && (d.Val == d'.Val && true))) = decide (d = d') := by
    cases d; cases d'; rw [Bool.eq_iff_iff]; simp
  rw [← h]
  exact eqf_cons _ _ _ _ _ rfl (part1 Tryz.isAgg3 rfl) (part1 Tryz.isAgg3 rfl) (ei_int Tryz.underlying3) <|
    eqf_cons _ _ _ _ _ rfl (part1 Tryz.isAgg3 rfl) (part1 Tryz.isAgg3 rfl) (ei_int Tryz.underlying3) <|
    eqf_cons _ _ _ _ _ rfl (part1 Tryz.isAgg3 rfl) (part1 Tryz.isAgg3 rfl) (ei_int Tryz.underlying3) <|
    eqf_nil _ _ _
end Go.Proofs.YtpkgcalilmlljaaGreatDoor
end
section
set_option linter.unusedVariables false
set_option maxHeartbeats 4000000
set_option maxRecDepth 100000
namespace Go.Proofs.YtpkgcalilmlljaaGreatDoor
open Go.Gv
def tt : TT := [(22, ⟨.sl 5, false, 1, [.h ⟨none, 0⟩ 0]⟩),
 (5, ⟨.i .u8, false, 1, [.y (0 : UInt8)]⟩),
 (3, ⟨.i .i64, false, 1, [I 0]⟩),
 (76, ⟨.st [(0, 1), (1, 1), (2, 1)], true, 3, [.h ⟨none, 0⟩ 0, I 0, I 0]⟩),
 (70, ⟨.sl 3, false, 1, [.h ⟨none, 0⟩ 0]⟩),
 (25, ⟨.st [(0, 1), (1, 1), (2, 1), (3, 1)], true, 4, [I 0, I 0, I 0, I 0]⟩),
 (31, ⟨.st [(0, 1), (1, 1), (2, 1)], true, 3, [I 0, I 0, I 0]⟩),
 (38, ⟨.st [(0, 1), (1, 1)], true, 2, [.l false, .h ⟨none, 0⟩ 0]⟩),
 (4, ⟨.b, false, 1, [.l false]⟩),
 (36, ⟨.sl 31, false, 1, [.h ⟨none, 0⟩ 0]⟩),
 (49, ⟨.sl 9, false, 1, [.h ⟨none, 0⟩ 0]⟩),
 (9, ⟨.s, false, 1, [.s ([])]⟩)]
theorem tok : TOk Tryz.prog tt := .add (k := .sl 5) Tryz.underlying22 rfl Tryz.isAgg22 Tryz.sizeOf22 Tryz.zeroValue22 rfl <|
 .add (k := .i .u8) Tryz.underlying5 rfl Tryz.isAgg5 Tryz.sizeOf5 Tryz.zeroValue5 rfl <|
 .add (k := .i .i64) Tryz.underlying3 rfl Tryz.isAgg3 Tryz.sizeOf3 Tryz.zeroValue3 rfl <|
 .st Tryz.underlying76 (.c Tryz.sizeOf22 (.c Tryz.sizeOf3 (.c Tryz.sizeOf3 .n))) Tryz.isAgg76 Tryz.sizeOf76 Tryz.zeroValue76 rfl <|
 .add (k := .sl 3) Tryz.underlying70 rfl Tryz.isAgg70 Tryz.sizeOf70 Tryz.zeroValue70 rfl <|
 .st Tryz.underlying25 (.c Tryz.sizeOf3 (.c Tryz.sizeOf3 (.c Tryz.sizeOf3 (.c Tryz.sizeOf3 .n)))) Tryz.isAgg25 Tryz.sizeOf25 Tryz.zeroValue25 rfl <|
 .st Tryz.underlying31 (.c Tryz.sizeOf3 (.c Tryz.sizeOf3 (.c Tryz.sizeOf3 .n))) Tryz.isAgg31 Tryz.sizeOf31 Tryz.zeroValue31 rfl <|
 .st Tryz.underlying38 (.c Tryz.sizeOf4 (.c Tryz.sizeOf36 .n)) Tryz.isAgg38 Tryz.sizeOf38 Tryz.zeroValue38 rfl <|
 .add (k := .b) Tryz.underlying4 rfl Tryz.isAgg4 Tryz.sizeOf4 Tryz.zeroValue4 rfl <|
 .add (k := .sl 31) Tryz.underlying36 rfl Tryz.isAgg36 Tryz.sizeOf36 Tryz.zeroValue36 rfl <|
 .add (k := .sl 9) Tryz.underlying49 rfl Tryz.isAgg49 Tryz.sizeOf49 Tryz.zeroValue49 rfl <|
 .add (k := .s) Tryz.underlying9 rfl Tryz.isAgg9 Tryz.sizeOf9 Tryz.zeroValue9 rfl <| .nil
def cCmd : Cel Cmd := ⟨Unit, fun x _ => [I x.Kind, I x.Key, I x.Val], fun _ _ _ _ => True, (fun h => ⟨(), by rw [rd_Cmd h]; rfl, trivial⟩), fun x _ => .g [I x.Kind, I x.Key, I x.Val], fun _ _ _ => trivial⟩

def oCmd : CO Cmd := cCmd.o (fun x _ => []) (fun h => by cases h; exact op_Cmd _) (fun _ _ => rfl) (fun _ _ _ => rfl)
section
variable {κ : Ctx}
theorem n_laws_big {code : List UInt8} {s1 : AC} (h1 : RdA κ s1 code) : V0 Tryz.prog κ 4 (laws_big code) [.h s1 code.length] .b :=
 enW tok Tryz.call4 Tryz.func4 Tryz.results4 Q Q <| rt0 Q Q

theorem n_spec_l1New {code : List UInt8} {s1 : AC} (h1 : RdA κ s1 code) : VP Tryz.prog κ 28 (spec_l1New code) [.h s1 code.length] (fun r => [.h s1 code.length, I r.1, I r.2]) :=
 enW tok Tryz.call28 Tryz.func28 Tryz.results28 Q Q <| lpW () [0] (fun (p : Int × Int) (_ : Unit) => [(3, I p.1), (4, I p.2)]) [] [] (fun p _ => []) id [0] (fun (x5 : Int) (_ : Unit) => [(3, I x5)]) [] (fun x5 _ => []) Q Q (fun hF1 ⟨x3, x4⟩ _ hr1 => cutB 0 0 (spec_l1New_j2 code x3 x4) [0, 3, 4] 15 [] Q (caW [11, 12] Q Q (jn0 [] Q Q) <| jn0 [] Q Q) fun x6 => csW [15] Q Q (ixW cU Q h1 Q fun x7 _ _ => nx0 [] Q) <| bk0 [] Q) fun x5 _ => rtP [0] Q Q Q Q

theorem n_spec_l15Celled {kind : Int} : V0 Tryz.prog κ 36 (spec_l15Celled kind) [I kind] .b :=
 enW tok Tryz.call36 Tryz.func36 Tryz.results36 Q Q <| cutB 0 0 spec_l15Celled_j1 [] 2 [] Q (caW [4, 5] Q Q (jn0 [] Q Q) <| caW [7, 8, 9] Q Q (jn0 [] Q Q) <| caW [11, 12, 13] Q Q (jn0 [] Q Q) <| jn0 [] Q Q) fun x1 => rt0 Q Q

theorem n_spec_l1Byte {c : L1Cur} {s1 : AC} {b0 : Nat × Nat} (h1 : RdA κ s1 c.b) : VS Tryz.prog κ 61 (spec_l1Byte c) [.p 0 0] [b0] [.box 0 [.h s1 c.b.length, I c.i, I c.h]] (fun (r : Int × (Int × Int)) (y : Unit) => I r.1) (fun (r : Int × (Int × Int)) (y : Unit) => [.box 0 [.h s1 c.b.length, I r.2.1, I r.2.2]]) :=
 enW tok Tryz.call61 Tryz.func61 Tryz.results61 Q Q <| drW mixed_Tryz [0] Q <| cutW 1 1 (fun (p : Int × Int) => spec_l1Byte_j1 c p.1 p.2) [0] (fun (p : Int × Int) (_ : Unit) => [(3, I p.1)]) [] (fun p _ => [.box 0 [.h s1 c.b.length, I p.2, I (w64 ((w64 (c.h * 6364136223846793005)) + 1442695040888963407))]]) Q (drW mixed_Tryz [0] Q <| csW [34] Q Q (drW mixed_Tryz [0] Q <| ixW cU Q h1 Q fun x3 _ _ => jn0 (p := (bitsOp .and .i64 (w64 ((bitsOp .and .i64 (bitsOp .xor .i64 (shrOp .i64 (w64 ((w64 (c.h * 6364136223846793005)) + 1442695040888963407)) 33) (shrOp .i64 (w64 ((w64 (c.h * 6364136223846793005)) + 1442695040888963407)) 45)) 255) + (x3.toNat : Int))) 255, w64 (c.i + 1))) [0] Q Q) <| jn0 (p := (bitsOp .and .i64 (bitsOp .xor .i64 (shrOp .i64 (w64 ((w64 (c.h * 6364136223846793005)) + 1442695040888963407)) 33) (shrOp .i64 (w64 ((w64 (c.h * 6364136223846793005)) + 1442695040888963407)) 45)) 255, c.i)) [0] Q Q) fun ⟨x1, x2⟩ _ => rtW () [0] Q Q

theorem n_spec_l1Below {c : L1Cur} {n : Int} {s1 : AC} {b0 : Nat × Nat} (h1 : RdA κ s1 c.b) : VS Tryz.prog κ 39 (spec_l1Below c n) [.p 0 0, I n] [b0] [.box 0 [.h s1 c.b.length, I c.i, I c.h]] (fun (r : Int × (Int × Int)) (y : Unit) => I r.1) (fun (r : Int × (Int × Int)) (y : Unit) => [.box 0 [.h s1 c.b.length, I r.2.1, I r.2.2]]) :=
 enW tok Tryz.call39 Tryz.func39 Tryz.results39 Q Q <| csW [10] Q Q (rtW () [0] Q Q) <| csW [12] Q Q (cwW1 0 0 0 3 [] Q Q Q Q Q (fun h => n_spec_l1Byte (h.a h1)) fun x1 _ => fun hF => qrem Q Q Q Q hF fun hF => wi hF <| rtW () [0] Q Q) <| cwW1 0 0 0 3 [] Q Q Q Q Q (fun h => n_spec_l1Byte (h.a h1)) fun x2 _ => cwW1 0 0 0 3 [] Q Q Q Q Q (fun h => n_spec_l1Byte (c := (⟨c.b, x2.2.1, x2.2.2⟩ : L1Cur)) (h.a h1)) fun x3 _ => cwW1 0 0 0 3 [] Q Q Q Q Q (fun h => n_spec_l1Byte (c := (⟨c.b, x3.2.1, x3.2.2⟩ : L1Cur)) (h.a h1)) fun x4 _ => cwW1 0 0 0 3 [] Q Q Q Q Q (fun h => n_spec_l1Byte (c := (⟨c.b, x4.2.1, x4.2.2⟩ : L1Cur)) (h.a h1)) fun x5 _ => fun hF => qrem Q Q Q Q hF fun hF => wi hF <| rtW () [0] Q Q

theorem n_spec_l1PickInt {c : L1Cur} {list : List Int} {s1 : AC} {s2 : AC} {b0 : Nat × Nat} (h1 : RdA κ s1 c.b) (h2 : RdA κ s2 list) : VS Tryz.prog κ 48 (spec_l1PickInt c list) [.p 0 0, .h s2 list.length] [b0] [.box 0 [.h s1 c.b.length, I c.i, I c.h]] (fun (r : Int × (Int × Int)) (y : Unit) => I r.1) (fun (r : Int × (Int × Int)) (y : Unit) => [.box 0 [.h s1 c.b.length, I r.2.1, I r.2.2]]) :=
 enW tok Tryz.call48 Tryz.func48 Tryz.results48 Q Q <| cwW1 0 0 0 3 [] Q Q Q Q Q (fun h => n_spec_l1Below (h.a h1)) fun x1 _ => ixI Q h2 Q fun x2 => rtW () [0] Q Q

theorem n_spec_l1Once {c : L1Cur} {n : Int} {s1 : AC} {b0 : Nat × Nat} (h1 : RdA κ s1 c.b) : VS Tryz.prog κ 60 (spec_l1Once c n) [.p 0 0, I n] [b0] [.box 0 [.h s1 c.b.length, I c.i, I c.h]] (fun (r : Bool × (Int × Int)) (y : Unit) => .b r.1) (fun (r : Bool × (Int × Int)) (y : Unit) => [.box 0 [.h s1 c.b.length, I r.2.1, I r.2.2]]) :=
 enW tok Tryz.call60 Tryz.func60 Tryz.results60 Q Q <| cwW1 0 0 0 3 [] Q Q Q Q Q (fun h => n_spec_l1Below (h.a h1)) fun x1 _ => rtW () [0] Q Q

theorem n_spec_l15Op {c : L1Cur} {s1 : AC} {b0 : Nat × Nat} (h1 : RdA κ s1 c.b) : VS Tryz.prog κ 38 (spec_l15Op c) [.p 0 0] [b0] [.box 0 [.h s1 c.b.length, I c.i, I c.h]] (fun (r : GOp × (Int × Int)) (y : Unit) => .g [I r.1.Kind, I r.1.Cell, I r.1.Size, I r.1.Val]) (fun (r : GOp × (Int × Int)) (y : Unit) => [.box 0 [.h s1 c.b.length, I r.2.1, I r.2.2]]) :=
 enW tok Tryz.call38 Tryz.func38 Tryz.results38 Q Q <| fun hF => ltK oI () ([1, 1, 1, 2, 2, 3, 3, 4, 4, 5, 6, 7, 7] : List Int) inf_Tryz3 Q Q Q Q Q Q Q Q Q Q (fun _ => Q) fun s2 => wi hF <| cwW1 0 0 0 3 [] Q Q Q Q Q (fun h => n_spec_l1PickInt (h.a h1) (h.o 2 Q Q)) fun x1 _ => cutW 1 3 (fun (p : Int × Int × Int) => spec_l15Op_j1 c x1 p.1 p.2.1 p.2.2) [0, 2, 3] (fun (p : Int × Int × Int) (_ : Unit) => []) [1] (fun p _ => [.box 0 [.h s1 c.b.length, I p.1, I p.2.1], .box 2 [I x1.1, I p.2.2, I 0, I 0]]) Q (c0 Q (fun _ => n_spec_l15Celled) fun x16 => csW [10] Q Q (fun hF => ltK oI () ([0, 0, 0, 1] : List Int) inf_Tryz3 Q Q Q Q Q Q Q Q Q Q (fun _ => Q) fun s4 => wi hF <| cwW1 0 0 0 3 [] Q Q Q Q Q (fun h => n_spec_l1PickInt (c := (⟨c.b, x1.2.1, x1.2.2⟩ : L1Cur)) (h.a h1) (h.o 4 Q Q)) fun x17 _ => jn0 (p := (x17.2.1, x17.2.2, x17.1)) [0, 3, 1] Q Q) <| jn0 (p := (x1.2.1, x1.2.2, 0)) [0, 3, 1] Q Q) fun ⟨x2, x3, x4⟩ _ => cutW 0 3 (fun (p : Int × Int × Int × Int) => spec_l15Op_j2 x1 x4 p.1 p.2.1 p.2.2.1 p.2.2.2) [0, 2, 3] (fun (p : Int × Int × Int × Int) (_ : Unit) => []) [2] (fun p _ => [.box 0 [.h s1 c.b.length, I p.1, I p.2.1], .box 2 [I x1.1, I x4, I p.2.2.1, I p.2.2.2]]) Q (csW [17] Q Q (cwW1 0 0 0 3 [] Q Q Q Q Q (fun h => n_spec_l1Below (c := (⟨c.b, x2, x3⟩ : L1Cur)) (h.a h1)) fun x9 _ => cutW 1 3 (fun (p : Int × Int × Int) => spec_l15Op_j3 c x1 x4 p.1 p.2.1 p.2.2) [0, 2, 3] (fun (p : Int × Int × Int) (_ : Unit) => []) [2] (fun p _ => [.box 0 [.h s1 c.b.length, I p.1, I p.2.1], .box 2 [I x1.1, I x4, I p.2.2, I 0]]) Q (cwW1 0 0 0 3 [] Q Q Q Q Q (fun h => n_spec_l1Once (c := (⟨c.b, x9.2.1, x9.2.2⟩ : L1Cur)) (h.a h1)) fun x14 _ => csW [23] Q Q (fun hF => ltK oI () ([0, 41, 100] : List Int) inf_Tryz3 Q Q Q Q Q Q Q Q Q Q (fun _ => Q) fun s3 => wi hF <| cwW1 0 0 0 3 [] Q Q Q Q Q (fun h => n_spec_l1PickInt (c := (⟨c.b, x14.2.1, x14.2.2⟩ : L1Cur)) (h.a h1) (h.o 3 Q Q)) fun x15 _ => jn0 (p := (x15.2.1, x15.2.2, x15.1)) [0, 1, 2] Q Q) <| jn0 (p := (x14.2.1, x14.2.2, w64 (1 + x9.1))) [0, 1, 2] Q Q) fun ⟨x10, x11, x12⟩ _ => cwW1 0 0 0 3 [] Q Q Q Q Q (fun h => n_spec_l1Below (c := (⟨c.b, x10, x11⟩ : L1Cur)) (h.a h1)) fun x13 _ => jn0 (p := (x13.2.1, x13.2.2, x12, x13.1)) [0, 1, 2] Q Q) <| jn0 (p := (x2, x3, 0, 0)) [0, 1, 2] Q Q) fun ⟨x5, x6, x7, x8⟩ _ => rtW () [0] Q Q

theorem n_spec_DrawOpOk {code : List UInt8} {s1 : AC} (h1 : RdA κ s1 code) : V0 Tryz.prog κ 21 (spec_DrawOpOk code) [.h s1 code.length] (fun r => .g [I r.Kind, I r.Cell, I r.Size, I r.Val]) :=
 enW tok Tryz.call21 Tryz.func21 Tryz.results21 Q Q <| cP Q (fun h => n_spec_l1New (h.a h1)) fun x1 => cwW1 1 1 0 3 [] Q Q Q Q Q (fun h => n_spec_l15Op (c := (⟨code, x1.1, x1.2⟩ : L1Cur)) (h.a h1)) fun x2 _ => cutW 1 3 spec_DrawOpOk_j1 [2, 4] (fun (x3 : GOp) (_ : Unit) => []) [0] (fun x3 _ => [.box 2 [I x3.Kind, I x3.Cell, I x3.Size, I x3.Val]]) Q (cwW1 1 1 0 3 [] Q Q Q Q Q (fun h => n_spec_l1Below (c := (⟨code, x2.2.1, x2.2.2⟩ : L1Cur)) (h.a h1)) fun x4 _ => csW [11, 12] Q Q (cwW1 1 1 0 3 [] Q Q Q Q Q (fun h => n_spec_l1Below (c := (⟨code, x4.2.1, x4.2.2⟩ : L1Cur)) (h.a h1)) fun x5 _ => jn0 [2, 0] Q Q) <| csW [17, 18] Q Q (cwW1 1 1 0 3 [] Q Q Q Q Q (fun h => n_spec_l1Below (c := (⟨code, x4.2.1, x4.2.2⟩ : L1Cur)) (h.a h1)) fun x6 _ => jn0 [2, 0] Q Q) <| csW [23, 24] Q Q (fun hF => ltK oI () ([(-1), 0, 100, 101, 5] : List Int) inf_Tryz3 Q Q Q Q Q Q Q Q Q Q (fun _ => Q) fun s2 => wi hF <| cwW1 1 1 0 3 [] Q Q Q Q Q (fun h => n_spec_l1PickInt (c := (⟨code, x4.2.1, x4.2.2⟩ : L1Cur)) (h.a h1) (h.o 3 Q Q)) fun x7 _ => jn0 [2, 0] Q Q) <| csW [29, 30] Q Q (fun hF => ltK oI () ([(-1), 65535, 65536, 3] : List Int) inf_Tryz3 Q Q Q Q Q Q Q Q Q Q (fun _ => Q) fun s3 => wi hF <| cwW1 1 1 0 3 [] Q Q Q Q Q (fun h => n_spec_l1PickInt (c := (⟨code, x4.2.1, x4.2.2⟩ : L1Cur)) (h.a h1) (h.o 3 Q Q)) fun x8 _ => jn0 [2, 0] Q Q) <| jn0 [2, 0] Q Q) fun x3 _ => rt0 Q Q

theorem n_spec_DrawShowOp {code : List UInt8} {s1 : AC} (h1 : RdA κ s1 code) : V0 Tryz.prog κ 5 (spec_DrawShowOp code) [.h s1 code.length] (fun r => .g [I r.Kind, I r.Cell, I r.Size, I r.Val]) :=
 enW tok Tryz.call5 Tryz.func5 Tryz.results5 Q Q <| c0 Q (fun h => n_spec_DrawOpOk (h.a h1)) fun x1 => rt0 Q Q

theorem n_impl_within {n low high : Int} : V0 Tryz.prog κ 49 (impl_within n low high) [I n, I low, I high] .b :=
 enW tok Tryz.call49 Tryz.func49 Tryz.results49 Q Q <| cutB 0 0 impl_within_j1 [] 6 [] Q (caW [9, 10] Q Q (jn0 [] Q Q) <| jn0 [] Q Q) fun x1 => rt0 Q Q

theorem n_impl_OpOk {o_ : GOp} : V0 Tryz.prog κ 22 (impl_OpOk o_) [.g [I o_.Kind, I o_.Cell, I o_.Size, I o_.Val]] .b :=
 enW tok Tryz.call22 Tryz.func22 Tryz.results22 Q Q <| cutB 0 1 (impl_OpOk_j1 o_) [1] 3 [0] Q (caKW [6, 7] Q Q (fun hb8 => jn0 [0] Q Q) fun hb8 => caKW [10, 11, 12] Q Q (fun hb9 => jn0 [0] Q Q) fun hb9 => caKW [15, 16, 17] Q Q (fun hb10 => jn0 [0] Q Q) fun hb10 => jn0 [0] Q Q) fun x1 => c0 Q (fun _ => n_impl_within) fun x2 => csKW [22, 26] Q Q (fun hb1 => rt0 Q Q) fun hb1 => cutB 0 1 (impl_OpOk_j2 o_) [1] 27 [0] Q (caKW [3, 28, 29] Q Q (fun hb6 => c0 Q (fun _ => n_impl_within) fun x8 => caKW [33, 34, 35] Q Q (fun hb7 => jn0 [0] Q Q) fun hb7 => jn0 [0] Q Q) fun hb6 => jn0 [0] Q Q) fun x3 => csKW [27] Q Q (fun hb2 => rt0 Q Q) fun hb2 => csKW [44, 47] Q Q (fun hb3 => cutB 0 1 impl_OpOk_j3 [] 2 [] Q (c0 Q (fun _ => n_impl_within) fun x5 => caKW [50, 51] Q Q (fun hb4 => c0 Q (fun _ => n_impl_within) fun x6 => jn0 [] Q Q) fun hb4 => jn0 [] Q Q) fun x4 => rt0 Q Q) fun hb3 => cutB 0 1 impl_OpOk_j4 [] 2 [] Q (caKW [58, 59] Q Q (fun hb5 => jn0 [] Q Q) fun hb5 => jn0 [] Q Q) fun x7 => rt0 Q Q

theorem n_impl_OpWord {kind : Int} : V0 Tryz.prog κ 23 (impl_OpWord kind) [I kind] .s :=
 enW tok Tryz.call23 Tryz.func23 Tryz.results23 Q Q <| c0 Q (fun _ => n_impl_within) fun x1 => csW [5] Q Q (rt0 Q Q) <| fun hF => qba [.s ([115, 101, 116]), .s ([103, 101, 116]), .s ([104, 97, 122]), .s ([99, 111, 108, 108, 101, 99, 116]), .s ([112, 105, 110]), .s ([117, 110, 112, 105, 110]), .s ([112, 101, 101, 107])] Tryz.zeroValue71 Tryz.underlying71 Tryz.sizeOf9 Q Q Q Q Q Q <| qai (fun q : List UInt8 => sv q) (fun q => .s q) (l := ([[115, 101, 116], [103, 101, 116], [104, 97, 122], [99, 111, 108, 108, 101, 99, 116], [112, 105, 110], [117, 110, 112, 105, 110], [112, 101, 101, 107]] : List (List UInt8))) Tryz.underlying71 Tryz.sizeOf9 Tryz.isAgg9 (fun _ => Q) Q Q Q Q Q Q hF fun x2 _ hF => wi hF <| rt0 Q Q


theorem n_impl_ShowOp (hg : Glob κ) {o_ : GOp} : V0 Tryz.prog κ 6 (impl_ShowOp o_) [.g [I o_.Kind, I o_.Cell, I o_.Size, I o_.Val]] .s :=
 enW tok Tryz.call6 Tryz.func6 Tryz.results6 Q Q <| c0 Q (fun _ => n_impl_OpOk) fun x1 => csW [3, 6] Q Q (rt0 Q Q) <| csW [7, 10] Q Q (cutW 0 1 impl_ShowOp_j1 [] (fun (x2 : (List UInt8)) (_ : Unit) => [(2, .s x2)]) [] (fun x2 _ => []) Q (drW mixed_Tryz [0] Q <| fun hF => bd hF fun x3 hA1 hF => bd hF fun x4 hA2 hF => nd hF fun hA3 hF => alt2 Q Q (have hq1 := rb hA1; wi hq1 <| c0 Q (fun _ => n_impl_OpWord) fun u1 => fun hq1 => match u1, hq1 with | _, rfl => ltK oI () ([o_.Cell, o_.Size, o_.Val] : List Int) inf_Tryz3 Q Q Q Q Q Q Q Q Q Q (fun _ => Q) fun s2 => have hq2 := rb hA2; wi hq2 <| c0 Q (fun h => n_impl_decs (h.gl hg) (h.o 1 Q)) fun u2 => fun hq2 => match u2, hq2 with | _, rfl => have hq3 := rn hA3; cat Q Q Q Q hq3 fun hq3 => wi hF <| jn0 (p := (x3 ++ x4)) [] Q Q) (ltK oI () ([o_.Cell, o_.Size, o_.Val] : List Int) inf_Tryz3 Q Q Q Q Q Q Q Q Q Q (fun _ => Q) fun s3 => have hq4 := rb hA1; wi hq4 <| c0 Q (fun _ => n_impl_OpWord) fun u3 => fun hq4 => match u3, hq4 with | _, rfl => have hq5 := rb hA2; wi hq5 <| c0 Q (fun h => n_impl_decs (h.gl hg) (h.o 1 Q)) fun u4 => fun hq5 => match u4, hq5 with | _, rfl => have hq6 := rn hA3; cat Q Q Q Q hq6 fun hq6 => wi hF <| jn0 (p := (x3 ++ x4)) [] Q Q)) fun x2 _ => rt0 Q Q) <| cutB 0 1 (impl_ShowOp_j2 o_) [1] 23 [0] Q (caW [26, 27] Q Q (jn0 [0] Q Q) <| caW [30, 31, 32] Q Q (jn0 [0] Q Q) <| jn0 [0] Q Q) fun x5 => csW [23] Q Q (cutW 0 1 impl_ShowOp_j3 [] (fun (x6 : (List UInt8)) (_ : Unit) => [(2, .s x6)]) [] (fun x6 _ => []) Q (drW mixed_Tryz [0] Q <| fun hF => bd hF fun x7 hA4 hF => bd hF fun x8 hA5 hF => nd hF fun hA6 hF => alt2 Q Q (have hq7 := rb hA4; wi hq7 <| c0 Q (fun _ => n_impl_OpWord) fun u5 => fun hq7 => match u5, hq7 with | _, rfl => lt1 Q inf_Tryz3 Q Q Q Q fun s5 => have hq8 := rb hA5; wi hq8 <| c0 Q (fun h => n_impl_decs (h.gl hg) (h.o 1 Q)) fun u6 => fun hq8 => match u6, hq8 with | _, rfl => have hq9 := rn hA6; cat Q Q Q Q hq9 fun hq9 => wi hF <| jn0 (p := (x7 ++ x8)) [] Q Q) (lt1 Q inf_Tryz3 Q Q Q Q fun s6 => have hq10 := rb hA4; wi hq10 <| c0 Q (fun _ => n_impl_OpWord) fun u7 => fun hq10 => match u7, hq10 with | _, rfl => have hq11 := rb hA5; wi hq11 <| c0 Q (fun h => n_impl_decs (h.gl hg) (h.o 1 Q)) fun u8 => fun hq11 => match u8, hq11 with | _, rfl => have hq12 := rn hA6; cat Q Q Q Q hq12 fun hq12 => wi hF <| jn0 (p := (x7 ++ x8)) [] Q Q)) fun x6 _ => rt0 Q Q) <| c0 Q (fun _ => n_impl_OpWord) fun x9 => rt0 Q Q

theorem n_impl_ReadOp (hg : Glob κ) {s : List UInt8}   : V0 Tryz.prog κ 7 (impl_ReadOp s) [.s s] (fun (r : GOp × Bool) => .t [.g [I r.1.Kind, I r.1.Cell, I r.1.Size, I r.1.Val], .b r.2]) := fun r hF => by
  obtain ⟨hs, hF⟩ := needE hF
  obtain ⟨o, ho, hF⟩ := Option.bind_eq_some_iff.1 hF
  cases hF
  refine oldF Tryz.call7 fun hm vs hv => ?_
  cases hv
  refine Calls.mono (c_ReadOp (sh := fun k a b c => impl_ShowOp ⟨k, a, b, c⟩) (@fun _ _ _ _ _ ht _ hW => call0 (n_impl_ShowOp (.all hW) _ ht) rfl rfl) (s := ⟨s.toArray⟩) (by simpa [ByteArray.size] using hs) rfl rfl rfl ho hg.g) fun e w' ⟨he, hb⟩ => ⟨_, he, ?_, st_of_below hb⟩
  cases o <;> rfl

theorem n_spec_l21Cmd {c : L1Cur} {s1 : AC} {b0 : Nat × Nat} (h1 : RdA κ s1 c.b) : VS Tryz.prog κ 53 (spec_l21Cmd c) [.p 0 0] [b0] [.box 0 [.h s1 c.b.length, I c.i, I c.h]] (fun (r : Cmd × (Int × Int)) (y : Unit) => .g [I r.1.Kind, I r.1.Key, I r.1.Val]) (fun (r : Cmd × (Int × Int)) (y : Unit) => [.box 0 [.h s1 c.b.length, I r.2.1, I r.2.2]]) :=
 enW tok Tryz.call53 Tryz.func53 Tryz.results53 Q Q <| fun hF => ltK oI () ([1, 1, 2, 2, 3, 4, 4] : List Int) inf_Tryz3 Q Q Q Q Q Q Q Q Q Q (fun _ => Q) fun s2 => wi hF <| cwW1 0 0 0 3 [] Q Q Q Q Q (fun h => n_spec_l1PickInt (h.a h1) (h.o 2 Q Q)) fun x1 _ => cwW1 0 0 0 3 [] Q Q Q Q Q (fun h => n_spec_l1Below (c := (⟨c.b, x1.2.1, x1.2.2⟩ : L1Cur)) (h.a h1)) fun x2 _ => cutW 1 3 (fun (p : Int × Int × Int) => spec_l21Cmd_j1 x1 x2 p.1 p.2.1 p.2.2) [0, 2, 3] (fun (p : Int × Int × Int) (_ : Unit) => []) [1] (fun p _ => [.box 0 [.h s1 c.b.length, I p.1, I p.2.1], .box 2 [I x1.1, I x2.1, I p.2.2]]) Q (cutB 0 3 (spec_l21Cmd_j2 c x1 x2) [0, 2, 3] 17 [0, 1, 3] Q (caW [12, 13] Q Q (jn0 [0, 1, 3] Q Q) <| jn0 [0, 1, 3] Q Q) fun x6 => csW [17] Q Q (cwW1 0 0 0 3 [] Q Q Q Q Q (fun h => n_spec_l1Below (c := (⟨c.b, x2.2.1, x2.2.2⟩ : L1Cur)) (h.a h1)) fun x7 _ => fun hF => ltK oI () ([1, 65535, x7.1] : List Int) inf_Tryz3 Q Q Q Q Q Q Q Q Q Q (fun _ => Q) fun s3 => wi hF <| cwW1 0 0 0 3 [] Q Q Q Q Q (fun h => n_spec_l1PickInt (c := (⟨c.b, x7.2.1, x7.2.2⟩ : L1Cur)) (h.a h1) (h.o 3 Q Q)) fun x8 _ => jn0 (p := (x8.2.1, x8.2.2, x8.1)) [0, 2, 1] Q Q) <| jn0 (p := (x2.2.1, x2.2.2, 0)) [0, 2, 1] Q Q) fun ⟨x3, x4, x5⟩ _ => rtW () [0] Q Q

theorem n_spec_l21Any {c : L1Cur} {s1 : AC} {b0 : Nat × Nat} (h1 : RdA κ s1 c.b) : VS Tryz.prog κ 27 (spec_l21Any c) [.p 0 0] [b0] [.box 0 [.h s1 c.b.length, I c.i, I c.h]] (fun (r : Cmd × (Int × Int)) (y : Unit) => .g [I r.1.Kind, I r.1.Key, I r.1.Val]) (fun (r : Cmd × (Int × Int)) (y : Unit) => [.box 0 [.h s1 c.b.length, I r.2.1, I r.2.2]]) :=
 enW tok Tryz.call27 Tryz.func27 Tryz.results27 Q Q <| cwW1 0 0 0 3 [] Q Q Q Q Q (fun h => n_spec_l21Cmd (h.a h1)) fun x1 _ => cutW 1 3 (fun (p : Int × Int × Int × Int × Int) => spec_l21Any_j1 p.1 p.2.1 p.2.2.1 p.2.2.2.1 p.2.2.2.2) [0, 2, 3] (fun (p : Int × Int × Int × Int × Int) (_ : Unit) => []) [1] (fun p _ => [.box 0 [.h s1 c.b.length, I p.1, I p.2.1], .box 2 [I p.2.2.1, I p.2.2.2.1, I p.2.2.2.2]]) Q (cwW1 0 0 0 3 [] Q Q Q Q Q (fun h => n_spec_l1Below (c := (⟨c.b, x1.2.1, x1.2.2⟩ : L1Cur)) (h.a h1)) fun x7 _ => csW [8, 9] Q Q (fun hF => ltK oI () ([0, 5] : List Int) inf_Tryz3 Q Q Q Q Q Q Q Q Q Q (fun _ => Q) fun s2 => wi hF <| cwW1 0 0 0 3 [] Q Q Q Q Q (fun h => n_spec_l1PickInt (c := (⟨c.b, x7.2.1, x7.2.2⟩ : L1Cur)) (h.a h1) (h.o 3 Q Q)) fun x8 _ => jn0 (p := (x8.2.1, x8.2.2, x8.1, x1.1.Key, x1.1.Val)) [0, 2, 1] Q Q) <| csW [14, 15] Q Q (fun hF => ltK oI () ([(-1), 99, 100] : List Int) inf_Tryz3 Q Q Q Q Q Q Q Q Q Q (fun _ => Q) fun s3 => wi hF <| cwW1 0 0 0 3 [] Q Q Q Q Q (fun h => n_spec_l1PickInt (c := (⟨c.b, x7.2.1, x7.2.2⟩ : L1Cur)) (h.a h1) (h.o 3 Q Q)) fun x9 _ => jn0 (p := (x9.2.1, x9.2.2, x1.1.Kind, x9.1, x1.1.Val)) [0, 2, 1] Q Q) <| csW [20, 21] Q Q (fun hF => ltK oI () ([(-1), 65536, 1, 0] : List Int) inf_Tryz3 Q Q Q Q Q Q Q Q Q Q (fun _ => Q) fun s4 => wi hF <| cwW1 0 0 0 3 [] Q Q Q Q Q (fun h => n_spec_l1PickInt (c := (⟨c.b, x7.2.1, x7.2.2⟩ : L1Cur)) (h.a h1) (h.o 3 Q Q)) fun x10 _ => jn0 (p := (x10.2.1, x10.2.2, x1.1.Kind, x1.1.Key, x10.1)) [0, 2, 1] Q Q) <| jn0 (p := (x7.2.1, x7.2.2, x1.1.Kind, x1.1.Key, x1.1.Val)) [0, 2, 1] Q Q) fun ⟨x2, x3, x4, x5, x6⟩ _ => rtW () [0] Q Q

theorem n_spec_DrawShowCmd {code : List UInt8} {s1 : AC} (h1 : RdA κ s1 code) : V0 Tryz.prog κ 8 (spec_DrawShowCmd code) [.h s1 code.length] (fun r => .g [I r.Kind, I r.Key, I r.Val]) :=
 enW tok Tryz.call8 Tryz.func8 Tryz.results8 Q Q <| cP Q (fun h => n_spec_l1New (h.a h1)) fun x1 => cwW1 1 1 0 3 [] Q Q Q Q Q (fun h => n_spec_l21Any (c := (⟨code, x1.1, x1.2⟩ : L1Cur)) (h.a h1)) fun x2 _ => rt0 Q Q

theorem n_impl_CmdOk {c : Cmd} : V0 Tryz.prog κ 29 (impl_CmdOk c) [.g [I c.Kind, I c.Key, I c.Val]] .b :=
 enW tok Tryz.call29 Tryz.func29 Tryz.results29 Q Q <| cutB 0 1 (impl_CmdOk_j1 c) [1] 3 [0] Q (caW [6, 7] Q Q (jn0 [0] Q Q) <| jn0 [0] Q Q) fun x1 => cutB 0 1 impl_CmdOk_j2 [] 2 [] Q (c0 Q (fun _ => n_impl_within) fun x3 => caW [14, 15] Q Q (c0 Q (fun _ => n_impl_within) fun x4 => caW [18, 19, 20] Q Q (caW [3, 21, 22] Q Q (c0 Q (fun _ => n_impl_within) fun x5 => caW [25, 26, 27] Q Q (jn0 [] Q Q) <| jn0 [] Q Q) <| jn0 [] Q Q) <| jn0 [] Q Q) <| jn0 [] Q Q) fun x2 => rt0 Q Q

theorem n_impl_ShowCmd (hg : Glob κ) {c : Cmd}   : V0 Tryz.prog κ 9 (impl_ShowCmd c) [.g [I c.Kind, I c.Key, I c.Val]] .s := fun r hF => by
  obtain ⟨ok, hok, hF⟩ := Option.bind_eq_some_iff.1 hF
  obtain ⟨h1, hF⟩ := needE hF
  cases hF
  refine oldF Tryz.call9 fun hm vs hv => ?_
  cases hv
  exact Calls.mono (c_ShowCmd (fun {W} => call0 (n_impl_CmdOk (κ := cxAll W) _ hok) rfl rfl) (fun q => (h1 q).1) (fun q => (h1 q).2) hg.g) fun e w' ⟨he, hb⟩ => ⟨_, he, rfl, st_of_below hb⟩

theorem n_impl_ReadCmd (hg : Glob κ) {s : List UInt8}   : V0 Tryz.prog κ 10 (impl_ReadCmd s) [.s s] (fun (r : Cmd × Bool) => .t [.g [I r.1.Kind, I r.1.Key, I r.1.Val], .b r.2]) := fun r hF => by
  obtain ⟨hs, hF⟩ := needE hF
  obtain ⟨t, ht, hF⟩ := Option.bind_eq_some_iff.1 hF
  cases hF
  refine oldF Tryz.call10 fun hm vs hv => ?_
  cases hv
  refine Calls.mono (c_ReadCmd (sh := fun k a b => impl_ShowCmd ⟨k, a, b⟩) (@fun _ _ _ _ ht _ hW => call0 (n_impl_ShowCmd (.all hW) _ ht) rfl rfl) (s := ⟨s.toArray⟩) (by simpa [ByteArray.size] using hs) (kind_eq s) rfl rfl ht hg.g) fun e w' ⟨he, hb⟩ => ⟨_, he, ?_, st_of_below hb⟩
  by_cases q : s ≠ [] ∧ t = s
  · rw [if_pos q, decide_eq_true (show (⟨s.toArray⟩ : ByteArray).data.toList ≠ [] ∧ t = (⟨s.toArray⟩ : ByteArray).data.toList from q)]; rfl
  · rw [if_neg q, decide_eq_false (show ¬ ((⟨s.toArray⟩ : ByteArray).data.toList ≠ [] ∧ t = (⟨s.toArray⟩ : ByteArray).data.toList) from q)]; rfl

theorem n_spec_l23Draw {c : L1Cur} {s1 : AC} {b0 : Nat × Nat} (h1 : RdA κ s1 c.b) : VS Tryz.prog κ 46 (spec_l23Draw c) [.p 0 0] [b0] [.box 0 [.h s1 c.b.length, I c.i, I c.h]] (fun (r : Batch × (Int × Int)) (y : AC) => .g [.b r.1.Collect, .h y r.1.Cmds.length]) (fun (r : Batch × (Int × Int)) (y : AC) => [.box 0 [.h s1 c.b.length, I r.2.1, I r.2.2], ow y r.1.Cmds]) :=
 enW tok Tryz.call46 Tryz.func46 Tryz.results46 Q Q <| cwW1 0 0 0 3 [] Q Q Q Q Q (fun h => n_spec_l1Once (h.a h1)) fun x1 _ => csW [6] Q Q (fun hF => sR Q <| nwR Cmd <| rtR (hT := tok) ⟨none, 0⟩ [0, 2] hF Q Tryz.results46 Q Q Q Q) <| cwW1 0 0 0 3 [] Q Q Q Q Q (fun h => n_spec_l1Below (c := (⟨c.b, x1.2.1, x1.2.2⟩ : L1Cur)) (h.a h1)) fun x2 _ => fun hF => nw Cmd Q <| wi hF <| lpW ⟨none, 0⟩ [0, 2, 3] (fun (p : Int × Int × Int × (List Cmd)) (s3 : AC) => [(4, I p.1)]) [0, 3, 2, 1] [1] (fun p s3 => [.box 0 [.h s1 c.b.length, I p.2.1, I p.2.2.1], ow s3 (p.2.2.2 : List Cmd), .box 2 [.l false, .h s3 p.2.2.2.length]]) id [0, 2, 3] (fun (p : Int × Int × (List Cmd)) (s4 : AC) => []) [1] (fun p s4 => [.box 0 [.h s1 c.b.length, I p.1, I p.2.1], ow s4 (p.2.2 : List Cmd), .box 2 [.l false, .h s4 p.2.2.length]]) Q Q (fun hF1 ⟨x7, x8, x9, x10⟩ s3 hr1 => csW [13] Q Q (cutW 0 3 (fun (p : Int × Int × (List Cmd)) => spec_l23Draw_j2 x7 p.1 p.2.1 p.2.2) [0, 2, 3, 4] (fun (p : Int × Int × (List Cmd)) (s5 : AC) => []) [3] (fun p s5 => [.box 0 [.h s1 c.b.length, I p.1, I p.2.1], ow s5 (p.2.2 : List Cmd), .box 2 [.l false, .h s5 p.2.2.length]]) Q (drW mixed_Tryz [3] Q <| fun hG1 => bd hG1 fun x17 hA1 hG1 => nd hG1 fun hA2 hG1 => alt2 Q Q (have hq1 := rb hA1; wi hq1 <| cwW1 0 0 0 3 [] Q Q Q Q Q (fun h => n_spec_l21Cmd (c := (⟨c.b, x8, x9⟩ : L1Cur)) (h.a h1)) fun u1 _ => fun hq1 => match u1, hq1 with | _, rfl => ltN oCmd [] (x17.1) () inf_Tryz31 Q Q Q Q Q Q Q Q Q Q Q Q Q fun s8 => have hq2 := rn hA2; ap 1 inf_Tryz31 Q Q Q Q Q Q Q (fun h => (h.o 4 Q)) Q Q hq2 fun hq2 s9 => wi hG1 <| jnW (p := (x17.2.1, x17.2.2, x10 ++ ([x17.1]))) s9 [0, 1, 2, 3] Q Q) (have hq3 := rb hA1; wi hq3 <| cwW1 0 0 0 3 [] Q Q Q Q Q (fun h => n_spec_l21Cmd (c := (⟨c.b, x8, x9⟩ : L1Cur)) (h.a h1)) fun u2 _ => fun hq3 => match u2, hq3 with | _, rfl => alt2 Q Q (ltN oCmd [] (x17.1) () inf_Tryz31 Q Q Q Q Q Q Q Q Q Q Q Q Q fun s10 => have hq4 := rn hA2; ap 1 inf_Tryz31 Q Q Q Q Q Q Q (fun h => (h.o 4 Q)) Q Q hq4 fun hq4 s11 => wi hG1 <| jnW (p := (x17.2.1, x17.2.2, x10 ++ ([x17.1]))) s11 [0, 1, 2, 3] Q Q) (ltN oCmd [] (x17.1) () inf_Tryz31 Q Q Q Q Q Q Q Q Q Q Q Q Q fun s12 => have hq5 := rn hA2; ap 1 inf_Tryz31 Q Q Q Q Q Q Q (fun h => (h.o 4 Q)) Q Q hq5 fun hq5 s13 => wi hG1 <| jnW (p := (x17.2.1, x17.2.2, x10 ++ ([x17.1]))) s13 [0, 1, 2, 3] Q Q))) fun ⟨x14, x15, x16⟩ s5 => nxW s5 [0, 1, 2, 3] Q) <| bkW s3 [0, 1, 2, 3] Q) fun ⟨x11, x12, x13⟩ s4 => rtW s4 [0, 1] Q Q

theorem n_spec_DrawBatchOk {code : List UInt8} {s1 : AC} (h1 : RdA κ s1 code) : VS Tryz.prog κ 31 (spec_DrawBatchOk code) [.h s1 code.length] [] [] (fun r (y : AC) => .g [.b r.Collect, .h y r.Cmds.length]) (fun r y => [ow y r.Cmds]) :=
 enW tok Tryz.call31 Tryz.func31 Tryz.results31 Q Q <| cP Q (fun h => n_spec_l1New (h.a h1)) fun x1 => cwW1 1 1 0 3 [] Q Q Q Q Q (fun h => n_spec_l23Draw (c := (⟨code, x1.1, x1.2⟩ : L1Cur)) (h.a h1)) fun x2 s2 => cutW 1 3 (fun (p : Bool × (List Cmd)) => spec_DrawBatchOk_j1 p.1 p.2) [2, 4] (fun (p : Bool × (List Cmd)) (s3 : AC) => []) [0] (fun p s3 => [ow s3 (p.2 : List Cmd), .box 2 [.b p.1, .h s3 p.2.length]]) Q (cwW1 1 1 0 3 [] Q Q Q Q Q (fun h => n_spec_l1Below (c := (⟨code, x2.2.1, x2.2.2⟩ : L1Cur)) (h.a h1)) fun x5 _ => csW [11, 12] Q Q (cutW 0 3 (spec_DrawBatchOk_j2 x2) [2, 4] (fun (x6 : (List Cmd)) (s4 : AC) => []) [0] (fun x6 s4 => [ow s4 (x6 : List Cmd), .box 2 [.b x2.1.Collect, .h s4 x6.length]]) Q (drW mixed_Tryz [0] Q <| fun hF => bd hF fun x7 hA1 hF => nd hF fun hA2 hF => alt2 Q Q (have hq1 := rb hA1; wi hq1 <| cwW1 1 1 0 3 [] Q Q Q Q Q (fun h => n_spec_l21Any (c := (⟨code, x5.2.1, x5.2.2⟩ : L1Cur)) (h.a h1)) fun u1 _ => fun hq1 => match u1, hq1 with | _, rfl => ltN oCmd [] (x7.1) () inf_Tryz31 Q Q Q Q Q Q Q Q Q Q Q Q Q fun s7 => have hq2 := rn hA2; ap 2 inf_Tryz31 Q Q Q Q Q Q Q (fun h => (h.o 4 Q)) Q Q hq2 fun hq2 s8 => wi hF <| jnW (p := (x2.1.Cmds ++ ([x7.1]))) s8 [2, 3, 0] Q Q) (have hq3 := rb hA1; wi hq3 <| cwW1 1 1 0 3 [] Q Q Q Q Q (fun h => n_spec_l21Any (c := (⟨code, x5.2.1, x5.2.2⟩ : L1Cur)) (h.a h1)) fun u2 _ => fun hq3 => match u2, hq3 with | _, rfl => alt2 Q Q (ltN oCmd [] (x7.1) () inf_Tryz31 Q Q Q Q Q Q Q Q Q Q Q Q Q fun s9 => have hq4 := rn hA2; ap 2 inf_Tryz31 Q Q Q Q Q Q Q (fun h => (h.o 4 Q)) Q Q hq4 fun hq4 s10 => wi hF <| jnW (p := (x2.1.Cmds ++ ([x7.1]))) s10 [2, 3, 0] Q Q) (ltN oCmd [] (x7.1) () inf_Tryz31 Q Q Q Q Q Q Q Q Q Q Q Q Q fun s11 => have hq5 := rn hA2; ap 2 inf_Tryz31 Q Q Q Q Q Q Q (fun h => (h.o 4 Q)) Q Q hq5 fun hq5 s12 => wi hF <| jnW (p := (x2.1.Cmds ++ ([x7.1]))) s12 [2, 3, 0] Q Q))) fun x6 s4 => jnW (p := (x2.1.Collect, x6)) s4 [0, 1, 2] Q Q) <| csW [20, 21] Q Q (lpW s2 [2, 3, 4] (fun (p : Int × Int × (List Cmd)) (s14 : AC) => []) [1, 2, 3, 0] [0] (fun p s14 => [.box 1 [.h s1 code.length, I p.1, I p.2.1], ow s14 (p.2.2 : List Cmd), .box 2 [.b x2.1.Collect, .h s14 p.2.2.length]]) id [2, 4] (fun (x14 : (List Cmd)) (s15 : AC) => []) [0] (fun x14 s15 => [ow s15 (x14 : List Cmd), .box 2 [.b x2.1.Collect, .h s15 x14.length]]) Q Q (fun hF3 ⟨x11, x12, x13⟩ s14 hr3 => drW mixed_Tryz [2, 3] Q <| cwW1 0 1 0 3 [] Q Q Q Q Q (fun h => n_spec_l1Below (c := (⟨code, x11, x12⟩ : L1Cur)) (h.a h1)) fun x15 _ => csW [28] Q Q (cutW 0 3 (fun (p : Int × Int × (List Cmd)) => spec_DrawBatchOk_j4 p.1 p.2.1 p.2.2) [2, 3, 4] (fun (p : Int × Int × (List Cmd)) (s16 : AC) => []) [3] (fun p s16 => [.box 1 [.h s1 code.length, I p.1, I p.2.1], ow s16 (p.2.2 : List Cmd), .box 2 [.b x2.1.Collect, .h s16 p.2.2.length]]) Q (drW mixed_Tryz [3] Q <| fun hG3 => bd hG3 fun x19 hA3 hG3 => nd hG3 fun hA4 hG3 => alt2 Q Q (have hq6 := rb hA3; wi hq6 <| cwW1 0 1 0 3 [] Q Q Q Q Q (fun h => n_spec_l21Cmd (c := (⟨code, x15.2.1, x15.2.2⟩ : L1Cur)) (h.a h1)) fun u3 _ => fun hq6 => match u3, hq6 with | _, rfl => ltN oCmd [] (x19.1) () inf_Tryz31 Q Q Q Q Q Q Q Q Q Q Q Q Q fun s19 => have hq7 := rn hA4; ap 1 inf_Tryz31 Q Q Q Q Q Q Q (fun h => (h.o 4 Q)) Q Q hq7 fun hq7 s20 => wi hG3 <| jnW (p := (x19.2.1, x19.2.2, x13 ++ ([x19.1]))) s20 [0, 1, 2, 3] Q Q) (have hq8 := rb hA3; wi hq8 <| cwW1 0 1 0 3 [] Q Q Q Q Q (fun h => n_spec_l21Cmd (c := (⟨code, x15.2.1, x15.2.2⟩ : L1Cur)) (h.a h1)) fun u4 _ => fun hq8 => match u4, hq8 with | _, rfl => alt2 Q Q (ltN oCmd [] (x19.1) () inf_Tryz31 Q Q Q Q Q Q Q Q Q Q Q Q Q fun s21 => have hq9 := rn hA4; ap 1 inf_Tryz31 Q Q Q Q Q Q Q (fun h => (h.o 4 Q)) Q Q hq9 fun hq9 s22 => wi hG3 <| jnW (p := (x19.2.1, x19.2.2, x13 ++ ([x19.1]))) s22 [0, 1, 2, 3] Q Q) (ltN oCmd [] (x19.1) () inf_Tryz31 Q Q Q Q Q Q Q Q Q Q Q Q Q fun s23 => have hq10 := rn hA4; ap 1 inf_Tryz31 Q Q Q Q Q Q Q (fun h => (h.o 4 Q)) Q Q hq10 fun hq10 s24 => wi hG3 <| jnW (p := (x19.2.1, x19.2.2, x13 ++ ([x19.1]))) s24 [0, 1, 2, 3] Q Q))) fun ⟨x16, x17, x18⟩ s16 => nxW s16 [0, 1, 2, 3] Q) <| bkW s14 [1, 2, 3] Q) fun x14 s15 => jnW (p := (x2.1.Collect, x14)) s15 [0, 1, 2] Q Q) <| csW [36, 37] Q Q (jnW (p := (!x2.1.Collect, x2.1.Cmds)) s2 [2, 3, 0] Q Q) <| jnW (p := (x2.1.Collect, x2.1.Cmds)) s2 [2, 3, 0] Q Q) fun ⟨x3, x4⟩ s3 => rtW s3 [0] Q Q

theorem n_spec_DrawShowBatch {code : List UInt8} {s1 : AC} (h1 : RdA κ s1 code) : VS Tryz.prog κ 11 (spec_DrawShowBatch code) [.h s1 code.length] [] [] (fun r (y : AC) => .g [.b r.Collect, .h y r.Cmds.length]) (fun r y => [ow y r.Cmds]) :=
 enW tok Tryz.call11 Tryz.func11 Tryz.results11 Q Q <| c1 Q (fun h => n_spec_DrawBatchOk (h.a h1)) fun x1 s2 => rtW s2 [1] Q Q

theorem n_slices_IndexFunc_Cmd {s : List Cmd} {f : (Cmd → Option Bool)} {s1 : AC} {g_f : FuncId} {cap_f : List Value} (h1 : RdA κ s1 s) (h_f : Fu1 Tryz.prog κ (cCmd : Cel Cmd) .b g_f cap_f f) : V0 Tryz.prog κ 71 (slices_IndexFunc_Cmd s f) [.h s1 s.length, .k (.func (.func g_f) #[] cap_f.toArray)] I :=
 enW tok Tryz.call71 Tryz.func71 Tryz.results71 Q Q <| lpI 8 [0, 1, 7] [] Out.brk [] [] Q Q (fun hF1 x2 hr1 => csW [9] Q Q (ixW cCmd Q h1 Q fun x3 _ _ => fun hG1 => fa1 h_f x3 () Q Q Q Q Q trivial hG1 fun x4 _ hG1 => wi hG1 <| csW [16] Q Q (reW hr1 hF1 <| rt0 Q Q) <| nx0 [] Q) <| bk0 [] Q) <| rt0 Q Q

theorem n_slices_ContainsFunc_Cmd {s : List Cmd} {f : (Cmd → Option Bool)} {s1 : AC} {g_f : FuncId} {cap_f : List Value} (h1 : RdA κ s1 s) (h_f : Fu1 Tryz.prog κ (cCmd : Cel Cmd) .b g_f cap_f f) : V0 Tryz.prog κ 54 (slices_ContainsFunc_Cmd s f) [.h s1 s.length, .k (.func (.func g_f) #[] cap_f.toArray)] .b :=
 enW tok Tryz.call54 Tryz.func54 Tryz.results54 Q Q <| c0 Q (fun h => n_slices_IndexFunc_Cmd (h.a h1) (h.u1 h_f)) fun x1 => rt0 Q Q

theorem n_impl_BatchOk_1 {c : Cmd} : V0 Tryz.prog κ 55 (impl_BatchOk_1 c) [.g [I c.Kind, I c.Key, I c.Val]] .b :=
 enW tok Tryz.call55 Tryz.func55 Tryz.results55 Q Q <| c0 Q (fun _ => n_impl_CmdOk) fun x1 => rt0 Q Q

theorem n_impl_BatchOk {b : Batch} {s1 : AC} (h1 : RdA κ s1 b.Cmds) : V0 Tryz.prog κ 32 (impl_BatchOk b) [.g [.b b.Collect, .h s1 b.Cmds.length]] .b :=
 enW tok Tryz.call32 Tryz.func32 Tryz.results32 Q Q <| csW [4] Q Q (rt0 Q Q) <| cutB 0 1 impl_BatchOk_j1 [] 2 [] Q (c0 Q (fun _ => n_impl_within) fun x2 => caW [12, 13] Q Q (c0 Q (fun h => n_slices_ContainsFunc_Cmd (h.a h1) (fuW1 Tryz.call55 fun _ => n_impl_BatchOk_1)) fun x3 => jn0 [] Q Q) <| jn0 [] Q Q) fun x1 => rt0 Q Q


theorem n_impl_ShowBatch (hg : Glob κ) {b : Batch} {s1 : AC} (h1 : RdA κ s1 b.Cmds) : V0 Tryz.prog κ 12 (impl_ShowBatch b) [.g [.b b.Collect, .h s1 b.Cmds.length]] .s :=
 enW tok Tryz.call12 Tryz.func12 Tryz.results12 Q Q <| c0 Q (fun h => n_impl_BatchOk (h.a h1)) fun x1 => csW [6, 9] Q Q (rt0 Q Q) <| csW [10, 12] Q Q (rt0 Q Q) <| fun hF => lt0 (α := GStr) inf_Tryz9 Q Q Q Q fun s2 => wi hF <| lpW s2 [15, 16] (fun (p : (List GStr) × Int) (s4 : AC) => [(3, .h s4 p.1.length), (17, I p.2)]) [1] [] (fun p s4 => [ow s4 (p.1 : List GStr)]) id [] (fun (x6 : (List GStr)) (s5 : AC) => [(3, .h s5 x6.length)]) [] (fun x6 s5 => [ow s5 (x6 : List GStr)]) Q Q (fun hF1 ⟨x4, x5⟩ s4 hr1 => csW [18] Q Q (ixW cCmd Q h1 Q fun x8 _ _ => c0 Q (fun h => n_impl_ShowCmd (h.gl hg)) fun x9 => fun hG1 => ltN oG [] ((⟨x9⟩ : GStr)) () inf_Tryz9 Q Q Q Q Q Q Q Q Q Q Q Q Q fun s6 => ap 0 inf_Tryz9 Q Q Q Q Q Q Q (fun h => (h.o 3 Q)) Q Q hG1 fun hG1 s7 => wi hG1 <| nxW s7 [0] Q) <| bkW s4 [0] Q) fun x6 s5 => c0 Q (fun h => n_strings_Join (h.gl hg) (h.o 0 Q)) fun x7 => rt0 Q Q


theorem n_impl_ReadBatch (hg : Glob κ) {s : List UInt8} : VS Tryz.prog κ 13 (impl_ReadBatch s) [.s s] [] [] (fun r (y : AC) => .t [.g [.b r.1.Collect, .h y r.1.Cmds.length], .b r.2]) (fun r y => [ow y r.1.Cmds]) :=
 enW tok Tryz.call13 Tryz.func13 Tryz.results13 Q Q <| csW [10] Q Q (fun hF => sR Q <| nwR Cmd <| rtR (hT := tok) ⟨none, 0⟩ [1] hF Q Tryz.results13 Q Q Q Q) <| c1 Q (fun h => n_strings_SplitN (h.gl hg)) fun x1 s1 => fun hF => nw Cmd Q <| wi hF <| lpW ⟨none, 0⟩ [2, 4, 14, 15] (fun (p : Int × (List Cmd)) (s3 : AC) => [(16, I p.1)]) [3, 1, 2, 0] [2, 0] (fun p s3 => [ow s3 (p.2 : List Cmd), .box 1 [.l false, .h s3 p.2.length]]) Out.brk [2, 4] (fun (x6 : (List Cmd)) (s4 : AC) => []) [0] (fun x6 s4 => [ow s4 (x6 : List Cmd), .box 1 [.l false, .h s4 x6.length]]) Q Q (fun hF1 ⟨x4, x5⟩ s3 hr1 => csW [17] Q Q (oeW oG 2 Q Q Q fun x8 h1 _ h2 => fun hG1 => ieW 2 h2 h1 Q Q Q Q Q <| wi hG1 <| c0 Q (fun h => n_impl_ReadCmd (h.gl hg)) fun x9 => csW [26] Q Q (fun hG1 => sR Q <| cqR oG 4 [] h1 () Q Q Q Q Q Q Q <| nwR Cmd <| rtR (hT := tok) ⟨none, 0⟩ [9] (re hG1 Q hr1 hF1) Q Tryz.results13 Q Q Q Q) <| fun hG1 => ltN oCmd [] (x9.1) () inf_Tryz31 Q Q Q Q Q Q Q Q Q Q Q Q Q fun s5 => ap 0 inf_Tryz31 Q Q Q Q Q Q Q (fun h => (h.o 8 Q)) Q Q hG1 fun hG1 s6 => sF Q <| cqR oG 4 [] h1 () Q Q Q Q Q Q Q <| nxR s6 [0, 1, 9, 3] hG1 Q) <| bkW s3 [0, 1, 3] Q) fun x6 s4 => c0 Q (fun h => n_impl_BatchOk (b := (⟨false, x6⟩ : Batch)) (h.o 0 Q)) fun x7 => csW [37] Q Q (fun hF => sR Q <| nwR Cmd <| rtR (hT := tok) ⟨none, 0⟩ [3] hF Q Tryz.results13 Q Q Q Q) <| rtW s4 [0] Q Q

theorem n_spec_l1In {x low high : Int} : V0 Tryz.prog κ 35 (spec_l1In x low high) [I x, I low, I high] .b :=
 enW tok Tryz.call35 Tryz.func35 Tryz.results35 Q Q <| cutB 0 0 spec_l1In_j1 [] 6 [] Q (caW [9, 10] Q Q (jn0 [] Q Q) <| jn0 [] Q Q) fun x1 => rt0 Q Q

theorem n_spec_OpOk {o_ : GOp} : V0 Tryz.prog κ 14 (spec_OpOk o_) [.g [I o_.Kind, I o_.Cell, I o_.Size, I o_.Val]] .b :=
 enW tok Tryz.call14 Tryz.func14 Tryz.results14 Q Q <| c0 Q (fun _ => n_spec_l1In) fun x1 => csW [6] Q Q (rt0 Q Q) <| cutB 0 1 (spec_OpOk_j1 o_) [1] 21 [0] Q (c0 Q (fun _ => n_spec_l15Celled) fun x7 => caW [10, 11] Q Q (caW [14, 15, 16] Q Q (jn0 [0] Q Q) <| c0 Q (fun _ => n_spec_l1In) fun x8 => jn0 [0] Q Q) <| c0 Q (fun _ => n_spec_l1In) fun x9 => jn0 [0] Q Q) fun x2 => csW [21] Q Q (rt0 Q Q) <| csW [24] Q Q (cutB 0 1 spec_OpOk_j2 [] 2 [] Q (caW [27, 28] Q Q (jn0 [] Q Q) <| jn0 [] Q Q) fun x3 => rt0 Q Q) <| cutB 0 1 spec_OpOk_j3 [] 2 [] Q (c0 Q (fun _ => n_spec_l1In) fun x5 => caW [35, 36] Q Q (c0 Q (fun _ => n_spec_l1In) fun x6 => jn0 [] Q Q) <| jn0 [] Q Q) fun x4 => rt0 Q Q

theorem n_spec_CmdOk {c : Cmd} : V0 Tryz.prog κ 15 (spec_CmdOk c) [.g [I c.Kind, I c.Key, I c.Val]] .b :=
 enW tok Tryz.call15 Tryz.func15 Tryz.results15 Q Q <| cutB 0 1 (spec_CmdOk_j1 c) [1] 12 [0] Q (c0 Q (fun _ => n_spec_l1In) fun x4 => caW [6, 7] Q Q (jn0 [0] Q Q) <| c0 Q (fun _ => n_spec_l1In) fun x5 => jn0 [0] Q Q) fun x1 => csW [12] Q Q (rt0 Q Q) <| cutB 0 1 (spec_CmdOk_j2 c) [1] 20 [0] Q (caW [15, 16] Q Q (jn0 [0] Q Q) <| jn0 [0] Q Q) fun x2 => csW [20] Q Q (c0 Q (fun _ => n_spec_l1In) fun x3 => rt0 Q Q) <| rt0 Q Q

theorem n_spec_BatchOk {b : Batch} {s1 : AC} (h1 : RdA κ s1 b.Cmds) : V0 Tryz.prog κ 16 (spec_BatchOk b) [.g [.b b.Collect, .h s1 b.Cmds.length]] .b :=
 enW tok Tryz.call16 Tryz.func16 Tryz.results16 Q Q <| csW [5] Q Q (rt0 Q Q) <| lpI 3 [1] [0] Out.brk [1] [0] Q Q (fun hF1 x2 hr1 => csW [14] Q Q (ixW cCmd Q h1 Q fun x4 _ _ => c0 Q (fun _ => n_spec_CmdOk) fun x5 => csW [23] Q Q (reW hr1 hF1 <| rt0 Q Q) <| nx0 [0] Q) <| bk0 [0] Q) <| c0 Q (fun _ => n_spec_l1In) fun x3 => rt0 Q Q

theorem n_spec_OpWord {kind : Int} : V0 Tryz.prog κ 44 (spec_OpWord kind) [I kind] .s :=
 enW tok Tryz.call44 Tryz.func44 Tryz.results44 Q Q <| c0 Q (fun _ => n_spec_l1In) fun x1 => csW [5] Q Q (rt0 Q Q) <| fun hF => ltK oG () ([(⟨[115, 101, 116]⟩ : GStr), (⟨[103, 101, 116]⟩ : GStr), (⟨[104, 97, 122]⟩ : GStr), (⟨[99, 111, 108, 108, 101, 99, 116]⟩ : GStr), (⟨[112, 105, 110]⟩ : GStr), (⟨[117, 110, 112, 105, 110]⟩ : GStr), (⟨[112, 101, 101, 107]⟩ : GStr)] : List GStr) inf_Tryz9 Q Q Q Q Q Q Q Q Q Q (fun _ => Q) fun s1 => wi hF <| oeW oG 0 Q Q Q fun x2 h1 _ h2 => fun hF => ieW 0 h2 h1 Q Q Q Q Q <| sR Q <| cqR oG 1 [] h1 () Q Q Q Q Q Q Q <| rtR (hT := tok) () [] hF Q Tryz.results44 Q Q Q Q

theorem n_spec_Dec {n : Int} : V0 Tryz.prog κ 59 (spec_Dec n) [I n] .s :=
 enW tok Tryz.call59 Tryz.func59 Tryz.results59 Q Q <| csW [7] Q Q (rt0 Q Q) <| lpW () [4] (fun (p : Int × (List UInt8)) (_ : Unit) => [(0, I p.1), (3, .s p.2)]) [] [] (fun p _ => []) id [4] (fun (x5 : (List UInt8)) (_ : Unit) => [(3, .s x5)]) [] (fun x5 _ => []) Q Q (fun hF1 ⟨x3, x4⟩ _ hr1 => csW [11] Q Q (cutW 0 0 (spec_Dec_j2 x3 x4) [0, 3, 4] (fun (x6 : Int) (_ : Unit) => [(5, I x6)]) [] (fun x6 _ => []) Q (csW [15] Q Q (jn0 [] Q Q) <| jn0 [] Q Q) fun x6 _ => fun hG1 => ltN oU [] (u8 (w64 (48 + x6))) () inf_Tryz5 Q Q Q Q Q Q Q Q Q Q Q Q Q fun s1 => qbo 0 Q Q Q Q Q Q Q <| cat Q Q Q Q hG1 fun hG1 => wi hG1 <| nx0 [] Q) <| bk0 [] Q) fun x5 _ => csW [4, 27] Q Q (fun hF => cat Q Q Q Q hF fun hF => wi hF <| rt0 Q Q) <| rt0 Q Q

theorem n_spec_ShowOp {o_ : GOp} : V0 Tryz.prog κ 37 (spec_ShowOp o_) [.g [I o_.Kind, I o_.Cell, I o_.Size, I o_.Val]] .s :=
 enW tok Tryz.call37 Tryz.func37 Tryz.results37 Q Q <| c0 Q (fun _ => n_spec_OpOk) fun x1 => csW [6] Q Q (rt0 Q Q) <| c0 Q (fun _ => n_spec_OpWord) fun x2 => cutW 1 1 (spec_ShowOp_j1 o_) [1] (fun (x3 : (List UInt8)) (_ : Unit) => [(3, .s x3)]) [0] (fun x3 _ => []) Q (c0 Q (fun _ => n_spec_l15Celled) fun x7 => csW [12] Q Q (fun hF => cat Q Q Q Q hF fun hF => wi hF <| c0 Q (fun _ => n_spec_Dec) fun x8 => fun hF => cat Q Q Q Q hF fun hF => wi hF <| jn0 [0] Q Q) <| jn0 [0] Q Q) fun x3 _ => cutW 0 1 spec_ShowOp_j2 [] (fun (x4 : (List UInt8)) (_ : Unit) => [(3, .s x4)]) [] (fun x4 _ => []) Q (csW [21] Q Q (drW mixed_Tryz [0] Q <| fun hF => cat Q Q Q Q hF fun hF => wi hF <| c0 Q (fun _ => n_spec_Dec) fun x5 => fun hF => cat Q Q Q Q hF fun hF => cat Q Q Q Q hF fun hF => wi hF <| c0 Q (fun _ => n_spec_Dec) fun x6 => fun hF => cat Q Q Q Q hF fun hF => wi hF <| jn0 [] Q Q) <| jn0 [] Q Q) fun x4 _ => rt0 Q Q

theorem n_spec_l1Text {c : L1Cur} {most : Int} {s1 : AC} {b0 : Nat × Nat} (h1 : RdA κ s1 c.b) : VS Tryz.prog κ 62 (spec_l1Text c most) [.p 0 0, I most] [b0] [.box 0 [.h s1 c.b.length, I c.i, I c.h]] (fun (r : (List UInt8) × (Int × Int)) (y : Unit) => .s r.1) (fun (r : (List UInt8) × (Int × Int)) (y : Unit) => [.box 0 [.h s1 c.b.length, I r.2.1, I r.2.2]]) :=
 enW tok Tryz.call62 Tryz.func62 Tryz.results62 Q Q <| fun hF => lt0 (α := UInt8) inf_Tryz5 Q Q Q Q fun s2 => wi hF <| cwW1 0 0 0 3 [] Q Q Q Q Q (fun h => n_spec_l1Below (h.a h1)) fun x1 _ => cwW1 0 0 0 3 [] Q Q Q Q Q (fun h => n_spec_l1Below (c := (⟨c.b, x1.2.1, x1.2.2⟩ : L1Cur)) (h.a h1)) fun x2 _ => lpW s2 [0, 6] (fun (p : (List UInt8) × Int × Int × Int) (s4 : AC) => [(5, .h s4 p.1.length), (7, I p.2.1)]) [1, 0] [] (fun p s4 => [ow s4 (p.1 : List UInt8), .box 0 [.h s1 c.b.length, I p.2.2.1, I p.2.2.2]]) id [0] (fun (p : (List UInt8) × Int × Int) (s5 : AC) => [(5, .h s5 p.1.length)]) [] (fun p s5 => [ow s5 (p.1 : List UInt8), .box 0 [.h s1 c.b.length, I p.2.1, I p.2.2]]) Q Q (fun hF1 ⟨x7, x8, x9, x10⟩ s4 hr1 => csW [17] Q Q (cwW1 1 0 0 3 [] Q Q Q Q Q (fun h => n_spec_l1Byte (c := (⟨c.b, x9, x10⟩ : L1Cur)) (h.a h1)) fun x14 _ => cutW 0 1 (spec_l1Text_j2 x1 x7 x8 x14) [0, 5, 6, 7] (fun (x15 : Int) (_ : Unit) => [(8, I x15)]) [0, 1] (fun x15 _ => []) Q (csW [23] Q Q (jn0 [0, 1] Q Q) <| jn0 [0, 1] Q Q) fun x15 _ => cutW 0 1 (spec_l1Text_j3 x7 x8 x14) [0, 5, 6, 7] (fun (x16 : Int) (_ : Unit) => [(8, I x16)]) [0, 1] (fun x16 _ => []) Q (csW [27] Q Q (jn0 [0, 1] Q Q) <| jn0 [0, 1] Q Q) fun x16 _ => fun hG1 => ltN oU [] (u8 x16) () inf_Tryz5 Q Q Q Q Q Q Q Q Q Q Q Q Q fun s6 => ap 0 inf_Tryz5 Q Q Q Q Q Q Q (fun h => (h.o 2 Q)) Q Q hG1 fun hG1 s7 => wi hG1 <| nxW s7 [0, 1] Q) <| bkW s4 [0, 1] Q) fun ⟨x11, x12, x13⟩ s5 => fun hF => qbo 0 Q Q Q Q Q Q Q <| wi hF <| rtW () [1] Q Q

theorem n_spec_l1Spoil {c : L1Cur} {s : List UInt8} {s1 : AC} {b0 : Nat × Nat} (h1 : RdA κ s1 c.b) : VS Tryz.prog κ 40 (spec_l1Spoil c s) [.p 0 0, .s s] [b0] [.box 0 [.h s1 c.b.length, I c.i, I c.h]] (fun (r : (List UInt8) × (Int × Int)) (y : Unit) => .s r.1) (fun (r : (List UInt8) × (Int × Int)) (y : Unit) => [.box 0 [.h s1 c.b.length, I r.2.1, I r.2.2]]) :=
 enW tok Tryz.call40 Tryz.func40 Tryz.results40 Q Q <| csW [8] Q Q (cwW1 0 0 0 3 [] Q Q Q Q Q (fun h => n_spec_l1Text (h.a h1)) fun x1 _ => rtW () [0] Q Q) <| cwW1 0 0 0 3 [] Q Q Q Q Q (fun h => n_spec_l1Below (h.a h1)) fun x2 _ => cwW1 0 0 0 3 [] Q Q Q Q Q (fun h => n_spec_l1Below (c := (⟨c.b, x2.2.1, x2.2.2⟩ : L1Cur)) (h.a h1)) fun x3 _ => csW [17, 18] Q Q (drW mixed_Tryz [0] Q <| fun hF => qst_h Q Q Q Q Q hF fun hF => qst_l Q Q Q Q Q hF fun hF => cat Q Q Q Q hF fun hF => wi hF <| rtW () [0] Q Q) <| csW [27, 28] Q Q (drW mixed_Tryz [] Q <| fun hF => qst_h Q Q Q Q Q hF fun hF => qst_l Q Q Q Q Q hF fun hF => wi hF <| cwW1 0 0 0 3 [] Q Q Q Q Q (fun h => n_spec_l1Byte (c := (⟨c.b, x3.2.1, x3.2.2⟩ : L1Cur)) (h.a h1)) fun x4 _ => fun hF => ltN oU [] (u8 x4.1) () inf_Tryz5 Q Q Q Q Q Q Q Q Q Q Q Q Q fun s2 => qbd 1 7 Q Q Q Q Q Q Q Q Q Q Q <| cat Q Q Q Q hF fun hF => cat Q Q Q Q hF fun hF => wi hF <| rtW () [0] Q Q) <| csW [42, 43] Q Q (fun hF => qst_h Q Q Q Q Q hF fun hF => wi hF <| rtW () [0] Q Q) <| drW mixed_Tryz [] Q <| fun hF => qst_h Q Q Q Q Q hF fun hF => qsi Q Q Q Q Q hF fun x5 _ hF => qst_l Q Q Q Q Q hF fun hF => wi hF <| cwW1 0 0 0 3 [] Q Q Q Q Q (fun h => n_spec_l1Below (c := (⟨c.b, x3.2.1, x3.2.2⟩ : L1Cur)) (h.a h1)) fun x6 _ => fun hF => ltN oU [] (u8 (bitsOp .xor .i64 (x5.toNat : Int) (w64 (1 + x6.1)))) () inf_Tryz5 Q Q Q Q Q Q Q Q Q Q Q Q Q fun s3 => qbd 1 13 Q Q Q Q Q Q Q Q Q Q Q <| cat Q Q Q Q hF fun hF => cat Q Q Q Q hF fun hF => wi hF <| rtW () [0] Q Q

theorem n_spec_l1Pick {c : L1Cur} {list : List GStr} {s1 : AC} {s2 : AC} {b0 : Nat × Nat} (h1 : RdA κ s1 c.b) (h2 : RdA κ s2 list) : VS Tryz.prog κ 41 (spec_l1Pick c list) [.p 0 0, .h s2 list.length] [b0] [.box 0 [.h s1 c.b.length, I c.i, I c.h]] (fun (r : (List UInt8) × (Int × Int)) (y : Unit) => .s r.1) (fun (r : (List UInt8) × (Int × Int)) (y : Unit) => [.box 0 [.h s1 c.b.length, I r.2.1, I r.2.2]]) :=
 enW tok Tryz.call41 Tryz.func41 Tryz.results41 Q Q <| cwW1 0 0 0 3 [] Q Q Q Q Q (fun h => n_spec_l1Below (h.a h1)) fun x1 _ => ixW cG Q h2 Q fun x2 _ _ => rtW () [0] Q Q

theorem n_spec_DrawReadOp {code : List UInt8} {s1 : AC} (h1 : RdA κ s1 code) : V0 Tryz.prog κ 17 (spec_DrawReadOp code) [.h s1 code.length] .s :=
 enW tok Tryz.call17 Tryz.func17 Tryz.results17 Q Q <| cP Q (fun h => n_spec_l1New (h.a h1)) fun x1 => cwW1 0 0 0 3 [] Q Q Q Q Q (fun h => n_spec_l15Op (c := (⟨code, x1.1, x1.2⟩ : L1Cur)) (h.a h1)) fun x2 _ => c0 Q (fun _ => n_spec_ShowOp) fun x3 => cwW1 0 0 0 3 [] Q Q Q Q Q (fun h => n_spec_l1Below (c := (⟨code, x2.2.1, x2.2.2⟩ : L1Cur)) (h.a h1)) fun x4 _ => csW [12, 13] Q Q (cwW1 0 0 0 3 [] Q Q Q Q Q (fun h => n_spec_l1Spoil (c := (⟨code, x4.2.1, x4.2.2⟩ : L1Cur)) (h.a h1)) fun x5 _ => rt0 Q Q) <| csW [17, 18] Q Q (fun hF => ltK oG () ([(⟨[32]⟩ : GStr), (⟨[32, 49]⟩ : GStr), (⟨[120]⟩ : GStr)] : List GStr) inf_Tryz9 Q Q Q Q Q Q Q Q Q Q (fun _ => Q) fun s2 => wi hF <| cwW1 0 0 0 3 [] Q Q Q Q Q (fun h => n_spec_l1Pick (c := (⟨code, x4.2.1, x4.2.2⟩ : L1Cur)) (h.a h1) (h.o 1 Q Q)) fun x6 _ => fun hF => cat Q Q Q Q hF fun hF => wi hF <| rt0 Q Q) <| rt0 Q Q

theorem n_spec_l29Cut {s : List UInt8} {at_ : UInt8} : VS Tryz.prog κ 42 (spec_l29Cut s at_) [.s s, .y at_] [] [] (fun r (y : AC) => .h y r.length) (fun r y => [ow y r]) :=
 enW tok Tryz.call42 Tryz.func42 Tryz.results42 Q Q <| fun hF => lt0 (α := GStr) inf_Tryz9 Q Q Q Q fun s1 => wi hF <| lpW s1 [0, 1] (fun (p : (List GStr) × Int × Int) (s3 : AC) => [(5, .h s3 p.1.length), (6, I p.2.1), (7, I p.2.2)]) [0] [] (fun p s3 => [ow s3 (p.1 : List GStr)]) id [0] (fun (p : (List GStr) × Int) (s4 : AC) => [(5, .h s4 p.1.length), (6, I p.2)]) [] (fun p s4 => [ow s4 (p.1 : List GStr)]) Q Q (fun hF1 ⟨x4, x5, x6⟩ s3 hr1 => csW [12] Q Q (cutW 2 0 (fun (p : (List GStr) × Int) => spec_l29Cut_j2 x6 p.1 p.2) [0, 1, 7] (fun (p : (List GStr) × Int) (s7 : AC) => [(5, .h s7 p.1.length), (6, I p.2)]) [] (fun p s7 => [ow s7 (p.1 : List GStr)]) Q (fun hG1 => qsi Q Q Q Q Q hG1 fun x11 _ hG1 => wi hG1 <| csW [19] Q Q (fun hG1 => qst_lh Q Q Q Q Q Q hG1 fun hG1 => ltN oG [] ((⟨(s.take (x6.toNat)).drop (x5.toNat)⟩ : GStr)) () inf_Tryz9 Q Q Q Q Q Q Q Q Q Q Q Q Q fun s8 => ap 0 inf_Tryz9 Q Q Q Q Q Q Q (fun h => (h.o 1 Q)) Q Q hG1 fun hG1 s9 => wi hG1 <| jnW (p := (x4 ++ ([(⟨(s.take (x6.toNat)).drop (x5.toNat)⟩ : GStr)]), w64 (x6 + 1))) s9 [0] Q Q) <| jnW (p := (x4, x5)) s3 [0] Q Q) fun ⟨x9, x10⟩ s7 => nxW s7 [0] Q) <| bkW s3 [0] Q) fun ⟨x7, x8⟩ s4 => fun hF => qst_l Q Q Q Q Q hF fun hF => ltN oG [] ((⟨s.drop (x8.toNat)⟩ : GStr)) () inf_Tryz9 Q Q Q Q Q Q Q Q Q Q Q Q Q fun s5 => ap 0 inf_Tryz9 Q Q Q Q Q Q Q (fun h => (h.o 1 Q)) Q Q hF fun hF s6 => wi hF <| rtW s6 [0] Q Q

theorem n_spec_ReadDec {s : List UInt8} : V0 Tryz.prog κ 63 (spec_ReadDec s) [.s s] (fun r => .t [I r.1, .b r.2]) :=
 enW tok Tryz.call63 Tryz.func63 Tryz.results63 Q Q <| lpW () [0] (fun (p : Int × Int × Int) (_ : Unit) => [(4, I p.1), (5, I p.2.1), (6, I p.2.2)]) [] [] (fun p _ => []) id [0] (fun (p : Int × Int) (_ : Unit) => [(4, I p.1), (5, I p.2)]) [] (fun p _ => []) Q Q (fun hF1 ⟨x4, x5, x6⟩ _ hr1 => cutB 0 0 (spec_ReadDec_j5 s x4 x5 x6) [0, 4, 5, 6] 14 [] Q (caW [10, 11] Q Q (jn0 [] Q Q) <| jn0 [] Q Q) fun x14 => csW [14] Q Q (cutW 2 0 (fun (p : Int × Int) => spec_ReadDec_j6 x6 p.1 p.2) [0, 6] (fun (p : Int × Int) (_ : Unit) => [(4, I p.1), (5, I p.2)]) [] (fun p _ => []) Q (cutB 0 0 (spec_ReadDec_j7 s x4 x5 x6) [0, 4, 5, 6] 26 [] Q (fun hG1 => qsi Q Q Q Q Q hG1 fun x19 _ hG1 => wi hG1 <| caW [20, 21] Q Q (fun hG1 => qsi Q Q Q Q Q hG1 fun x20 _ hG1 => wi hG1 <| jn0 [] Q Q) <| jn0 [] Q Q) fun x17 => csW [26] Q Q (fun hG1 => qsi Q Q Q Q Q hG1 fun x18 _ hG1 => wi hG1 <| jn0 (p := (w64 ((w64 (x4 * 10)) + (IntKind.i64.wrap (IntKind.u8.wrap ((x18.toNat : Int) - ((48 : UInt8).toNat : Int))))), w64 (x5 + 1))) [] Q Q) <| jn0 (p := (x4, x5)) [] Q Q) fun ⟨x15, x16⟩ _ => nx0 [] Q) <| bk0 [] Q) fun ⟨x7, x8⟩ _ => cutW 1 0 (spec_ReadDec_j2 s x8) [0, 5] (fun (x9 : Int) (_ : Unit) => [(4, I x9)]) [] (fun x9 _ => []) Q (cutB 0 0 (spec_ReadDec_j4 s x7 x8) [0, 4, 5] 44 [] Q (caW [39, 40] Q Q (fun hF => qsi Q Q Q Q Q hF fun x13 _ hF => wi hF <| jn0 [] Q Q) <| jn0 [] Q Q) fun x12 => csW [44] Q Q (jn0 [] Q Q) <| jn0 [] Q Q) fun x9 _ => cutB 0 0 (spec_ReadDec_j3 x9) [4] 59 [] Q (caW [48, 49] Q Q (jn0 [] Q Q) <| caW [52, 53, 54] Q Q (jn0 [] Q Q) <| c0 Q (fun _ => n_spec_Dec) fun x11 => jn0 [] Q Q) fun x10 => csW [59] Q Q (rt0 Q Q) <| rt0 Q Q

theorem n_spec_l29Num {w_ : List GStr} {i : Int} {s1 : AC} (h1 : RdA κ s1 w_) : V0 Tryz.prog κ 43 (spec_l29Num w_ i) [.h s1 w_.length, I i] I :=
 enW tok Tryz.call43 Tryz.func43 Tryz.results43 Q Q <| csW [10] Q Q (rt0 Q Q) <| ixW cG Q h1 Q fun x1 _ _ => c0 Q (fun _ => n_spec_ReadDec) fun x2 => rt0 Q Q

theorem n_spec_ReadOp {s : List UInt8} : V0 Tryz.prog κ 18 (spec_ReadOp s) [.s s] (fun r => .t [.g [I r.1.Kind, I r.1.Cell, I r.1.Size, I r.1.Val], .b r.2]) :=
 enW tok Tryz.call18 Tryz.func18 Tryz.results18 Q Q <| c1 Q (fun _ => n_spec_l29Cut) fun x1 s1 => c0 Q (fun h => n_spec_l29Num (h.o 1 Q)) fun x2 => c0 Q (fun h => n_spec_l29Num (h.o 1 Q)) fun x3 => c0 Q (fun h => n_spec_l29Num (h.o 1 Q)) fun x4 => lpW () [0, 2, 4, 5] (fun (p : Int × Int) (_ : Unit) => [(6, I p.1)]) [2, 1, 0] [1, 0] (fun p _ => [.box 1 [I p.2, I x2, I x3, I x4]]) id [0, 2, 5] (fun (x9 : Int) (_ : Unit) => []) [0] (fun x9 _ => [.box 1 [I x9, I x2, I x3, I x4]]) Q Q (fun hF1 ⟨x7, x8⟩ _ hr1 => csW [17] Q Q (cutW 2 2 (spec_ReadOp_j3 x7) [0, 2, 4, 5, 6] (fun (x12 : Int) (_ : Unit) => []) [1, 2] (fun x12 _ => [.box 1 [I x12, I x2, I x3, I x4]]) Q (cutB 0 2 (spec_ReadOp_j4 x7 x8) [0, 2, 4, 5, 6] 25 [1, 2, 0] Q (drW mixed_Tryz [0, 2] Q <| oeW oG 1 Q Q Q fun x14 h1 _ h2 => fun hG1 => ieW 2 h2 h1 Q Q Q Q Q <| bd hG1 fun x15 hA1 hG1 => alt2 Q Q (have hq1 := rb hA1; wi hq1 <| c0 Q (fun _ => n_spec_OpWord) fun u1 => fun hq1 => match u1, hq1 with | _, rfl => sF Q <| cqR oG 3 [] h1 () Q Q Q Q Q Q Q <| jnR (p := (x15 == x14.b)) () [6, 2, 0] hG1 Q) (have hq2 := rb hA1; wi hq2 <| c0 Q (fun _ => n_spec_OpWord) fun u2 => fun hq2 => match u2, hq2 with | _, rfl => sF Q <| cqR oG 3 [] h1 () Q Q Q Q Q Q Q <| jnR (p := (x15 == x14.b)) () [6, 2, 0] hG1 Q)) fun x13 => csW [25] Q Q (jn0 [2, 0, 1] Q Q) <| jn0 [2, 0, 1] Q Q) fun x12 _ => nx0 [0, 1, 2] Q) <| bk0 [0, 2] Q) fun x9 _ => cutB 0 2 (spec_ReadOp_j2 x2 x3 x4 x9) [2, 5] 35 [1, 0] Q (caW [29, 30] Q Q (jn0 [1, 0] Q Q) <| c0 Q (fun _ => n_spec_ShowOp) fun x11 => jn0 [1, 0] Q Q) fun x10 => csW [35] Q Q (rt0 Q Q) <| rt0 Q Q

theorem n_spec_ShowCmd {c : Cmd} : V0 Tryz.prog κ 64 (spec_ShowCmd c) [.g [I c.Kind, I c.Key, I c.Val]] .s :=
 enW tok Tryz.call64 Tryz.func64 Tryz.results64 Q Q <| c0 Q (fun _ => n_spec_CmdOk) fun x1 => csW [6] Q Q (rt0 Q Q) <| cutW 0 1 (spec_ShowCmd_j1 c) [1] (fun (x2 : (List UInt8)) (_ : Unit) => [(3, .s x2)]) [0] (fun x2 _ => []) Q (drW mixed_Tryz [0] Q <| fun hF => bd hF fun x6 hA1 hF => nd hF fun hA2 hF => bd hF fun x7 hA3 hF => nd hF fun hA4 hF => alt2 Q Q (ltK oG () ([(⟨[103, 101, 116]⟩ : GStr), (⟨[112, 117, 116]⟩ : GStr), (⟨[100, 101, 108]⟩ : GStr), (⟨[97, 100, 100]⟩ : GStr)] : List GStr) inf_Tryz9 Q Q Q Q Q Q Q Q Q Q (fun _ => Q) fun s2 => have hq1 := rb hA1; wi hq1 <| oeW oG 1 Q Q Q fun u1 h3 _ h4 => fun hq1 => ieW 1 h4 h3 Q Q Q Q Q <| match u1, hq1 with | _, rfl => alt2 Q Q (have hq2 := rn hA2; cat Q Q Q Q hq2 fun hq2 => have hq3 := rb hA3; wi hq3 <| c0 Q (fun _ => n_spec_Dec) fun u2 => fun hq3 => match u2, hq3 with | _, rfl => have hq4 := rn hA4; cat Q Q Q Q hq4 fun hq4 => sF Q <| cqR oG 2 [] h3 () Q Q Q Q Q Q Q <| jnR (p := ((x6.b ++ ([32])) ++ x7)) () [0] hF Q) (have hq5 := rb hA3; wi hq5 <| c0 Q (fun _ => n_spec_Dec) fun u3 => fun hq5 => match u3, hq5 with | _, rfl => have hq6 := rn hA2; cat Q Q Q Q hq6 fun hq6 => have hq7 := rn hA4; cat Q Q Q Q hq7 fun hq7 => sF Q <| cqR oG 2 [] h3 () Q Q Q Q Q Q Q <| jnR (p := ((x6.b ++ ([32])) ++ x7)) () [0] hF Q)) (have hq8 := rb hA3; wi hq8 <| c0 Q (fun _ => n_spec_Dec) fun u4 => fun hq8 => match u4, hq8 with | _, rfl => ltK oG () ([(⟨[103, 101, 116]⟩ : GStr), (⟨[112, 117, 116]⟩ : GStr), (⟨[100, 101, 108]⟩ : GStr), (⟨[97, 100, 100]⟩ : GStr)] : List GStr) inf_Tryz9 Q Q Q Q Q Q Q Q Q Q (fun _ => Q) fun s3 => have hq9 := rb hA1; wi hq9 <| oeW oG 1 Q Q Q fun u5 h5 _ h6 => fun hq9 => ieW 1 h6 h5 Q Q Q Q Q <| match u5, hq9 with | _, rfl => have hq10 := rn hA2; cat Q Q Q Q hq10 fun hq10 => have hq11 := rn hA4; cat Q Q Q Q hq11 fun hq11 => sF Q <| cqR oG 2 [] h5 () Q Q Q Q Q Q Q <| jnR (p := ((x6.b ++ ([32])) ++ x7)) () [0] hF Q)) fun x2 _ => cutW 1 1 spec_ShowCmd_j2 [] (fun (x3 : (List UInt8)) (_ : Unit) => [(3, .s x3)]) [] (fun x3 _ => []) Q (cutB 0 1 (spec_ShowCmd_j3 c x2) [1, 3] 25 [0] Q (caW [20, 21] Q Q (jn0 [0] Q Q) <| jn0 [0] Q Q) fun x4 => csW [25] Q Q (fun hF => cat Q Q Q Q hF fun hF => wi hF <| c0 Q (fun _ => n_spec_Dec) fun x5 => fun hF => cat Q Q Q Q hF fun hF => wi hF <| jn0 [] Q Q) <| jn0 [] Q Q) fun x3 _ => rt0 Q Q

theorem n_spec_ShowBatch {b : Batch} {s1 : AC} (h1 : RdA κ s1 b.Cmds) : V0 Tryz.prog κ 45 (spec_ShowBatch b) [.g [.b b.Collect, .h s1 b.Cmds.length]] .s :=
 enW tok Tryz.call45 Tryz.func45 Tryz.results45 Q Q <| c0 Q (fun h => n_spec_BatchOk (h.a h1)) fun x1 => csW [7] Q Q (rt0 Q Q) <| csW [9] Q Q (rt0 Q Q) <| lpW () [1] (fun (p : (List UInt8) × Int) (_ : Unit) => [(3, .s p.1), (4, I p.2)]) [0] [0] (fun p _ => []) id [] (fun (x6 : (List UInt8)) (_ : Unit) => [(3, .s x6)]) [] (fun x6 _ => []) Q Q (fun hF1 ⟨x4, x5⟩ _ hr1 => csW [14] Q Q (cutW 0 1 (spec_ShowBatch_j2 b x5) [1, 4] (fun (x7 : (List UInt8)) (_ : Unit) => [(3, .s x7)]) [0] (fun x7 _ => []) Q (csW [18] Q Q (fun hG1 => cat Q Q Q Q hG1 fun hG1 => wi hG1 <| jn0 [0] Q Q) <| jn0 [0] Q Q) fun x7 _ => ixW cCmd Q h1 Q fun x8 _ _ => c0 Q (fun _ => n_spec_ShowCmd) fun x9 => fun hG1 => cat Q Q Q Q hG1 fun hG1 => wi hG1 <| nx0 [0] Q) <| bk0 [] Q) fun x6 _ => rt0 Q Q

theorem n_spec_DrawReadBatch {code : List UInt8} {s1 : AC} (h1 : RdA κ s1 code) : V0 Tryz.prog κ 19 (spec_DrawReadBatch code) [.h s1 code.length] .s :=
 enW tok Tryz.call19 Tryz.func19 Tryz.results19 Q Q <| cP Q (fun h => n_spec_l1New (h.a h1)) fun x1 => cwW1 0 0 0 3 [] Q Q Q Q Q (fun h => n_spec_l23Draw (c := (⟨code, x1.1, x1.2⟩ : L1Cur)) (h.a h1)) fun x2 s2 => c0 Q (fun h => n_spec_ShowBatch (h.o 1 Q)) fun x3 => cwW1 0 0 0 3 [] Q Q Q Q Q (fun h => n_spec_l1Below (c := (⟨code, x2.2.1, x2.2.2⟩ : L1Cur)) (h.a h1)) fun x4 _ => csW [12, 13] Q Q (cwW1 0 0 0 3 [] Q Q Q Q Q (fun h => n_spec_l1Spoil (c := (⟨code, x4.2.1, x4.2.2⟩ : L1Cur)) (h.a h1)) fun x5 _ => rt0 Q Q) <| csW [17, 18] Q Q (fun hF => ltK oG () ([(⟨[59]⟩ : GStr), (⟨[59, 103, 101, 116, 32, 49]⟩ : GStr), (⟨[59, 103, 101, 116, 32, 49, 59, 103, 101, 116, 32, 50, 59, 103, 101, 116, 32, 51, 59, 103, 101, 116, 32, 52, 59, 103, 101, 116, 32, 53, 59, 103, 101, 116, 32, 54]⟩ : GStr), (⟨[32]⟩ : GStr)] : List GStr) inf_Tryz9 Q Q Q Q Q Q Q Q Q Q (fun _ => Q) fun s3 => wi hF <| cwW1 0 0 0 3 [] Q Q Q Q Q (fun h => n_spec_l1Pick (c := (⟨code, x4.2.1, x4.2.2⟩ : L1Cur)) (h.a h1) (h.o 2 Q Q)) fun x6 _ => fun hF => cat Q Q Q Q hF fun hF => wi hF <| rt0 Q Q) <| rt0 Q Q

theorem n_spec_ReadCmd {s : List UInt8} : V0 Tryz.prog κ 47 (spec_ReadCmd s) [.s s] (fun r => .t [.g [I r.1.Kind, I r.1.Key, I r.1.Val], .b r.2]) :=
 enW tok Tryz.call47 Tryz.func47 Tryz.results47 Q Q <| c1 Q (fun _ => n_spec_l29Cut) fun x1 s1 => lpI 5 [0, 2, 4] [1, 0] Out.brk [2] [0] Q Q (fun hF1 x3 hr1 => csW [10] Q Q (c0 Q (fun h => n_spec_l29Num (h.o 0 Q)) fun x4 => c0 Q (fun h => n_spec_l29Num (h.o 0 Q)) fun x5 => cutB 0 2 (spec_ReadCmd_j2 x3 x4 x5) [0, 2, 4, 5, 6] 26 [0, 1, 2] Q (caW [20, 21] Q Q (c0 Q (fun _ => n_spec_ShowCmd) fun x7 => jn0 [0, 1, 2] Q Q) <| jn0 [0, 1, 2] Q Q) fun x6 => csW [26] Q Q (reW hr1 hF1 <| rt0 Q Q) <| nx0 [0, 1] Q) <| bk0 [1] Q) <| rt0 Q Q

theorem n_spec_ReadBatch {s : List UInt8} : VS Tryz.prog κ 20 (spec_ReadBatch s) [.s s] [] [] (fun r (y : AC) => .t [.g [.b r.1.Collect, .h y r.1.Cmds.length], .b r.2]) (fun r y => [ow y r.1.Cmds]) :=
 enW tok Tryz.call20 Tryz.func20 Tryz.results20 Q Q <| csW [10] Q Q (fun hF => sR Q <| nwR Cmd <| rtR (hT := tok) ⟨none, 0⟩ [1] hF Q Tryz.results20 Q Q Q Q) <| c1 Q (fun _ => n_spec_l29Cut) fun x1 s1 => fun hF => nw Cmd Q <| wi hF <| lpW ⟨none, 0⟩ [2, 4, 5] (fun (p : Int × (List Cmd)) (s3 : AC) => [(6, I p.1)]) [3, 1, 2, 0] [2, 0] (fun p s3 => [ow s3 (p.2 : List Cmd), .box 1 [.l false, .h s3 p.2.length]]) Out.brk [2, 4] (fun (x6 : (List Cmd)) (s4 : AC) => []) [0] (fun x6 s4 => [ow s4 (x6 : List Cmd), .box 1 [.l false, .h s4 x6.length]]) Q Q (fun hF1 ⟨x4, x5⟩ s3 hr1 => csW [18] Q Q (oeW oG 2 Q Q Q fun x8 h1 _ h2 => fun hG1 => ieW 2 h2 h1 Q Q Q Q Q <| wi hG1 <| c0 Q (fun _ => n_spec_ReadCmd) fun x9 => csW [30] Q Q (fun hG1 => sR Q <| cqR oG 4 [] h1 () Q Q Q Q Q Q Q <| nwR Cmd <| rtR (hT := tok) ⟨none, 0⟩ [9] (re hG1 Q hr1 hF1) Q Tryz.results20 Q Q Q Q) <| fun hG1 => ltN oCmd [] (x9.1) () inf_Tryz31 Q Q Q Q Q Q Q Q Q Q Q Q Q fun s5 => ap 0 inf_Tryz31 Q Q Q Q Q Q Q (fun h => (h.o 8 Q)) Q Q hG1 fun hG1 s6 => sF Q <| cqR oG 4 [] h1 () Q Q Q Q Q Q Q <| nxR s6 [0, 1, 9, 3] hG1 Q) <| bkW s3 [0, 1, 3] Q) fun x6 s4 => c0 Q (fun h => n_spec_BatchOk (b := (⟨false, x6⟩ : Batch)) (h.o 0 Q)) fun x7 => csW [40] Q Q (fun hF => sR Q <| nwR Cmd <| rtR (hT := tok) ⟨none, 0⟩ [3] hF Q Tryz.results20 Q Q Q Q) <| rtW s4 [0] Q Q

theorem n_laws_FnTexts (hg : Glob κ) {code : List UInt8} {s1 : AC} (h1 : RdA κ s1 code) : V0 Tryz.prog κ 3 (laws_FnTexts code) [.h s1 code.length] .b :=
 enW tok Tryz.call3 Tryz.func3 Tryz.results3 Q Q <| c0 Q (fun h => n_laws_big (h.a h1)) fun x1 => csW [26] Q Q (rt0 Q Q) <| c0 Q (fun h => n_spec_DrawShowOp (h.a h1)) fun x2 => c0 Q (fun h => n_impl_ShowOp (h.gl hg)) fun x3 => c0 Q (fun h => n_impl_ReadOp (h.gl hg)) fun x4 => c0 Q (fun h => n_spec_DrawShowCmd (h.a h1)) fun x5 => c0 Q (fun h => n_impl_ShowCmd (h.gl hg)) fun x6 => c0 Q (fun h => n_impl_ReadCmd (h.gl hg)) fun x7 => c1 Q (fun h => n_spec_DrawShowBatch (h.a h1)) fun x8 s2 => c0 Q (fun h => n_impl_ShowBatch (h.gl hg) (h.o 4 Q)) fun x9 => c1 Q (fun h => n_impl_ReadBatch (h.gl hg)) fun x10 s3 => cutB 0 6 (laws_FnTexts_j1 code) [0] 103 [] Q (c0 Q (fun _ => n_spec_OpOk) fun x22 => caW [57, 58] Q Q (jn0 [] Q Q) <| caW [6, 35, 54, 59, 60] Q Q (fun hF => neS Tryz.eqGuardType25 Tryz.stoodInHeld25 Tryz.underlying25 (eqf_Tryz25 9997 x4.1 x2) Q Q Q Q Q Q <| wi hF <| caW [63, 64, 65, 66] Q Q (jn0 [] Q Q) <| c0 Q (fun _ => n_spec_CmdOk) fun x23 => caW [70, 71, 72] Q Q (jn0 [] Q Q) <| caW [10, 44, 67, 73, 74] Q Q (fun hF => neS Tryz.eqGuardType31 Tryz.stoodInHeld31 Tryz.underlying31 (eqf_Tryz31 9997 x7.1 x5) Q Q Q Q Q Q <| wi hF <| caW [77, 78, 79, 80] Q Q (jn0 [] Q Q) <| c0 Q (fun h => n_spec_BatchOk (h.o 4 Q)) fun x24 => caW [84, 85, 86] Q Q (jn0 [] Q Q) <| caW [14, 53, 81, 87, 88] Q Q (c0 Q (fun h => n_impl_ShowBatch (h.gl hg) (h.o 6 Q)) fun x25 => caW [92, 93] Q Q (jn0 [] Q Q) <| jn0 [] Q Q) <| jn0 [] Q Q) <| c0 Q (fun h => n_spec_BatchOk (h.o 4 Q)) fun x26 => caW [84, 85, 86] Q Q (jn0 [] Q Q) <| caW [14, 53, 81, 87, 88] Q Q (c0 Q (fun h => n_impl_ShowBatch (h.gl hg) (h.o 6 Q)) fun x27 => caW [92, 93] Q Q (jn0 [] Q Q) <| jn0 [] Q Q) <| jn0 [] Q Q) <| c0 Q (fun _ => n_spec_CmdOk) fun x28 => caW [70, 71, 72] Q Q (jn0 [] Q Q) <| caW [10, 44, 67, 73, 74] Q Q (fun hF => neS Tryz.eqGuardType31 Tryz.stoodInHeld31 Tryz.underlying31 (eqf_Tryz31 9997 x7.1 x5) Q Q Q Q Q Q <| wi hF <| caW [77, 78, 79, 80] Q Q (jn0 [] Q Q) <| c0 Q (fun h => n_spec_BatchOk (h.o 4 Q)) fun x29 => caW [84, 85, 86] Q Q (jn0 [] Q Q) <| caW [14, 53, 81, 87, 88] Q Q (c0 Q (fun h => n_impl_ShowBatch (h.gl hg) (h.o 6 Q)) fun x30 => caW [92, 93] Q Q (jn0 [] Q Q) <| jn0 [] Q Q) <| jn0 [] Q Q) <| c0 Q (fun h => n_spec_BatchOk (h.o 4 Q)) fun x31 => caW [84, 85, 86] Q Q (jn0 [] Q Q) <| caW [14, 53, 81, 87, 88] Q Q (c0 Q (fun h => n_impl_ShowBatch (h.gl hg) (h.o 6 Q)) fun x32 => caW [92, 93] Q Q (jn0 [] Q Q) <| jn0 [] Q Q) <| jn0 [] Q Q) fun x11 => csW [103] Q Q (rt0 Q Q) <| c0 Q (fun h => n_spec_DrawReadOp (h.a h1)) fun x12 => c0 Q (fun h => n_impl_ReadOp (h.gl hg)) fun x13 => c0 Q (fun _ => n_spec_ReadOp) fun x14 => c0 Q (fun h => n_spec_DrawReadBatch (h.a h1)) fun x15 => c1 Q (fun h => n_impl_ReadBatch (h.gl hg)) fun x16 s4 => c1 Q (fun _ => n_spec_ReadBatch) fun x17 s5 => cutB 0 10 laws_FnTexts_j2 [] 2 [] Q (caW [130, 131] Q Q (caW [133, 134] Q Q (caW [144, 145, 146] Q Q (caW [148, 149] Q Q (jn0 [] Q Q) <| c0 Q (fun h => n_impl_ShowBatch (h.gl hg) (h.o 2 Q)) fun x19 => jn0 [] Q Q) <| jn0 [] Q Q) <| c0 Q (fun h => n_impl_ShowOp (h.gl hg)) fun x20 => caW [138, 139, 140, 141] Q Q (caW [144, 145, 146] Q Q (caW [148, 149] Q Q (jn0 [] Q Q) <| c0 Q (fun h => n_impl_ShowBatch (h.gl hg) (h.o 2 Q)) fun x21 => jn0 [] Q Q) <| jn0 [] Q Q) <| jn0 [] Q Q) <| jn0 [] Q Q) fun x18 => rt0 Q Q
end
end Go.Proofs.YtpkgcalilmlljaaGreatDoor
end
