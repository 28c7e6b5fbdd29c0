/-
  THE ROW OVER 'laws.FnExactFair', out of its walk and its plain law. Printed by fin3.py.
-/
import Derived.Test.YtkcicilgoehljabGreatXLE
import Derived.Test.YtkcicilgoehljabGreatRows
import Derived.WalkKit
import Derived.ProofKit
import Derived.OpenShut
import Derived.ShutString
import Derived.ChangeOld
import Derived.Below
import Derived.Carry
namespace Go.Proofs.YtkcicilgoehljabGreat
open Go.Gv
open Go.ChangeShapes Go.WideShapes Go.ChangeAt Go.RowKit
open Go.ChangeMaps (open_string shut_string)
set_option linter.unusedVariables false

theorem opens_T3 : OpensAt Tryz.prog 3 Int := opens_int Tryz.underlying3
theorem opens_T138 : OpensAt Tryz.prog 138 Ev := opens_struct Tryz.underlying138 (by kernel_rfl) (of_cons (k := 1) opens_T3 rfl (by kernel_rfl) (of_cons (k := 1) opens_T3 rfl (by kernel_rfl) (of_cons (k := 1) opens_T3 rfl (by kernel_rfl) (of_cons (k := 1) opens_T3 rfl (by kernel_rfl) (of_cons (k := 1) opens_T3 rfl (by kernel_rfl) (of_cons (k := 1) opens_T3 rfl (by kernel_rfl) (of_one (k := 1) opens_T3 rfl (by kernel_rfl) rfl))))))) (fun d => (d.Kind, d.Who, d.Serial, d.Cell, d.Handle, d.Val, d.Code)) (fun p => ⟨⟨p.1, p.2.1, p.2.2.1, p.2.2.2.1, p.2.2.2.2.1, p.2.2.2.2.2.1, p.2.2.2.2.2.2⟩, rfl⟩) (fun h => h) (fun h => h)
theorem opens_T46 : OpensAt Tryz.prog 46 (List Ev) := opens_slice Tryz.underlying46 (by kernel_rfl) (by decide) opens_T138
theorem opens_T130 : OpensAt Tryz.prog 130 GOp := opens_struct Tryz.underlying130 (by kernel_rfl) (of_cons (k := 1) opens_T3 rfl (by kernel_rfl) (of_cons (k := 1) opens_T3 rfl (by kernel_rfl) (of_cons (k := 1) opens_T3 rfl (by kernel_rfl) (of_one (k := 1) opens_T3 rfl (by kernel_rfl) rfl)))) (fun d => (d.Kind, d.Cell, d.Size, d.Val)) (fun p => ⟨⟨p.1, p.2.1, p.2.2.1, p.2.2.2⟩, rfl⟩) (fun h => h) (fun h => h)
theorem opens_T111 : OpensAt Tryz.prog 111 (List GOp) := opens_slice Tryz.underlying111 (by kernel_rfl) (by decide) opens_T130
theorem opens_T113 : OpensAt Tryz.prog 113 Queue := opens_struct Tryz.underlying113 (by kernel_rfl) (of_one (k := 1) opens_T111 rfl (by kernel_rfl) rfl) (fun d => (d.Ops)) (fun p => ⟨⟨p⟩, rfl⟩) (fun h => h) (fun h => h)
theorem opens_T45 : OpensAt Tryz.prog 45 (List Queue) := opens_slice Tryz.underlying45 (by kernel_rfl) (by decide) opens_T113
theorem opens_T4 : OpensAt Tryz.prog 4 Bool := opens_bool Tryz.underlying4
theorem opens_T131 : OpensAt Tryz.prog 131 Sub := opens_struct Tryz.underlying131 (by kernel_rfl) (of_cons (k := 1) opens_T3 rfl (by kernel_rfl) (of_cons (k := 1) opens_T3 rfl (by kernel_rfl) (of_cons (k := 1) opens_T3 rfl (by kernel_rfl) (of_cons (k := 1) opens_T3 rfl (by kernel_rfl) (of_cons (k := 1) opens_T3 rfl (by kernel_rfl) (of_cons (k := 1) opens_T3 rfl (by kernel_rfl) (of_cons (k := 1) opens_T3 rfl (by kernel_rfl) (of_cons (k := 1) opens_T3 rfl (by kernel_rfl) (of_cons (k := 1) opens_T3 rfl (by kernel_rfl) (of_one (k := 1) opens_T4 rfl (by kernel_rfl) rfl)))))))))) (fun d => (d.Kind, d.A, d.Pc, d.E, d.Row, d.B, d.H, d.Out, d.Code, d.Done)) (fun p => ⟨⟨p.1, p.2.1, p.2.2.1, p.2.2.2.1, p.2.2.2.2.1, p.2.2.2.2.2.1, p.2.2.2.2.2.2.1, p.2.2.2.2.2.2.2.1, p.2.2.2.2.2.2.2.2.1, p.2.2.2.2.2.2.2.2.2⟩, rfl⟩) (fun h => h) (fun h => h)
theorem opens_T133 : OpensAt Tryz.prog 133 Job := opens_struct Tryz.underlying133 (by kernel_rfl) (of_cons (k := 1) opens_T4 rfl (by kernel_rfl) (of_cons (k := 4) opens_T130 rfl (by kernel_rfl) (of_cons (k := 1) opens_T3 rfl (by kernel_rfl) (of_cons (k := 1) opens_T3 rfl (by kernel_rfl) (of_cons (k := 10) opens_T131 rfl (by kernel_rfl) (of_cons (k := 1) opens_T3 rfl (by kernel_rfl) (of_cons (k := 1) opens_T3 rfl (by kernel_rfl) (of_cons (k := 1) opens_T3 rfl (by kernel_rfl) (of_one (k := 1) opens_T3 rfl (by kernel_rfl) rfl))))))))) (fun d => (d.Busy, d.Op, d.Serial, d.Pc, d.Sub, d.H, d.Old, d.Val, d.Code)) (fun p => ⟨⟨p.1, p.2.1, p.2.2.1, p.2.2.2.1, p.2.2.2.2.1, p.2.2.2.2.2.1, p.2.2.2.2.2.2.1, p.2.2.2.2.2.2.2.1, p.2.2.2.2.2.2.2.2⟩, rfl⟩) (fun h => h) (fun h => h)
theorem opens_T44 : OpensAt Tryz.prog 44 (List Job) := opens_slice Tryz.underlying44 (by kernel_rfl) (by decide) opens_T133
theorem opens_T30 : OpensAt Tryz.prog 30 (List Int) := opens_slice Tryz.underlying30 (by kernel_rfl) (by decide) opens_T3
theorem opens_T215 : OpensAt Tryz.prog 215 LRow := opens_struct Tryz.underlying215 (by kernel_rfl) (of_cons (k := 1) opens_T3 rfl (by kernel_rfl) (of_one (k := 1) opens_T3 rfl (by kernel_rfl) rfl)) (fun d => (d.Handle, d.Epoch)) (fun p => ⟨⟨p.1, p.2⟩, rfl⟩) (fun h => h) (fun h => h)
theorem opens_T160 : OpensAt Tryz.prog 160 (List LRow) := opens_slice Tryz.underlying160 (by kernel_rfl) (by decide) opens_T215
theorem opens_T162 : OpensAt Tryz.prog 162 LList := opens_struct Tryz.underlying162 (by kernel_rfl) (of_one (k := 1) opens_T160 rfl (by kernel_rfl) rfl) (fun d => (d.Rows)) (fun p => ⟨⟨p⟩, rfl⟩) (fun h => h) (fun h => h)
theorem opens_T41 : OpensAt Tryz.prog 41 (List LList) := opens_slice Tryz.underlying41 (by kernel_rfl) (by decide) opens_T162
theorem opens_T204 : OpensAt Tryz.prog 204 Pin := opens_struct Tryz.underlying204 (by kernel_rfl) (of_cons (k := 1) opens_T4 rfl (by kernel_rfl) (of_cons (k := 1) opens_T3 rfl (by kernel_rfl) (of_cons (k := 1) opens_T4 rfl (by kernel_rfl) (of_one (k := 1) opens_T3 rfl (by kernel_rfl) rfl)))) (fun d => (d.On, d.Epoch, d.Marked, d.Seen)) (fun p => ⟨⟨p.1, p.2.1, p.2.2.1, p.2.2.2⟩, rfl⟩) (fun h => h) (fun h => h)
theorem opens_T38 : OpensAt Tryz.prog 38 (List Pin) := opens_slice Tryz.underlying38 (by kernel_rfl) (by decide) opens_T204
theorem opens_T40 : OpensAt Tryz.prog 40 Clock := opens_struct Tryz.underlying40 (by kernel_rfl) (of_cons (k := 1) opens_T3 rfl (by kernel_rfl) (of_one (k := 1) opens_T38 rfl (by kernel_rfl) rfl)) (fun d => (d.Epoch, d.Pins)) (fun p => ⟨⟨p.1, p.2⟩, rfl⟩) (fun h => h) (fun h => h)
theorem opens_T212 : OpensAt Tryz.prog 212 SList := opens_struct Tryz.underlying212 (by kernel_rfl) (of_one (k := 1) opens_T30 rfl (by kernel_rfl) rfl) (fun d => (d.Slots)) (fun p => ⟨⟨p⟩, rfl⟩) (fun h => h) (fun h => h)
theorem opens_T33 : OpensAt Tryz.prog 33 (List SList) := opens_slice Tryz.underlying33 (by kernel_rfl) (by decide) opens_T212
theorem opens_T35 : OpensAt Tryz.prog 35 Lists := opens_struct Tryz.underlying35 (by kernel_rfl) (of_cons (k := 1) opens_T33 rfl (by kernel_rfl) (of_one (k := 1) opens_T33 rfl (by kernel_rfl) rfl)) (fun d => (d.Global, d.Own)) (fun p => ⟨⟨p.1, p.2⟩, rfl⟩) (fun h => h) (fun h => h)
theorem opens_T32 : OpensAt Tryz.prog 32 Heap := opens_struct Tryz.underlying32 (by kernel_rfl) (of_cons (k := 1) opens_T30 rfl (by kernel_rfl) (of_one (k := 1) opens_T30 rfl (by kernel_rfl) rfl)) (fun d => (d.Bytes, d.Class)) (fun p => ⟨⟨p.1, p.2⟩, rfl⟩) (fun h => h) (fun h => h)
theorem opens_T37 : OpensAt Tryz.prog 37 Mem := opens_struct Tryz.underlying37 (by kernel_rfl) (of_cons (k := 2) opens_T32 rfl (by kernel_rfl) (of_one (k := 2) opens_T35 rfl (by kernel_rfl) rfl)) (fun d => (d.Heap, d.Lists)) (fun p => ⟨⟨p.1, p.2⟩, rfl⟩) (fun h => h) (fun h => h)
theorem opens_T43 : OpensAt Tryz.prog 43 Base := opens_struct Tryz.underlying43 (by kernel_rfl) (of_cons (k := 4) opens_T37 rfl (by kernel_rfl) (of_cons (k := 2) opens_T40 rfl (by kernel_rfl) (of_cons (k := 1) opens_T41 rfl (by kernel_rfl) (of_one (k := 1) opens_T30 rfl (by kernel_rfl) rfl)))) (fun d => (d.Mem, d.Clock, d.Limbo, d.Haz)) (fun p => ⟨⟨p.1, p.2.1, p.2.2.1, p.2.2.2⟩, rfl⟩) (fun h => h) (fun h => h)
theorem opens_T48 : OpensAt Tryz.prog 48 Shelf := opens_struct Tryz.underlying48 (by kernel_rfl) (of_cons (k := 8) opens_T43 rfl (by kernel_rfl) (of_cons (k := 1) opens_T30 rfl (by kernel_rfl) (of_cons (k := 1) opens_T44 rfl (by kernel_rfl) (of_cons (k := 1) opens_T45 rfl (by kernel_rfl) (of_cons (k := 1) opens_T46 rfl (by kernel_rfl) (of_one (k := 1) opens_T3 rfl (by kernel_rfl) rfl)))))) (fun d => (d.Base, d.Cells, d.Jobs, d.Todo, d.Log, d.Serial)) (fun p => ⟨⟨p.1, p.2.1, p.2.2.1, p.2.2.2.1, p.2.2.2.2.1, p.2.2.2.2.2⟩, rfl⟩) (fun h => h) (fun h => h)
theorem opens_T22 : OpensAt Tryz.prog 22 (List Shelf) := opens_slice Tryz.underlying22 (by kernel_rfl) (by decide) opens_T48
theorem own_FnExactFair : ownKnob Tryz.prog.godebug = none := by kernel_rfl
theorem laidOut_FnExactFair : laidOutB Tryz.prog = true := by kernel_rfl

set_option maxRecDepth 100000 in
theorem lifted_FnExactFair (os : Os) (started : os.Started) (H : Type) (enc : TypeId × Value → H) :
    ReturnsInHanded {} Tryz.checked os 3 .any (Rows.fnExactFairSpec.pre6 enc Tryz.prog Tryz.f3 Rows.fnExactFairRow.domain false) (Rows.fnExactFairSpec.post enc Tryz.prog Tryz.f3 false true false false) := by
  refine returnsInHanded_of_change (C := Tryz.checked) own_FnExactFair started (by kernel_rfl) Tryz.func3
    (ChangeSpec.witness6 (enc := enc) (C := Tryz.checked) false ⟨#[], #[.slice none 0 0], []⟩ 8 (by kernel_rfl) (by kernel_rfl) (by kernel_rfl) (by kernel_rfl)) ?_
  intro W base args ds gs before hval0 hW hcnd _
  have hval : ∀ (j : Nat) t v, Tryz.f3.params[j]? = some t → args[j]? = some v → Value.okWide Tryz.prog W .any base t v := hval0
  have hW' := hW
  obtain ⟨p, q, hA0, hV, rfl, hfz, hnd⟩ := hW
  have hA : DataW.TrodAll enc Tryz.prog W 0 (fun _ => true) true Tryz.f3.params.toList args.toList ds p := hA0
  rw [Tryz.params3] at hA hval
  obtain ⟨v0, vs0, d0, ds0, p0, q0, hargs, rfl, rfl, h0, r0⟩ := trodAll_cons hA
  obtain ⟨rfl, rfl, rfl⟩ := trodAll_nil r0
  obtain rfl : args = #[v0] := by cases args; simp_all
  obtain ⟨rfl, rfl⟩ := trodVars_none hV
  have lt0 : ∀ x ∈ p0, x.block < W.heap.size := by obtain ⟨m, hm⟩ := h0; exact DataW.trod_lt m _ _ _ hm
  have k0 := h0
  obtain ⟨a0, len0, cap0, rfl⟩ := okWide_slice Tryz.underlying22 (hval 0 22 v0 rfl rfl)
  obtain ⟨x0, g0, f0⟩ := Trod.opens opens_T22 h0
  obtain ⟨su0, wu0⟩ := rd_AC g0
  have wv0 : Value.slice a0 len0 cap0 = Value.slice su0.a x0.length su0.c := (List.cons.inj wu0).1
  injection wv0 with qa0 qb0 qc0; subst qa0; subst qb0; subst qc0
  clear hA0 hval0
  refine Calls.mono ((n_laws_FnExactFair (κ := cxAll W) g0 (law_FnExactFair f0)).run [_] rfl (stS0 W)) fun e W' ⟨v, he, _, hv, hS1⟩ => ?_
  have hS : St (cxAll W) W' [] [] := by obtain ⟨⟨R, s1, _⟩, _⟩ := hS1; exact St.weaken s1 (by simp)
  have hv : v = .bool true := (Option.some.inj hv).symm
  subst he; subst hv
  exact ⟨_, rfl, _, _, _, [], _, [], hW', trodAll_mk1 (shut_bool Tryz.underlying4 _), (trodAll_cons_mk (Below.trod laidOut_FnExactFair (by kernel_rfl) (of_decide_eq_true (by kernel_rfl)) k0 hS.below lt0) trodAll_mk0), rfl, hS.below.frame _, fun h => by cases h⟩

theorem over_FnExactFair : Rows.fnExactFairRow.holds Tryz.pinned (OpenSpec.ofChange Rows.fnExactFairSpec) :=
  OpenClaim.holds_of_wide 3 Tryz.f3 rfl rfl rfl rfl rfl rfl rfl ⟨rfl, rfl, rfl, rfl, rfl⟩ rfl rfl rfl rfl rfl (by kernel_rfl) Tryz.func3 (by kernel_rfl)
    (of_decide_eq_true (by kernel_rfl)) (by unfold Func.isWrapper; first | (rw [if_pos (by decide +kernel)]; kernel_rfl) | (rw [if_neg (by decide +kernel)]; exact ⟨rfl, rfl⟩))
    (fun os started H enc _ => lifted_FnExactFair os started H enc)

theorem fnExactFair_holds : Rows.FnExactFairSaid := over_FnExactFair
#print axioms fnExactFair_holds
end Go.Proofs.YtkcicilgoehljabGreat
