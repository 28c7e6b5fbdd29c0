/-
  THE ROW OVER 'laws.FnExactSubStep', out of its walk and its plain law. Printed by fin3.py.
-/
import Derived.Test.YtlhhifdhlkihkaaGreatXLF
import Derived.Test.YtlhhifdhlkihkaaGreatRows
import Derived.WalkKit
import Derived.ProofKit
import Derived.OpenShut
import Derived.ShutString
import Derived.ChangeOld
import Derived.Below
import Derived.Carry
namespace Go.Proofs.YtlhhifdhlkihkaaGreat
open Go.Gv
open Go.ChangeShapes Go.WideShapes Go.ChangeAt Go.RowKit
open Go.ChangeMaps (open_string shut_string)
set_option linter.unusedVariables false

theorem opens_T3 : OpensAt Tryz.prog 3 Int := opens_int Tryz.underlying3
theorem opens_T22 : OpensAt Tryz.prog 22 (List Int) := opens_slice Tryz.underlying22 (by kernel_rfl) (by decide) opens_T3
theorem opens_T187 : OpensAt Tryz.prog 187 LRow := opens_struct Tryz.underlying187 (by kernel_rfl) (of_cons (k := 1) opens_T3 rfl (by kernel_rfl) (of_one (k := 1) opens_T3 rfl (by kernel_rfl) rfl)) (fun d => (d.Handle, d.Epoch)) (fun p => ⟨⟨p.1, p.2⟩, rfl⟩) (fun h => h) (fun h => h)
theorem opens_T85 : OpensAt Tryz.prog 85 (List LRow) := opens_slice Tryz.underlying85 (by kernel_rfl) (by decide) opens_T187
theorem opens_T87 : OpensAt Tryz.prog 87 LList := opens_struct Tryz.underlying87 (by kernel_rfl) (of_one (k := 1) opens_T85 rfl (by kernel_rfl) rfl) (fun d => (d.Rows)) (fun p => ⟨⟨p⟩, rfl⟩) (fun h => h) (fun h => h)
theorem opens_T33 : OpensAt Tryz.prog 33 (List LList) := opens_slice Tryz.underlying33 (by kernel_rfl) (by decide) opens_T87
theorem opens_T4 : OpensAt Tryz.prog 4 Bool := opens_bool Tryz.underlying4
theorem opens_T151 : OpensAt Tryz.prog 151 Pin := opens_struct Tryz.underlying151 (by kernel_rfl) (of_cons (k := 1) opens_T4 rfl (by kernel_rfl) (of_cons (k := 1) opens_T3 rfl (by kernel_rfl) (of_cons (k := 1) opens_T4 rfl (by kernel_rfl) (of_one (k := 1) opens_T3 rfl (by kernel_rfl) rfl)))) (fun d => (d.On, d.Epoch, d.Marked, d.Seen)) (fun p => ⟨⟨p.1, p.2.1, p.2.2.1, p.2.2.2⟩, rfl⟩) (fun h => h) (fun h => h)
theorem opens_T30 : OpensAt Tryz.prog 30 (List Pin) := opens_slice Tryz.underlying30 (by kernel_rfl) (by decide) opens_T151
theorem opens_T32 : OpensAt Tryz.prog 32 Clock := opens_struct Tryz.underlying32 (by kernel_rfl) (of_cons (k := 1) opens_T3 rfl (by kernel_rfl) (of_one (k := 1) opens_T30 rfl (by kernel_rfl) rfl)) (fun d => (d.Epoch, d.Pins)) (fun p => ⟨⟨p.1, p.2⟩, rfl⟩) (fun h => h) (fun h => h)
theorem opens_T175 : OpensAt Tryz.prog 175 SList := opens_struct Tryz.underlying175 (by kernel_rfl) (of_one (k := 1) opens_T22 rfl (by kernel_rfl) rfl) (fun d => (d.Slots)) (fun p => ⟨⟨p⟩, rfl⟩) (fun h => h) (fun h => h)
theorem opens_T25 : OpensAt Tryz.prog 25 (List SList) := opens_slice Tryz.underlying25 (by kernel_rfl) (by decide) opens_T175
theorem opens_T27 : OpensAt Tryz.prog 27 Lists := opens_struct Tryz.underlying27 (by kernel_rfl) (of_cons (k := 1) opens_T25 rfl (by kernel_rfl) (of_one (k := 1) opens_T25 rfl (by kernel_rfl) rfl)) (fun d => (d.Global, d.Own)) (fun p => ⟨⟨p.1, p.2⟩, rfl⟩) (fun h => h) (fun h => h)
theorem opens_T24 : OpensAt Tryz.prog 24 Heap := opens_struct Tryz.underlying24 (by kernel_rfl) (of_cons (k := 1) opens_T22 rfl (by kernel_rfl) (of_one (k := 1) opens_T22 rfl (by kernel_rfl) rfl)) (fun d => (d.Bytes, d.Class)) (fun p => ⟨⟨p.1, p.2⟩, rfl⟩) (fun h => h) (fun h => h)
theorem opens_T29 : OpensAt Tryz.prog 29 Mem := opens_struct Tryz.underlying29 (by kernel_rfl) (of_cons (k := 2) opens_T24 rfl (by kernel_rfl) (of_one (k := 2) opens_T27 rfl (by kernel_rfl) rfl)) (fun d => (d.Heap, d.Lists)) (fun p => ⟨⟨p.1, p.2⟩, rfl⟩) (fun h => h) (fun h => h)
theorem opens_T35 : OpensAt Tryz.prog 35 Base := opens_struct Tryz.underlying35 (by kernel_rfl) (of_cons (k := 4) opens_T29 rfl (by kernel_rfl) (of_cons (k := 2) opens_T32 rfl (by kernel_rfl) (of_cons (k := 1) opens_T33 rfl (by kernel_rfl) (of_one (k := 1) opens_T22 rfl (by kernel_rfl) rfl)))) (fun d => (d.Mem, d.Clock, d.Limbo, d.Haz)) (fun p => ⟨⟨p.1, p.2.1, p.2.2.1, p.2.2.2⟩, rfl⟩) (fun h => h) (fun h => h)
theorem opens_T37 : OpensAt Tryz.prog 37 Sub := opens_struct Tryz.underlying37 (by kernel_rfl) (of_cons (k := 1) opens_T3 rfl (by kernel_rfl) (of_cons (k := 1) opens_T3 rfl (by kernel_rfl) (of_cons (k := 1) opens_T3 rfl (by kernel_rfl) (of_cons (k := 1) opens_T3 rfl (by kernel_rfl) (of_cons (k := 1) opens_T3 rfl (by kernel_rfl) (of_cons (k := 1) opens_T3 rfl (by kernel_rfl) (of_cons (k := 1) opens_T3 rfl (by kernel_rfl) (of_cons (k := 1) opens_T3 rfl (by kernel_rfl) (of_cons (k := 1) opens_T3 rfl (by kernel_rfl) (of_one (k := 1) opens_T4 rfl (by kernel_rfl) rfl)))))))))) (fun d => (d.Kind, d.A, d.Pc, d.E, d.Row, d.B, d.H, d.Out, d.Code, d.Done)) (fun p => ⟨⟨p.1, p.2.1, p.2.2.1, p.2.2.2.1, p.2.2.2.2.1, p.2.2.2.2.2.1, p.2.2.2.2.2.2.1, p.2.2.2.2.2.2.2.1, p.2.2.2.2.2.2.2.2.1, p.2.2.2.2.2.2.2.2.2⟩, rfl⟩) (fun h => h) (fun h => h)
theorem own_FnExactSubStep : ownKnob Tryz.prog.godebug = none := by kernel_rfl
theorem laidOut_FnExactSubStep : laidOutB Tryz.prog = true := by kernel_rfl

set_option maxRecDepth 100000 in
theorem lifted_FnExactSubStep (os : Os) (started : os.Started) (H : Type) (enc : TypeId × Value → H) :
    ReturnsInHanded {} Tryz.checked os 3 .any (Rows.fnExactSubStepSpec.pre6 enc Tryz.prog Tryz.f3 Rows.fnExactSubStepRow.domain false) (Rows.fnExactSubStepSpec.post enc Tryz.prog Tryz.f3 false true false false) := by
  refine returnsInHanded_of_change (C := Tryz.checked) own_FnExactSubStep started (by kernel_rfl) Tryz.func3
    (ChangeSpec.witness6 (enc := enc) (C := Tryz.checked) false ⟨#[], #[.agg #[.slice none 0 0, .slice none 0 0, .slice none 0 0, .slice none 0 0, .int .i64 0, .slice none 0 0, .slice none 0 0, .slice none 0 0], .int .i64 0, .agg #[.int .i64 0, .int .i64 0, .int .i64 0, .int .i64 0, .int .i64 0, .int .i64 0, .int .i64 0, .int .i64 0, .int .i64 0, .bool false]], []⟩ 8 (by kernel_rfl) (by kernel_rfl) (by kernel_rfl) (by kernel_rfl)) ?_
  intro W base args ds gs before hval0 hW hcnd _
  have hval : ∀ (j : Nat) t v, Tryz.f3.params[j]? = some t → args[j]? = some v → Value.okWide Tryz.prog W .any base t v := hval0
  have hW' := hW
  obtain ⟨p, q, hA0, hV, rfl, hfz, hnd⟩ := hW
  have hA : DataW.TrodAll enc Tryz.prog W 0 (fun _ => true) true Tryz.f3.params.toList args.toList ds p := hA0
  rw [Tryz.params3] at hA hval
  obtain ⟨v0, vs0, d0, ds0, p0, q0, hargs, rfl, rfl, h0, r0⟩ := trodAll_cons hA
  obtain ⟨v1, vs1, d1, ds1, p1, q1, rfl, rfl, rfl, h1, r1⟩ := trodAll_cons r0
  obtain ⟨v2, vs2, d2, ds2, p2, q2, rfl, rfl, rfl, h2, r2⟩ := trodAll_cons r1
  obtain ⟨rfl, rfl, rfl⟩ := trodAll_nil r2
  obtain rfl : args = #[v0, v1, v2] := by cases args; simp_all
  obtain ⟨rfl, rfl⟩ := trodVars_none hV
  have lt0 : ∀ x ∈ p0, x.block < W.heap.size := by obtain ⟨m, hm⟩ := h0; exact DataW.trod_lt m _ _ _ hm
  have k0 := h0
  obtain ⟨cs0, rfl, hsz0⟩ := okWide_struct Tryz.underlying35 (hval 0 35 v0 rfl rfl)
  obtain ⟨x0, g0, f0⟩ := Trod.opens opens_T35 h0
  obtain ⟨l0⟩ := cs0
  obtain ⟨u0_0, u0_1, u0_2, u0_3, u0_4, u0_5, u0_6, e0, hu0_0, hu0_1, hu0_2, hu0_3, hu0_4, hu0_5, hu0_6⟩ := rd_Base g0
  obtain ⟨su0_0, wu0_0⟩ := rd_AC hu0_0
  injection wu0_0 with wu0_0 _; subst wu0_0
  obtain ⟨su0_1, wu0_1⟩ := rd_AC hu0_1
  injection wu0_1 with wu0_1 _; subst wu0_1
  obtain ⟨su0_2, wu0_2⟩ := rd_AC hu0_2
  injection wu0_2 with wu0_2 _; subst wu0_2
  obtain ⟨su0_3, wu0_3⟩ := rd_AC hu0_3
  injection wu0_3 with wu0_3 _; subst wu0_3
  obtain ⟨su0_4, wu0_4⟩ := rd_AC hu0_4
  injection wu0_4 with wu0_4 _; subst wu0_4
  obtain ⟨su0_5, wu0_5⟩ := rd_AC hu0_5
  injection wu0_5 with wu0_5 _; subst wu0_5
  obtain ⟨su0_6, wu0_6⟩ := rd_AC hu0_6
  injection wu0_6 with wu0_6 _; subst wu0_6
  have e0' : l0 = [_, _, _, _, .int .i64 (x0.Clock.Epoch), _, _, _] := e0
  subst e0'
  have lt1 : ∀ x ∈ p1, x.block < W.heap.size := by obtain ⟨m, hm⟩ := h1; exact DataW.trod_lt m _ _ _ hm
  have k1 := h1
  obtain ⟨a1, rfl, rfl, rfl, w1⟩ := open_int Tryz.underlying3 (hval 1 3 v1 rfl rfl) h1
  have f1 : fit a1 := by show -9223372036854775808 ≤ a1 ∧ a1 ≤ 9223372036854775807; simpa [Lit.wf, show IntKind.i64.min = -9223372036854775808 by decide, show IntKind.i64.max = 9223372036854775807 by decide] using w1
  have lt2 : ∀ x ∈ p2, x.block < W.heap.size := by obtain ⟨m, hm⟩ := h2; exact DataW.trod_lt m _ _ _ hm
  have k2 := h2
  obtain ⟨cs2, rfl, hsz2⟩ := okWide_struct Tryz.underlying37 (hval 2 37 v2 rfl rfl)
  obtain ⟨x2, g2, f2⟩ := Trod.opens opens_T37 h2
  obtain ⟨l2⟩ := cs2
  have e2 := rd_Sub g2
  have e2' : l2 = [.int .i64 (x2.Kind), .int .i64 (x2.A), .int .i64 (x2.Pc), .int .i64 (x2.E), .int .i64 (x2.Row), .int .i64 (x2.B), .int .i64 (x2.H), .int .i64 (x2.Out), .int .i64 (x2.Code), .bool (x2.Done)] := e2
  subst e2'
  clear hA0 hval0
  refine Calls.mono ((n_laws_FnExactSubStep (κ := cxAll W) hu0_0 hu0_1 hu0_2 hu0_3 hu0_4 hu0_5 hu0_6 (law_FnExactSubStep f0 f1 f2)).run [_, _, _] rfl (stS0 W)) fun e W' ⟨v, he, _, hv, hS1⟩ => ?_
  have hS : St (cxAll W) W' [] [] := by obtain ⟨⟨R, s1, _⟩, _⟩ := hS1; exact St.weaken s1 (by simp)
  have hv : v = .bool true := (Option.some.inj hv).symm
  subst he; subst hv
  exact ⟨_, rfl, _, _, _, [], _, [], hW', trodAll_mk1 (shut_bool Tryz.underlying4 _), (trodAll_cons_mk (Below.trod laidOut_FnExactSubStep (by kernel_rfl) (of_decide_eq_true (by kernel_rfl)) k0 hS.below lt0) (trodAll_cons_mk (Below.trod laidOut_FnExactSubStep (by kernel_rfl) (of_decide_eq_true (by kernel_rfl)) k1 hS.below lt1) (trodAll_cons_mk (Below.trod laidOut_FnExactSubStep (by kernel_rfl) (of_decide_eq_true (by kernel_rfl)) k2 hS.below lt2) trodAll_mk0))), rfl, hS.below.frame _, fun h => by cases h⟩

theorem over_FnExactSubStep : Rows.fnExactSubStepRow.holds Tryz.pinned (OpenSpec.ofChange Rows.fnExactSubStepSpec) :=
  OpenClaim.holds_of_wide 3 Tryz.f3 rfl rfl rfl rfl rfl rfl rfl ⟨rfl, rfl, rfl, rfl, rfl⟩ rfl rfl rfl rfl rfl (by kernel_rfl) Tryz.func3 (by kernel_rfl)
    (of_decide_eq_true (by kernel_rfl)) (by unfold Func.isWrapper; first | (rw [if_pos (by decide +kernel)]; kernel_rfl) | (rw [if_neg (by decide +kernel)]; exact ⟨rfl, rfl⟩))
    (fun os started H enc _ => lifted_FnExactSubStep os started H enc)

theorem fnExactSubStep_holds : Rows.FnExactSubStepSaid := over_FnExactSubStep
#print axioms fnExactSubStep_holds
end Go.Proofs.YtlhhifdhlkihkaaGreat
