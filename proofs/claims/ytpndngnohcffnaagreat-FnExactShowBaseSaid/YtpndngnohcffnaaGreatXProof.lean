/-
  THE ROW OVER 'laws.FnExactShowBase', out of its walk and its plain law. Printed by fin.py.
-/
import Derived.Test.YtpndngnohcffnaaGreatXWalks
import Derived.Test.YtpndngnohcffnaaGreatPExactShowBase
import Derived.Test.YtpndngnohcffnaaGreatRows
import Derived.WalkKit
import Derived.ProofKit
import Derived.OpenShut
import Derived.ShutString
import Derived.ChangeOld
import Derived.Below
import Derived.Carry
namespace Go.Proofs.YtpndngnohcffnaaGreat
open Go.Gv
open Go.ChangeShapes Go.WideShapes Go.ChangeAt Go.RowKit
open Go.ChangeMaps (open_string shut_string)
set_option linter.unusedVariables false

theorem opens_T3 : OpensAt Tryz.prog 3 Int := opens_int Tryz.underlying3
theorem opens_T22 : OpensAt Tryz.prog 22 (List Int) := opens_slice Tryz.underlying22 (by kernel_rfl) (by decide) opens_T3
theorem opens_T169 : OpensAt Tryz.prog 169 LRow := opens_struct Tryz.underlying169 (by kernel_rfl) (of_cons (k := 1) opens_T3 rfl (by kernel_rfl) (of_one (k := 1) opens_T3 rfl (by kernel_rfl) rfl)) (fun d => (d.Handle, d.Epoch)) (fun p => ⟨⟨p.1, p.2⟩, rfl⟩) (fun h => h) (fun h => h)
theorem opens_T99 : OpensAt Tryz.prog 99 (List LRow) := opens_slice Tryz.underlying99 (by kernel_rfl) (by decide) opens_T169
theorem opens_T101 : OpensAt Tryz.prog 101 LList := opens_struct Tryz.underlying101 (by kernel_rfl) (of_one (k := 1) opens_T99 rfl (by kernel_rfl) rfl) (fun d => (d.Rows)) (fun p => ⟨⟨p⟩, rfl⟩) (fun h => h) (fun h => h)
theorem opens_T33 : OpensAt Tryz.prog 33 (List LList) := opens_slice Tryz.underlying33 (by kernel_rfl) (by decide) opens_T101
theorem opens_T4 : OpensAt Tryz.prog 4 Bool := opens_bool Tryz.underlying4
theorem opens_T147 : OpensAt Tryz.prog 147 Pin := opens_struct Tryz.underlying147 (by kernel_rfl) (of_cons (k := 1) opens_T4 rfl (by kernel_rfl) (of_cons (k := 1) opens_T3 rfl (by kernel_rfl) (of_cons (k := 1) opens_T4 rfl (by kernel_rfl) (of_one (k := 1) opens_T3 rfl (by kernel_rfl) rfl)))) (fun d => (d.On, d.Epoch, d.Marked, d.Seen)) (fun p => ⟨⟨p.1, p.2.1, p.2.2.1, p.2.2.2⟩, rfl⟩) (fun h => h) (fun h => h)
theorem opens_T30 : OpensAt Tryz.prog 30 (List Pin) := opens_slice Tryz.underlying30 (by kernel_rfl) (by decide) opens_T147
theorem opens_T32 : OpensAt Tryz.prog 32 Clock := opens_struct Tryz.underlying32 (by kernel_rfl) (of_cons (k := 1) opens_T3 rfl (by kernel_rfl) (of_one (k := 1) opens_T30 rfl (by kernel_rfl) rfl)) (fun d => (d.Epoch, d.Pins)) (fun p => ⟨⟨p.1, p.2⟩, rfl⟩) (fun h => h) (fun h => h)
theorem opens_T162 : OpensAt Tryz.prog 162 SList := opens_struct Tryz.underlying162 (by kernel_rfl) (of_one (k := 1) opens_T22 rfl (by kernel_rfl) rfl) (fun d => (d.Slots)) (fun p => ⟨⟨p⟩, rfl⟩) (fun h => h) (fun h => h)
theorem opens_T25 : OpensAt Tryz.prog 25 (List SList) := opens_slice Tryz.underlying25 (by kernel_rfl) (by decide) opens_T162
theorem opens_T27 : OpensAt Tryz.prog 27 Lists := opens_struct Tryz.underlying27 (by kernel_rfl) (of_cons (k := 1) opens_T25 rfl (by kernel_rfl) (of_one (k := 1) opens_T25 rfl (by kernel_rfl) rfl)) (fun d => (d.Global, d.Own)) (fun p => ⟨⟨p.1, p.2⟩, rfl⟩) (fun h => h) (fun h => h)
theorem opens_T24 : OpensAt Tryz.prog 24 Heap := opens_struct Tryz.underlying24 (by kernel_rfl) (of_cons (k := 1) opens_T22 rfl (by kernel_rfl) (of_one (k := 1) opens_T22 rfl (by kernel_rfl) rfl)) (fun d => (d.Bytes, d.Class)) (fun p => ⟨⟨p.1, p.2⟩, rfl⟩) (fun h => h) (fun h => h)
theorem opens_T29 : OpensAt Tryz.prog 29 Mem := opens_struct Tryz.underlying29 (by kernel_rfl) (of_cons (k := 2) opens_T24 rfl (by kernel_rfl) (of_one (k := 2) opens_T27 rfl (by kernel_rfl) rfl)) (fun d => (d.Heap, d.Lists)) (fun p => ⟨⟨p.1, p.2⟩, rfl⟩) (fun h => h) (fun h => h)
theorem opens_T35 : OpensAt Tryz.prog 35 Base := opens_struct Tryz.underlying35 (by kernel_rfl) (of_cons (k := 4) opens_T29 rfl (by kernel_rfl) (of_cons (k := 2) opens_T32 rfl (by kernel_rfl) (of_cons (k := 1) opens_T33 rfl (by kernel_rfl) (of_one (k := 1) opens_T22 rfl (by kernel_rfl) rfl)))) (fun d => (d.Mem, d.Clock, d.Limbo, d.Haz)) (fun p => ⟨⟨p.1, p.2.1, p.2.2.1, p.2.2.2⟩, rfl⟩) (fun h => h) (fun h => h)
theorem own_FnExactShowBase : ownKnob Tryz.prog.godebug = none := by kernel_rfl
theorem laidOut_FnExactShowBase : laidOutB Tryz.prog = true := by kernel_rfl

set_option maxRecDepth 100000 in
theorem lifted_FnExactShowBase (os : Os) (started : os.Started) (H : Type) (enc : TypeId × Value → H) :
    ReturnsInHanded {} Tryz.checked os 3 .any (Rows.fnExactShowBaseSpec.pre6 enc Tryz.prog Tryz.f3 Rows.fnExactShowBaseRow.domain false) (Rows.fnExactShowBaseSpec.post enc Tryz.prog Tryz.f3 false true false false) := by
  refine returnsInHanded_of_change (C := Tryz.checked) own_FnExactShowBase started (by kernel_rfl) Tryz.func3
    (ChangeSpec.witness6 (enc := enc) (C := Tryz.checked) false ⟨#[], #[.agg #[.slice none 0 0, .slice none 0 0, .slice none 0 0, .slice none 0 0, .int .i64 0, .slice none 0 0, .slice none 0 0, .slice none 0 0]], []⟩ 8 (by kernel_rfl) (by kernel_rfl) (by kernel_rfl) (by kernel_rfl)) ?_
  intro W base args ds gs before hval0 hW hcnd _
  have hval : ∀ (j : Nat) t v, Tryz.f3.params[j]? = some t → args[j]? = some v → Value.okWide Tryz.prog W .any base t v := hval0
  have hW' := hW
  obtain ⟨p, q, hA0, hV, rfl, hfz, hnd⟩ := hW
  have hA : DataW.TrodAll enc Tryz.prog W 0 (fun _ => true) true Tryz.f3.params.toList args.toList ds p := hA0
  rw [Tryz.params3] at hA hval
  obtain ⟨v0, vs0, d0, ds0, p0, q0, hargs, rfl, rfl, h0, r0⟩ := trodAll_cons hA
  obtain ⟨rfl, rfl, rfl⟩ := trodAll_nil r0
  obtain rfl : args = #[v0] := by cases args; simp_all
  obtain ⟨rfl, rfl⟩ := trodVars_none hV
  have lt0 : ∀ x ∈ p0, x.block < W.heap.size := by obtain ⟨m, hm⟩ := h0; exact DataW.trod_lt m _ _ _ hm
  have k0 := h0
  obtain ⟨cs0, rfl, hsz0⟩ := okWide_struct Tryz.underlying35 (hval 0 35 v0 rfl rfl)
  obtain ⟨x0, g0, f0⟩ := Trod.opens opens_T35 h0
  obtain ⟨l0⟩ := cs0
  obtain ⟨u0_0, u0_1, u0_2, u0_3, u0_4, u0_5, u0_6, e0, hu0_0, hu0_1, hu0_2, hu0_3, hu0_4, hu0_5, hu0_6⟩ := rd_Base g0
  have e0' : l0 = [u0_0, u0_1, u0_2, u0_3, .int .i64 (x0.Clock.Epoch), u0_4, u0_5, u0_6] := e0
  subst e0'
  clear hA0 hval0
  refine (c_laws_FnExactShowBase hu0_0 hu0_1 hu0_2 hu0_3 hu0_4 hu0_5 hu0_6 (law_FnExactShowBase f0)).mono fun e W' ⟨v, he, hv, hS⟩ => ?_
  subst he; subst hv
  exact ⟨_, rfl, _, _, _, [], _, [], hW', trodAll_mk1 (shut_bool Tryz.underlying4 _), (trodAll_cons_mk (Below.trod laidOut_FnExactShowBase (by kernel_rfl) (of_decide_eq_true (by kernel_rfl)) k0 hS.below lt0) trodAll_mk0), rfl, hS.below.frame _, fun h => by cases h⟩

theorem over_FnExactShowBase : Rows.fnExactShowBaseRow.holds Tryz.pinned (OpenSpec.ofChange Rows.fnExactShowBaseSpec) :=
  OpenClaim.holds_of_wide 3 Tryz.f3 rfl rfl rfl rfl rfl rfl rfl ⟨rfl, rfl, rfl, rfl, rfl⟩ rfl rfl rfl rfl rfl (by kernel_rfl) Tryz.func3 (by kernel_rfl)
    (of_decide_eq_true (by kernel_rfl)) (by unfold Func.isWrapper; first | (rw [if_pos (by decide +kernel)]; kernel_rfl) | (rw [if_neg (by decide +kernel)]; exact ⟨rfl, rfl⟩))
    (fun os started H enc _ => lifted_FnExactShowBase os started H enc)

theorem fnExactShowBase_holds : Rows.FnExactShowBaseSaid := over_FnExactShowBase
#print axioms fnExactShowBase_holds
end Go.Proofs.YtpndngnohcffnaaGreat
