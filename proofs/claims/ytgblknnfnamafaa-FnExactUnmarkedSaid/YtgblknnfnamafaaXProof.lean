/-
  THE ROW OVER 'laws.FnExactUnmarked', out of its walk and its plain law. Printed by fin.py.
-/
import Derived.Test.YtgblknnfnamafaaXWalks
import Derived.Test.YtgblknnfnamafaaPExactUnmarked
import Derived.Test.YtgblknnfnamafaaRows
import Derived.WalkKit
import Derived.ProofKit
import Derived.OpenShut
import Derived.ShutString
import Derived.ChangeOld
import Derived.Below
import Derived.Carry
namespace Go.Proofs.Ytgblknnfnamafaa
open Go.Gv
open Go.ChangeShapes Go.WideShapes Go.ChangeAt Go.RowKit
open Go.ChangeMaps (open_string shut_string)
set_option linter.unusedVariables false

theorem opens_T3 : OpensAt Try.prog 3 Int := opens_int Try.underlying3
theorem opens_T4 : OpensAt Try.prog 4 Bool := opens_bool Try.underlying4
theorem opens_T85 : OpensAt Try.prog 85 Pin := opens_struct Try.underlying85 (by kernel_rfl) (of_cons (k := 1) opens_T4 rfl (by kernel_rfl) (of_cons (k := 1) opens_T3 rfl (by kernel_rfl) (of_cons (k := 1) opens_T4 rfl (by kernel_rfl) (of_one (k := 1) opens_T3 rfl (by kernel_rfl) rfl)))) (fun d => (d.On, d.Epoch, d.Marked, d.Seen)) (fun p => ⟨⟨p.1, p.2.1, p.2.2.1, p.2.2.2⟩, rfl⟩) (fun h => h) (fun h => h)
theorem opens_T22 : OpensAt Try.prog 22 (List Pin) := opens_slice Try.underlying22 (by kernel_rfl) (by decide) opens_T85
theorem opens_T24 : OpensAt Try.prog 24 Clock := opens_struct Try.underlying24 (by kernel_rfl) (of_cons (k := 1) opens_T3 rfl (by kernel_rfl) (of_one (k := 1) opens_T22 rfl (by kernel_rfl) rfl)) (fun d => (d.Epoch, d.Pins)) (fun p => ⟨⟨p.1, p.2⟩, rfl⟩) (fun h => h) (fun h => h)
theorem own_FnExactUnmarked : ownKnob Try.prog.godebug = none := by kernel_rfl
theorem laidOut_FnExactUnmarked : laidOutB Try.prog = true := by kernel_rfl

set_option maxRecDepth 100000 in
theorem lifted_FnExactUnmarked (os : Os) (started : os.Started) (H : Type) (enc : TypeId × Value → H) :
    ReturnsInHanded {} Try.checked os 3 .any (Rows.fnExactUnmarkedSpec.pre6 enc Try.prog Try.f3 Rows.fnExactUnmarkedRow.domain false) (Rows.fnExactUnmarkedSpec.post enc Try.prog Try.f3 false true false false) := by
  refine returnsInHanded_of_change (C := Try.checked) own_FnExactUnmarked started (by kernel_rfl) Try.func3
    (ChangeSpec.witness6 (enc := enc) (C := Try.checked) false ⟨#[], #[.agg #[.int .i64 0, .slice none 0 0]], []⟩ 8 (by kernel_rfl) (by kernel_rfl) (by kernel_rfl) (by kernel_rfl)) ?_
  intro W base args ds gs before hval0 hW hcnd _
  have hval : ∀ (j : Nat) t v, Try.f3.params[j]? = some t → args[j]? = some v → Value.okWide Try.prog W .any base t v := hval0
  have hW' := hW
  obtain ⟨p, q, hA0, hV, rfl, hfz, hnd⟩ := hW
  have hA : DataW.TrodAll enc Try.prog W 0 (fun _ => true) true Try.f3.params.toList args.toList ds p := hA0
  rw [Try.params3] at hA hval
  obtain ⟨v0, vs0, d0, ds0, p0, q0, hargs, rfl, rfl, h0, r0⟩ := trodAll_cons hA
  obtain ⟨rfl, rfl, rfl⟩ := trodAll_nil r0
  obtain rfl : args = #[v0] := by cases args; simp_all
  obtain ⟨rfl, rfl⟩ := trodVars_none hV
  have lt0 : ∀ x ∈ p0, x.block < W.heap.size := by obtain ⟨m, hm⟩ := h0; exact DataW.trod_lt m _ _ _ hm
  have k0 := h0
  obtain ⟨cs0, rfl, hsz0⟩ := okWide_struct Try.underlying24 (hval 0 24 v0 rfl rfl)
  obtain ⟨x0, g0, f0⟩ := Trod.opens opens_T24 h0
  obtain ⟨l0⟩ := cs0
  obtain ⟨u0_0, e0, hu0_0⟩ := rd_Clock g0
  have e0' : l0 = [.int .i64 (x0.Epoch), u0_0] := e0
  subst e0'
  clear hA0 hval0
  refine (c_laws_FnExactUnmarked hu0_0 (law_FnExactUnmarked f0)).mono fun e W' ⟨v, he, hv, hS⟩ => ?_
  subst he; subst hv
  exact ⟨_, rfl, _, _, _, [], _, [], hW', trodAll_mk1 (shut_bool Try.underlying4 _), (trodAll_cons_mk (Below.trod laidOut_FnExactUnmarked (by kernel_rfl) (of_decide_eq_true (by kernel_rfl)) k0 hS.below lt0) trodAll_mk0), rfl, hS.below.frame _, fun h => by cases h⟩

theorem over_FnExactUnmarked : Rows.fnExactUnmarkedRow.holds Try.pinned (OpenSpec.ofChange Rows.fnExactUnmarkedSpec) :=
  OpenClaim.holds_of_wide 3 Try.f3 rfl rfl rfl rfl rfl rfl rfl ⟨rfl, rfl, rfl, rfl, rfl⟩ rfl rfl rfl rfl rfl (by kernel_rfl) Try.func3 (by kernel_rfl)
    (of_decide_eq_true (by kernel_rfl)) (by unfold Func.isWrapper; first | (rw [if_pos (by decide +kernel)]; kernel_rfl) | (rw [if_neg (by decide +kernel)]; exact ⟨rfl, rfl⟩))
    (fun os started H enc _ => lifted_FnExactUnmarked os started H enc)

theorem fnExactUnmarked_holds : Rows.FnExactUnmarkedSaid := over_FnExactUnmarked
#print axioms fnExactUnmarked_holds
end Go.Proofs.Ytgblknnfnamafaa
