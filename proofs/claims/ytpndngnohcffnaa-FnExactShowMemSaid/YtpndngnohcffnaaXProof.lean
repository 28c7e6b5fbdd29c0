/-
  THE ROW OVER 'laws.FnExactShowMem', out of its walk and its plain law. Printed by fin.py.
-/
import Derived.Test.YtpndngnohcffnaaXWalks
import Derived.Test.YtpndngnohcffnaaPExactShowMem
import Derived.Test.YtpndngnohcffnaaRows
import Derived.WalkKit
import Derived.ProofKit
import Derived.OpenShut
import Derived.ShutString
import Derived.ChangeOld
import Derived.Below
import Derived.Carry
namespace Go.Proofs.Ytpndngnohcffnaa
open Go.Gv
open Go.ChangeShapes Go.WideShapes Go.ChangeAt Go.RowKit
open Go.ChangeMaps (open_string shut_string)
set_option linter.unusedVariables false

theorem opens_T3 : OpensAt Try.prog 3 Int := opens_int Try.underlying3
theorem opens_T22 : OpensAt Try.prog 22 (List Int) := opens_slice Try.underlying22 (by kernel_rfl) (by decide) opens_T3
theorem opens_T83 : OpensAt Try.prog 83 SList := opens_struct Try.underlying83 (by kernel_rfl) (of_one (k := 1) opens_T22 rfl (by kernel_rfl) rfl) (fun d => (d.Slots)) (fun p => ⟨⟨p⟩, rfl⟩) (fun h => h) (fun h => h)
theorem opens_T25 : OpensAt Try.prog 25 (List SList) := opens_slice Try.underlying25 (by kernel_rfl) (by decide) opens_T83
theorem opens_T27 : OpensAt Try.prog 27 Lists := opens_struct Try.underlying27 (by kernel_rfl) (of_cons (k := 1) opens_T25 rfl (by kernel_rfl) (of_one (k := 1) opens_T25 rfl (by kernel_rfl) rfl)) (fun d => (d.Global, d.Own)) (fun p => ⟨⟨p.1, p.2⟩, rfl⟩) (fun h => h) (fun h => h)
theorem opens_T24 : OpensAt Try.prog 24 Heap := opens_struct Try.underlying24 (by kernel_rfl) (of_cons (k := 1) opens_T22 rfl (by kernel_rfl) (of_one (k := 1) opens_T22 rfl (by kernel_rfl) rfl)) (fun d => (d.Bytes, d.Class)) (fun p => ⟨⟨p.1, p.2⟩, rfl⟩) (fun h => h) (fun h => h)
theorem opens_T29 : OpensAt Try.prog 29 Mem := opens_struct Try.underlying29 (by kernel_rfl) (of_cons (k := 2) opens_T24 rfl (by kernel_rfl) (of_one (k := 2) opens_T27 rfl (by kernel_rfl) rfl)) (fun d => (d.Heap, d.Lists)) (fun p => ⟨⟨p.1, p.2⟩, rfl⟩) (fun h => h) (fun h => h)
theorem own_FnExactShowMem : ownKnob Try.prog.godebug = none := by kernel_rfl
theorem laidOut_FnExactShowMem : laidOutB Try.prog = true := by kernel_rfl

set_option maxRecDepth 100000 in
theorem lifted_FnExactShowMem (os : Os) (started : os.Started) (H : Type) (enc : TypeId × Value → H) :
    ReturnsInHanded {} Try.checked os 3 .any (Rows.fnExactShowMemSpec.pre6 enc Try.prog Try.f3 Rows.fnExactShowMemRow.domain false) (Rows.fnExactShowMemSpec.post enc Try.prog Try.f3 false true false false) := by
  refine returnsInHanded_of_change (C := Try.checked) own_FnExactShowMem started (by kernel_rfl) Try.func3
    (ChangeSpec.witness6 (enc := enc) (C := Try.checked) false ⟨#[], #[.agg #[.slice none 0 0, .slice none 0 0, .slice none 0 0, .slice none 0 0]], []⟩ 8 (by kernel_rfl) (by kernel_rfl) (by kernel_rfl) (by kernel_rfl)) ?_
  intro W base args ds gs before hval0 hW hcnd _
  have hval : ∀ (j : Nat) t v, Try.f3.params[j]? = some t → args[j]? = some v → Value.okWide Try.prog W .any base t v := hval0
  have hW' := hW
  obtain ⟨p, q, hA0, hV, rfl, hfz, hnd⟩ := hW
  have hA : DataW.TrodAll enc Try.prog W 0 (fun _ => true) true Try.f3.params.toList args.toList ds p := hA0
  rw [Try.params3] at hA hval
  obtain ⟨v0, vs0, d0, ds0, p0, q0, hargs, rfl, rfl, h0, r0⟩ := trodAll_cons hA
  obtain ⟨rfl, rfl, rfl⟩ := trodAll_nil r0
  obtain rfl : args = #[v0] := by cases args; simp_all
  obtain ⟨rfl, rfl⟩ := trodVars_none hV
  have lt0 : ∀ x ∈ p0, x.block < W.heap.size := by obtain ⟨m, hm⟩ := h0; exact DataW.trod_lt m _ _ _ hm
  have k0 := h0
  obtain ⟨cs0, rfl, hsz0⟩ := okWide_struct Try.underlying29 (hval 0 29 v0 rfl rfl)
  obtain ⟨x0, g0, f0⟩ := Trod.opens opens_T29 h0
  obtain ⟨l0⟩ := cs0
  obtain ⟨u0_0, u0_1, u0_2, u0_3, e0, hu0_0, hu0_1, hu0_2, hu0_3⟩ := rd_Mem g0
  have e0' : l0 = [u0_0, u0_1, u0_2, u0_3] := e0
  subst e0'
  clear hA0 hval0
  refine (c_laws_FnExactShowMem hu0_0 hu0_1 hu0_2 hu0_3 (law_FnExactShowMem f0)).mono fun e W' ⟨v, he, hv, hS⟩ => ?_
  subst he; subst hv
  exact ⟨_, rfl, _, _, _, [], _, [], hW', trodAll_mk1 (shut_bool Try.underlying4 _), (trodAll_cons_mk (Below.trod laidOut_FnExactShowMem (by kernel_rfl) (of_decide_eq_true (by kernel_rfl)) k0 hS.below lt0) trodAll_mk0), rfl, hS.below.frame _, fun h => by cases h⟩

theorem over_FnExactShowMem : Rows.fnExactShowMemRow.holds Try.pinned (OpenSpec.ofChange Rows.fnExactShowMemSpec) :=
  OpenClaim.holds_of_wide 3 Try.f3 rfl rfl rfl rfl rfl rfl rfl ⟨rfl, rfl, rfl, rfl, rfl⟩ rfl rfl rfl rfl rfl (by kernel_rfl) Try.func3 (by kernel_rfl)
    (of_decide_eq_true (by kernel_rfl)) (by unfold Func.isWrapper; first | (rw [if_pos (by decide +kernel)]; kernel_rfl) | (rw [if_neg (by decide +kernel)]; exact ⟨rfl, rfl⟩))
    (fun os started H enc _ => lifted_FnExactShowMem os started H enc)

theorem fnExactShowMem_holds : Rows.FnExactShowMemSaid := over_FnExactShowMem
#print axioms fnExactShowMem_holds
end Go.Proofs.Ytpndngnohcffnaa
