import Derived.Test.YtpkgcalilmlljaaGreatDoorXME
import Derived.Test.YtpkgcalilmlljaaGreatDoorXMF
import Derived.Test.YtpkgcalilmlljaaGreatDoorXMG
import Derived.Test.YtpkgcalilmlljaaGreatDoorCards
import Derived.Test.YtpkgcalilmlljaaGreatDoorTie
import Derived.WalkKit
import Derived.ProofKit
import Derived.OpenShut
import Derived.ShutString
import Derived.ChangeOld
import Derived.Below
import Derived.Carry
import Derived.OpenVars
import Derived.LaidMore
import Derived.Lay
import Derived.SevenTiedAt
import Derived.Deep.DeepHandedRow
import Derived.Stop.Joined
set_option linter.unusedVariables false
set_option linter.unusedSimpArgs false
set_option linter.unusedSectionVars false
set_option linter.unnecessarySimpa false
set_option linter.constructorNameAsVariable false
section
/-
 THE ROW AND THE CARD OVER 'laws.FnTexts', out of its walk, its plain law and what the listed variables hold.
-/
namespace Go.Proofs.YtpkgcalilmlljaaGreatDoor
open Go.Gv
open Go.ChangeShapes Go.WideShapes Go.ChangeAt Go.RowKit
set_option linter.unusedVariables false
theorem opens_T5 : OpensAt Tryz.prog 5 UInt8 := opens_u8 Tryz.underlying5
theorem opens_T22 : OpensAt Tryz.prog 22 (List UInt8) := opens_slice Tryz.underlying22 (by kernel_rfl) (by decide) opens_T5
theorem own_FnTexts : ownKnob Tryz.prog.godebug = none := by kernel_rfl
theorem laidOut_FnTexts : laidOutB Tryz.prog = true := by kernel_rfl
theorem vars_FnTexts : varsRowed Tryz.prog Rows.fnTextsSpec.vars = true := by kernel_rfl
theorem met_FnTexts (os : Os) (args : Array Value) : laidMetH Tryz.prog Rows.fnTextsRow.laid ((World.laidAll Tryz.prog os Rows.fnTextsRow.laid).forCall (fun _ _ => 0) ⟨#[], args, []⟩).memory := by
  rw [MakeChecks.laidMetH_plain _ _ _ plain_laid]
  exact laidMet_laidAll _ (by kernel_rfl) (by kernel_rfl)
set_option maxRecDepth 100000 in
theorem lifted_FnTexts (os : Os) (started : os.Started) (H : Type) (enc : TypeId × Value → H) :
    ReturnsInHanded {} Tryz.checked os 3 .any ((OpenSpec.ofChange Rows.fnTextsSpec).preRow enc Tryz.prog Tryz.f3 Rows.fnTextsRow.domain false Rows.fnTextsRow.laid) (Rows.fnTextsSpec.post enc Tryz.prog Tryz.f3 false true false false) := by
  refine returnsInHanded_of_row (C := Tryz.checked) (s := OpenSpec.ofChange Rows.fnTextsSpec) (F := default) own_FnTexts started (by kernel_rfl) Tryz.func3
    (ChangeSpec.witness_shaped (enc := enc) (C := Tryz.checked) (os := os) (fn := Tryz.f3) (s := Rows.fnTextsSpec) (conds := Rows.fnTextsRow.domain) (apart := false) (X := fun w _ => laidMetH Tryz.prog Rows.fnTextsRow.laid w) false (World.laidAll Tryz.prog os Rows.fnTextsRow.laid) #[.slice none 0 0] 8 (World.laidAll_os _ _ _)
      (World.shaped_of_ZipB (by kernel_rfl) (by kernel_rfl)) (by kernel_rfl) (by kernel_rfl) (by kernel_rfl) (met_FnTexts os _)) ?_
  intro W base args ds gs before hval0 hW _ _ _ hL hsh _
  have hG : GW W := gw_of_laid hL hsh
  have hval : ∀ (j : Nat) t v, Tryz.f3.params[j]? = some t → args[j]? = some v → Value.okWide Tryz.prog W .any base t v := hval0
  have hW' := hW
  obtain ⟨p, q, hA0, hV0, rfl, hfz, hnd⟩ := hW
  have hV : DataW.TrodVars enc Tryz.prog W (fun _ => true) Rows.fnTextsSpec.vars gs q := hV0
  have hA : DataW.TrodAll enc Tryz.prog W 0 (fun _ => true) true Tryz.f3.params.toList args.toList ds p := hA0
  rw [Tryz.params3] at hA hval
  obtain ⟨v0, vs0, d0, ds0, p0, q0, hargs, rfl, rfl, h0, r0⟩ := trodAll_cons hA
  obtain ⟨rfl, rfl, rfl⟩ := trodAll_nil r0
  obtain rfl : args = #[v0] := by cases args; simp_all
  obtain ⟨g, tg, cs, fuel, g1, pg, rfl, _⟩ := trodVars_one (show DataW.TrodVars enc Tryz.prog W (fun _ => true) [nmL 6] gs q from hV)
  have lt0 : ∀ x ∈ p0, x.block < W.heap.size := by obtain ⟨m, hm⟩ := h0; exact DataW.trod_lt m _ _ _ hm
  have k0 := h0
  obtain ⟨a0, len0, cap0, rfl⟩ := okWide_slice Tryz.underlying22 (hval 0 22 v0 rfl rfl)
  obtain ⟨x0, g0, f0⟩ := Trod.opens opens_T22 h0
  obtain ⟨su0, wu0⟩ := rd_AC g0
  have wv0 : Value.slice a0 len0 cap0 = Value.slice su0.a x0.length su0.c := (List.cons.inj wu0).1
  injection wv0 with qa0 qb0 qc0; subst qa0; subst qb0; subst qc0
  clear hA0 hval0
  refine Calls.mono ((VS.r (n_laws_FnTexts (κ := cxAll W) (.all hG) g0) (law_FnTexts f0)).run [_] rfl (stS0 W)) fun e W' ⟨v, he, _, hv, hS1⟩ => ?_
  have hS : St (cxAll W) W' [] [] := by obtain ⟨⟨R, s1, _⟩, _⟩ := hS1; exact St.weaken s1 (by simp)
  have hv : v = .bool true := (Option.some.inj hv).symm
  subst he; subst hv
  exact ⟨_, rfl, _, _, _, [], _, _, hW', trodAll_mk1 (shut_bool Tryz.underlying4 _), (trodAll_cons_mk (Below.trod laidOut_FnTexts (by kernel_rfl) (of_decide_eq_true (by kernel_rfl)) k0 hS.below lt0) trodAll_mk0), Below.trodVars laidOut_FnTexts hS.below vars_FnTexts hV, hS.below.frame _, fun h => by cases h⟩
theorem j1_FnTexts : (laidOutB Tryz.pinned.checked.prog) = true := by kernel_rfl
theorem j2_FnTexts : (mapsRowed Tryz.pinned.checked.prog) = true := by kernel_rfl
theorem j9_FnTexts : (Rows.fnTextsRow.inPlace == Tryz.pinned.checked.prog.inPlace 3) = true := by kernel_rfl
theorem j10_FnTexts : (Rows.fnTextsRow.unfollowed == Tryz.pinned.checked.prog.unfollowed 3) = true := by kernel_rfl
theorem j11_FnTexts : (Rows.fnTextsRow.recurses == Tryz.pinned.checked.prog.recurses 3) = true := by kernel_rfl
theorem j12_FnTexts : (Rows.fnTextsRow.named == Tryz.pinned.checked.prog.varsNamed 3) = true := by kernel_rfl
theorem j22_FnTexts : (Rows.fnTextsRow.plainKeys == Tryz.pinned.checked.prog.plainKeys) = true := by kernel_rfl
theorem j24_FnTexts : (Tryz.pinned.checked.prog.stopsHeard) = true := by kernel_rfl
theorem j25_FnTexts : (Tryz.pinned.checked.prog.mayEnter) = true := by kernel_rfl
theorem j26_FnTexts : (Rows.fnTextsRow.lifted == Tryz.pinned.checked.prog.liftsFinal) = true := by kernel_rfl
theorem j27_FnTexts : (Tryz.pinned.checked.prog.make == some Rows.fnTextsRow.make) = true := by kernel_rfl
theorem jn_FnTexts : Tryz.pinned.checked.prog.funcNamed Rows.fnTextsRow.func = some 3 := by kernel_rfl
theorem and2_FnTexts {a b : Bool} (h : a = true) (k : b = true) : (a && b) = true := by rw [h, k]; rfl
theorem joined_FnTexts : joinedFacts Tryz.pinned.checked.prog 3 Tryz.f3 Rows.fnTextsSpec Rows.fnTextsRow = true := by
  unfold joinedFacts
  exact (and2_FnTexts (and2_FnTexts (and2_FnTexts (and2_FnTexts (and2_FnTexts (and2_FnTexts (and2_FnTexts (and2_FnTexts (and2_FnTexts (and2_FnTexts (and2_FnTexts (and2_FnTexts (and2_FnTexts (and2_FnTexts (and2_FnTexts (and2_FnTexts (and2_FnTexts (and2_FnTexts (and2_FnTexts (and2_FnTexts (and2_FnTexts (and2_FnTexts (and2_FnTexts (and2_FnTexts (and2_FnTexts (and2_FnTexts (and2_FnTexts (and2_FnTexts (and2_FnTexts (and2_FnTexts (and2_FnTexts (by kernel_rfl) j1_FnTexts) j2_FnTexts) (by kernel_rfl)) (by kernel_rfl)) (by kernel_rfl)) (by kernel_rfl)) (by kernel_rfl)) (by kernel_rfl)) j9_FnTexts) j10_FnTexts) j11_FnTexts) j12_FnTexts) (by kernel_rfl)) (by kernel_rfl)) (by kernel_rfl)) (by kernel_rfl)) (by kernel_rfl)) (by kernel_rfl)) (by kernel_rfl)) (by kernel_rfl)) (by kernel_rfl)) j22_FnTexts) (by kernel_rfl)) j24_FnTexts) j25_FnTexts) j26_FnTexts) j27_FnTexts) (by kernel_rfl)) (by kernel_rfl)) (by kernel_rfl)) (by kernel_rfl))
theorem over_FnTexts : Rows.fnTextsRow.holds Tryz.pinned (OpenSpec.ofChange Rows.fnTextsSpec) :=
  OpenClaim.holds_of_wide 3 Tryz.f3 rfl rfl rfl rfl rfl rfl rfl ⟨rfl, rfl, rfl, rfl, rfl⟩ rfl rfl rfl rfl rfl jn_FnTexts Tryz.func3 joined_FnTexts
    (of_decide_eq_true (by kernel_rfl)) (by unfold Func.isWrapper; first | (rw [if_pos (by decide +kernel)]; kernel_rfl) | (rw [if_neg (by decide +kernel)]; exact ⟨rfl, rfl⟩))
    (fun os started H enc _ => lifted_FnTexts os started H enc)
theorem fnTexts_card : Rows.FnTextsCardSaid :=
  Claim7.holds_tied_plain_at .later [] [.data, .data, .data, .data, .sentinel, .sentinel, .widerDeep, .pinned] true (true, "d446331e07c56ec3af83075ce1aff34503e8a9601cbfaa8c2fe4a4dd95b549cb") true
    over_FnTexts (fun _ h => by cases h) (by kernel_rfl) (fun _ h => by cases h) fnTexts_row_tie rfl ⟨rfl, rfl⟩ (by kernel_rfl) rfl
    (fun f fn hf hfn => by
      obtain rfl : f = 3 := Option.some.inj (jn_FnTexts.symm.trans hf) |>.symm
      obtain rfl : fn = Tryz.f3 := (Option.some.inj (Tryz.func3.symm.trans hfn)).symm
      exact ⟨by kernel_rfl, fun j t ht => by
        rw [Tryz.params3] at ht
        have hm : t ∈ [22] := by simpa using Array.mem_of_getElem? ht
        have hall : ([22].all fun u => !Tryz.prog.wantsStandIn u) = true := by kernel_rfl
        exact (show Tryz.prog.wantsStandIn t = false by simpa using List.all_eq_true.1 hall t hm)⟩)
    (by kernel_rfl)
#print axioms fnTexts_card
end Go.Proofs.YtpkgcalilmlljaaGreatDoor
end
