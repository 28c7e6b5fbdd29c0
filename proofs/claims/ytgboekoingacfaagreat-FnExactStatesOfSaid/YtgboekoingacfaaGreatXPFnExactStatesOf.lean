/-
  THE ROW OVER 'laws.FnExactStatesOf', out of its walk and its plain law. Printed by fin3.py.
-/
import Derived.Test.YtgboekoingacfaaGreatXSFnExactStatesOf
import Derived.Test.YtgboekoingacfaaGreatRows
import Derived.WalkKit
import Derived.ProofKit
import Derived.OpenShut
import Derived.ShutString
import Derived.ChangeOld
import Derived.Below
import Derived.Carry
namespace Go.Proofs.YtgboekoingacfaaGreat
open Go.Gv
open Go.ChangeShapes Go.WideShapes Go.ChangeAt Go.RowKit
open Go.ChangeMaps (open_string shut_string)
set_option linter.unusedVariables false

theorem bE:bT Tryz.prog 3 Int:=RP Tryz.underlying3
theorem lB:bT Tryz.prog 22 (List Int):=dM Tryz.underlying22 (by kernel_rfl) (by decide) bE
theorem rO:bT Tryz.prog 135 cM:=bS Tryz.underlying135 (by kernel_rfl) (of_cons (k:=1) bE rfl (by kernel_rfl) (of_cons (k:=1) bE rfl (by kernel_rfl) (of_cons (k:=1) bE rfl (by kernel_rfl) (gW (k:=1) bE rfl (by kernel_rfl) rfl)))) (fun d=>(d.Kind,d.Cell,d.gD,d.eY)) (fun p=>⟨⟨p.1,p.2.1,p.2.2.1,p.2.2.2⟩,rfl⟩) (fun h=>h) (fun h=>h)
theorem wO:bT Tryz.prog 113 (List cM):=dM Tryz.underlying113 (by kernel_rfl) (by decide) rO
theorem wP:bT Tryz.prog 115 Queue:=bS Tryz.underlying115 (by kernel_rfl) (gW (k:=1) wO rfl (by kernel_rfl) rfl) (fun d=>(d.kJ)) (fun p=>⟨⟨p⟩,rfl⟩) (fun h=>h) (fun h=>h)
theorem BA:bT Tryz.prog 37 (List Queue):=dM Tryz.underlying37 (by kernel_rfl) (by decide) wP
theorem aA0:bT Tryz.prog 67 dS:=bS Tryz.underlying67 (by kernel_rfl) (of_cons (k:=1) BA rfl (by kernel_rfl) (gW (k:=1) lB rfl (by kernel_rfl) rfl)) (fun d=>(d.aU,d.bW)) (fun p=>⟨⟨p.1,p.2⟩,rfl⟩) (fun h=>h) (fun h=>h)
theorem aGD:ownKnob Tryz.prog.godebug=none:=by kernel_rfl
theorem aA4:laidOutB Tryz.prog=true:=by kernel_rfl

set_option maxRecDepth 100000 in
theorem aCB(os:Os)(started:os.Started)(H:Type)(enc:TypeId×Value→H) :
    ReturnsInHanded {} Tryz.checked os 7 .any (Rows.fnExactStatesOfSpec.pre6 enc Tryz.prog Tryz.f7 Rows.fnExactStatesOfRow.domain false) (Rows.fnExactStatesOfSpec.post enc Tryz.prog Tryz.f7 false true false false):=by
  refine returnsInHanded_of_change (C:=Tryz.checked) aGD started (by kernel_rfl) Tryz.func7
    (ChangeSpec.witness6 (enc:=enc) (C:=Tryz.checked) false ⟨#[],#[.agg #[.slice none 0 0,.slice none 0 0]],[]⟩ 8 (by kernel_rfl) (by kernel_rfl) (by kernel_rfl) (by kernel_rfl)) ?_
  intro W base args ds gs before hval0 hW hcnd _
  have hval:∀(j:Nat) t v,Tryz.f7.params[j]?=some t→args[j]?=some v→Value.okWide Tryz.prog W .any base t v:=hval0
  have hW':=hW
  obtain⟨p,q,hA0,hV,rfl,hfz,hnd⟩:=hW
  have hA:DataW.TrodAll enc Tryz.prog W 0 (fun _=>true) true Tryz.f7.params.toList args.toList ds p:=hA0
  rw [Tryz.params7] at hA hval
  obtain⟨v0,vs0,d0,ds0,p0,q0,hargs,rfl,rfl,h0,r0⟩:=trodAll_cons hA
  obtain⟨rfl,rfl,rfl⟩:=trodAll_nil r0
  obtain rfl:args=#[v0]:=by cases args;simp_all
  obtain⟨rfl,rfl⟩:=trodVars_none hV
  have LR:∀x∈p0,x.block < W.heap.size:=by obtain⟨m,hm⟩:=h0;exact DataW.trod_lt m _ _ _ hm
  have k0:=h0
  obtain⟨cs0,rfl,hsz0⟩:=okWide_struct Tryz.underlying67 (hval 0 67 v0 rfl rfl)
  obtain⟨x0,g0,f0⟩:=Trod.opens aA0 h0
  obtain⟨l0⟩:=cs0
  obtain⟨u0_0,u0_1,e0,hu0_0,hu0_1⟩:=aA6 g0
  obtain⟨su0_0,wu0_0⟩:=iN hu0_0
  injection wu0_0 with wu0_0 _;subst wu0_0
  obtain⟨su0_1,wu0_1⟩:=iN hu0_1
  injection wu0_1 with wu0_1 _;subst wu0_1
  have e0':l0=[_,_]:=e0
  subst e0'
  clear hA0 hval0
  refine Calls.mono ((VS.r (aCW (κ:=gA W) hu0_0 hu0_1) (aGI f0)).run [_] rfl (aQS W)) fun e W' ⟨v,he,_,hv,hS1⟩=>?_
  have hS:St (gA W) W' [] []:=by obtain⟨⟨R,s1,_⟩,_⟩:=hS1;exact St.weaken s1 (by simp)
  have hv:v=.bool true:=(Option.some.inj hv).symm
  subst he;subst hv
  exact⟨_,rfl,_,_,_,[],_,[],hW',trodAll_mk1 (shut_bool Tryz.underlying4 _),(trodAll_cons_mk (Below.trod aA4 (by kernel_rfl) (of_decide_eq_true (by kernel_rfl)) k0 hS.below LR) trodAll_mk0),rfl,hS.below.frame _,fun h=>by cases h⟩

theorem j1_FnExactStatesOf : (laidOutB Tryz.pinned.checked.prog) = true := by kernel_rfl
theorem j2_FnExactStatesOf : (mapsRowed Tryz.pinned.checked.prog) = true := by kernel_rfl
theorem j9_FnExactStatesOf : (Rows.fnExactStatesOfRow.inPlace == Tryz.pinned.checked.prog.inPlace 7) = true := by kernel_rfl
theorem j10_FnExactStatesOf : (Rows.fnExactStatesOfRow.unfollowed == Tryz.pinned.checked.prog.unfollowed 7) = true := by kernel_rfl
theorem j11_FnExactStatesOf : (Rows.fnExactStatesOfRow.recurses == Tryz.pinned.checked.prog.recurses 7) = true := by kernel_rfl
theorem j12_FnExactStatesOf : (Rows.fnExactStatesOfRow.named == Tryz.pinned.checked.prog.varsNamed 7) = true := by kernel_rfl
theorem j22_FnExactStatesOf : (Rows.fnExactStatesOfRow.plainKeys == Tryz.pinned.checked.prog.plainKeys) = true := by kernel_rfl
theorem j24_FnExactStatesOf : (Tryz.pinned.checked.prog.stopsHeard) = true := by kernel_rfl
theorem j25_FnExactStatesOf : (Tryz.pinned.checked.prog.mayEnter) = true := by kernel_rfl
theorem j26_FnExactStatesOf : (Rows.fnExactStatesOfRow.lifted == Tryz.pinned.checked.prog.liftsFinal) = true := by kernel_rfl
theorem j27_FnExactStatesOf : (Tryz.pinned.checked.prog.make == some Rows.fnExactStatesOfRow.make) = true := by kernel_rfl
theorem jn_FnExactStatesOf : Tryz.pinned.checked.prog.funcNamed Rows.fnExactStatesOfRow.func = some 7 := by kernel_rfl
theorem and2_FnExactStatesOf {a b : Bool} (h : a = true) (k : b = true) : (a && b) = true := by rw [h, k]; rfl
theorem joined_FnExactStatesOf : joinedFacts Tryz.pinned.checked.prog 7 Tryz.f7 Rows.fnExactStatesOfSpec Rows.fnExactStatesOfRow = true := by
  unfold joinedFacts
  exact (and2_FnExactStatesOf (and2_FnExactStatesOf (and2_FnExactStatesOf (and2_FnExactStatesOf (and2_FnExactStatesOf (and2_FnExactStatesOf (and2_FnExactStatesOf (and2_FnExactStatesOf (and2_FnExactStatesOf (and2_FnExactStatesOf (and2_FnExactStatesOf (and2_FnExactStatesOf (and2_FnExactStatesOf (and2_FnExactStatesOf (and2_FnExactStatesOf (and2_FnExactStatesOf (and2_FnExactStatesOf (and2_FnExactStatesOf (and2_FnExactStatesOf (and2_FnExactStatesOf (and2_FnExactStatesOf (and2_FnExactStatesOf (and2_FnExactStatesOf (and2_FnExactStatesOf (and2_FnExactStatesOf (and2_FnExactStatesOf (and2_FnExactStatesOf (and2_FnExactStatesOf (and2_FnExactStatesOf (and2_FnExactStatesOf (and2_FnExactStatesOf (by kernel_rfl) j1_FnExactStatesOf) j2_FnExactStatesOf) (by kernel_rfl)) (by kernel_rfl)) (by kernel_rfl)) (by kernel_rfl)) (by kernel_rfl)) (by kernel_rfl)) j9_FnExactStatesOf) j10_FnExactStatesOf) j11_FnExactStatesOf) j12_FnExactStatesOf) (by kernel_rfl)) (by kernel_rfl)) (by kernel_rfl)) (by kernel_rfl)) (by kernel_rfl)) (by kernel_rfl)) (by kernel_rfl)) (by kernel_rfl)) (by kernel_rfl)) j22_FnExactStatesOf) (by kernel_rfl)) j24_FnExactStatesOf) j25_FnExactStatesOf) j26_FnExactStatesOf) j27_FnExactStatesOf) (by kernel_rfl)) (by kernel_rfl)) (by kernel_rfl)) (by kernel_rfl))
theorem aFF:Rows.fnExactStatesOfRow.holds Tryz.pinned (OpenSpec.ofChange Rows.fnExactStatesOfSpec):=
  OpenClaim.holds_of_wide 7 Tryz.f7 rfl rfl rfl rfl rfl rfl rfl ⟨rfl,rfl,rfl,rfl,rfl⟩ rfl rfl rfl rfl rfl jn_FnExactStatesOf Tryz.func7 joined_FnExactStatesOf
    (of_decide_eq_true (by kernel_rfl)) (by unfold Func.isWrapper;first | (rw [if_pos (by decide +kernel)];kernel_rfl) | (rw [if_neg (by decide +kernel)];exact⟨rfl,rfl⟩))
    (fun os started H enc _=>aCB os started H enc)

theorem fnExactStatesOf_holds:Rows.FnExactStatesOfSaid:=aFF
#print axioms fnExactStatesOf_holds
end Go.Proofs.YtgboekoingacfaaGreat
