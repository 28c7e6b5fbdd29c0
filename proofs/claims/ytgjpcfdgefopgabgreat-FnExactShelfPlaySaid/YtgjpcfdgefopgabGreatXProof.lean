/-
  THE ROW OVER 'laws.FnExactShelfPlay', out of its walk and its plain law. Printed by fin3.py.
-/
import Derived.Test.YtgjpcfdgefopgabGreatXLG
import Derived.Test.YtgjpcfdgefopgabGreatRows
import Derived.WalkKit
import Derived.ProofKit
import Derived.OpenShut
import Derived.ShutString
import Derived.ChangeOld
import Derived.Below
import Derived.Carry
namespace Go.Proofs.YtgjpcfdgefopgabGreat
open Go.Gv
open Go.ChangeShapes Go.WideShapes Go.ChangeAt Go.RowKit
open Go.ChangeMaps (open_string shut_string)
set_option linter.unusedVariables false

theorem NN:pV Tryz.prog 3 Int:=aIZ Tryz.underlying3
theorem aJ2:pV Tryz.prog 23 (List Int):=LX Tryz.underlying23 (by kernel_rfl) (by decide) NN
theorem aHF:pV Tryz.prog 166 cX:=JK Tryz.underlying166 (by kernel_rfl) (of_cons (k:=1) NN rfl (by kernel_rfl) (of_cons (k:=1) NN rfl (by kernel_rfl) (of_cons (k:=1) NN rfl (by kernel_rfl) (aGA (k:=1) NN rfl (by kernel_rfl) rfl)))) (fun d=>(d.Kind,d.Cell,d.dT,d.dV)) (fun p=>⟨⟨p.1,p.2.1,p.2.2.1,p.2.2.2⟩,rfl⟩) (fun h=>h) (fun h=>h)
theorem aJ3:pV Tryz.prog 73 (List cX):=LX Tryz.underlying73 (by kernel_rfl) (by decide) aHF
theorem aJ4:pV Tryz.prog 75 Queue:=JK Tryz.underlying75 (by kernel_rfl) (aGA (k:=1) aJ3 rfl (by kernel_rfl) rfl) (fun d=>(d.fK)) (fun p=>⟨⟨p⟩,rfl⟩) (fun h=>h) (fun h=>h)
theorem aJ5:pV Tryz.prog 22 (List Queue):=LX Tryz.underlying22 (by kernel_rfl) (by decide) aJ4
theorem aJ6:pV Tryz.prog 25 fD:=JK Tryz.underlying25 (by kernel_rfl) (of_cons (k:=1) aJ5 rfl (by kernel_rfl) (aGA (k:=1) aJ2 rfl (by kernel_rfl) rfl)) (fun d=>(d.aY,d.cT)) (fun p=>⟨⟨p.1,p.2⟩,rfl⟩) (fun h=>h) (fun h=>h)
theorem NO:ownKnob Tryz.prog.godebug=none:=by kernel_rfl
theorem HU:laidOutB Tryz.prog=true:=by kernel_rfl

set_option maxRecDepth 100000 in
theorem JG(os:Os)(started:os.Started)(H:Type)(enc:TypeId×Value→H) :
    ReturnsInHanded {} Tryz.checked os 3 .any (Rows.fnExactShelfPlaySpec.pre6 enc Tryz.prog Tryz.f3 Rows.fnExactShelfPlayRow.domain false) (Rows.fnExactShelfPlaySpec.post enc Tryz.prog Tryz.f3 false true false false):=by
  refine returnsInHanded_of_change (C:=Tryz.checked) NO started (by kernel_rfl) Tryz.func3
    (ChangeSpec.witness6 (enc:=enc) (C:=Tryz.checked) false ⟨#[],#[.agg #[.slice none 0 0,.slice none 0 0]],[]⟩ 8 (by kernel_rfl) (by kernel_rfl) (by kernel_rfl) (by kernel_rfl)) ?_
  intro W base args ds gs before hval0 hW hcnd _
  have hval:∀(j:Nat) t v,Tryz.f3.params[j]?=some t→args[j]?=some v→Value.okWide Tryz.prog W .any base t v:=hval0
  have hW':=hW
  obtain⟨p,q,hA0,hV,rfl,hfz,hnd⟩:=hW
  have hA:DataW.TrodAll enc Tryz.prog W 0 (fun _=>true) true Tryz.f3.params.toList args.toList ds p:=hA0
  rw [Tryz.params3] at hA hval
  obtain⟨v0,vs0,d0,ds0,p0,q0,hargs,rfl,rfl,h0,r0⟩:=trodAll_cons hA
  obtain⟨rfl,rfl,rfl⟩:=trodAll_nil r0
  obtain rfl:args=#[v0]:=by cases args;simp_all
  obtain⟨rfl,rfl⟩:=trodVars_none hV
  have lt0:∀x∈p0,x.block < W.heap.size:=by obtain⟨m,hm⟩:=h0;exact DataW.trod_lt m _ _ _ hm
  have k0:=h0
  obtain⟨cs0,rfl,hsz0⟩:=okWide_struct Tryz.underlying25 (hval 0 25 v0 rfl rfl)
  obtain⟨x0,g0,f0⟩:=Trod.opens aJ6 h0
  obtain⟨l0⟩:=cs0
  obtain⟨u0_0,u0_1,e0,hu0_0,hu0_1⟩:=aJC g0
  obtain⟨su0_0,wu0_0⟩:=aEQ hu0_0
  injection wu0_0 with wu0_0 _;subst wu0_0
  obtain⟨su0_1,wu0_1⟩:=aEQ hu0_1
  injection wu0_1 with wu0_1 _;subst wu0_1
  have e0':l0=[_,_]:=e0
  subst e0'
  clear hA0 hval0
  refine Calls.mono ((VS.r (I5 (κ:=cG W) hu0_0 hu0_1) (NM f0)).run [_] rfl (aPF W)) fun e W' ⟨v,he,_,hv,hS1⟩=>?_
  have hS:St (cG W) W' [] []:=by obtain⟨⟨R,s1,_⟩,_⟩:=hS1;exact St.weaken s1 (by simp)
  have hv:v=.bool true:=(Option.some.inj hv).symm
  subst he;subst hv
  exact⟨_,rfl,_,_,_,[],_,[],hW',trodAll_mk1 (shut_bool Tryz.underlying4 _),(trodAll_cons_mk (Below.trod HU (by kernel_rfl) (of_decide_eq_true (by kernel_rfl)) k0 hS.below lt0) trodAll_mk0),rfl,hS.below.frame _,fun h=>by cases h⟩

theorem LO:Rows.fnExactShelfPlayRow.holds Tryz.pinned (OpenSpec.ofChange Rows.fnExactShelfPlaySpec):=
  OpenClaim.holds_of_wide 3 Tryz.f3 rfl rfl rfl rfl rfl rfl rfl ⟨rfl,rfl,rfl,rfl,rfl⟩ rfl rfl rfl rfl rfl (by kernel_rfl) Tryz.func3 (by kernel_rfl)
    (of_decide_eq_true (by kernel_rfl)) (by unfold Func.isWrapper;first | (rw [if_pos (by decide +kernel)];kernel_rfl) | (rw [if_neg (by decide +kernel)];exact⟨rfl,rfl⟩))
    (fun os started H enc _=>JG os started H enc)

theorem fnExactShelfPlay_holds:Rows.FnExactShelfPlaySaid:=LO
#print axioms fnExactShelfPlay_holds
end Go.Proofs.YtgjpcfdgefopgabGreat
