/-
  THE ROW OVER 'laws.FnFair', out of its walk and its plain law. Printed by fin3.py.
-/
import Derived.Test.YtabnjpbikjfhoaaGreatXQH
import Derived.Test.YtabnjpbikjfhoaaGreatRows
import Derived.WalkKit
import Derived.ProofKit
import Derived.OpenShut
import Derived.ShutString
import Derived.ChangeOld
import Derived.Below
import Derived.Carry
namespace Go.Proofs.YtabnjpbikjfhoaaGreat
open Go.Gv
open Go.ChangeShapes Go.WideShapes Go.ChangeAt Go.RowKit
open Go.ChangeMaps (open_string shut_string)
set_option linter.unusedVariables false

theorem aQC:RX Tryz.prog 5 UInt8:=aRD Tryz.underlying5
theorem aO2:RX Tryz.prog 22 (List UInt8):=aJU Tryz.underlying22 (by kernel_rfl) (by decide) aQC
theorem aLI:ownKnob Tryz.prog.godebug=none:=by kernel_rfl
theorem aBP:laidOutB Tryz.prog=true:=by kernel_rfl

set_option maxRecDepth 100000 in
theorem aE9(os:Os)(started:os.Started)(H:Type)(enc:TypeId×Value→H) :
    ReturnsInHanded {} Tryz.checked os 6 .any (Rows.fnFairSpec.pre6 enc Tryz.prog Tryz.f6 Rows.fnFairRow.domain false) (Rows.fnFairSpec.post enc Tryz.prog Tryz.f6 false true false false):=by
  refine returnsInHanded_of_change (C:=Tryz.checked) aLI started (by kernel_rfl) Tryz.func6
    (ChangeSpec.witness6 (enc:=enc) (C:=Tryz.checked) false ⟨#[],#[.slice none 0 0],[]⟩ 8 (by kernel_rfl) (by kernel_rfl) (by kernel_rfl) (by kernel_rfl)) ?_
  intro W base args ds gs before hval0 hW hcnd _
  have hval:∀(j:Nat) t v,Tryz.f6.params[j]?=some t→args[j]?=some v→Value.okWide Tryz.prog W .any base t v:=hval0
  have hW':=hW
  obtain⟨p,q,hA0,hV,rfl,hfz,hnd⟩:=hW
  have hA:DataW.TrodAll enc Tryz.prog W 0 (fun _=>true) true Tryz.f6.params.toList args.toList ds p:=hA0
  rw [Tryz.params6] at hA hval
  obtain⟨v0,vs0,d0,ds0,p0,q0,hargs,rfl,rfl,h0,r0⟩:=trodAll_cons hA
  obtain⟨rfl,rfl,rfl⟩:=trodAll_nil r0
  obtain rfl:args=#[v0]:=by cases args;simp_all
  obtain⟨rfl,rfl⟩:=trodVars_none hV
  have HE:∀x∈p0,x.block < W.heap.size:=by obtain⟨m,hm⟩:=h0;exact DataW.trod_lt m _ _ _ hm
  have k0:=h0
  obtain⟨a0,len0,cap0,rfl⟩:=okWide_slice Tryz.underlying22 (hval 0 22 v0 rfl rfl)
  obtain⟨x0,g0,f0⟩:=Trod.opens aO2 h0
  obtain⟨su0,wu0⟩:=I0 g0
  have wv0:Value.slice a0 len0 cap0=Value.slice su0.a x0.length su0.c:=(List.cons.inj wu0).1
  injection wv0 with qa0 qb0 qc0;subst qa0;subst qb0;subst qc0
  clear hA0 hval0
  refine Calls.mono ((VS.r (aGK (κ:=cW W) g0) (aNE f0)).run [_] rfl (aSB W)) fun e W' ⟨v,he,_,hv,hS1⟩=>?_
  have hS:St (cW W) W' [] []:=by obtain⟨⟨R,s1,_⟩,_⟩:=hS1;exact St.weaken s1 (by simp)
  have hv:v=.bool true:=(Option.some.inj hv).symm
  subst he;subst hv
  exact⟨_,rfl,_,_,_,[],_,[],hW',trodAll_mk1 (shut_bool Tryz.underlying4 _),(trodAll_cons_mk (Below.trod aBP (by kernel_rfl) (of_decide_eq_true (by kernel_rfl)) k0 hS.below HE) trodAll_mk0),rfl,hS.below.frame _,fun h=>by cases h⟩

theorem aO3:(laidOutB Tryz.pinned.checked.prog)=true:=by kernel_rfl
theorem aO4:(mapsRowed Tryz.pinned.checked.prog)=true:=by kernel_rfl
theorem aO5:(Rows.fnFairRow.inPlace == Tryz.pinned.checked.prog.inPlace 6)=true:=by kernel_rfl
theorem aLJ:(Rows.fnFairRow.unfollowed == Tryz.pinned.checked.prog.unfollowed 6)=true:=by kernel_rfl
theorem aLK:(Rows.fnFairRow.recurses == Tryz.pinned.checked.prog.recurses 6)=true:=by kernel_rfl
theorem aLL:(Rows.fnFairRow.named == Tryz.pinned.checked.prog.varsNamed 6)=true:=by kernel_rfl
theorem aLM:(Rows.fnFairRow.plainKeys == Tryz.pinned.checked.prog.plainKeys)=true:=by kernel_rfl
theorem aLN:(Tryz.pinned.checked.prog.stopsHeard)=true:=by kernel_rfl
theorem aLO:(Tryz.pinned.checked.prog.mayEnter)=true:=by kernel_rfl
theorem aLP:(Rows.fnFairRow.lifted == Tryz.pinned.checked.prog.liftsFinal)=true:=by kernel_rfl
theorem aLQ:(Tryz.pinned.checked.prog.make == some Rows.fnFairRow.make)=true:=by kernel_rfl
theorem aO6:Tryz.pinned.checked.prog.funcNamed Rows.fnFairRow.func=some 6:=by kernel_rfl
theorem cL{a b:Bool}(h:a=true)(k:b=true):(a && b)=true:=by rw [h,k];rfl
theorem aFA:joinedFacts Tryz.pinned.checked.prog 6 Tryz.f6 Rows.fnFairSpec Rows.fnFairRow=true:=by
  unfold joinedFacts
  exact(cL (cL (cL (cL (cL (cL (cL (cL (cL (cL (cL (cL (cL (cL (cL (cL (cL (cL (cL (cL (cL (cL (cL (cL (cL (cL (cL (cL (cL (cL (cL (by kernel_rfl) aO3) aO4) (by kernel_rfl)) (by kernel_rfl)) (by kernel_rfl)) (by kernel_rfl)) (by kernel_rfl)) (by kernel_rfl)) aO5) aLJ) aLK) aLL) (by kernel_rfl)) (by kernel_rfl)) (by kernel_rfl)) (by kernel_rfl)) (by kernel_rfl)) (by kernel_rfl)) (by kernel_rfl)) (by kernel_rfl)) (by kernel_rfl)) aLM) (by kernel_rfl)) aLN) aLO) aLP) aLQ) (by kernel_rfl)) (by kernel_rfl)) (by kernel_rfl)) (by kernel_rfl))
theorem aJN:Rows.fnFairRow.holds Tryz.pinned (OpenSpec.ofChange Rows.fnFairSpec):=
  OpenClaim.holds_of_wide 6 Tryz.f6 rfl rfl rfl rfl rfl rfl rfl ⟨rfl,rfl,rfl,rfl,rfl⟩ rfl rfl rfl rfl rfl aO6 Tryz.func6 aFA
    (of_decide_eq_true (by kernel_rfl)) (by unfold Func.isWrapper;first | (rw [if_pos (by decide +kernel)];kernel_rfl) | (rw [if_neg (by decide +kernel)];exact⟨rfl,rfl⟩))
    (fun os started H enc _=>aE9 os started H enc)

theorem fnFair_holds:Rows.FnFairSaid:=aJN
#print axioms fnFair_holds
end Go.Proofs.YtabnjpbikjfhoaaGreat
