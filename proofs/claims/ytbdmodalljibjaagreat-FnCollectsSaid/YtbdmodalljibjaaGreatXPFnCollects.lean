/-
  THE ROW OVER 'laws.FnCollects', out of its walk and its plain law. Printed by fin3.py.
-/
import Derived.Test.YtbdmodalljibjaaGreatXQF
import Derived.Test.YtbdmodalljibjaaGreatRows
import Derived.WalkKit
import Derived.ProofKit
import Derived.OpenShut
import Derived.ShutString
import Derived.ChangeOld
import Derived.Below
import Derived.Carry
namespace Go.Proofs.YtbdmodalljibjaaGreat
open Go.Gv
open Go.ChangeShapes Go.WideShapes Go.ChangeAt Go.RowKit
open Go.ChangeMaps (open_string shut_string)
set_option linter.unusedVariables false

theorem aE4:JQ Tryz.prog 5 UInt8:=aF5 Tryz.underlying5
theorem aDU:JQ Tryz.prog 64 (List UInt8):=ZF Tryz.underlying64 (by kernel_rfl) (by decide) aE4
theorem RJ:ownKnob Tryz.prog.godebug=none:=by kernel_rfl
theorem LD:laidOutB Tryz.prog=true:=by kernel_rfl

set_option maxRecDepth 100000 in
theorem L8(os:Os)(started:os.Started)(H:Type)(enc:TypeId×Value→H) :
    ReturnsInHanded {} Tryz.checked os 8 .any (Rows.fnCollectsSpec.pre6 enc Tryz.prog Tryz.f8 Rows.fnCollectsRow.domain false) (Rows.fnCollectsSpec.post enc Tryz.prog Tryz.f8 false true false false):=by
  refine returnsInHanded_of_change (C:=Tryz.checked) RJ started (by kernel_rfl) Tryz.func8
    (ChangeSpec.witness6 (enc:=enc) (C:=Tryz.checked) false ⟨#[],#[.slice none 0 0],[]⟩ 8 (by kernel_rfl) (by kernel_rfl) (by kernel_rfl) (by kernel_rfl)) ?_
  intro W base args ds gs before hval0 hW hcnd _
  have hval:∀(j:Nat) t v,Tryz.f8.params[j]?=some t→args[j]?=some v→Value.okWide Tryz.prog W .any base t v:=hval0
  have hW':=hW
  obtain⟨p,q,hA0,hV,rfl,hfz,hnd⟩:=hW
  have hA:DataW.TrodAll enc Tryz.prog W 0 (fun _=>true) true Tryz.f8.params.toList args.toList ds p:=hA0
  rw [Tryz.params8] at hA hval
  obtain⟨v0,vs0,d0,ds0,p0,q0,hargs,rfl,rfl,h0,r0⟩:=trodAll_cons hA
  obtain⟨rfl,rfl,rfl⟩:=trodAll_nil r0
  obtain rfl:args=#[v0]:=by cases args;simp_all
  obtain⟨rfl,rfl⟩:=trodVars_none hV
  have X7:∀x∈p0,x.block < W.heap.size:=by obtain⟨m,hm⟩:=h0;exact DataW.trod_lt m _ _ _ hm
  have k0:=h0
  obtain⟨a0,len0,cap0,rfl⟩:=okWide_slice Tryz.underlying64 (hval 0 64 v0 rfl rfl)
  obtain⟨x0,g0,f0⟩:=Trod.opens aDU h0
  obtain⟨su0,wu0⟩:=aG4 g0
  have wv0:Value.slice a0 len0 cap0=Value.slice su0.a x0.length su0.c:=(List.cons.inj wu0).1
  injection wv0 with qa0 qb0 qc0;subst qa0;subst qb0;subst qc0
  clear hA0 hval0
  refine Calls.mono ((VS.r (NC (κ:=b9 W) g0) (U0 f0)).run [_] rfl (aG1 W)) fun e W' ⟨v,he,_,hv,hS1⟩=>?_
  have hS:St (b9 W) W' [] []:=by obtain⟨⟨R,s1,_⟩,_⟩:=hS1;exact St.weaken s1 (by simp)
  have hv:v=.bool true:=(Option.some.inj hv).symm
  subst he;subst hv
  exact⟨_,rfl,_,_,_,[],_,[],hW',trodAll_mk1 (shut_bool Tryz.underlying4 _),(trodAll_cons_mk (Below.trod LD (by kernel_rfl) (of_decide_eq_true (by kernel_rfl)) k0 hS.below X7) trodAll_mk0),rfl,hS.below.frame _,fun h=>by cases h⟩

theorem U3:(laidOutB Tryz.pinned.checked.prog)=true:=by kernel_rfl
theorem U4:(mapsRowed Tryz.pinned.checked.prog)=true:=by kernel_rfl
theorem U5:(Rows.fnCollectsRow.inPlace == Tryz.pinned.checked.prog.inPlace 8)=true:=by kernel_rfl
theorem RK:(Rows.fnCollectsRow.unfollowed == Tryz.pinned.checked.prog.unfollowed 8)=true:=by kernel_rfl
theorem RL:(Rows.fnCollectsRow.recurses == Tryz.pinned.checked.prog.recurses 8)=true:=by kernel_rfl
theorem RM:(Rows.fnCollectsRow.named == Tryz.pinned.checked.prog.varsNamed 8)=true:=by kernel_rfl
theorem RN:(Rows.fnCollectsRow.plainKeys == Tryz.pinned.checked.prog.plainKeys)=true:=by kernel_rfl
theorem RO:(Tryz.pinned.checked.prog.stopsHeard)=true:=by kernel_rfl
theorem RP:(Tryz.pinned.checked.prog.mayEnter)=true:=by kernel_rfl
theorem RQ:(Rows.fnCollectsRow.lifted == Tryz.pinned.checked.prog.liftsFinal)=true:=by kernel_rfl
theorem RR:(Tryz.pinned.checked.prog.make == some Rows.fnCollectsRow.make)=true:=by kernel_rfl
theorem U6:Tryz.pinned.checked.prog.funcNamed Rows.fnCollectsRow.func=some 8:=by kernel_rfl
theorem aY{a b:Bool}(h:a=true)(k:b=true):(a && b)=true:=by rw [h,k];rfl
theorem L9:joinedFacts Tryz.pinned.checked.prog 8 Tryz.f8 Rows.fnCollectsSpec Rows.fnCollectsRow=true:=by
  unfold joinedFacts
  exact(aY (aY (aY (aY (aY (aY (aY (aY (aY (aY (aY (aY (aY (aY (aY (aY (aY (aY (aY (aY (aY (aY (aY (aY (aY (aY (aY (aY (aY (aY (aY (by kernel_rfl) U3) U4) (by kernel_rfl)) (by kernel_rfl)) (by kernel_rfl)) (by kernel_rfl)) (by kernel_rfl)) (by kernel_rfl)) U5) RK) RL) RM) (by kernel_rfl)) (by kernel_rfl)) (by kernel_rfl)) (by kernel_rfl)) (by kernel_rfl)) (by kernel_rfl)) (by kernel_rfl)) (by kernel_rfl)) (by kernel_rfl)) RN) (by kernel_rfl)) RO) RP) RQ) RR) (by kernel_rfl)) (by kernel_rfl)) (by kernel_rfl)) (by kernel_rfl))
theorem O8:Rows.fnCollectsRow.holds Tryz.pinned (OpenSpec.ofChange Rows.fnCollectsSpec):=
  OpenClaim.holds_of_wide 8 Tryz.f8 rfl rfl rfl rfl rfl rfl rfl ⟨rfl,rfl,rfl,rfl,rfl⟩ rfl rfl rfl rfl rfl U6 Tryz.func8 L9
    (of_decide_eq_true (by kernel_rfl)) (by unfold Func.isWrapper;first | (rw [if_pos (by decide +kernel)];kernel_rfl) | (rw [if_neg (by decide +kernel)];exact⟨rfl,rfl⟩))
    (fun os started H enc _=>L8 os started H enc)

theorem fnCollects_holds:Rows.FnCollectsSaid:=O8
#print axioms fnCollects_holds
end Go.Proofs.YtbdmodalljibjaaGreat
