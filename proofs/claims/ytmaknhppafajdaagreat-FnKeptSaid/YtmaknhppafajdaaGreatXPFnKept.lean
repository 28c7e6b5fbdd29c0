/-
  THE ROW OVER 'laws.FnKept', out of its walk and its plain law. Printed by fin3.py.
-/
import Derived.Test.YtmaknhppafajdaaGreatXMH
import Derived.Test.YtmaknhppafajdaaGreatRows
import Derived.WalkKit
import Derived.ProofKit
import Derived.OpenShut
import Derived.ShutString
import Derived.ChangeOld
import Derived.Below
import Derived.Carry
namespace Go.Proofs.YtmaknhppafajdaaGreat
open Go.Gv
open Go.ChangeShapes Go.WideShapes Go.ChangeAt Go.RowKit
open Go.ChangeMaps (open_string shut_string)
set_option linter.unusedVariables false

theorem aR5:PY Tryz.prog 5 UInt8:=aO9 Tryz.underlying5
theorem aNX:PY Tryz.prog 22 (List UInt8):=aG5 Tryz.underlying22 (by kernel_rfl) (by decide) aR5
theorem aKN:ownKnob Tryz.prog.godebug=none:=by kernel_rfl
theorem aCT:laidOutB Tryz.prog=true:=by kernel_rfl

set_option maxRecDepth 100000 in
theorem aD3(os:Os)(started:os.Started)(H:Type)(enc:TypeId×Value→H) :
    ReturnsInHanded {} Tryz.checked os 6 .any (Rows.fnKeptSpec.pre6 enc Tryz.prog Tryz.f6 Rows.fnKeptRow.domain false) (Rows.fnKeptSpec.post enc Tryz.prog Tryz.f6 false true false false):=by
  refine returnsInHanded_of_change (C:=Tryz.checked) aKN started (by kernel_rfl) Tryz.func6
    (ChangeSpec.witness6 (enc:=enc) (C:=Tryz.checked) false ⟨#[],#[.slice none 0 0],[]⟩ 8 (by kernel_rfl) (by kernel_rfl) (by kernel_rfl) (by kernel_rfl)) ?_
  intro W base args ds gs before hval0 hW hcnd _
  have hval:∀(j:Nat) t v,Tryz.f6.params[j]?=some t→args[j]?=some v→Value.okWide Tryz.prog W .any base t v:=hval0
  have hW':=hW
  obtain⟨p,q,hA0,hV,rfl,hfz,hnd⟩:=hW
  have hA:DataW.TrodAll enc Tryz.prog W 0 (fun _=>true) true Tryz.f6.params.toList args.toList ds p:=hA0
  rw [Tryz.params6] at hA hval
  obtain⟨v0,vs0,d0,ds0,p0,q0,hargs,rfl,rfl,h0,r0⟩:=trodAll_cons hA
  obtain⟨rfl,rfl,rfl⟩:=trodAll_nil r0
  obtain rfl:args=#[v0]:=by cases args;simp_all
  obtain⟨rfl,rfl⟩:=trodVars_none hV
  have YZ:∀x∈p0,x.block < W.heap.size:=by obtain⟨m,hm⟩:=h0;exact DataW.trod_lt m _ _ _ hm
  have k0:=h0
  obtain⟨a0,len0,cap0,rfl⟩:=okWide_slice Tryz.underlying22 (hval 0 22 v0 rfl rfl)
  obtain⟨x0,g0,f0⟩:=Trod.opens aNX h0
  obtain⟨su0,wu0⟩:=aP6 g0
  have wv0:Value.slice a0 len0 cap0=Value.slice su0.a x0.length su0.c:=(List.cons.inj wu0).1
  injection wv0 with qa0 qb0 qc0;subst qa0;subst qb0;subst qc0
  clear hA0 hval0
  refine Calls.mono ((VS.r (aDW (κ:=cG W) g0) (aKM f0)).run [_] rfl (aP3 W)) fun e W' ⟨v,he,_,hv,hS1⟩=>?_
  have hS:St (cG W) W' [] []:=by obtain⟨⟨R,s1,_⟩,_⟩:=hS1;exact St.weaken s1 (by simp)
  have hv:v=.bool true:=(Option.some.inj hv).symm
  subst he;subst hv
  exact⟨_,rfl,_,_,_,[],_,[],hW',trodAll_mk1 (shut_bool Tryz.underlying4 _),(trodAll_cons_mk (Below.trod aCT (by kernel_rfl) (of_decide_eq_true (by kernel_rfl)) k0 hS.below YZ) trodAll_mk0),rfl,hS.below.frame _,fun h=>by cases h⟩

theorem aNY:(laidOutB Tryz.pinned.checked.prog)=true:=by kernel_rfl
theorem aNZ:(mapsRowed Tryz.pinned.checked.prog)=true:=by kernel_rfl
theorem aN0:(Rows.fnKeptRow.inPlace == Tryz.pinned.checked.prog.inPlace 6)=true:=by kernel_rfl
theorem aKO:(Rows.fnKeptRow.unfollowed == Tryz.pinned.checked.prog.unfollowed 6)=true:=by kernel_rfl
theorem aKP:(Rows.fnKeptRow.recurses == Tryz.pinned.checked.prog.recurses 6)=true:=by kernel_rfl
theorem aKQ:(Rows.fnKeptRow.named == Tryz.pinned.checked.prog.varsNamed 6)=true:=by kernel_rfl
theorem aKR:(Rows.fnKeptRow.plainKeys == Tryz.pinned.checked.prog.plainKeys)=true:=by kernel_rfl
theorem aKS:(Tryz.pinned.checked.prog.stopsHeard)=true:=by kernel_rfl
theorem aKT:(Tryz.pinned.checked.prog.mayEnter)=true:=by kernel_rfl
theorem aKU:(Rows.fnKeptRow.lifted == Tryz.pinned.checked.prog.liftsFinal)=true:=by kernel_rfl
theorem aKV:(Tryz.pinned.checked.prog.make == some Rows.fnKeptRow.make)=true:=by kernel_rfl
theorem aN1:Tryz.pinned.checked.prog.funcNamed Rows.fnKeptRow.func=some 6:=by kernel_rfl
theorem b9{a b:Bool}(h:a=true)(k:b=true):(a && b)=true:=by rw [h,k];rfl
theorem aD4:joinedFacts Tryz.pinned.checked.prog 6 Tryz.f6 Rows.fnKeptSpec Rows.fnKeptRow=true:=by
  unfold joinedFacts
  exact(b9 (b9 (b9 (b9 (b9 (b9 (b9 (b9 (b9 (b9 (b9 (b9 (b9 (b9 (b9 (b9 (b9 (b9 (b9 (b9 (b9 (b9 (b9 (b9 (b9 (b9 (b9 (b9 (b9 (b9 (b9 (by kernel_rfl) aNY) aNZ) (by kernel_rfl)) (by kernel_rfl)) (by kernel_rfl)) (by kernel_rfl)) (by kernel_rfl)) (by kernel_rfl)) aN0) aKO) aKP) aKQ) (by kernel_rfl)) (by kernel_rfl)) (by kernel_rfl)) (by kernel_rfl)) (by kernel_rfl)) (by kernel_rfl)) (by kernel_rfl)) (by kernel_rfl)) (by kernel_rfl)) aKR) (by kernel_rfl)) aKS) aKT) aKU) aKV) (by kernel_rfl)) (by kernel_rfl)) (by kernel_rfl)) (by kernel_rfl))
theorem aIT:Rows.fnKeptRow.holds Tryz.pinned (OpenSpec.ofChange Rows.fnKeptSpec):=
  OpenClaim.holds_of_wide 6 Tryz.f6 rfl rfl rfl rfl rfl rfl rfl ⟨rfl,rfl,rfl,rfl,rfl⟩ rfl rfl rfl rfl rfl aN1 Tryz.func6 aD4
    (of_decide_eq_true (by kernel_rfl)) (by unfold Func.isWrapper;first | (rw [if_pos (by decide +kernel)];kernel_rfl) | (rw [if_neg (by decide +kernel)];exact⟨rfl,rfl⟩))
    (fun os started H enc _=>aD3 os started H enc)

theorem fnKept_holds:Rows.FnKeptSaid:=aIT
#print axioms fnKept_holds
end Go.Proofs.YtmaknhppafajdaaGreat
