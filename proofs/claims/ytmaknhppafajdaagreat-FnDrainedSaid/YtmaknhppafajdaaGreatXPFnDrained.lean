/-
 THE ROW OVER 'laws.FnDrained', out of its walk and its plain law. Printed by fin3.py.
-/
import Derived.Test.YtmaknhppafajdaaGreatXNH
import Derived.Test.YtmaknhppafajdaaGreatRows
import Derived.WalkKit
import Derived.ProofKit
import Derived.OpenShut
import Derived.ShutString
import Derived.ChangeOld
import Derived.Below
import Derived.Carry
namespace Go.Proofs.YtmaknhppafajdaaGreat
open Go.Gv
open Go.ChangeShapes Go.WideShapes Go.ChangeAt Go.RowKit
open Go.ChangeMaps (open_string shut_string)
set_option linter.unusedVariables false

theorem aUR:R5 Tryz.prog 5 UInt8:=aRD Tryz.underlying5
theorem aP6:R5 Tryz.prog 22 (List UInt8):=aI7 Tryz.underlying22 (by kernel_rfl) (by decide) aUR
theorem aFZ:ownKnob Tryz.prog.godebug=none:=by kernel_rfl
theorem WN:laidOutB Tryz.prog=true:=by kernel_rfl

set_option maxRecDepth 100000 in
theorem X7(os:Os)(started:os.Started)(H:Type)(enc:TypeId×Value->H) :
  ReturnsInHanded {} Tryz.checked os 8 .any (Rows.fnDrainedSpec.pre6 enc Tryz.prog Tryz.f8 Rows.fnDrainedRow.domain false) (Rows.fnDrainedSpec.post enc Tryz.prog Tryz.f8 false true false false):=by
 refine returnsInHanded_of_change (C:=Tryz.checked) aFZ started (by kernel_rfl) Tryz.func8
  (ChangeSpec.witness6 (enc:=enc) (C:=Tryz.checked) false ⟨#[],#[.slice none 0 0],[]⟩ 8 (by kernel_rfl) (by kernel_rfl) (by kernel_rfl) (by kernel_rfl)) ?_
 intro W base args ds gs before hval0 hW hcnd _
 have hval:∀(j:Nat) t v,Tryz.f8.params[j]?=some t->args[j]?=some v->Value.okWide Tryz.prog W .any base t v:=hval0
 have hW':=hW
 obtain⟨p,q,hA0,hV,rfl,hfz,hnd⟩:=hW
 have hA:DataW.TrodAll enc Tryz.prog W 0 (fun _=>true) true Tryz.f8.params.toList args.toList ds p:=hA0
 rw [Tryz.params8] at hA hval
 obtain⟨v0,vs0,d0,ds0,p0,q0,hargs,rfl,rfl,h0,r0⟩:=trodAll_cons hA
 obtain⟨rfl,rfl,rfl⟩:=trodAll_nil r0
 obtain rfl:args=#[v0]:=by cases args;simp_all
 obtain⟨rfl,rfl⟩:=trodVars_none hV
 have lt0:∀x∈p0,x.block < W.heap.size:=by obtain⟨m,hm⟩:=h0;exact DataW.trod_lt m _ _ _ hm
 have k0:=h0
 obtain⟨a0,len0,cap0,rfl⟩:=okWide_slice Tryz.underlying22 (hval 0 22 v0 rfl rfl)
 obtain⟨x0,g0,f0⟩:=Trod.opens aP6 h0
 obtain⟨su0,wu0⟩:=aNN g0
 have wv0:Value.slice a0 len0 cap0=Value.slice su0.a x0.length su0.c:=(List.cons.inj wu0).1
 injection wv0 with qa0 qb0 qc0;subst qa0;subst qb0;subst qc0
 clear hA0 hval0
 refine Calls.mono ((VS.r (XQ (κ:=dA W) g0) (aFY f0)).run [_] rfl (aSB W)) fun e W' ⟨v,he,_,hv,hS1⟩=>?_
 have hS:St (dA W) W' [] []:=by obtain⟨⟨R,s1,_⟩,_⟩:=hS1;exact St.weaken s1 (by simp)
 have hv:v=.bool true:=(Option.some.inj hv).symm
 subst he;subst hv
 exact⟨_,rfl,_,_,_,[],_,[],hW',trodAll_mk1 (shut_bool Tryz.underlying4 _),(trodAll_cons_mk (Below.trod WN (by kernel_rfl) (of_decide_eq_true (by kernel_rfl)) k0 hS.below lt0) trodAll_mk0),rfl,hS.below.frame _,fun h=>by cases h⟩

theorem aIW:(laidOutB Tryz.pinned.checked.prog)=true:=by kernel_rfl
theorem aIX:(mapsRowed Tryz.pinned.checked.prog)=true:=by kernel_rfl
theorem aIY:(Rows.fnDrainedRow.inPlace == Tryz.pinned.checked.prog.inPlace 8)=true:=by kernel_rfl
theorem aF0:(Rows.fnDrainedRow.unfollowed == Tryz.pinned.checked.prog.unfollowed 8)=true:=by kernel_rfl
theorem aF1:(Rows.fnDrainedRow.recurses == Tryz.pinned.checked.prog.recurses 8)=true:=by kernel_rfl
theorem aF2:(Rows.fnDrainedRow.named == Tryz.pinned.checked.prog.varsNamed 8)=true:=by kernel_rfl
theorem aF3:(Rows.fnDrainedRow.plainKeys == Tryz.pinned.checked.prog.plainKeys)=true:=by kernel_rfl
theorem aF4:(Tryz.pinned.checked.prog.stopsHeard)=true:=by kernel_rfl
theorem aF5:(Tryz.pinned.checked.prog.mayEnter)=true:=by kernel_rfl
theorem aF6:(Rows.fnDrainedRow.lifted == Tryz.pinned.checked.prog.liftsFinal)=true:=by kernel_rfl
theorem aF7:(Tryz.pinned.checked.prog.make == some Rows.fnDrainedRow.make)=true:=by kernel_rfl
theorem aIZ:Tryz.pinned.checked.prog.funcNamed Rows.fnDrainedRow.func=some 8:=by kernel_rfl
theorem bP{a b:Bool}(h:a=true)(k:b=true):(a && b)=true:=by rw [h,k];rfl
theorem X8:joinedFacts Tryz.pinned.checked.prog 8 Tryz.f8 Rows.fnDrainedSpec Rows.fnDrainedRow=true:=by
 unfold joinedFacts
 exact(bP (bP (bP (bP (bP (bP (bP (bP (bP (bP (bP (bP (bP (bP (bP (bP (bP (bP (bP (bP (bP (bP (bP (bP (bP (bP (bP (bP (bP (bP (bP (by kernel_rfl) aIW) aIX) (by kernel_rfl)) (by kernel_rfl)) (by kernel_rfl)) (by kernel_rfl)) (by kernel_rfl)) (by kernel_rfl)) aIY) aF0) aF1) aF2) (by kernel_rfl)) (by kernel_rfl)) (by kernel_rfl)) (by kernel_rfl)) (by kernel_rfl)) (by kernel_rfl)) (by kernel_rfl)) (by kernel_rfl)) (by kernel_rfl)) aF3) (by kernel_rfl)) aF4) aF5) aF6) aF7) (by kernel_rfl)) (by kernel_rfl)) (by kernel_rfl)) (by kernel_rfl))
theorem aEG:Rows.fnDrainedRow.holds Tryz.pinned (OpenSpec.ofChange Rows.fnDrainedSpec):=
 OpenClaim.holds_of_wide 8 Tryz.f8 rfl rfl rfl rfl rfl rfl rfl ⟨rfl,rfl,rfl,rfl,rfl⟩ rfl rfl rfl rfl rfl aIZ Tryz.func8 X8
  (of_decide_eq_true (by kernel_rfl)) (by unfold Func.isWrapper;first | (rw [if_pos (by decide +kernel)];kernel_rfl) | (rw [if_neg (by decide +kernel)];exact⟨rfl,rfl⟩))
  (fun os started H enc _=>X7 os started H enc)

theorem fnDrained_holds:Rows.FnDrainedSaid:=aEG
#print axioms fnDrained_holds
end Go.Proofs.YtmaknhppafajdaaGreat
