/-
 THE ROW OVER 'laws.FnNothing',out of its walk and its plain law. Printed by fin3.py.
-/
import Derived.Test.YtkinioiglogchaaGreatXUG
import Derived.Test.YtkinioiglogchaaGreatRows
import Derived.WalkKit
import Derived.ProofKit
import Derived.OpenShut
import Derived.ShutString
import Derived.ChangeOld
import Derived.Below
import Derived.Carry
namespace Go.Proofs.YtkinioiglogchaaGreat
open Go.Gv
open Go.ChangeShapes Go.WideShapes Go.ChangeAt Go.RowKit
open Go.ChangeMaps (open_string shut_string)
set_option linter.unusedVariables false

theorem a5B:Y6 Tryz.prog 5 UInt8:=a56 Tryz.underlying5
theorem a2J:Y6 Tryz.prog 22 (List UInt8):=aTR Tryz.underlying22 (by kernel_rfl) (by decide) a5B
theorem aNZ:ownKnob Tryz.prog.godebug=none:=by kernel_rfl
theorem aB5:laidOutB Tryz.prog=true:=by kernel_rfl

set_option maxRecDepth 100000 in
theorem aEO(os:Os)(started:os.Started)(H:Type)(enc:TypeId×Value->H) :
  ReturnsInHanded {} Tryz.checked os 3 .any (Rows.fnNothingSpec.pre6 enc Tryz.prog Tryz.f3 Rows.fnNothingRow.domain false) (Rows.fnNothingSpec.post enc Tryz.prog Tryz.f3 false true false false):=by
 refine returnsInHanded_of_change (C:=Tryz.checked) aNZ started (by kernel_rfl) Tryz.func3
  (ChangeSpec.witness6 (enc:=enc) (C:=Tryz.checked) false ⟨#[],#[.slice none 0 0],[]⟩ 8 (by kernel_rfl) (by kernel_rfl) (by kernel_rfl) (by kernel_rfl)) ?_
 intro W base args ds gs before hval0 hW hcnd _;have hval:∀(j:Nat) t v,Tryz.f3.params[j]?=some t->args[j]?=some v->Value.okWide Tryz.prog W .any base t v:=hval0;have hW':=hW;obtain⟨p,q,hA0,hV,rfl,hfz,hnd⟩:=hW;have hA:DataW.TrodAll enc Tryz.prog W 0 (λ_=>true) true Tryz.f3.params.toList args.toList ds p:=hA0;rw[Tryz.params3] at hA hval;obtain⟨v0,vs0,d0,ds0,p0,q0,hargs,rfl,rfl,h0,r0⟩:=trodAll_cons hA;obtain⟨rfl,rfl,rfl⟩:=trodAll_nil r0;obtain rfl:args=#[v0]:=by cases args;simp_all
 obtain⟨rfl,rfl⟩:=trodVars_none hV;have lt0:∀x∈p0,x.block<W.heap.size:=by obtain⟨m,hm⟩:=h0;exact DataW.trod_lt m _ _ _ hm
 have k0:=h0;obtain⟨a0,len0,cap0,rfl⟩:=okWide_slice Tryz.underlying22 (hval 0 22 v0 rfl rfl);obtain⟨x0,g0,f0⟩:=Trod.opens a2J h0;obtain⟨su0,wu0⟩:=M0 g0;have wv0:Value.slice a0 len0 cap0=Value.slice su0.a x0.length su0.c:=(List.cons.inj wu0).1;injection wv0 with qa0 qb0 qc0;subst qa0;subst qb0;subst qc0
 clear hA0 hval0;refine Calls.mono ((VS.r (aFS (U:=dQ W) g0) (aPM f0)).run [_] rfl (aRH W)) λe W' ⟨v,he,_,hv,hS1⟩=>?_;have hS:St (dQ W) W' [] []:=by obtain⟨⟨R,s1,_⟩,_⟩:=hS1;exact St.weaken s1 (by simp)
 have hv:v=.bool true:=(Option.some.inj hv).symm;subst he;subst hv;exact⟨_,rfl,_,_,_,[],_,[],hW',trodAll_mk1 (shut_bool Tryz.underlying4 _),(trodAll_cons_mk (Below.trod aB5 (by kernel_rfl) (of_decide_eq_true (by kernel_rfl)) k0 hS.below lt0) trodAll_mk0),rfl,hS.below.frame _,λh=>by cases h⟩

theorem aQ1:(laidOutB Tryz.pinned.checked.prog)=true:=by kernel_rfl
theorem aQ2:(mapsRowed Tryz.pinned.checked.prog)=true:=by kernel_rfl
theorem aQ3:(Rows.fnNothingRow.inPlace == Tryz.pinned.checked.prog.inPlace 3)=true:=by kernel_rfl
theorem aN0:(Rows.fnNothingRow.unfollowed == Tryz.pinned.checked.prog.unfollowed 3)=true:=by kernel_rfl
theorem aN1:(Rows.fnNothingRow.recurses == Tryz.pinned.checked.prog.recurses 3)=true:=by kernel_rfl
theorem aN2:(Rows.fnNothingRow.named == Tryz.pinned.checked.prog.varsNamed 3)=true:=by kernel_rfl
theorem aN3:(Rows.fnNothingRow.plainKeys == Tryz.pinned.checked.prog.plainKeys)=true:=by kernel_rfl
theorem aN4:(Tryz.pinned.checked.prog.stopsHeard)=true:=by kernel_rfl
theorem aN5:(Tryz.pinned.checked.prog.mayEnter)=true:=by kernel_rfl
theorem aN6:(Rows.fnNothingRow.lifted == Tryz.pinned.checked.prog.liftsFinal)=true:=by kernel_rfl
theorem aN7:(Tryz.pinned.checked.prog.make == some Rows.fnNothingRow.make)=true:=by kernel_rfl
theorem aQ4:Tryz.pinned.checked.prog.funcNamed Rows.fnNothingRow.func=some 3:=by kernel_rfl
theorem bQ{a b:Bool}(h:a=true)(k:b=true):(a && b)=true:=by rw[h,k];rfl
theorem aEP:joinedFacts Tryz.pinned.checked.prog 3 Tryz.f3 Rows.fnNothingSpec Rows.fnNothingRow=true:=by unfold joinedFacts;exact(bQ (bQ (bQ (bQ (bQ (bQ (bQ (bQ (bQ (bQ (bQ (bQ (bQ (bQ (bQ (bQ (bQ (bQ (bQ (bQ (bQ (bQ (bQ (bQ (bQ (bQ (bQ (bQ (bQ (bQ (bQ (by kernel_rfl) aQ1) aQ2) (by kernel_rfl)) (by kernel_rfl)) (by kernel_rfl)) (by kernel_rfl)) (by kernel_rfl)) (by kernel_rfl)) aQ3) aN0) aN1) aN2) (by kernel_rfl)) (by kernel_rfl)) (by kernel_rfl)) (by kernel_rfl)) (by kernel_rfl)) (by kernel_rfl)) (by kernel_rfl)) (by kernel_rfl)) (by kernel_rfl)) aN3) (by kernel_rfl)) aN4) aN5) aN6) aN7) (by kernel_rfl)) (by kernel_rfl)) (by kernel_rfl)) (by kernel_rfl))
theorem aJX:Rows.fnNothingRow.holds Tryz.pinned (OpenSpec.ofChange Rows.fnNothingSpec):=
 OpenClaim.holds_of_wide 3 Tryz.f3 rfl rfl rfl rfl rfl rfl rfl ⟨rfl,rfl,rfl,rfl,rfl⟩ rfl rfl rfl rfl rfl aQ4 Tryz.func3 aEP
  (of_decide_eq_true (by kernel_rfl)) (by unfold Func.isWrapper;first|(rw[if_pos (by decide +kernel)];kernel_rfl)|(rw[if_neg (by decide +kernel)];exact⟨rfl,rfl⟩))
  (λos started H enc _=>aEO os started H enc)

theorem fnNothing_holds:Rows.FnNothingSaid:=aJX
#print axioms fnNothing_holds
end Go.Proofs.YtkinioiglogchaaGreat
