/-
 THE ROW OVER 'laws.FnExactTablePlay',out of its walk and its plain law. Printed by fin3.py.
-/
import Derived.Test.YtonkeoekmfkaoaaGreatXUH
import Derived.Test.YtonkeoekmfkaoaaGreatRows
import Derived.WalkKit
import Derived.ProofKit
import Derived.OpenShut
import Derived.ShutString
import Derived.ChangeOld
import Derived.Below
import Derived.Carry
namespace Go.Proofs.YtonkeoekmfkaoaaGreat
open Go.Gv
open Go.ChangeShapes Go.WideShapes Go.ChangeAt Go.RowKit
open Go.ChangeMaps (open_string shut_string)
set_option linter.unusedVariables false

theorem aFU:oS Tryz.prog 3 Int:=a6W Tryz.underlying3
theorem a6G:oS Tryz.prog 23 (List Int):=R1 Tryz.underlying23 (by kernel_rfl) (by decide) aFU
theorem a1L:oS Tryz.prog 350 iF:=N0 Tryz.underlying350 (by kernel_rfl) (of_cons (k:=1) aFU rfl (by kernel_rfl) (of_cons (k:=1) aFU rfl (by kernel_rfl) (aWL (k:=1) aFU rfl (by kernel_rfl) rfl))) (λd=>(d.Kind,d.Key,d.eO)) (λp=>⟨⟨p.1,p.2.1,p.2.2⟩,rfl⟩) (λh=>h) (λh=>h)
theorem a1M:oS Tryz.prog 265 (List iF):=R1 Tryz.underlying265 (by kernel_rfl) (by decide) a1L
theorem a8V:oS Tryz.prog 4 Bool:=a1W Tryz.underlying4
theorem a1N:oS Tryz.prog 267 Batch:=N0 Tryz.underlying267 (by kernel_rfl) (of_cons (k:=1) a8V rfl (by kernel_rfl) (aWL (k:=1) a1M rfl (by kernel_rfl) rfl)) (λd=>(d.Collect,d.bD)) (λp=>⟨⟨p.1,p.2⟩,rfl⟩) (λh=>h) (λh=>h)
theorem a1O:oS Tryz.prog 110 (List Batch):=R1 Tryz.underlying110 (by kernel_rfl) (by decide) a1N
theorem a1P:oS Tryz.prog 112 aO:=N0 Tryz.underlying112 (by kernel_rfl) (aWL (k:=1) a1O rfl (by kernel_rfl) rfl) (λd=>(d.List)) (λp=>⟨⟨p⟩,rfl⟩) (λh=>h) (λh=>h)
theorem a6H:oS Tryz.prog 22 (List aO):=R1 Tryz.underlying22 (by kernel_rfl) (by decide) a1P
theorem a6I:oS Tryz.prog 25 eQ:=N0 Tryz.underlying25 (by kernel_rfl) (of_cons (k:=1) a6H rfl (by kernel_rfl) (aWL (k:=1) a6G rfl (by kernel_rfl) rfl)) (λd=>(d.bJ,d.dC)) (λp=>⟨⟨p.1,p.2⟩,rfl⟩) (λh=>h) (λh=>h)
theorem aAO:ownKnob Tryz.prog.godebug=none:=by kernel_rfl
theorem T9:laidOutB Tryz.prog=true:=by kernel_rfl

set_option maxRecDepth 100000 in
theorem VE(os:Os)(started:os.Started)(H:Type)(enc:TypeId×Value->H) :
  ReturnsInHanded {} Tryz.checked os 5 .any (Rows.fnExactTablePlaySpec.pre6 enc Tryz.prog Tryz.f5 Rows.fnExactTablePlayRow.domain false) (Rows.fnExactTablePlaySpec.post enc Tryz.prog Tryz.f5 false true false false):=by
 refine returnsInHanded_of_change (C:=Tryz.checked) aAO started (by kernel_rfl) Tryz.func5
  (ChangeSpec.witness6 (enc:=enc) (C:=Tryz.checked) false ⟨#[],#[.agg #[.slice none 0 0,.slice none 0 0]],[]⟩ 8 (by kernel_rfl) (by kernel_rfl) (by kernel_rfl) (by kernel_rfl)) ?_
 intro W base args ds gs before hval0 hW hcnd _;have hval:∀(j:Nat) t v,Tryz.f5.params[j]?=some t->args[j]?=some v->Value.okWide Tryz.prog W .any base t v:=hval0;have hW':=hW;obtain⟨p,q,hA0,hV,rfl,hfz,hnd⟩:=hW;have hA:DataW.TrodAll enc Tryz.prog W 0 (λ_=>true) true Tryz.f5.params.toList args.toList ds p:=hA0;rw[Tryz.params5] at hA hval;obtain⟨v0,vs0,d0,ds0,p0,q0,hargs,rfl,rfl,h0,r0⟩:=trodAll_cons hA;obtain⟨rfl,rfl,rfl⟩:=trodAll_nil r0;obtain rfl:args=#[v0]:=by cases args;simp_all
 obtain⟨rfl,rfl⟩:=trodVars_none hV;have lt0:∀x∈p0,x.block<W.heap.size:=by obtain⟨m,hm⟩:=h0;exact DataW.trod_lt m _ _ _ hm
 have k0:=h0;obtain⟨cs0,rfl,hsz0⟩:=okWide_struct Tryz.underlying25 (hval 0 25 v0 rfl rfl);obtain⟨x0,g0,f0⟩:=Trod.opens a6I h0;obtain⟨l0⟩:=cs0;obtain⟨u0_0,u0_1,e0,hu0_0,hu0_1⟩:=a2K g0;obtain⟨su0_0,wu0_0⟩:=NN hu0_0;injection wu0_0 with wu0_0 _;subst wu0_0
 obtain⟨su0_1,wu0_1⟩:=NN hu0_1;injection wu0_1 with wu0_1 _;subst wu0_1
 have e0':l0=[_,_]:=e0;subst e0';clear hA0 hval0;refine Calls.mono ((VS.r (W2 (U:=eJ W) hu0_0 hu0_1) (aCY f0)).run [_] rfl (bAL W)) λe W' ⟨v,he,_,hv,hS1⟩=>?_;have hS:St (eJ W) W' [] []:=by obtain⟨⟨R,s1,_⟩,_⟩:=hS1;exact St.weaken s1 (by simp)
 have hv:v=.bool true:=(Option.some.inj hv).symm;subst he;subst hv;exact⟨_,rfl,_,_,_,[],_,[],hW',trodAll_mk1 (shut_bool Tryz.underlying4 _),(trodAll_cons_mk (Below.trod T9 (by kernel_rfl) (of_decide_eq_true (by kernel_rfl)) k0 hS.below lt0) trodAll_mk0),rfl,hS.below.frame _,λh=>by cases h⟩

theorem aDG:(laidOutB Tryz.pinned.checked.prog)=true:=by kernel_rfl
theorem aDH:(mapsRowed Tryz.pinned.checked.prog)=true:=by kernel_rfl
theorem aDI:(Rows.fnExactTablePlayRow.inPlace == Tryz.pinned.checked.prog.inPlace 5)=true:=by kernel_rfl
theorem aAP:(Rows.fnExactTablePlayRow.unfollowed == Tryz.pinned.checked.prog.unfollowed 5)=true:=by kernel_rfl
theorem aAQ:(Rows.fnExactTablePlayRow.recurses == Tryz.pinned.checked.prog.recurses 5)=true:=by kernel_rfl
theorem aAR:(Rows.fnExactTablePlayRow.named == Tryz.pinned.checked.prog.varsNamed 5)=true:=by kernel_rfl
theorem aAS:(Rows.fnExactTablePlayRow.plainKeys == Tryz.pinned.checked.prog.plainKeys)=true:=by kernel_rfl
theorem aAT:(Tryz.pinned.checked.prog.stopsHeard)=true:=by kernel_rfl
theorem aAU:(Tryz.pinned.checked.prog.mayEnter)=true:=by kernel_rfl
theorem aAV:(Rows.fnExactTablePlayRow.lifted == Tryz.pinned.checked.prog.liftsFinal)=true:=by kernel_rfl
theorem aAW:(Tryz.pinned.checked.prog.make == some Rows.fnExactTablePlayRow.make)=true:=by kernel_rfl
theorem aDJ:Tryz.pinned.checked.prog.funcNamed Rows.fnExactTablePlayRow.func=some 5:=by kernel_rfl
theorem aY{a b:Bool}(h:a=true)(k:b=true):(a && b)=true:=by rw[h,k];rfl
theorem VF:joinedFacts Tryz.pinned.checked.prog 5 Tryz.f5 Rows.fnExactTablePlaySpec Rows.fnExactTablePlayRow=true:=by unfold joinedFacts;exact(aY (aY (aY (aY (aY (aY (aY (aY (aY (aY (aY (aY (aY (aY (aY (aY (aY (aY (aY (aY (aY (aY (aY (aY (aY (aY (aY (aY (aY (aY (aY (by kernel_rfl) aDG) aDH) (by kernel_rfl)) (by kernel_rfl)) (by kernel_rfl)) (by kernel_rfl)) (by kernel_rfl)) (by kernel_rfl)) aDI) aAP) aAQ) aAR) (by kernel_rfl)) (by kernel_rfl)) (by kernel_rfl)) (by kernel_rfl)) (by kernel_rfl)) (by kernel_rfl)) (by kernel_rfl)) (by kernel_rfl)) (by kernel_rfl)) aAS) (by kernel_rfl)) aAT) aAU) aAV) aAW) (by kernel_rfl)) (by kernel_rfl)) (by kernel_rfl)) (by kernel_rfl))
theorem aAD:Rows.fnExactTablePlayRow.holds Tryz.pinned (OpenSpec.ofChange Rows.fnExactTablePlaySpec):=
 OpenClaim.holds_of_wide 5 Tryz.f5 rfl rfl rfl rfl rfl rfl rfl ⟨rfl,rfl,rfl,rfl,rfl⟩ rfl rfl rfl rfl rfl aDJ Tryz.func5 VF
  (of_decide_eq_true (by kernel_rfl)) (by unfold Func.isWrapper;first|(rw[if_pos (by decide +kernel)];kernel_rfl)|(rw[if_neg (by decide +kernel)];exact⟨rfl,rfl⟩))
  (λos started H enc _=>VE os started H enc)

theorem fnExactTablePlay_holds:Rows.FnExactTablePlaySaid:=aAD
#print axioms fnExactTablePlay_holds
end Go.Proofs.YtonkeoekmfkaoaaGreat
