/-
 THE ROW OVER 'laws.FnBank',out of its walk and its plain law. Printed by fin3.py.
-/
import Derived.Test.YtkinioiglogchaaGreatXSFnBank
import Derived.Test.YtkinioiglogchaaGreatRows
import Derived.WalkKit
import Derived.ProofKit
import Derived.OpenShut
import Derived.ShutString
import Derived.ChangeOld
import Derived.Below
import Derived.Carry
namespace Go.Proofs.YtkinioiglogchaaGreat
open Go.Gv
open Go.ChangeShapes Go.WideShapes Go.ChangeAt Go.RowKit
open Go.ChangeMaps (open_string shut_string)
set_option linter.unusedVariables false

theorem aJG:OI Tryz.prog 5 UInt8:=aS7 Tryz.underlying5
theorem aED:OI Tryz.prog 22 (List UInt8):=aF5 Tryz.underlying22 (by kernel_rfl) (by decide) aJG
theorem aWC:ownKnob Tryz.prog.godebug=none:=by kernel_rfl
theorem aJH:laidOutB Tryz.prog=true:=by kernel_rfl

set_option maxRecDepth 100000 in
theorem aNB(os:Os)(started:os.Started)(H:Type)(enc:TypeId×Value->H) :
  ReturnsInHanded {} Tryz.checked os 5 .any (Rows.fnBankSpec.pre6 enc Tryz.prog Tryz.f5 Rows.fnBankRow.domain false) (Rows.fnBankSpec.post enc Tryz.prog Tryz.f5 false true false false):=by
 refine returnsInHanded_of_change (C:=Tryz.checked) aWC started (by kernel_rfl) Tryz.func5
  (ChangeSpec.witness6 (enc:=enc) (C:=Tryz.checked) false ⟨#[],#[.slice none 0 0],[]⟩ 8 (by kernel_rfl) (by kernel_rfl) (by kernel_rfl) (by kernel_rfl)) ?_
 intro W base args ds gs before hval0 hW hcnd _;have hval:∀(j:Nat) t v,Tryz.f5.params[j]?=some t->args[j]?=some v->Value.okWide Tryz.prog W .any base t v:=hval0;have hW':=hW;obtain⟨p,q,hA0,hV,rfl,hfz,hnd⟩:=hW;have hA:DataW.TrodAll enc Tryz.prog W 0 (λ_=>true) true Tryz.f5.params.toList args.toList ds p:=hA0;rw[Tryz.params5] at hA hval;obtain⟨v0,vs0,d0,ds0,p0,q0,hargs,rfl,rfl,h0,r0⟩:=trodAll_cons hA;obtain⟨rfl,rfl,rfl⟩:=trodAll_nil r0;obtain rfl:args=#[v0]:=by cases args;simp_all
 obtain⟨rfl,rfl⟩:=trodVars_none hV;have lt0:∀x∈p0,x.block<W.heap.size:=by obtain⟨m,hm⟩:=h0;exact DataW.trod_lt m _ _ _ hm
 have k0:=h0;obtain⟨a0,len0,cap0,rfl⟩:=okWide_slice Tryz.underlying22 (hval 0 22 v0 rfl rfl);obtain⟨x0,g0,f0⟩:=Trod.opens aED h0;obtain⟨su0,wu0⟩:=KU g0;have wv0:Value.slice a0 len0 cap0=Value.slice su0.a x0.length su0.c:=(List.cons.inj wu0).1;injection wv0 with qa0 qb0 qc0;subst qa0;subst qb0;subst qc0
 clear hA0 hval0;refine Calls.mono ((VS.r (aOL (U:=dZ W) g0) (aY7 f0)).run [_] rfl (aNO W)) λe W' ⟨v,he,_,hv,hS1⟩=>?_;have hS:St (dZ W) W' [] []:=by obtain⟨⟨R,s1,_⟩,_⟩:=hS1;exact St.weaken s1 (by simp)
 have hv:v=.bool true:=(Option.some.inj hv).symm;subst he;subst hv;exact⟨_,rfl,_,_,_,[],_,[],hW',trodAll_mk1 (shut_bool Tryz.underlying4 _),(trodAll_cons_mk (Below.trod aJH (by kernel_rfl) (of_decide_eq_true (by kernel_rfl)) k0 hS.below lt0) trodAll_mk0),rfl,hS.below.frame _,λh=>by cases h⟩

theorem a15:(laidOutB Tryz.pinned.checked.prog)=true:=by kernel_rfl
theorem a16:(mapsRowed Tryz.pinned.checked.prog)=true:=by kernel_rfl
theorem a17:(Rows.fnBankRow.inPlace == Tryz.pinned.checked.prog.inPlace 5)=true:=by kernel_rfl
theorem aWD:(Rows.fnBankRow.unfollowed == Tryz.pinned.checked.prog.unfollowed 5)=true:=by kernel_rfl
theorem aWE:(Rows.fnBankRow.recurses == Tryz.pinned.checked.prog.recurses 5)=true:=by kernel_rfl
theorem aWF:(Rows.fnBankRow.named == Tryz.pinned.checked.prog.varsNamed 5)=true:=by kernel_rfl
theorem aWG:(Rows.fnBankRow.plainKeys == Tryz.pinned.checked.prog.plainKeys)=true:=by kernel_rfl
theorem aWH:(Tryz.pinned.checked.prog.stopsHeard)=true:=by kernel_rfl
theorem aWI:(Tryz.pinned.checked.prog.mayEnter)=true:=by kernel_rfl
theorem aWJ:(Rows.fnBankRow.lifted == Tryz.pinned.checked.prog.liftsFinal)=true:=by kernel_rfl
theorem aWK:(Tryz.pinned.checked.prog.make == some Rows.fnBankRow.make)=true:=by kernel_rfl
theorem a18:Tryz.pinned.checked.prog.funcNamed Rows.fnBankRow.func=some 5:=by kernel_rfl
theorem cD{a b:Bool}(h:a=true)(k:b=true):(a && b)=true:=by rw[h,k];rfl
theorem aNC:joinedFacts Tryz.pinned.checked.prog 5 Tryz.f5 Rows.fnBankSpec Rows.fnBankRow=true:=by unfold joinedFacts;exact(cD (cD (cD (cD (cD (cD (cD (cD (cD (cD (cD (cD (cD (cD (cD (cD (cD (cD (cD (cD (cD (cD (cD (cD (cD (cD (cD (cD (cD (cD (cD (by kernel_rfl) a15) a16) (by kernel_rfl)) (by kernel_rfl)) (by kernel_rfl)) (by kernel_rfl)) (by kernel_rfl)) (by kernel_rfl)) a17) aWD) aWE) aWF) (by kernel_rfl)) (by kernel_rfl)) (by kernel_rfl)) (by kernel_rfl)) (by kernel_rfl)) (by kernel_rfl)) (by kernel_rfl)) (by kernel_rfl)) (by kernel_rfl)) aWG) (by kernel_rfl)) aWH) aWI) aWJ) aWK) (by kernel_rfl)) (by kernel_rfl)) (by kernel_rfl)) (by kernel_rfl))
theorem aSV:Rows.fnBankRow.holds Tryz.pinned (OpenSpec.ofChange Rows.fnBankSpec):=
 OpenClaim.holds_of_wide 5 Tryz.f5 rfl rfl rfl rfl rfl rfl rfl ⟨rfl,rfl,rfl,rfl,rfl⟩ rfl rfl rfl rfl rfl a18 Tryz.func5 aNC
  (of_decide_eq_true (by kernel_rfl)) (by unfold Func.isWrapper;first|(rw[if_pos (by decide +kernel)];kernel_rfl)|(rw[if_neg (by decide +kernel)];exact⟨rfl,rfl⟩))
  (λos started H enc _=>aNB os started H enc)

theorem fnBank_holds:Rows.FnBankSaid:=aSV
#print axioms fnBank_holds
end Go.Proofs.YtkinioiglogchaaGreat
