/-
 THE ROW OVER 'laws.FnExactTablePeak',out of its walk and its plain law. Printed by fin3.py.
-/
import Derived.Test.YtonkeoekmfkaoaaGreatXTH
import Derived.Test.YtonkeoekmfkaoaaGreatRows
import Derived.WalkKit
import Derived.ProofKit
import Derived.OpenShut
import Derived.ShutString
import Derived.ChangeOld
import Derived.Below
import Derived.Carry
namespace Go.Proofs.YtonkeoekmfkaoaaGreat
open Go.Gv
open Go.ChangeShapes Go.WideShapes Go.ChangeAt Go.RowKit
open Go.ChangeMaps (open_string shut_string)
set_option linter.unusedVariables false

theorem YA:mT Tryz.prog 3 Int:=aVE Tryz.underlying3
theorem aUY:mT Tryz.prog 23 (List Int):=MB Tryz.underlying23 (by kernel_rfl) (by decide) YA
theorem aQI:mT Tryz.prog 350 jJ:=I6 Tryz.underlying350 (by kernel_rfl) (of_cons (k:=1) YA rfl (by kernel_rfl) (of_cons (k:=1) YA rfl (by kernel_rfl) (aL2 (k:=1) YA rfl (by kernel_rfl) rfl))) (λd=>(d.Kind,d.Key,d.fE)) (λp=>⟨⟨p.1,p.2.1,p.2.2⟩,rfl⟩) (λh=>h) (λh=>h)
theorem aQJ:mT Tryz.prog 265 (List jJ):=MB Tryz.underlying265 (by kernel_rfl) (by decide) aQI
theorem aW6:mT Tryz.prog 4 Bool:=aQT Tryz.underlying4
theorem aQK:mT Tryz.prog 267 Batch:=I6 Tryz.underlying267 (by kernel_rfl) (of_cons (k:=1) aW6 rfl (by kernel_rfl) (aL2 (k:=1) aQJ rfl (by kernel_rfl) rfl)) (λd=>(d.Collect,d.bI)) (λp=>⟨⟨p.1,p.2⟩,rfl⟩) (λh=>h) (λh=>h)
theorem aQL:mT Tryz.prog 110 (List Batch):=MB Tryz.underlying110 (by kernel_rfl) (by decide) aQK
theorem aQM:mT Tryz.prog 112 aP:=I6 Tryz.underlying112 (by kernel_rfl) (aL2 (k:=1) aQL rfl (by kernel_rfl) rfl) (λd=>(d.List)) (λp=>⟨⟨p⟩,rfl⟩) (λh=>h) (λh=>h)
theorem aUZ:mT Tryz.prog 22 (List aP):=MB Tryz.underlying22 (by kernel_rfl) (by decide) aQM
theorem aU0:mT Tryz.prog 25 gH:=I6 Tryz.underlying25 (by kernel_rfl) (of_cons (k:=1) aUZ rfl (by kernel_rfl) (aL2 (k:=1) aUY rfl (by kernel_rfl) rfl)) (λd=>(d.bL,d.dK)) (λp=>⟨⟨p.1,p.2⟩,rfl⟩) (λh=>h) (λh=>h)
theorem TE:ownKnob Tryz.prog.godebug=none:=by kernel_rfl
theorem NO:laidOutB Tryz.prog=true:=by kernel_rfl

set_option maxRecDepth 100000 in
theorem OT(os:Os)(started:os.Started)(H:Type)(enc:TypeId×Value->H) :
  ReturnsInHanded {} Tryz.checked os 3 .any (Rows.fnExactTablePeakSpec.pre6 enc Tryz.prog Tryz.f3 Rows.fnExactTablePeakRow.domain false) (Rows.fnExactTablePeakSpec.post enc Tryz.prog Tryz.f3 false true false false):=by
 refine returnsInHanded_of_change (C:=Tryz.checked) TE started (by kernel_rfl) Tryz.func3
  (ChangeSpec.witness6 (enc:=enc) (C:=Tryz.checked) false ⟨#[],#[.agg #[.slice none 0 0,.slice none 0 0]],[]⟩ 8 (by kernel_rfl) (by kernel_rfl) (by kernel_rfl) (by kernel_rfl)) ?_
 intro W base args ds gs before hval0 hW hcnd _;have hval:∀(j:Nat) t v,Tryz.f3.params[j]?=some t->args[j]?=some v->Value.okWide Tryz.prog W .any base t v:=hval0;have hW':=hW;obtain⟨p,q,hA0,hV,rfl,hfz,hnd⟩:=hW;have hA:DataW.TrodAll enc Tryz.prog W 0 (λ_=>true) true Tryz.f3.params.toList args.toList ds p:=hA0;rw[Tryz.params3] at hA hval;obtain⟨v0,vs0,d0,ds0,p0,q0,hargs,rfl,rfl,h0,r0⟩:=trodAll_cons hA;obtain⟨rfl,rfl,rfl⟩:=trodAll_nil r0;obtain rfl:args=#[v0]:=by cases args;simp_all
 obtain⟨rfl,rfl⟩:=trodVars_none hV;have lt0:∀x∈p0,x.block<W.heap.size:=by obtain⟨m,hm⟩:=h0;exact DataW.trod_lt m _ _ _ hm
 have k0:=h0;obtain⟨cs0,rfl,hsz0⟩:=okWide_struct Tryz.underlying25 (hval 0 25 v0 rfl rfl);obtain⟨x0,g0,f0⟩:=Trod.opens aU0 h0;obtain⟨l0⟩:=cs0;obtain⟨u0_0,u0_1,e0,hu0_0,hu0_1⟩:=aRH g0;obtain⟨su0_0,wu0_0⟩:=IV hu0_0;injection wu0_0 with wu0_0 _;subst wu0_0
 obtain⟨su0_1,wu0_1⟩:=IV hu0_1;injection wu0_1 with wu0_1 _;subst wu0_1
 have e0':l0=[_,_]:=e0;subst e0';clear hA0 hval0;refine Calls.mono ((VS.r (PQ (U:=eB W) hu0_0 hu0_1) (VM f0)).run [_] rfl (aYW W)) λe W' ⟨v,he,_,hv,hS1⟩=>?_;have hS:St (eB W) W' [] []:=by obtain⟨⟨R,s1,_⟩,_⟩:=hS1;exact St.weaken s1 (by simp)
 have hv:v=.bool true:=(Option.some.inj hv).symm;subst he;subst hv;exact⟨_,rfl,_,_,_,[],_,[],hW',trodAll_mk1 (shut_bool Tryz.underlying4 _),(trodAll_cons_mk (Below.trod NO (by kernel_rfl) (of_decide_eq_true (by kernel_rfl)) k0 hS.below lt0) trodAll_mk0),rfl,hS.below.frame _,λh=>by cases h⟩

theorem V6:(laidOutB Tryz.pinned.checked.prog)=true:=by kernel_rfl
theorem V7:(mapsRowed Tryz.pinned.checked.prog)=true:=by kernel_rfl
theorem V8:(Rows.fnExactTablePeakRow.inPlace == Tryz.pinned.checked.prog.inPlace 3)=true:=by kernel_rfl
theorem TF:(Rows.fnExactTablePeakRow.unfollowed == Tryz.pinned.checked.prog.unfollowed 3)=true:=by kernel_rfl
theorem TG:(Rows.fnExactTablePeakRow.recurses == Tryz.pinned.checked.prog.recurses 3)=true:=by kernel_rfl
theorem TH:(Rows.fnExactTablePeakRow.named == Tryz.pinned.checked.prog.varsNamed 3)=true:=by kernel_rfl
theorem TJ:(Rows.fnExactTablePeakRow.plainKeys == Tryz.pinned.checked.prog.plainKeys)=true:=by kernel_rfl
theorem TL:(Tryz.pinned.checked.prog.stopsHeard)=true:=by kernel_rfl
theorem TM:(Tryz.pinned.checked.prog.mayEnter)=true:=by kernel_rfl
theorem TN:(Rows.fnExactTablePeakRow.lifted == Tryz.pinned.checked.prog.liftsFinal)=true:=by kernel_rfl
theorem TO:(Tryz.pinned.checked.prog.make == some Rows.fnExactTablePeakRow.make)=true:=by kernel_rfl
theorem V9:Tryz.pinned.checked.prog.funcNamed Rows.fnExactTablePeakRow.func=some 3:=by kernel_rfl
theorem aS{a b:Bool}(h:a=true)(k:b=true):(a && b)=true:=by rw[h,k];rfl
theorem OU:joinedFacts Tryz.pinned.checked.prog 3 Tryz.f3 Rows.fnExactTablePeakSpec Rows.fnExactTablePeakRow=true:=by unfold joinedFacts;exact(aS (aS (aS (aS (aS (aS (aS (aS (aS (aS (aS (aS (aS (aS (aS (aS (aS (aS (aS (aS (aS (aS (aS (aS (aS (aS (aS (aS (aS (aS (aS (by kernel_rfl) V6) V7) (by kernel_rfl)) (by kernel_rfl)) (by kernel_rfl)) (by kernel_rfl)) (by kernel_rfl)) (by kernel_rfl)) V8) TF) TG) TH) (by kernel_rfl)) (by kernel_rfl)) (by kernel_rfl)) (by kernel_rfl)) (by kernel_rfl)) (by kernel_rfl)) (by kernel_rfl)) (by kernel_rfl)) (by kernel_rfl)) TJ) (by kernel_rfl)) TL) TM) TN) TO) (by kernel_rfl)) (by kernel_rfl)) (by kernel_rfl)) (by kernel_rfl))
theorem S3:Rows.fnExactTablePeakRow.holds Tryz.pinned (OpenSpec.ofChange Rows.fnExactTablePeakSpec):=
 OpenClaim.holds_of_wide 3 Tryz.f3 rfl rfl rfl rfl rfl rfl rfl ⟨rfl,rfl,rfl,rfl,rfl⟩ rfl rfl rfl rfl rfl V9 Tryz.func3 OU
  (of_decide_eq_true (by kernel_rfl)) (by unfold Func.isWrapper;first|(rw[if_pos (by decide +kernel)];kernel_rfl)|(rw[if_neg (by decide +kernel)];exact⟨rfl,rfl⟩))
  (λos started H enc _=>OT os started H enc)

theorem fnExactTablePeak_holds:Rows.FnExactTablePeakSaid:=S3
#print axioms fnExactTablePeak_holds
end Go.Proofs.YtonkeoekmfkaoaaGreat
