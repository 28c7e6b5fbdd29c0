/-
 THE ROW OVER 'laws.FnOwnTable',out of its walk and its plain law. Printed by fin3.py.
-/
import Derived.Test.YtonkeoekmfkaoaaGreatXVH
import Derived.Test.YtonkeoekmfkaoaaGreatRows
import Derived.WalkKit
import Derived.ProofKit
import Derived.OpenShut
import Derived.ShutString
import Derived.ChangeOld
import Derived.Below
import Derived.Carry
namespace Go.Proofs.YtonkeoekmfkaoaaGreat
open Go.Gv
open Go.ChangeShapes Go.WideShapes Go.ChangeAt Go.RowKit
open Go.ChangeMaps (open_string shut_string)
set_option linter.unusedVariables false

theorem a4F:Z7 Tryz.prog 5 UInt8:=a49 Tryz.underlying5
theorem a13:Z7 Tryz.prog 34 (List UInt8):=aVM Tryz.underlying34 (by kernel_rfl) (by decide) a4F
theorem aLN:ownKnob Tryz.prog.godebug=none:=by kernel_rfl
theorem aCI:laidOutB Tryz.prog=true:=by kernel_rfl

set_option maxRecDepth 100000 in
theorem aDJ(os:Os)(started:os.Started)(H:Type)(enc:TypeId×Value->H) :
  ReturnsInHanded {} Tryz.checked os 4 .any (Rows.fnOwnTableSpec.pre6 enc Tryz.prog Tryz.f4 Rows.fnOwnTableRow.domain false) (Rows.fnOwnTableSpec.post enc Tryz.prog Tryz.f4 false true false false):=by
 refine returnsInHanded_of_change (C:=Tryz.checked) aLN started (by kernel_rfl) Tryz.func4
  (ChangeSpec.witness6 (enc:=enc) (C:=Tryz.checked) false ⟨#[],#[.slice none 0 0],[]⟩ 8 (by kernel_rfl) (by kernel_rfl) (by kernel_rfl) (by kernel_rfl)) ?_
 intro W base args ds gs before hval0 hW hcnd _;have hval:∀(j:Nat) t v,Tryz.f4.params[j]?=some t->args[j]?=some v->Value.okWide Tryz.prog W .any base t v:=hval0;have hW':=hW;obtain⟨p,q,hA0,hV,rfl,hfz,hnd⟩:=hW;have hA:DataW.TrodAll enc Tryz.prog W 0 (λ_=>true) true Tryz.f4.params.toList args.toList ds p:=hA0;rw[Tryz.params4] at hA hval;obtain⟨v0,vs0,d0,ds0,p0,q0,hargs,rfl,rfl,h0,r0⟩:=trodAll_cons hA;obtain⟨rfl,rfl,rfl⟩:=trodAll_nil r0;obtain rfl:args=#[v0]:=by cases args;simp_all
 obtain⟨rfl,rfl⟩:=trodVars_none hV;have X7:∀x∈p0,x.block<W.heap.size:=by obtain⟨m,hm⟩:=h0;exact DataW.trod_lt m _ _ _ hm
 have k0:=h0;obtain⟨a0,len0,cap0,rfl⟩:=okWide_slice Tryz.underlying34 (hval 0 34 v0 rfl rfl);obtain⟨x0,g0,f0⟩:=Trod.opens a13 h0;obtain⟨su0,wu0⟩:=O4 g0;have wv0:Value.slice a0 len0 cap0=Value.slice su0.a x0.length su0.c:=(List.cons.inj wu0).1;injection wv0 with qa0 qb0 qc0;subst qa0;subst qb0;subst qc0
 clear hA0 hval0;refine Calls.mono ((VS.r (aFF (U:=eQ W) g0) (aPT f0)).run [_] rfl (a2N W)) λe W' ⟨v,he,_,hv,hS1⟩=>?_;have hS:St (eQ W) W' [] []:=by obtain⟨⟨R,s1,_⟩,_⟩:=hS1;exact St.weaken s1 (by simp)
 have hv:v=.bool true:=(Option.some.inj hv).symm;subst he;subst hv;exact⟨_,rfl,_,_,_,[],_,[],hW',trodAll_mk1 (shut_bool Tryz.underlying4 _),(trodAll_cons_mk (Below.trod aCI (by kernel_rfl) (of_decide_eq_true (by kernel_rfl)) k0 hS.below X7) trodAll_mk0),rfl,hS.below.frame _,λh=>by cases h⟩

theorem aPZ:(laidOutB Tryz.pinned.checked.prog)=true:=by kernel_rfl
theorem aP0:(mapsRowed Tryz.pinned.checked.prog)=true:=by kernel_rfl
theorem aP1:(Rows.fnOwnTableRow.inPlace == Tryz.pinned.checked.prog.inPlace 4)=true:=by kernel_rfl
theorem aLO:(Rows.fnOwnTableRow.unfollowed == Tryz.pinned.checked.prog.unfollowed 4)=true:=by kernel_rfl
theorem aLP:(Rows.fnOwnTableRow.recurses == Tryz.pinned.checked.prog.recurses 4)=true:=by kernel_rfl
theorem aLQ:(Rows.fnOwnTableRow.named == Tryz.pinned.checked.prog.varsNamed 4)=true:=by kernel_rfl
theorem aLR:(Rows.fnOwnTableRow.plainKeys == Tryz.pinned.checked.prog.plainKeys)=true:=by kernel_rfl
theorem aLS:(Tryz.pinned.checked.prog.stopsHeard)=true:=by kernel_rfl
theorem aLT:(Tryz.pinned.checked.prog.mayEnter)=true:=by kernel_rfl
theorem aLU:(Rows.fnOwnTableRow.lifted == Tryz.pinned.checked.prog.liftsFinal)=true:=by kernel_rfl
theorem aLV:(Tryz.pinned.checked.prog.make == some Rows.fnOwnTableRow.make)=true:=by kernel_rfl
theorem aP2:Tryz.pinned.checked.prog.funcNamed Rows.fnOwnTableRow.func=some 4:=by kernel_rfl
theorem bP{a b:Bool}(h:a=true)(k:b=true):(a && b)=true:=by rw[h,k];rfl
theorem aDK:joinedFacts Tryz.pinned.checked.prog 4 Tryz.f4 Rows.fnOwnTableSpec Rows.fnOwnTableRow=true:=by unfold joinedFacts;exact(bP (bP (bP (bP (bP (bP (bP (bP (bP (bP (bP (bP (bP (bP (bP (bP (bP (bP (bP (bP (bP (bP (bP (bP (bP (bP (bP (bP (bP (bP (bP (by kernel_rfl) aPZ) aP0) (by kernel_rfl)) (by kernel_rfl)) (by kernel_rfl)) (by kernel_rfl)) (by kernel_rfl)) (by kernel_rfl)) aP1) aLO) aLP) aLQ) (by kernel_rfl)) (by kernel_rfl)) (by kernel_rfl)) (by kernel_rfl)) (by kernel_rfl)) (by kernel_rfl)) (by kernel_rfl)) (by kernel_rfl)) (by kernel_rfl)) aLR) (by kernel_rfl)) aLS) aLT) aLU) aLV) (by kernel_rfl)) (by kernel_rfl)) (by kernel_rfl)) (by kernel_rfl))
theorem aII:Rows.fnOwnTableRow.holds Tryz.pinned (OpenSpec.ofChange Rows.fnOwnTableSpec):=
 OpenClaim.holds_of_wide 4 Tryz.f4 rfl rfl rfl rfl rfl rfl rfl ⟨rfl,rfl,rfl,rfl,rfl⟩ rfl rfl rfl rfl rfl aP2 Tryz.func4 aDK
  (of_decide_eq_true (by kernel_rfl)) (by unfold Func.isWrapper;first|(rw[if_pos (by decide +kernel)];kernel_rfl)|(rw[if_neg (by decide +kernel)];exact⟨rfl,rfl⟩))
  (λos started H enc _=>aDJ os started H enc)

theorem fnOwnTable_holds:Rows.FnOwnTableSaid:=aII
#print axioms fnOwnTable_holds
end Go.Proofs.YtonkeoekmfkaoaaGreat
