import Derived.Test.YtonmnllkifmclaaGreatXWG
import Derived.Test.YtonmnllkifmclaaGreatRows
import Derived.WalkKit
import Derived.ProofKit
import Derived.OpenShut
import Derived.ShutString
import Derived.ChangeOld
import Derived.Below
import Derived.Carry
namespace Go.Proofs.YtonmnllkifmclaaGreat
open Go.Gv
open Go.ChangeShapes Go.WideShapes Go.ChangeAt Go.RowKit
open Go.ChangeMaps (open_string shut_string)
set_option linter.unusedVariables false
theorem a97:aDA Tryz.prog 5 UInt8:=bA0 Tryz.underlying5
theorem a7X:aDA Tryz.prog 22 (List UInt8):=aZE Tryz.underlying22 (by kernel_rfl) (by decide) a97
theorem aLP:ownKnob Tryz.prog.godebug=none:=by kernel_rfl
theorem aDX:laidOutB Tryz.prog=true:=by kernel_rfl
set_option maxRecDepth 100000 in
theorem aFL(os:Os)(started:os.Started)(H:Type)(enc:TypeId×Value->H) :
  ReturnsInHanded {} Tryz.checked os 3 .any (Rows.fnTableSafeSpec.pre6 enc Tryz.prog Tryz.f3 Rows.fnTableSafeRow.domain false) (Rows.fnTableSafeSpec.post enc Tryz.prog Tryz.f3 false true false false):=by
 refine returnsInHanded_of_change (C:=Tryz.checked) aLP started (by kernel_rfl) Tryz.func3
  (ChangeSpec.witness6 (enc:=enc) (C:=Tryz.checked) false ⟨#[],#[.slice none 0 0],[]⟩ 8 (by kernel_rfl) (by kernel_rfl) (by kernel_rfl) (by kernel_rfl)) ?_
 intro W base args ds gs before hval0 hW hcnd _;have hval:∀(j:Nat) t v,Tryz.f3.params[j]?=some t->args[j]?=some v->Value.okWide Tryz.prog W .any base t v:=hval0;have hW':=hW;obtain⟨p,q,hA0,hV,rfl,hfz,hnd⟩:=hW;have hA:DataW.TrodAll enc Tryz.prog W 0 (λ_=>true) true Tryz.f3.params.toList args.toList ds p:=hA0;rw[Tryz.params3] at hA hval;obtain⟨v0,vs0,d0,ds0,p0,q0,hargs,rfl,rfl,h0,r0⟩:=trodAll_cons hA;obtain⟨rfl,rfl,rfl⟩:=trodAll_nil r0;obtain rfl:args=#[v0]:=by cases args;simp_all
 obtain⟨rfl,rfl⟩:=trodVars_none hV;have lt0:∀x∈p0,x.block<W.heap.size:=by obtain⟨m,hm⟩:=h0;exact DataW.trod_lt m _ _ _ hm
 have k0:=h0;obtain⟨a0,len0,cap0,rfl⟩:=okWide_slice Tryz.underlying22 (hval 0 22 v0 rfl rfl);obtain⟨x0,g0,f0⟩:=Trod.opens a7X h0;obtain⟨su0,wu0⟩:=QU g0;have wv0:Value.slice a0 len0 cap0=Value.slice su0.a x0.length su0.c:=(List.cons.inj wu0).1;injection wv0 with qa0 qb0 qc0;subst qa0;subst qb0;subst qc0
 clear hA0 hval0;refine Calls.mono ((VS.r (aGL (U:=eQ W) g0) (aN8 f0)).run [_] rfl (a2U W)) λe W' ⟨v,he,_,hv,hS1⟩=>?_;have hS:St (eQ W) W' [] []:=by obtain⟨⟨R,s1,_⟩,_⟩:=hS1;exact St.weaken s1 (by simp)
 have hv:v=.bool true:=(Option.some.inj hv).symm;subst he;subst hv;exact⟨_,rfl,_,_,_,[],_,[],hW',trodAll_mk1 (shut_bool Tryz.underlying4 _),(trodAll_cons_mk (Below.trod aDX (by kernel_rfl) (of_decide_eq_true (by kernel_rfl)) k0 hS.below lt0) trodAll_mk0),rfl,hS.below.frame _,λh=>by cases h⟩
theorem aO5:(laidOutB Tryz.pinned.checked.prog)=true:=by kernel_rfl
theorem aO6:(mapsRowed Tryz.pinned.checked.prog)=true:=by kernel_rfl
theorem aO7:(Rows.fnTableSafeRow.inPlace == Tryz.pinned.checked.prog.inPlace 3)=true:=by kernel_rfl
theorem aLQ:(Rows.fnTableSafeRow.unfollowed == Tryz.pinned.checked.prog.unfollowed 3)=true:=by kernel_rfl
theorem aLR:(Rows.fnTableSafeRow.recurses == Tryz.pinned.checked.prog.recurses 3)=true:=by kernel_rfl
theorem aLS:(Rows.fnTableSafeRow.named == Tryz.pinned.checked.prog.varsNamed 3)=true:=by kernel_rfl
theorem aLT:(Rows.fnTableSafeRow.plainKeys == Tryz.pinned.checked.prog.plainKeys)=true:=by kernel_rfl
theorem aLU:(Tryz.pinned.checked.prog.stopsHeard)=true:=by kernel_rfl
theorem aLV:(Tryz.pinned.checked.prog.mayEnter)=true:=by kernel_rfl
theorem aLW:(Rows.fnTableSafeRow.lifted == Tryz.pinned.checked.prog.liftsFinal)=true:=by kernel_rfl
theorem aLX:(Tryz.pinned.checked.prog.make == some Rows.fnTableSafeRow.make)=true:=by kernel_rfl
theorem aO8:Tryz.pinned.checked.prog.funcNamed Rows.fnTableSafeRow.func=some 3:=by kernel_rfl
theorem bH{a b:Bool}(h:a=true)(k:b=true):(a && b)=true:=by rw[h,k];rfl
theorem aFM:joinedFacts Tryz.pinned.checked.prog 3 Tryz.f3 Rows.fnTableSafeSpec Rows.fnTableSafeRow=true:=by unfold joinedFacts;exact(bH (bH (bH (bH (bH (bH (bH (bH (bH (bH (bH (bH (bH (bH (bH (bH (bH (bH (bH (bH (bH (bH (bH (bH (bH (bH (bH (bH (bH (bH (bH (by kernel_rfl) aO5) aO6) (by kernel_rfl)) (by kernel_rfl)) (by kernel_rfl)) (by kernel_rfl)) (by kernel_rfl)) (by kernel_rfl)) aO7) aLQ) aLR) aLS) (by kernel_rfl)) (by kernel_rfl)) (by kernel_rfl)) (by kernel_rfl)) (by kernel_rfl)) (by kernel_rfl)) (by kernel_rfl)) (by kernel_rfl)) (by kernel_rfl)) aLT) (by kernel_rfl)) aLU) aLV) aLW) aLX) (by kernel_rfl)) (by kernel_rfl)) (by kernel_rfl)) (by kernel_rfl))
theorem aI8:Rows.fnTableSafeRow.holds Tryz.pinned (OpenSpec.ofChange Rows.fnTableSafeSpec):=
 OpenClaim.holds_of_wide 3 Tryz.f3 rfl rfl rfl rfl rfl rfl rfl ⟨rfl,rfl,rfl,rfl,rfl⟩ rfl rfl rfl rfl rfl aO8 Tryz.func3 aFM
  (of_decide_eq_true (by kernel_rfl)) (by unfold Func.isWrapper;first|(rw[if_pos (by decide +kernel)];kernel_rfl)|(rw[if_neg (by decide +kernel)];exact⟨rfl,rfl⟩))
  (λos started H enc _=>aFL os started H enc)
theorem fnTableSafe_holds:Rows.FnTableSafeSaid:=aI8
#print axioms fnTableSafe_holds
end Go.Proofs.YtonmnllkifmclaaGreat
