/-
 THE ROW OVER 'laws.FnAloneT',out of its walk and its plain law. Printed by fin3.py.
-/
import Derived.Test.YtkinioiglogchaaGreatXQI
import Derived.Test.YtkinioiglogchaaGreatRows
import Derived.WalkKit
import Derived.ProofKit
import Derived.OpenShut
import Derived.ShutString
import Derived.ChangeOld
import Derived.Below
import Derived.Carry
namespace Go.Proofs.YtkinioiglogchaaGreat
open Go.Gv
open Go.ChangeShapes Go.WideShapes Go.ChangeAt Go.RowKit
open Go.ChangeMaps (open_string shut_string)

theorem a4V:YM Tryz.prog 5 UInt8:=a5R Tryz.underlying5
theorem a1Y:YM Tryz.prog 22 (List UInt8):=aSZ Tryz.underlying22 (by kernel_rfl) (by decide) a4V
theorem aPZ:ownKnob Tryz.prog.godebug=none:=by kernel_rfl
theorem aD0:laidOutB Tryz.prog=true:=by kernel_rfl

set_option maxRecDepth 100000 in
theorem aF4(os:Os)(started:os.Started)(H:Type)(enc:TypeId×Value->H) :
  ReturnsInHanded {} Tryz.checked os 6 .any (Rows.fnAloneTSpec.pre6 enc Tryz.prog Tryz.f6 Rows.fnAloneTRow.domain false) (Rows.fnAloneTSpec.post enc Tryz.prog Tryz.f6 false true false false):=by
 refine returnsInHanded_of_change (C:=Tryz.checked) aPZ started (by kernel_rfl) Tryz.func6
  (ChangeSpec.witness6 (enc:=enc) (C:=Tryz.checked) false ⟨#[],#[.slice none 0 0],[]⟩ 8 (by kernel_rfl) (by kernel_rfl) (by kernel_rfl) (by kernel_rfl)) ?_
 intro W base args ds gs before hval0 hW hcnd _;have hval:∀(j:Nat) t v,Tryz.f6.params[j]?=some t->args[j]?=some v->Value.okWide Tryz.prog W .any base t v:=hval0;have hW':=hW;obtain⟨p,q,hA0,hV,rfl,hfz,hnd⟩:=hW;have hA:DataW.TrodAll enc Tryz.prog W 0 (λ_=>true) true Tryz.f6.params.toList args.toList ds p:=hA0;rw[Tryz.params6] at hA hval;obtain⟨v0,vs0,d0,ds0,p0,q0,hargs,rfl,rfl,h0,r0⟩:=trodAll_cons hA;obtain⟨rfl,rfl,rfl⟩:=trodAll_nil r0;obtain rfl:args=#[v0]:=by cases args;simp_all
 obtain⟨rfl,rfl⟩:=trodVars_none hV;have lt0:∀x∈p0,x.block<W.heap.size:=by obtain⟨m,hm⟩:=h0;exact DataW.trod_lt m _ _ _ hm
 have k0:=h0;obtain⟨a0,len0,cap0,rfl⟩:=okWide_slice Tryz.underlying22 (hval 0 22 v0 rfl rfl);obtain⟨x0,g0,f0⟩:=Trod.opens a1Y h0;obtain⟨su0,wu0⟩:=MP g0;have wv0:Value.slice a0 len0 cap0=Value.slice su0.a x0.length su0.c:=(List.cons.inj wu0).1;injection wv0 with qa0 qb0 qc0;subst qa0;subst qb0;subst qc0
 clear hA0 hval0;refine Calls.mono ((VS.r (aHR (U:=eC W) g0) (aSF f0)).run [_] rfl (aQK W)) λe W' ⟨v,he,_,hv,hS1⟩=>?_;have hS:St (eC W) W' [] []:=by obtain⟨⟨R,s1,_⟩,_⟩:=hS1;exact St.weaken s1 (by simp)
 have hv:v=.bool true:=(Option.some.inj hv).symm;subst he;subst hv;exact⟨_,rfl,_,_,_,[],_,[],hW',trodAll_mk1 (shut_bool Tryz.underlying4 _),(trodAll_cons_mk (Below.trod aD0 (by kernel_rfl) (of_decide_eq_true (by kernel_rfl)) k0 hS.below lt0) trodAll_mk0),rfl,hS.below.frame _,λh=>by cases h⟩

theorem aSL:(laidOutB Tryz.pinned.checked.prog)=true:=by kernel_rfl
theorem aSM:(mapsRowed Tryz.pinned.checked.prog)=true:=by kernel_rfl
theorem aSN:(Rows.fnAloneTRow.inPlace == Tryz.pinned.checked.prog.inPlace 6)=true:=by kernel_rfl
theorem aP0:(Rows.fnAloneTRow.unfollowed == Tryz.pinned.checked.prog.unfollowed 6)=true:=by kernel_rfl
theorem aP1:(Rows.fnAloneTRow.recurses == Tryz.pinned.checked.prog.recurses 6)=true:=by kernel_rfl
theorem aP2:(Rows.fnAloneTRow.named == Tryz.pinned.checked.prog.varsNamed 6)=true:=by kernel_rfl
theorem aP3:(Rows.fnAloneTRow.plainKeys == Tryz.pinned.checked.prog.plainKeys)=true:=by kernel_rfl
theorem aP4:(Tryz.pinned.checked.prog.stopsHeard)=true:=by kernel_rfl
theorem aP5:(Tryz.pinned.checked.prog.mayEnter)=true:=by kernel_rfl
theorem aP6:(Rows.fnAloneTRow.lifted == Tryz.pinned.checked.prog.liftsFinal)=true:=by kernel_rfl
theorem aP7:(Tryz.pinned.checked.prog.make == some Rows.fnAloneTRow.make)=true:=by kernel_rfl
theorem aSO:Tryz.pinned.checked.prog.funcNamed Rows.fnAloneTRow.func=some 6:=by kernel_rfl
theorem bX{a b:Bool}(h:a=true)(k:b=true):(a && b)=true:=by rw[h,k];rfl
theorem aF5:joinedFacts Tryz.pinned.checked.prog 6 Tryz.f6 Rows.fnAloneTSpec Rows.fnAloneTRow=true:=by unfold joinedFacts;exact(bX (bX (bX (bX (bX (bX (bX (bX (bX (bX (bX (bX (bX (bX (bX (bX (bX (bX (bX (bX (bX (bX (bX (bX (bX (bX (bX (bX (bX (bX (bX (by kernel_rfl) aSL) aSM) (by kernel_rfl)) (by kernel_rfl)) (by kernel_rfl)) (by kernel_rfl)) (by kernel_rfl)) (by kernel_rfl)) aSN) aP0) aP1) aP2) (by kernel_rfl)) (by kernel_rfl)) (by kernel_rfl)) (by kernel_rfl)) (by kernel_rfl)) (by kernel_rfl)) (by kernel_rfl)) (by kernel_rfl)) (by kernel_rfl)) aP3) (by kernel_rfl)) aP4) aP5) aP6) aP7) (by kernel_rfl)) (by kernel_rfl)) (by kernel_rfl)) (by kernel_rfl))
theorem aM3:Rows.fnAloneTRow.holds Tryz.pinned (OpenSpec.ofChange Rows.fnAloneTSpec):=
 OpenClaim.holds_of_wide 6 Tryz.f6 rfl rfl rfl rfl rfl rfl rfl ⟨rfl,rfl,rfl,rfl,rfl⟩ rfl rfl rfl rfl rfl aSO Tryz.func6 aF5
  (of_decide_eq_true (by kernel_rfl)) (by unfold Func.isWrapper;first|(rw[if_pos (by decide +kernel)];kernel_rfl)|(rw[if_neg (by decide +kernel)];exact⟨rfl,rfl⟩))
  (λos started H enc _=>aF4 os started H enc)

theorem fnAloneT_holds:Rows.FnAloneTSaid:=aM3
#print axioms fnAloneT_holds
end Go.Proofs.YtkinioiglogchaaGreat
