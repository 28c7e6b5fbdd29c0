/-
 THE ROW OVER 'laws.FnPeaks',out of its walk and its plain law. Printed by fin3.py.
-/
import Derived.Test.YtdooodokcphomaaGreatXWJ
import Derived.Test.YtdooodokcphomaaGreatRows
import Derived.WalkKit
import Derived.ProofKit
import Derived.OpenShut
import Derived.ShutString
import Derived.ChangeOld
import Derived.Below
import Derived.Carry
namespace Go.Proofs.YtdooodokcphomaaGreat
open Go.Gv
open Go.ChangeShapes Go.WideShapes Go.ChangeAt Go.RowKit
open Go.ChangeMaps (open_string shut_string)
set_option linter.unusedVariables false

theorem bAV:aEE Tryz.prog 5 UInt8:=bBP Tryz.underlying5
theorem a8E:aEE Tryz.prog 22 (List UInt8):=a0O Tryz.underlying22 (by kernel_rfl) (by decide) bAV
theorem aZ9:ownKnob Tryz.prog.godebug=none:=by kernel_rfl
theorem aMR:laidOutB Tryz.prog=true:=by kernel_rfl

set_option maxRecDepth 100000 in
theorem aPV(os:Os)(started:os.Started)(H:Type)(enc:TypeId×Value->H) :
  ReturnsInHanded {} Tryz.checked os 4 .any (Rows.fnPeaksSpec.pre6 enc Tryz.prog Tryz.f4 Rows.fnPeaksRow.domain false) (Rows.fnPeaksSpec.post enc Tryz.prog Tryz.f4 false true false false):=by
 refine returnsInHanded_of_change (C:=Tryz.checked) aZ9 started (by kernel_rfl) Tryz.func4
  (ChangeSpec.witness6 (enc:=enc) (C:=Tryz.checked) false ⟨#[],#[.slice none 0 0],[]⟩ 8 (by kernel_rfl) (by kernel_rfl) (by kernel_rfl) (by kernel_rfl)) ?_
 intro W base args ds gs before hval0 hW hcnd _;have hval:∀(j:Nat) t v,Tryz.f4.params[j]?=some t->args[j]?=some v->Value.okWide Tryz.prog W .any base t v:=hval0;have hW':=hW;obtain⟨p,q,hA0,hV,rfl,hfz,hnd⟩:=hW;have hA:DataW.TrodAll enc Tryz.prog W 0 (λ_=>true) true Tryz.f4.params.toList args.toList ds p:=hA0;rw[Tryz.params4] at hA hval;obtain⟨v0,vs0,d0,ds0,p0,q0,hargs,rfl,rfl,h0,r0⟩:=trodAll_cons hA;obtain⟨rfl,rfl,rfl⟩:=trodAll_nil r0;obtain rfl:args=#[v0]:=by cases args;simp_all
 obtain⟨rfl,rfl⟩:=trodVars_none hV;have W9:∀x∈p0,x.block<W.heap.size:=by obtain⟨m,hm⟩:=h0;exact DataW.trod_lt m _ _ _ hm
 have k0:=h0;obtain⟨a0,len0,cap0,rfl⟩:=okWide_slice Tryz.underlying22 (hval 0 22 v0 rfl rfl);obtain⟨x0,g0,f0⟩:=Trod.opens a8E h0;obtain⟨su0,wu0⟩:=uL g0;have wv0:Value.slice a0 len0 cap0=Value.slice su0.a x0.length su0.c:=(List.cons.inj wu0).1;injection wv0 with qa0 qb0 qc0;subst qa0;subst qb0;subst qc0
 clear hA0 hval0;refine Calls.mono ((VS.r (aSJ (κ:=fT W) g0) (a3L f0)).run [_] rfl (a8V W)) λe W' ⟨v,he,_,hv,hS1⟩=>?_;have hS:St (fT W) W' [] []:=by obtain⟨⟨R,s1,_⟩,_⟩:=hS1;exact St.weaken s1 (by simp)
 have hv:v=.bool true:=(Option.some.inj hv).symm;subst he;subst hv;exact⟨_,rfl,_,_,_,[],_,[],hW',trodAll_mk1 (shut_bool Tryz.underlying4 _),(trodAll_cons_mk (Below.trod aMR (by kernel_rfl) (of_decide_eq_true (by kernel_rfl)) k0 hS.below W9) trodAll_mk0),rfl,hS.below.frame _,λh=>by cases h⟩

theorem a3O:(laidOutB Tryz.pinned.checked.prog)=true:=by kernel_rfl
theorem a3P:(mapsRowed Tryz.pinned.checked.prog)=true:=by kernel_rfl
theorem a3Q:(Rows.fnPeaksRow.inPlace == Tryz.pinned.checked.prog.inPlace 4)=true:=by kernel_rfl
theorem a0A:(Rows.fnPeaksRow.unfollowed == Tryz.pinned.checked.prog.unfollowed 4)=true:=by kernel_rfl
theorem a0B:(Rows.fnPeaksRow.recurses == Tryz.pinned.checked.prog.recurses 4)=true:=by kernel_rfl
theorem a0C:(Rows.fnPeaksRow.named == Tryz.pinned.checked.prog.varsNamed 4)=true:=by kernel_rfl
theorem a0D:(Rows.fnPeaksRow.plainKeys == Tryz.pinned.checked.prog.plainKeys)=true:=by kernel_rfl
theorem a0E:(Tryz.pinned.checked.prog.stopsHeard)=true:=by kernel_rfl
theorem a0F:(Tryz.pinned.checked.prog.mayEnter)=true:=by kernel_rfl
theorem a0G:(Rows.fnPeaksRow.lifted == Tryz.pinned.checked.prog.liftsFinal)=true:=by kernel_rfl
theorem a0H:(Tryz.pinned.checked.prog.make == some Rows.fnPeaksRow.make)=true:=by kernel_rfl
theorem a3R:Tryz.pinned.checked.prog.funcNamed Rows.fnPeaksRow.func=some 4:=by kernel_rfl
theorem cS{a b:Bool}(h:a=true)(k:b=true):(a && b)=true:=by rw[h,k];rfl
theorem aPW:joinedFacts Tryz.pinned.checked.prog 4 Tryz.f4 Rows.fnPeaksSpec Rows.fnPeaksRow=true:=by unfold joinedFacts;exact(cS (cS (cS (cS (cS (cS (cS (cS (cS (cS (cS (cS (cS (cS (cS (cS (cS (cS (cS (cS (cS (cS (cS (cS (cS (cS (cS (cS (cS (cS (cS (by kernel_rfl) a3O) a3P) (by kernel_rfl)) (by kernel_rfl)) (by kernel_rfl)) (by kernel_rfl)) (by kernel_rfl)) (by kernel_rfl)) a3Q) a0A) a0B) a0C) (by kernel_rfl)) (by kernel_rfl)) (by kernel_rfl)) (by kernel_rfl)) (by kernel_rfl)) (by kernel_rfl)) (by kernel_rfl)) (by kernel_rfl)) (by kernel_rfl)) a0D) (by kernel_rfl)) a0E) a0F) a0G) a0H) (by kernel_rfl)) (by kernel_rfl)) (by kernel_rfl)) (by kernel_rfl))
theorem aXD:Rows.fnPeaksRow.holds Tryz.pinned (OpenSpec.ofChange Rows.fnPeaksSpec):=
 OpenClaim.holds_of_wide 4 Tryz.f4 rfl rfl rfl rfl rfl rfl rfl ⟨rfl,rfl,rfl,rfl,rfl⟩ rfl rfl rfl rfl rfl a3R Tryz.func4 aPW
  (of_decide_eq_true (by kernel_rfl)) (by unfold Func.isWrapper;first|(rw[if_pos (by decide +kernel)];kernel_rfl)|(rw[if_neg (by decide +kernel)];exact⟨rfl,rfl⟩))
  (λos started H enc _=>aPV os started H enc)

theorem fnPeaks_holds:Rows.FnPeaksSaid:=aXD
#print axioms fnPeaks_holds
end Go.Proofs.YtdooodokcphomaaGreat
