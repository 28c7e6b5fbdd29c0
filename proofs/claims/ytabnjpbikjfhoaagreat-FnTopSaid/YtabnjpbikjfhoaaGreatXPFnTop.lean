/-
 THE ROW OVER 'laws.FnTop', out of its walk and its plain law. Printed by fin3.py.
-/
import Derived.Test.YtabnjpbikjfhoaaGreatXOH
import Derived.Test.YtabnjpbikjfhoaaGreatRows
import Derived.WalkKit
import Derived.ProofKit
import Derived.OpenShut
import Derived.ShutString
import Derived.ChangeOld
import Derived.Below
import Derived.Carry
namespace Go.Proofs.YtabnjpbikjfhoaaGreat
open Go.Gv
open Go.ChangeShapes Go.WideShapes Go.ChangeAt Go.RowKit
open Go.ChangeMaps (open_string shut_string)
set_option linter.unusedVariables false

theorem aY9:VK Tryz.prog 5 UInt8:=aV1 Tryz.underlying5
theorem aUL:VK Tryz.prog 22 (List UInt8):=aM1 Tryz.underlying22 (by kernel_rfl) (by decide) aY9
theorem aUM:ownKnob Tryz.prog.godebug=none:=by kernel_rfl
theorem aJJ:laidOutB Tryz.prog=true:=by kernel_rfl

set_option maxRecDepth 100000 in
theorem aMO(os:Os)(started:os.Started)(H:Type)(enc:TypeId×Value->H) :
  ReturnsInHanded {} Tryz.checked os 5 .any (Rows.fnTopSpec.pre6 enc Tryz.prog Tryz.f5 Rows.fnTopRow.domain false) (Rows.fnTopSpec.post enc Tryz.prog Tryz.f5 false true false false):=by
 refine returnsInHanded_of_change (C:=Tryz.checked) aUM started (by kernel_rfl) Tryz.func5
  (ChangeSpec.witness6 (enc:=enc) (C:=Tryz.checked) false ⟨#[],#[.slice none 0 0],[]⟩ 8 (by kernel_rfl) (by kernel_rfl) (by kernel_rfl) (by kernel_rfl)) ?_
 intro W base args ds gs before hval0 hW hcnd _
 have hval:∀(j:Nat) t v,Tryz.f5.params[j]?=some t->args[j]?=some v->Value.okWide Tryz.prog W .any base t v:=hval0
 have hW':=hW
 obtain⟨p,q,hA0,hV,rfl,hfz,hnd⟩:=hW
 have hA:DataW.TrodAll enc Tryz.prog W 0 (fun _=>true) true Tryz.f5.params.toList args.toList ds p:=hA0
 rw [Tryz.params5] at hA hval
 obtain⟨v0,vs0,d0,ds0,p0,q0,hargs,rfl,rfl,h0,r0⟩:=trodAll_cons hA
 obtain⟨rfl,rfl,rfl⟩:=trodAll_nil r0
 obtain rfl:args=#[v0]:=by cases args;simp_all
 obtain⟨rfl,rfl⟩:=trodVars_none hV
 have lt0:∀x∈p0,x.block < W.heap.size:=by obtain⟨m,hm⟩:=h0;exact DataW.trod_lt m _ _ _ hm
 have k0:=h0
 obtain⟨a0,len0,cap0,rfl⟩:=okWide_slice Tryz.underlying22 (hval 0 22 v0 rfl rfl)
 obtain⟨x0,g0,f0⟩:=Trod.opens aUL h0
 obtain⟨su0,wu0⟩:=aRW g0
 have wv0:Value.slice a0 len0 cap0=Value.slice su0.a x0.length su0.c:=(List.cons.inj wu0).1
 injection wv0 with qa0 qb0 qc0;subst qa0;subst qb0;subst qc0
 clear hA0 hval0
 refine Calls.mono ((VS.r (aLU (κ:=cL W) g0) (aUK f0)).run [_] rfl (aS6 W)) fun e W' ⟨v,he,_,hv,hS1⟩=>?_
 have hS:St (cL W) W' [] []:=by obtain⟨⟨R,s1,_⟩,_⟩:=hS1;exact St.weaken s1 (by simp)
 have hv:v=.bool true:=(Option.some.inj hv).symm
 subst he;subst hv
 exact⟨_,rfl,_,_,_,[],_,[],hW',trodAll_mk1 (shut_bool Tryz.underlying4 _),(trodAll_cons_mk (Below.trod aJJ (by kernel_rfl) (of_decide_eq_true (by kernel_rfl)) k0 hS.below lt0) trodAll_mk0),rfl,hS.below.frame _,fun h=>by cases h⟩

theorem aZA:(laidOutB Tryz.pinned.checked.prog)=true:=by kernel_rfl
theorem aZB:(mapsRowed Tryz.pinned.checked.prog)=true:=by kernel_rfl
theorem aZC:(Rows.fnTopRow.inPlace == Tryz.pinned.checked.prog.inPlace 5)=true:=by kernel_rfl
theorem aUN:(Rows.fnTopRow.unfollowed == Tryz.pinned.checked.prog.unfollowed 5)=true:=by kernel_rfl
theorem aUO:(Rows.fnTopRow.recurses == Tryz.pinned.checked.prog.recurses 5)=true:=by kernel_rfl
theorem aUP:(Rows.fnTopRow.named == Tryz.pinned.checked.prog.varsNamed 5)=true:=by kernel_rfl
theorem aUQ:(Rows.fnTopRow.plainKeys == Tryz.pinned.checked.prog.plainKeys)=true:=by kernel_rfl
theorem aUR:(Tryz.pinned.checked.prog.stopsHeard)=true:=by kernel_rfl
theorem aUS:(Tryz.pinned.checked.prog.mayEnter)=true:=by kernel_rfl
theorem aUT:(Rows.fnTopRow.lifted == Tryz.pinned.checked.prog.liftsFinal)=true:=by kernel_rfl
theorem aUU:(Tryz.pinned.checked.prog.make == some Rows.fnTopRow.make)=true:=by kernel_rfl
theorem aZD:Tryz.pinned.checked.prog.funcNamed Rows.fnTopRow.func=some 5:=by kernel_rfl
theorem cR{a b:Bool}(h:a=true)(k:b=true):(a && b)=true:=by rw [h,k];rfl
theorem aMP:joinedFacts Tryz.pinned.checked.prog 5 Tryz.f5 Rows.fnTopSpec Rows.fnTopRow=true:=by
 unfold joinedFacts
 exact(cR (cR (cR (cR (cR (cR (cR (cR (cR (cR (cR (cR (cR (cR (cR (cR (cR (cR (cR (cR (cR (cR (cR (cR (cR (cR (cR (cR (cR (cR (cR (by kernel_rfl) aZA) aZB) (by kernel_rfl)) (by kernel_rfl)) (by kernel_rfl)) (by kernel_rfl)) (by kernel_rfl)) (by kernel_rfl)) aZC) aUN) aUO) aUP) (by kernel_rfl)) (by kernel_rfl)) (by kernel_rfl)) (by kernel_rfl)) (by kernel_rfl)) (by kernel_rfl)) (by kernel_rfl)) (by kernel_rfl)) (by kernel_rfl)) aUQ) (by kernel_rfl)) aUR) aUS) aUT) aUU) (by kernel_rfl)) (by kernel_rfl)) (by kernel_rfl)) (by kernel_rfl))
theorem aQ1:Rows.fnTopRow.holds Tryz.pinned (OpenSpec.ofChange Rows.fnTopSpec):=
 OpenClaim.holds_of_wide 5 Tryz.f5 rfl rfl rfl rfl rfl rfl rfl ⟨rfl,rfl,rfl,rfl,rfl⟩ rfl rfl rfl rfl rfl aZD Tryz.func5 aMP
  (of_decide_eq_true (by kernel_rfl)) (by unfold Func.isWrapper;first | (rw [if_pos (by decide +kernel)];kernel_rfl) | (rw [if_neg (by decide +kernel)];exact⟨rfl,rfl⟩))
  (fun os started H enc _=>aMO os started H enc)

theorem fnTop_holds:Rows.FnTopSaid:=aQ1
#print axioms fnTop_holds
end Go.Proofs.YtabnjpbikjfhoaaGreat
