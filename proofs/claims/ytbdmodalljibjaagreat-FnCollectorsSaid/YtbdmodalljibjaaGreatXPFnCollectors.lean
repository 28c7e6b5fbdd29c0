/-
  THE ROW OVER 'laws.FnCollectors', out of its walk and its plain law. Printed by fin3.py.
-/
import Derived.Test.YtbdmodalljibjaaGreatXNH
import Derived.Test.YtbdmodalljibjaaGreatRows
import Derived.WalkKit
import Derived.ProofKit
import Derived.OpenShut
import Derived.ShutString
import Derived.ChangeOld
import Derived.Below
import Derived.Carry
namespace Go.Proofs.YtbdmodalljibjaaGreat
open Go.Gv
open Go.ChangeShapes Go.WideShapes Go.ChangeAt Go.RowKit
open Go.ChangeMaps (open_string shut_string)
set_option linter.unusedVariables false

theorem aRO:RZ Tryz.prog 5 UInt8:=aO0 Tryz.underlying5
theorem aNW:RZ Tryz.prog 64 (List UInt8):=aIR Tryz.underlying64 (by kernel_rfl) (by decide) aRO
theorem YA:ownKnob Tryz.prog.godebug=none:=by kernel_rfl
theorem RW:laidOutB Tryz.prog=true:=by kernel_rfl

set_option maxRecDepth 100000 in
theorem SQ(os:Os)(started:os.Started)(H:Type)(enc:TypeId×Value→H) :
    ReturnsInHanded {} Tryz.checked os 5 .any (Rows.fnCollectorsSpec.pre6 enc Tryz.prog Tryz.f5 Rows.fnCollectorsRow.domain false) (Rows.fnCollectorsSpec.post enc Tryz.prog Tryz.f5 false true false false):=by
  refine returnsInHanded_of_change (C:=Tryz.checked) YA started (by kernel_rfl) Tryz.func5
    (ChangeSpec.witness6 (enc:=enc) (C:=Tryz.checked) false ⟨#[],#[.slice none 0 0],[]⟩ 8 (by kernel_rfl) (by kernel_rfl) (by kernel_rfl) (by kernel_rfl)) ?_
  intro W base args ds gs before hval0 hW hcnd _
  have hval:∀(j:Nat) t v,Tryz.f5.params[j]?=some t→args[j]?=some v→Value.okWide Tryz.prog W .any base t v:=hval0
  have hW':=hW
  obtain⟨p,q,hA0,hV,rfl,hfz,hnd⟩:=hW
  have hA:DataW.TrodAll enc Tryz.prog W 0 (fun _=>true) true Tryz.f5.params.toList args.toList ds p:=hA0
  rw [Tryz.params5] at hA hval
  obtain⟨v0,vs0,d0,ds0,p0,q0,hargs,rfl,rfl,h0,r0⟩:=trodAll_cons hA
  obtain⟨rfl,rfl,rfl⟩:=trodAll_nil r0
  obtain rfl:args=#[v0]:=by cases args;simp_all
  obtain⟨rfl,rfl⟩:=trodVars_none hV
  have GS:∀x∈p0,x.block < W.heap.size:=by obtain⟨m,hm⟩:=h0;exact DataW.trod_lt m _ _ _ hm
  have k0:=h0
  obtain⟨a0,len0,cap0,rfl⟩:=okWide_slice Tryz.underlying64 (hval 0 64 v0 rfl rfl)
  obtain⟨x0,g0,f0⟩:=Trod.opens aNW h0
  obtain⟨su0,wu0⟩:=aL7 g0
  have wv0:Value.slice a0 len0 cap0=Value.slice su0.a x0.length su0.c:=(List.cons.inj wu0).1
  injection wv0 with qa0 qb0 qc0;subst qa0;subst qb0;subst qc0
  clear hA0 hval0
  refine Calls.mono ((VS.r (SO (κ:=c9 W) g0) (X9 f0)).run [_] rfl (aPY W)) fun e W' ⟨v,he,_,hv,hS1⟩=>?_
  have hS:St (c9 W) W' [] []:=by obtain⟨⟨R,s1,_⟩,_⟩:=hS1;exact St.weaken s1 (by simp)
  have hv:v=.bool true:=(Option.some.inj hv).symm
  subst he;subst hv
  exact⟨_,rfl,_,_,_,[],_,[],hW',trodAll_mk1 (shut_bool Tryz.underlying4 _),(trodAll_cons_mk (Below.trod RW (by kernel_rfl) (of_decide_eq_true (by kernel_rfl)) k0 hS.below GS) trodAll_mk0),rfl,hS.below.frame _,fun h=>by cases h⟩

theorem aAS:(laidOutB Tryz.pinned.checked.prog)=true:=by kernel_rfl
theorem aAT:(mapsRowed Tryz.pinned.checked.prog)=true:=by kernel_rfl
theorem aAU:(Rows.fnCollectorsRow.inPlace == Tryz.pinned.checked.prog.inPlace 5)=true:=by kernel_rfl
theorem YB:(Rows.fnCollectorsRow.unfollowed == Tryz.pinned.checked.prog.unfollowed 5)=true:=by kernel_rfl
theorem YC:(Rows.fnCollectorsRow.recurses == Tryz.pinned.checked.prog.recurses 5)=true:=by kernel_rfl
theorem YD:(Rows.fnCollectorsRow.named == Tryz.pinned.checked.prog.varsNamed 5)=true:=by kernel_rfl
theorem YE:(Rows.fnCollectorsRow.plainKeys == Tryz.pinned.checked.prog.plainKeys)=true:=by kernel_rfl
theorem YF:(Tryz.pinned.checked.prog.stopsHeard)=true:=by kernel_rfl
theorem YG:(Tryz.pinned.checked.prog.mayEnter)=true:=by kernel_rfl
theorem YH:(Rows.fnCollectorsRow.lifted == Tryz.pinned.checked.prog.liftsFinal)=true:=by kernel_rfl
theorem YI:(Tryz.pinned.checked.prog.make == some Rows.fnCollectorsRow.make)=true:=by kernel_rfl
theorem aAV:Tryz.pinned.checked.prog.funcNamed Rows.fnCollectorsRow.func=some 5:=by kernel_rfl
theorem a8{a b:Bool}(h:a=true)(k:b=true):(a && b)=true:=by rw [h,k];rfl
theorem SR:joinedFacts Tryz.pinned.checked.prog 5 Tryz.f5 Rows.fnCollectorsSpec Rows.fnCollectorsRow=true:=by
  unfold joinedFacts
  exact(a8 (a8 (a8 (a8 (a8 (a8 (a8 (a8 (a8 (a8 (a8 (a8 (a8 (a8 (a8 (a8 (a8 (a8 (a8 (a8 (a8 (a8 (a8 (a8 (a8 (a8 (a8 (a8 (a8 (a8 (a8 (by kernel_rfl) aAS) aAT) (by kernel_rfl)) (by kernel_rfl)) (by kernel_rfl)) (by kernel_rfl)) (by kernel_rfl)) (by kernel_rfl)) aAU) YB) YC) YD) (by kernel_rfl)) (by kernel_rfl)) (by kernel_rfl)) (by kernel_rfl)) (by kernel_rfl)) (by kernel_rfl)) (by kernel_rfl)) (by kernel_rfl)) (by kernel_rfl)) YE) (by kernel_rfl)) YF) YG) YH) YI) (by kernel_rfl)) (by kernel_rfl)) (by kernel_rfl)) (by kernel_rfl))
theorem WY:Rows.fnCollectorsRow.holds Tryz.pinned (OpenSpec.ofChange Rows.fnCollectorsSpec):=
  OpenClaim.holds_of_wide 5 Tryz.f5 rfl rfl rfl rfl rfl rfl rfl ⟨rfl,rfl,rfl,rfl,rfl⟩ rfl rfl rfl rfl rfl aAV Tryz.func5 SR
    (of_decide_eq_true (by kernel_rfl)) (by unfold Func.isWrapper;first | (rw [if_pos (by decide +kernel)];kernel_rfl) | (rw [if_neg (by decide +kernel)];exact⟨rfl,rfl⟩))
    (fun os started H enc _=>SQ os started H enc)

theorem fnCollectors_holds:Rows.FnCollectorsSaid:=WY
#print axioms fnCollectors_holds
end Go.Proofs.YtbdmodalljibjaaGreat
