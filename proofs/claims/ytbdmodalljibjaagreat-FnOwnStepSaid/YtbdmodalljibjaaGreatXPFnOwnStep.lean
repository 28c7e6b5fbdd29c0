/-
  THE ROW OVER 'laws.FnOwnStep', out of its walk and its plain law. Printed by fin3.py.
-/
import Derived.Test.YtbdmodalljibjaaGreatXRH
import Derived.Test.YtbdmodalljibjaaGreatRows
import Derived.WalkKit
import Derived.ProofKit
import Derived.OpenShut
import Derived.ShutString
import Derived.ChangeOld
import Derived.Below
import Derived.Carry
namespace Go.Proofs.YtbdmodalljibjaaGreat
open Go.Gv
open Go.ChangeShapes Go.WideShapes Go.ChangeAt Go.RowKit
open Go.ChangeMaps (open_string shut_string)
set_option linter.unusedVariables false

theorem aM9:Q2 Tryz.prog 5 UInt8:=aN9 Tryz.underlying5
theorem aL5:Q2 Tryz.prog 64 (List UInt8):=aHI Tryz.underlying64 (by kernel_rfl) (by decide) aM9
theorem aCW:ownKnob Tryz.prog.godebug=none:=by kernel_rfl
theorem TJ:laidOutB Tryz.prog=true:=by kernel_rfl

set_option maxRecDepth 100000 in
theorem VG(os:Os)(started:os.Started)(H:Type)(enc:TypeId×Value→H) :
    ReturnsInHanded {} Tryz.checked os 4 .any (Rows.fnOwnStepSpec.pre6 enc Tryz.prog Tryz.f4 Rows.fnOwnStepRow.domain false) (Rows.fnOwnStepSpec.post enc Tryz.prog Tryz.f4 false true false false):=by
  refine returnsInHanded_of_change (C:=Tryz.checked) aCW started (by kernel_rfl) Tryz.func4
    (ChangeSpec.witness6 (enc:=enc) (C:=Tryz.checked) false ⟨#[],#[.slice none 0 0],[]⟩ 8 (by kernel_rfl) (by kernel_rfl) (by kernel_rfl) (by kernel_rfl)) ?_
  intro W base args ds gs before hval0 hW hcnd _
  have hval:∀(j:Nat) t v,Tryz.f4.params[j]?=some t→args[j]?=some v→Value.okWide Tryz.prog W .any base t v:=hval0
  have hW':=hW
  obtain⟨p,q,hA0,hV,rfl,hfz,hnd⟩:=hW
  have hA:DataW.TrodAll enc Tryz.prog W 0 (fun _=>true) true Tryz.f4.params.toList args.toList ds p:=hA0
  rw [Tryz.params4] at hA hval
  obtain⟨v0,vs0,d0,ds0,p0,q0,hargs,rfl,rfl,h0,r0⟩:=trodAll_cons hA
  obtain⟨rfl,rfl,rfl⟩:=trodAll_nil r0
  obtain rfl:args=#[v0]:=by cases args;simp_all
  obtain⟨rfl,rfl⟩:=trodVars_none hV
  have F7:∀x∈p0,x.block < W.heap.size:=by obtain⟨m,hm⟩:=h0;exact DataW.trod_lt m _ _ _ hm
  have k0:=h0
  obtain⟨a0,len0,cap0,rfl⟩:=okWide_slice Tryz.underlying64 (hval 0 64 v0 rfl rfl)
  obtain⟨x0,g0,f0⟩:=Trod.opens aL5 h0
  obtain⟨su0,wu0⟩:=aK3 g0
  have wv0:Value.slice a0 len0 cap0=Value.slice su0.a x0.length su0.c:=(List.cons.inj wu0).1
  injection wv0 with qa0 qb0 qc0;subst qa0;subst qb0;subst qc0
  clear hA0 hval0
  refine Calls.mono ((VS.r (WV (κ:=dA W) g0) (aEF f0)).run [_] rfl (aO4 W)) fun e W' ⟨v,he,_,hv,hS1⟩=>?_
  have hS:St (dA W) W' [] []:=by obtain⟨⟨R,s1,_⟩,_⟩:=hS1;exact St.weaken s1 (by simp)
  have hv:v=.bool true:=(Option.some.inj hv).symm
  subst he;subst hv
  exact⟨_,rfl,_,_,_,[],_,[],hW',trodAll_mk1 (shut_bool Tryz.underlying4 _),(trodAll_cons_mk (Below.trod TJ (by kernel_rfl) (of_decide_eq_true (by kernel_rfl)) k0 hS.below F7) trodAll_mk0),rfl,hS.below.frame _,fun h=>by cases h⟩

theorem aFJ:(laidOutB Tryz.pinned.checked.prog)=true:=by kernel_rfl
theorem aFK:(mapsRowed Tryz.pinned.checked.prog)=true:=by kernel_rfl
theorem aFL:(Rows.fnOwnStepRow.inPlace == Tryz.pinned.checked.prog.inPlace 4)=true:=by kernel_rfl
theorem aCX:(Rows.fnOwnStepRow.unfollowed == Tryz.pinned.checked.prog.unfollowed 4)=true:=by kernel_rfl
theorem aCY:(Rows.fnOwnStepRow.recurses == Tryz.pinned.checked.prog.recurses 4)=true:=by kernel_rfl
theorem aCZ:(Rows.fnOwnStepRow.named == Tryz.pinned.checked.prog.varsNamed 4)=true:=by kernel_rfl
theorem aC0:(Rows.fnOwnStepRow.plainKeys == Tryz.pinned.checked.prog.plainKeys)=true:=by kernel_rfl
theorem aC1:(Tryz.pinned.checked.prog.stopsHeard)=true:=by kernel_rfl
theorem aC2:(Tryz.pinned.checked.prog.mayEnter)=true:=by kernel_rfl
theorem aC3:(Rows.fnOwnStepRow.lifted == Tryz.pinned.checked.prog.liftsFinal)=true:=by kernel_rfl
theorem aC4:(Tryz.pinned.checked.prog.make == some Rows.fnOwnStepRow.make)=true:=by kernel_rfl
theorem aFM:Tryz.pinned.checked.prog.funcNamed Rows.fnOwnStepRow.func=some 4:=by kernel_rfl
theorem bM{a b:Bool}(h:a=true)(k:b=true):(a && b)=true:=by rw [h,k];rfl
theorem VH:joinedFacts Tryz.pinned.checked.prog 4 Tryz.f4 Rows.fnOwnStepSpec Rows.fnOwnStepRow=true:=by
  unfold joinedFacts
  exact(bM (bM (bM (bM (bM (bM (bM (bM (bM (bM (bM (bM (bM (bM (bM (bM (bM (bM (bM (bM (bM (bM (bM (bM (bM (bM (bM (bM (bM (bM (bM (by kernel_rfl) aFJ) aFK) (by kernel_rfl)) (by kernel_rfl)) (by kernel_rfl)) (by kernel_rfl)) (by kernel_rfl)) (by kernel_rfl)) aFL) aCX) aCY) aCZ) (by kernel_rfl)) (by kernel_rfl)) (by kernel_rfl)) (by kernel_rfl)) (by kernel_rfl)) (by kernel_rfl)) (by kernel_rfl)) (by kernel_rfl)) (by kernel_rfl)) aC0) (by kernel_rfl)) aC1) aC2) aC3) aC4) (by kernel_rfl)) (by kernel_rfl)) (by kernel_rfl)) (by kernel_rfl))
theorem ZW:Rows.fnOwnStepRow.holds Tryz.pinned (OpenSpec.ofChange Rows.fnOwnStepSpec):=
  OpenClaim.holds_of_wide 4 Tryz.f4 rfl rfl rfl rfl rfl rfl rfl ⟨rfl,rfl,rfl,rfl,rfl⟩ rfl rfl rfl rfl rfl aFM Tryz.func4 VH
    (of_decide_eq_true (by kernel_rfl)) (by unfold Func.isWrapper;first | (rw [if_pos (by decide +kernel)];kernel_rfl) | (rw [if_neg (by decide +kernel)];exact⟨rfl,rfl⟩))
    (fun os started H enc _=>VG os started H enc)

theorem fnOwnStep_holds:Rows.FnOwnStepSaid:=ZW
#print axioms fnOwnStep_holds
end Go.Proofs.YtbdmodalljibjaaGreat
