/-
  THE ROW OVER 'laws.FnBounds', out of its walk and its plain law. Printed by fin3.py.
-/
import Derived.Test.YtbdmodalljibjaaGreatXSFnBounds
import Derived.Test.YtbdmodalljibjaaGreatRows
import Derived.WalkKit
import Derived.ProofKit
import Derived.OpenShut
import Derived.ShutString
import Derived.ChangeOld
import Derived.Below
import Derived.Carry
namespace Go.Proofs.YtbdmodalljibjaaGreat
open Go.Gv
open Go.ChangeShapes Go.WideShapes Go.ChangeAt Go.RowKit
open Go.ChangeMaps (open_string shut_string)
set_option linter.unusedVariables false

theorem D3:tU Tryz.prog 5 UInt8:=OD Tryz.underlying5
theorem yZ:tU Tryz.prog 64 (List UInt8):=EH Tryz.underlying64 (by kernel_rfl) (by decide) D3
theorem aB0:ownKnob Tryz.prog.godebug=none:=by kernel_rfl
theorem Q8:laidOutB Tryz.prog=true:=by kernel_rfl

set_option maxRecDepth 100000 in
theorem TH(os:Os)(started:os.Started)(H:Type)(enc:TypeId×Value→H) :
    ReturnsInHanded {} Tryz.checked os 10 .any (Rows.fnBoundsSpec.pre6 enc Tryz.prog Tryz.f10 Rows.fnBoundsRow.domain false) (Rows.fnBoundsSpec.post enc Tryz.prog Tryz.f10 false true false false):=by
  refine returnsInHanded_of_change (C:=Tryz.checked) aB0 started (by kernel_rfl) Tryz.func10
    (ChangeSpec.witness6 (enc:=enc) (C:=Tryz.checked) false ⟨#[],#[.slice none 0 0],[]⟩ 8 (by kernel_rfl) (by kernel_rfl) (by kernel_rfl) (by kernel_rfl)) ?_
  intro W base args ds gs before hval0 hW hcnd _
  have hval:∀(j:Nat) t v,Tryz.f10.params[j]?=some t→args[j]?=some v→Value.okWide Tryz.prog W .any base t v:=hval0
  have hW':=hW
  obtain⟨p,q,hA0,hV,rfl,hfz,hnd⟩:=hW
  have hA:DataW.TrodAll enc Tryz.prog W 0 (fun _=>true) true Tryz.f10.params.toList args.toList ds p:=hA0
  rw [Tryz.params10] at hA hval
  obtain⟨v0,vs0,d0,ds0,p0,q0,hargs,rfl,rfl,h0,r0⟩:=trodAll_cons hA
  obtain⟨rfl,rfl,rfl⟩:=trodAll_nil r0
  obtain rfl:args=#[v0]:=by cases args;simp_all
  obtain⟨rfl,rfl⟩:=trodVars_none hV
  have RV:∀x∈p0,x.block < W.heap.size:=by obtain⟨m,hm⟩:=h0;exact DataW.trod_lt m _ _ _ hm
  have k0:=h0
  obtain⟨a0,len0,cap0,rfl⟩:=okWide_slice Tryz.underlying64 (hval 0 64 v0 rfl rfl)
  obtain⟨x0,g0,f0⟩:=Trod.opens yZ h0
  obtain⟨su0,wu0⟩:=ZS g0
  have wv0:Value.slice a0 len0 cap0=Value.slice su0.a x0.length su0.c:=(List.cons.inj wu0).1
  injection wv0 with qa0 qb0 qc0;subst qa0;subst qb0;subst qc0
  clear hA0 hval0
  refine Calls.mono ((VS.r (TO (κ:=b7 W) g0) (aCB f0)).run [_] rfl (aCV W)) fun e W' ⟨v,he,_,hv,hS1⟩=>?_
  have hS:St (b7 W) W' [] []:=by obtain⟨⟨R,s1,_⟩,_⟩:=hS1;exact St.weaken s1 (by simp)
  have hv:v=.bool true:=(Option.some.inj hv).symm
  subst he;subst hv
  exact⟨_,rfl,_,_,_,[],_,[],hW',trodAll_mk1 (shut_bool Tryz.underlying4 _),(trodAll_cons_mk (Below.trod Q8 (by kernel_rfl) (of_decide_eq_true (by kernel_rfl)) k0 hS.below RV) trodAll_mk0),rfl,hS.below.frame _,fun h=>by cases h⟩

theorem aDW:(laidOutB Tryz.pinned.checked.prog)=true:=by kernel_rfl
theorem aDX:(mapsRowed Tryz.pinned.checked.prog)=true:=by kernel_rfl
theorem aDY:(Rows.fnBoundsRow.inPlace == Tryz.pinned.checked.prog.inPlace 10)=true:=by kernel_rfl
theorem aB1:(Rows.fnBoundsRow.unfollowed == Tryz.pinned.checked.prog.unfollowed 10)=true:=by kernel_rfl
theorem aB2:(Rows.fnBoundsRow.recurses == Tryz.pinned.checked.prog.recurses 10)=true:=by kernel_rfl
theorem aB3:(Rows.fnBoundsRow.named == Tryz.pinned.checked.prog.varsNamed 10)=true:=by kernel_rfl
theorem aB4:(Rows.fnBoundsRow.plainKeys == Tryz.pinned.checked.prog.plainKeys)=true:=by kernel_rfl
theorem aB5:(Tryz.pinned.checked.prog.stopsHeard)=true:=by kernel_rfl
theorem aB6:(Tryz.pinned.checked.prog.mayEnter)=true:=by kernel_rfl
theorem aB7:(Rows.fnBoundsRow.lifted == Tryz.pinned.checked.prog.liftsFinal)=true:=by kernel_rfl
theorem aB8:(Tryz.pinned.checked.prog.make == some Rows.fnBoundsRow.make)=true:=by kernel_rfl
theorem aDZ:Tryz.pinned.checked.prog.funcNamed Rows.fnBoundsRow.func=some 10:=by kernel_rfl
theorem bI{a b:Bool}(h:a=true)(k:b=true):(a && b)=true:=by rw [h,k];rfl
theorem TJ:joinedFacts Tryz.pinned.checked.prog 10 Tryz.f10 Rows.fnBoundsSpec Rows.fnBoundsRow=true:=by
  unfold joinedFacts
  exact(bI (bI (bI (bI (bI (bI (bI (bI (bI (bI (bI (bI (bI (bI (bI (bI (bI (bI (bI (bI (bI (bI (bI (bI (bI (bI (bI (bI (bI (bI (bI (by kernel_rfl) aDW) aDX) (by kernel_rfl)) (by kernel_rfl)) (by kernel_rfl)) (by kernel_rfl)) (by kernel_rfl)) (by kernel_rfl)) aDY) aB1) aB2) aB3) (by kernel_rfl)) (by kernel_rfl)) (by kernel_rfl)) (by kernel_rfl)) (by kernel_rfl)) (by kernel_rfl)) (by kernel_rfl)) (by kernel_rfl)) (by kernel_rfl)) aB4) (by kernel_rfl)) aB5) aB6) aB7) aB8) (by kernel_rfl)) (by kernel_rfl)) (by kernel_rfl)) (by kernel_rfl))
theorem Y4:Rows.fnBoundsRow.holds Tryz.pinned (OpenSpec.ofChange Rows.fnBoundsSpec):=
  OpenClaim.holds_of_wide 10 Tryz.f10 rfl rfl rfl rfl rfl rfl rfl ⟨rfl,rfl,rfl,rfl,rfl⟩ rfl rfl rfl rfl rfl aDZ Tryz.func10 TJ
    (of_decide_eq_true (by kernel_rfl)) (by unfold Func.isWrapper;first | (rw [if_pos (by decide +kernel)];kernel_rfl) | (rw [if_neg (by decide +kernel)];exact⟨rfl,rfl⟩))
    (fun os started H enc _=>TH os started H enc)

theorem fnBounds_holds:Rows.FnBoundsSaid:=Y4
#print axioms fnBounds_holds
end Go.Proofs.YtbdmodalljibjaaGreat
