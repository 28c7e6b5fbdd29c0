/-
  THE ROW OVER 'laws.FnPins', out of its walk and its plain law. Printed by fin3.py.
-/
import Derived.Test.YtbdmodalljibjaaGreatXSFnPins
import Derived.Test.YtbdmodalljibjaaGreatRows
import Derived.WalkKit
import Derived.ProofKit
import Derived.OpenShut
import Derived.ShutString
import Derived.ChangeOld
import Derived.Below
import Derived.Carry
namespace Go.Proofs.YtbdmodalljibjaaGreat
open Go.Gv
open Go.ChangeShapes Go.WideShapes Go.ChangeAt Go.RowKit
open Go.ChangeMaps (open_string shut_string)
set_option linter.unusedVariables false

theorem D3:tU Tryz.prog 5 UInt8:=OD Tryz.underlying5
theorem yZ:tU Tryz.prog 64 (List UInt8):=EH Tryz.underlying64 (by kernel_rfl) (by decide) D3
theorem aFP:ownKnob Tryz.prog.godebug=none:=by kernel_rfl
theorem XL:laidOutB Tryz.prog=true:=by kernel_rfl

set_option maxRecDepth 100000 in
theorem Y5(os:Os)(started:os.Started)(H:Type)(enc:TypeId×Value→H) :
    ReturnsInHanded {} Tryz.checked os 9 .any (Rows.fnPinsSpec.pre6 enc Tryz.prog Tryz.f9 Rows.fnPinsRow.domain false) (Rows.fnPinsSpec.post enc Tryz.prog Tryz.f9 false true false false):=by
  refine returnsInHanded_of_change (C:=Tryz.checked) aFP started (by kernel_rfl) Tryz.func9
    (ChangeSpec.witness6 (enc:=enc) (C:=Tryz.checked) false ⟨#[],#[.slice none 0 0],[]⟩ 8 (by kernel_rfl) (by kernel_rfl) (by kernel_rfl) (by kernel_rfl)) ?_
  intro W base args ds gs before hval0 hW hcnd _
  have hval:∀(j:Nat) t v,Tryz.f9.params[j]?=some t→args[j]?=some v→Value.okWide Tryz.prog W .any base t v:=hval0
  have hW':=hW
  obtain⟨p,q,hA0,hV,rfl,hfz,hnd⟩:=hW
  have hA:DataW.TrodAll enc Tryz.prog W 0 (fun _=>true) true Tryz.f9.params.toList args.toList ds p:=hA0
  rw [Tryz.params9] at hA hval
  obtain⟨v0,vs0,d0,ds0,p0,q0,hargs,rfl,rfl,h0,r0⟩:=trodAll_cons hA
  obtain⟨rfl,rfl,rfl⟩:=trodAll_nil r0
  obtain rfl:args=#[v0]:=by cases args;simp_all
  obtain⟨rfl,rfl⟩:=trodVars_none hV
  have RV:∀x∈p0,x.block < W.heap.size:=by obtain⟨m,hm⟩:=h0;exact DataW.trod_lt m _ _ _ hm
  have k0:=h0
  obtain⟨a0,len0,cap0,rfl⟩:=okWide_slice Tryz.underlying64 (hval 0 64 v0 rfl rfl)
  obtain⟨x0,g0,f0⟩:=Trod.opens yZ h0
  obtain⟨su0,wu0⟩:=ZS g0
  have wv0:Value.slice a0 len0 cap0=Value.slice su0.a x0.length su0.c:=(List.cons.inj wu0).1
  injection wv0 with qa0 qb0 qc0;subst qa0;subst qb0;subst qc0
  clear hA0 hval0
  refine Calls.mono ((VS.r (ZB (κ:=b7 W) g0) (aGA f0)).run [_] rfl (aCV W)) fun e W' ⟨v,he,_,hv,hS1⟩=>?_
  have hS:St (b7 W) W' [] []:=by obtain⟨⟨R,s1,_⟩,_⟩:=hS1;exact St.weaken s1 (by simp)
  have hv:v=.bool true:=(Option.some.inj hv).symm
  subst he;subst hv
  exact⟨_,rfl,_,_,_,[],_,[],hW',trodAll_mk1 (shut_bool Tryz.underlying4 _),(trodAll_cons_mk (Below.trod XL (by kernel_rfl) (of_decide_eq_true (by kernel_rfl)) k0 hS.below RV) trodAll_mk0),rfl,hS.below.frame _,fun h=>by cases h⟩

theorem aIR:(laidOutB Tryz.pinned.checked.prog)=true:=by kernel_rfl
theorem aIS:(mapsRowed Tryz.pinned.checked.prog)=true:=by kernel_rfl
theorem aIT:(Rows.fnPinsRow.inPlace == Tryz.pinned.checked.prog.inPlace 9)=true:=by kernel_rfl
theorem aFQ:(Rows.fnPinsRow.unfollowed == Tryz.pinned.checked.prog.unfollowed 9)=true:=by kernel_rfl
theorem aFR:(Rows.fnPinsRow.recurses == Tryz.pinned.checked.prog.recurses 9)=true:=by kernel_rfl
theorem aFS:(Rows.fnPinsRow.named == Tryz.pinned.checked.prog.varsNamed 9)=true:=by kernel_rfl
theorem aFT:(Rows.fnPinsRow.plainKeys == Tryz.pinned.checked.prog.plainKeys)=true:=by kernel_rfl
theorem aFU:(Tryz.pinned.checked.prog.stopsHeard)=true:=by kernel_rfl
theorem aFV:(Tryz.pinned.checked.prog.mayEnter)=true:=by kernel_rfl
theorem aFW:(Rows.fnPinsRow.lifted == Tryz.pinned.checked.prog.liftsFinal)=true:=by kernel_rfl
theorem aFX:(Tryz.pinned.checked.prog.make == some Rows.fnPinsRow.make)=true:=by kernel_rfl
theorem aIU:Tryz.pinned.checked.prog.funcNamed Rows.fnPinsRow.func=some 9:=by kernel_rfl
theorem bZ{a b:Bool}(h:a=true)(k:b=true):(a && b)=true:=by rw [h,k];rfl
theorem Y6:joinedFacts Tryz.pinned.checked.prog 9 Tryz.f9 Rows.fnPinsSpec Rows.fnPinsRow=true:=by
  unfold joinedFacts
  exact(bZ (bZ (bZ (bZ (bZ (bZ (bZ (bZ (bZ (bZ (bZ (bZ (bZ (bZ (bZ (bZ (bZ (bZ (bZ (bZ (bZ (bZ (bZ (bZ (bZ (bZ (bZ (bZ (bZ (bZ (bZ (by kernel_rfl) aIR) aIS) (by kernel_rfl)) (by kernel_rfl)) (by kernel_rfl)) (by kernel_rfl)) (by kernel_rfl)) (by kernel_rfl)) aIT) aFQ) aFR) aFS) (by kernel_rfl)) (by kernel_rfl)) (by kernel_rfl)) (by kernel_rfl)) (by kernel_rfl)) (by kernel_rfl)) (by kernel_rfl)) (by kernel_rfl)) (by kernel_rfl)) aFT) (by kernel_rfl)) aFU) aFV) aFW) aFX) (by kernel_rfl)) (by kernel_rfl)) (by kernel_rfl)) (by kernel_rfl))
theorem aD0:Rows.fnPinsRow.holds Tryz.pinned (OpenSpec.ofChange Rows.fnPinsSpec):=
  OpenClaim.holds_of_wide 9 Tryz.f9 rfl rfl rfl rfl rfl rfl rfl ⟨rfl,rfl,rfl,rfl,rfl⟩ rfl rfl rfl rfl rfl aIU Tryz.func9 Y6
    (of_decide_eq_true (by kernel_rfl)) (by unfold Func.isWrapper;first | (rw [if_pos (by decide +kernel)];kernel_rfl) | (rw [if_neg (by decide +kernel)];exact⟨rfl,rfl⟩))
    (fun os started H enc _=>Y5 os started H enc)

theorem fnPins_holds:Rows.FnPinsSaid:=aD0
#print axioms fnPins_holds
end Go.Proofs.YtbdmodalljibjaaGreat
