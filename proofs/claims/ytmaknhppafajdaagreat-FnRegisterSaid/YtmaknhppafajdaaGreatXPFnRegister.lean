/-
  THE ROW OVER 'laws.FnRegister', out of its walk and its plain law. Printed by fin3.py.
-/
import Derived.Test.YtmaknhppafajdaaGreatXSFnRegister
import Derived.Test.YtmaknhppafajdaaGreatRows
import Derived.WalkKit
import Derived.ProofKit
import Derived.OpenShut
import Derived.ShutString
import Derived.ChangeOld
import Derived.Below
import Derived.Carry
namespace Go.Proofs.YtmaknhppafajdaaGreat
open Go.Gv
open Go.ChangeShapes Go.WideShapes Go.ChangeAt Go.RowKit
open Go.ChangeMaps (open_string shut_string)
set_option linter.unusedVariables false

theorem EX:uZ Tryz.prog 5 UInt8:=SB Tryz.underlying5
theorem yL:uZ Tryz.prog 22 (List UInt8):=G5 Tryz.underlying22 (by kernel_rfl) (by decide) EX
theorem aGL:ownKnob Tryz.prog.godebug=none:=by kernel_rfl
theorem W0:laidOutB Tryz.prog=true:=by kernel_rfl

set_option maxRecDepth 100000 in
theorem YQ(os:Os)(started:os.Started)(H:Type)(enc:TypeId×Value→H) :
    ReturnsInHanded {} Tryz.checked os 9 .any (Rows.fnRegisterSpec.pre6 enc Tryz.prog Tryz.f9 Rows.fnRegisterRow.domain false) (Rows.fnRegisterSpec.post enc Tryz.prog Tryz.f9 false true false false):=by
  refine returnsInHanded_of_change (C:=Tryz.checked) aGL started (by kernel_rfl) Tryz.func9
    (ChangeSpec.witness6 (enc:=enc) (C:=Tryz.checked) false ⟨#[],#[.slice none 0 0],[]⟩ 8 (by kernel_rfl) (by kernel_rfl) (by kernel_rfl) (by kernel_rfl)) ?_
  intro W base args ds gs before hval0 hW hcnd _
  have hval:∀(j:Nat) t v,Tryz.f9.params[j]?=some t→args[j]?=some v→Value.okWide Tryz.prog W .any base t v:=hval0
  have hW':=hW
  obtain⟨p,q,hA0,hV,rfl,hfz,hnd⟩:=hW
  have hA:DataW.TrodAll enc Tryz.prog W 0 (fun _=>true) true Tryz.f9.params.toList args.toList ds p:=hA0
  rw [Tryz.params9] at hA hval
  obtain⟨v0,vs0,d0,ds0,p0,q0,hargs,rfl,rfl,h0,r0⟩:=trodAll_cons hA
  obtain⟨rfl,rfl,rfl⟩:=trodAll_nil r0
  obtain rfl:args=#[v0]:=by cases args;simp_all
  obtain⟨rfl,rfl⟩:=trodVars_none hV
  have WJ:∀x∈p0,x.block < W.heap.size:=by obtain⟨m,hm⟩:=h0;exact DataW.trod_lt m _ _ _ hm
  have k0:=h0
  obtain⟨a0,len0,cap0,rfl⟩:=okWide_slice Tryz.underlying22 (hval 0 22 v0 rfl rfl)
  obtain⟨x0,g0,f0⟩:=Trod.opens yL h0
  obtain⟨su0,wu0⟩:=aAG g0
  have wv0:Value.slice a0 len0 cap0=Value.slice su0.a x0.length su0.c:=(List.cons.inj wu0).1
  injection wv0 with qa0 qb0 qc0;subst qa0;subst qb0;subst qc0
  clear hA0 hval0
  refine Calls.mono ((VS.r (YV (κ:=c9 W) g0) (aHF f0)).run [_] rfl (aKO W)) fun e W' ⟨v,he,_,hv,hS1⟩=>?_
  have hS:St (c9 W) W' [] []:=by obtain⟨⟨R,s1,_⟩,_⟩:=hS1;exact St.weaken s1 (by simp)
  have hv:v=.bool true:=(Option.some.inj hv).symm
  subst he;subst hv
  exact⟨_,rfl,_,_,_,[],_,[],hW',trodAll_mk1 (shut_bool Tryz.underlying4 _),(trodAll_cons_mk (Below.trod W0 (by kernel_rfl) (of_decide_eq_true (by kernel_rfl)) k0 hS.below WJ) trodAll_mk0),rfl,hS.below.frame _,fun h=>by cases h⟩

theorem aIL:(laidOutB Tryz.pinned.checked.prog)=true:=by kernel_rfl
theorem aIM:(mapsRowed Tryz.pinned.checked.prog)=true:=by kernel_rfl
theorem aIN:(Rows.fnRegisterRow.inPlace == Tryz.pinned.checked.prog.inPlace 9)=true:=by kernel_rfl
theorem aGM:(Rows.fnRegisterRow.unfollowed == Tryz.pinned.checked.prog.unfollowed 9)=true:=by kernel_rfl
theorem aGN:(Rows.fnRegisterRow.recurses == Tryz.pinned.checked.prog.recurses 9)=true:=by kernel_rfl
theorem aGO:(Rows.fnRegisterRow.named == Tryz.pinned.checked.prog.varsNamed 9)=true:=by kernel_rfl
theorem aGP:(Rows.fnRegisterRow.plainKeys == Tryz.pinned.checked.prog.plainKeys)=true:=by kernel_rfl
theorem aGQ:(Tryz.pinned.checked.prog.stopsHeard)=true:=by kernel_rfl
theorem aGR:(Tryz.pinned.checked.prog.mayEnter)=true:=by kernel_rfl
theorem aGS:(Rows.fnRegisterRow.lifted == Tryz.pinned.checked.prog.liftsFinal)=true:=by kernel_rfl
theorem aGT:(Tryz.pinned.checked.prog.make == some Rows.fnRegisterRow.make)=true:=by kernel_rfl
theorem aIO:Tryz.pinned.checked.prog.funcNamed Rows.fnRegisterRow.func=some 9:=by kernel_rfl
theorem bO{a b:Bool}(h:a=true)(k:b=true):(a && b)=true:=by rw [h,k];rfl
theorem YR:joinedFacts Tryz.pinned.checked.prog 9 Tryz.f9 Rows.fnRegisterSpec Rows.fnRegisterRow=true:=by
  unfold joinedFacts
  exact(bO (bO (bO (bO (bO (bO (bO (bO (bO (bO (bO (bO (bO (bO (bO (bO (bO (bO (bO (bO (bO (bO (bO (bO (bO (bO (bO (bO (bO (bO (bO (by kernel_rfl) aIL) aIM) (by kernel_rfl)) (by kernel_rfl)) (by kernel_rfl)) (by kernel_rfl)) (by kernel_rfl)) (by kernel_rfl)) aIN) aGM) aGN) aGO) (by kernel_rfl)) (by kernel_rfl)) (by kernel_rfl)) (by kernel_rfl)) (by kernel_rfl)) (by kernel_rfl)) (by kernel_rfl)) (by kernel_rfl)) (by kernel_rfl)) aGP) (by kernel_rfl)) aGQ) aGR) aGS) aGT) (by kernel_rfl)) (by kernel_rfl)) (by kernel_rfl)) (by kernel_rfl))
theorem aCD:Rows.fnRegisterRow.holds Tryz.pinned (OpenSpec.ofChange Rows.fnRegisterSpec):=
  OpenClaim.holds_of_wide 9 Tryz.f9 rfl rfl rfl rfl rfl rfl rfl ⟨rfl,rfl,rfl,rfl,rfl⟩ rfl rfl rfl rfl rfl aIO Tryz.func9 YR
    (of_decide_eq_true (by kernel_rfl)) (by unfold Func.isWrapper;first | (rw [if_pos (by decide +kernel)];kernel_rfl) | (rw [if_neg (by decide +kernel)];exact⟨rfl,rfl⟩))
    (fun os started H enc _=>YQ os started H enc)

theorem fnRegister_holds:Rows.FnRegisterSaid:=aCD
#print axioms fnRegister_holds
end Go.Proofs.YtmaknhppafajdaaGreat
