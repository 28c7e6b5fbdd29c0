/-
 THE ROW OVER 'laws.FnLocks', out of its walk and its plain law. Printed by fin3.py.
-/
import Derived.Test.YtejjbceagmbdhaaGreatXUG
import Derived.Test.YtejjbceagmbdhaaGreatRows
import Derived.WalkKit
import Derived.ProofKit
import Derived.OpenShut
import Derived.ShutString
import Derived.ChangeOld
import Derived.Below
import Derived.Carry
namespace Go.Proofs.YtejjbceagmbdhaaGreat
open Go.Gv
open Go.ChangeShapes Go.WideShapes Go.ChangeAt Go.RowKit
open Go.ChangeMaps (open_string shut_string)
set_option linter.unusedVariables false

theorem aSZ:SP Tryz.prog 5 UInt8:=aT0 Tryz.underlying5
theorem aRA:SP Tryz.prog 22 (List UInt8):=aKS Tryz.underlying22 (by kernel_rfl) (by decide) aSZ
theorem aKD:ownKnob Tryz.prog.godebug=none:=by kernel_rfl
theorem ZR:laidOutB Tryz.prog=true:=by kernel_rfl

set_option maxRecDepth 100000 in
theorem aCA(os:Os)(started:os.Started)(H:Type)(enc:TypeId×Value->H) :
  ReturnsInHanded {} Tryz.checked os 4 .any (Rows.fnLocksSpec.pre6 enc Tryz.prog Tryz.f4 Rows.fnLocksRow.domain false) (Rows.fnLocksSpec.post enc Tryz.prog Tryz.f4 false true false false):=by
 refine returnsInHanded_of_change (C:=Tryz.checked) aKD started (by kernel_rfl) Tryz.func4
  (ChangeSpec.witness6 (enc:=enc) (C:=Tryz.checked) false ⟨#[],#[.slice none 0 0],[]⟩ 8 (by kernel_rfl) (by kernel_rfl) (by kernel_rfl) (by kernel_rfl)) ?_
 intro W base args ds gs before hval0 hW hcnd _
 have hval:∀(j:Nat) t v,Tryz.f4.params[j]?=some t->args[j]?=some v->Value.okWide Tryz.prog W .any base t v:=hval0
 have hW':=hW
 obtain⟨p,q,hA0,hV,rfl,hfz,hnd⟩:=hW
 have hA:DataW.TrodAll enc Tryz.prog W 0 (fun _=>true) true Tryz.f4.params.toList args.toList ds p:=hA0
 rw [Tryz.params4] at hA hval
 obtain⟨v0,vs0,d0,ds0,p0,q0,hargs,rfl,rfl,h0,r0⟩:=trodAll_cons hA
 obtain⟨rfl,rfl,rfl⟩:=trodAll_nil r0
 obtain rfl:args=#[v0]:=by cases args;simp_all
 obtain⟨rfl,rfl⟩:=trodVars_none hV
 have lt0:∀x∈p0,x.block < W.heap.size:=by obtain⟨m,hm⟩:=h0;exact DataW.trod_lt m _ _ _ hm
 have k0:=h0
 obtain⟨a0,len0,cap0,rfl⟩:=okWide_slice Tryz.underlying22 (hval 0 22 v0 rfl rfl)
 obtain⟨x0,g0,f0⟩:=Trod.opens aRA h0
 obtain⟨su0,wu0⟩:=KI g0
 have wv0:Value.slice a0 len0 cap0=Value.slice su0.a x0.length su0.c:=(List.cons.inj wu0).1
 injection wv0 with qa0 qb0 qc0;subst qa0;subst qb0;subst qc0
 clear hA0 hval0
 refine Calls.mono ((VS.r (aEK (κ:=bZ W) g0) (aM4 f0)).run [_] rfl (aRN W)) fun e W' ⟨v,he,_,hv,hS1⟩=>?_
 have hS:St (bZ W) W' [] []:=by obtain⟨⟨R,s1,_⟩,_⟩:=hS1;exact St.weaken s1 (by simp)
 have hv:v=.bool true:=(Option.some.inj hv).symm
 subst he;subst hv
 exact⟨_,rfl,_,_,_,[],_,[],hW',trodAll_mk1 (shut_bool Tryz.underlying4 _),(trodAll_cons_mk (Below.trod ZR (by kernel_rfl) (of_decide_eq_true (by kernel_rfl)) k0 hS.below lt0) trodAll_mk0),rfl,hS.below.frame _,fun h=>by cases h⟩

theorem aM6:(laidOutB Tryz.pinned.checked.prog)=true:=by kernel_rfl
theorem aM7:(mapsRowed Tryz.pinned.checked.prog)=true:=by kernel_rfl
theorem aM8:(Rows.fnLocksRow.inPlace == Tryz.pinned.checked.prog.inPlace 4)=true:=by kernel_rfl
theorem aKE:(Rows.fnLocksRow.unfollowed == Tryz.pinned.checked.prog.unfollowed 4)=true:=by kernel_rfl
theorem aKF:(Rows.fnLocksRow.recurses == Tryz.pinned.checked.prog.recurses 4)=true:=by kernel_rfl
theorem aKG:(Rows.fnLocksRow.named == Tryz.pinned.checked.prog.varsNamed 4)=true:=by kernel_rfl
theorem aKH:(Rows.fnLocksRow.plainKeys == Tryz.pinned.checked.prog.plainKeys)=true:=by kernel_rfl
theorem aKI:(Tryz.pinned.checked.prog.stopsHeard)=true:=by kernel_rfl
theorem aKJ:(Tryz.pinned.checked.prog.mayEnter)=true:=by kernel_rfl
theorem aKK:(Rows.fnLocksRow.lifted == Tryz.pinned.checked.prog.liftsFinal)=true:=by kernel_rfl
theorem aKL:(Tryz.pinned.checked.prog.make == some Rows.fnLocksRow.make)=true:=by kernel_rfl
theorem aM9:Tryz.pinned.checked.prog.funcNamed Rows.fnLocksRow.func=some 4:=by kernel_rfl
theorem bU{a b:Bool}(h:a=true)(k:b=true):(a && b)=true:=by rw [h,k];rfl
theorem aCB:joinedFacts Tryz.pinned.checked.prog 4 Tryz.f4 Rows.fnLocksSpec Rows.fnLocksRow=true:=by
 unfold joinedFacts
 exact(bU (bU (bU (bU (bU (bU (bU (bU (bU (bU (bU (bU (bU (bU (bU (bU (bU (bU (bU (bU (bU (bU (bU (bU (bU (bU (bU (bU (bU (bU (bU (by kernel_rfl) aM6) aM7) (by kernel_rfl)) (by kernel_rfl)) (by kernel_rfl)) (by kernel_rfl)) (by kernel_rfl)) (by kernel_rfl)) aM8) aKE) aKF) aKG) (by kernel_rfl)) (by kernel_rfl)) (by kernel_rfl)) (by kernel_rfl)) (by kernel_rfl)) (by kernel_rfl)) (by kernel_rfl)) (by kernel_rfl)) (by kernel_rfl)) aKH) (by kernel_rfl)) aKI) aKJ) aKK) aKL) (by kernel_rfl)) (by kernel_rfl)) (by kernel_rfl)) (by kernel_rfl))
theorem aIJ:Rows.fnLocksRow.holds Tryz.pinned (OpenSpec.ofChange Rows.fnLocksSpec):=
 OpenClaim.holds_of_wide 4 Tryz.f4 rfl rfl rfl rfl rfl rfl rfl ⟨rfl,rfl,rfl,rfl,rfl⟩ rfl rfl rfl rfl rfl aM9 Tryz.func4 aCB
  (of_decide_eq_true (by kernel_rfl)) (by unfold Func.isWrapper;first | (rw [if_pos (by decide +kernel)];kernel_rfl) | (rw [if_neg (by decide +kernel)];exact⟨rfl,rfl⟩))
  (fun os started H enc _=>aCA os started H enc)

theorem fnLocks_holds:Rows.FnLocksSaid:=aIJ
#print axioms fnLocks_holds
end Go.Proofs.YtejjbceagmbdhaaGreat
