/-
 THE ROW OVER 'laws.FnSerial',out of its walk and its plain law. Printed by fin3.py.
-/
import Derived.Test.YtdooodokcphomaaGreatXUJ
import Derived.Test.YtdooodokcphomaaGreatRows
import Derived.WalkKit
import Derived.ProofKit
import Derived.OpenShut
import Derived.ShutString
import Derived.ChangeOld
import Derived.Below
import Derived.Carry
namespace Go.Proofs.YtdooodokcphomaaGreat
open Go.Gv
open Go.ChangeShapes Go.WideShapes Go.ChangeAt Go.RowKit
open Go.ChangeMaps (open_string shut_string)
set_option linter.unusedVariables false

theorem bDX:aEU Tryz.prog 5 UInt8:=bES Tryz.underlying5
theorem bBA:aEU Tryz.prog 22 (List UInt8):=a2L Tryz.underlying22 (by kernel_rfl) (by decide) bDX
theorem aZI:ownKnob Tryz.prog.godebug=none:=by kernel_rfl
theorem aK4:laidOutB Tryz.prog=true:=by kernel_rfl

set_option maxRecDepth 100000 in
theorem aNK(os:Os)(started:os.Started)(H:Type)(enc:TypeId×Value->H) :
  ReturnsInHanded {} Tryz.checked os 3 .any (Rows.fnSerialSpec.pre6 enc Tryz.prog Tryz.f3 Rows.fnSerialRow.domain false) (Rows.fnSerialSpec.post enc Tryz.prog Tryz.f3 false true false false):=by
 refine returnsInHanded_of_change (C:=Tryz.checked) aZI started (by kernel_rfl) Tryz.func3
  (ChangeSpec.witness6 (enc:=enc) (C:=Tryz.checked) false ⟨#[],#[.slice none 0 0],[]⟩ 8 (by kernel_rfl) (by kernel_rfl) (by kernel_rfl) (by kernel_rfl)) ?_
 intro W base args ds gs before hval0 hW hcnd _;have hval:∀(j:Nat) t v,Tryz.f3.params[j]?=some t->args[j]?=some v->Value.okWide Tryz.prog W .any base t v:=hval0;have hW':=hW;obtain⟨p,q,hA0,hV,rfl,hfz,hnd⟩:=hW;have hA:DataW.TrodAll enc Tryz.prog W 0 (λ_=>true) true Tryz.f3.params.toList args.toList ds p:=hA0;rw[Tryz.params3] at hA hval;obtain⟨v0,vs0,d0,ds0,p0,q0,hargs,rfl,rfl,h0,r0⟩:=trodAll_cons hA;obtain⟨rfl,rfl,rfl⟩:=trodAll_nil r0;obtain rfl:args=#[v0]:=by cases args;simp_all
 obtain⟨rfl,rfl⟩:=trodVars_none hV;have Y9:∀x∈p0,x.block<W.heap.size:=by obtain⟨m,hm⟩:=h0;exact DataW.trod_lt m _ _ _ hm
 have k0:=h0;obtain⟨a0,len0,cap0,rfl⟩:=okWide_slice Tryz.underlying22 (hval 0 22 v0 rfl rfl);obtain⟨x0,g0,f0⟩:=Trod.opens bBA h0;obtain⟨su0,wu0⟩:=R4 g0;have wv0:Value.slice a0 len0 cap0=Value.slice su0.a x0.length su0.c:=(List.cons.inj wu0).1;injection wv0 with qa0 qb0 qc0;subst qa0;subst qb0;subst qc0
 clear hA0 hval0;refine Calls.mono ((VS.r (aPL (U:=eF W) g0) (a10 f0)).run [_] rfl (aZ3 W)) λe W' ⟨v,he,_,hv,hS1⟩=>?_;have hS:St (eF W) W' [] []:=by obtain⟨⟨R,s1,_⟩,_⟩:=hS1;exact St.weaken s1 (by simp)
 have hv:v=.bool true:=(Option.some.inj hv).symm;subst he;subst hv;exact⟨_,rfl,_,_,_,[],_,[],hW',trodAll_mk1 (shut_bool Tryz.underlying4 _),(trodAll_cons_mk (Below.trod aK4 (by kernel_rfl) (of_decide_eq_true (by kernel_rfl)) k0 hS.below Y9) trodAll_mk0),rfl,hS.below.frame _,λh=>by cases h⟩

theorem a17:(laidOutB Tryz.pinned.checked.prog)=true:=by kernel_rfl
theorem a18:(mapsRowed Tryz.pinned.checked.prog)=true:=by kernel_rfl
theorem a2A:(Rows.fnSerialRow.inPlace == Tryz.pinned.checked.prog.inPlace 3)=true:=by kernel_rfl
theorem aZJ:(Rows.fnSerialRow.unfollowed == Tryz.pinned.checked.prog.unfollowed 3)=true:=by kernel_rfl
theorem aZK:(Rows.fnSerialRow.recurses == Tryz.pinned.checked.prog.recurses 3)=true:=by kernel_rfl
theorem aZL:(Rows.fnSerialRow.named == Tryz.pinned.checked.prog.varsNamed 3)=true:=by kernel_rfl
theorem aZM:(Rows.fnSerialRow.plainKeys == Tryz.pinned.checked.prog.plainKeys)=true:=by kernel_rfl
theorem aZN:(Tryz.pinned.checked.prog.stopsHeard)=true:=by kernel_rfl
theorem aZO:(Tryz.pinned.checked.prog.mayEnter)=true:=by kernel_rfl
theorem aZP:(Rows.fnSerialRow.lifted == Tryz.pinned.checked.prog.liftsFinal)=true:=by kernel_rfl
theorem aZQ:(Tryz.pinned.checked.prog.make == some Rows.fnSerialRow.make)=true:=by kernel_rfl
theorem a2B:Tryz.pinned.checked.prog.funcNamed Rows.fnSerialRow.func=some 3:=by kernel_rfl
theorem b9{a b:Bool}(h:a=true)(k:b=true):(a && b)=true:=by rw[h,k];rfl
theorem aNL:joinedFacts Tryz.pinned.checked.prog 3 Tryz.f3 Rows.fnSerialSpec Rows.fnSerialRow=true:=by unfold joinedFacts;exact(b9 (b9 (b9 (b9 (b9 (b9 (b9 (b9 (b9 (b9 (b9 (b9 (b9 (b9 (b9 (b9 (b9 (b9 (b9 (b9 (b9 (b9 (b9 (b9 (b9 (b9 (b9 (b9 (b9 (b9 (b9 (by kernel_rfl) a17) a18) (by kernel_rfl)) (by kernel_rfl)) (by kernel_rfl)) (by kernel_rfl)) (by kernel_rfl)) (by kernel_rfl)) a2A) aZJ) aZK) aZL) (by kernel_rfl)) (by kernel_rfl)) (by kernel_rfl)) (by kernel_rfl)) (by kernel_rfl)) (by kernel_rfl)) (by kernel_rfl)) (by kernel_rfl)) (by kernel_rfl)) aZM) (by kernel_rfl)) aZN) aZO) aZP) aZQ) (by kernel_rfl)) (by kernel_rfl)) (by kernel_rfl)) (by kernel_rfl))
theorem aV1:Rows.fnSerialRow.holds Tryz.pinned (OpenSpec.ofChange Rows.fnSerialSpec):=
 OpenClaim.holds_of_wide 3 Tryz.f3 rfl rfl rfl rfl rfl rfl rfl ⟨rfl,rfl,rfl,rfl,rfl⟩ rfl rfl rfl rfl rfl a2B Tryz.func3 aNL
  (of_decide_eq_true (by kernel_rfl)) (by unfold Func.isWrapper;first|(rw[if_pos (by decide +kernel)];kernel_rfl)|(rw[if_neg (by decide +kernel)];exact⟨rfl,rfl⟩))
  (λos started H enc _=>aNK os started H enc)

theorem fnSerial_holds:Rows.FnSerialSaid:=aV1
#print axioms fnSerial_holds
end Go.Proofs.YtdooodokcphomaaGreat
