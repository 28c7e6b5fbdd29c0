/-
  THE ROW OVER 'laws.FnParts', out of its walk and its plain law. Printed by fin3.py.
-/
import Derived.Test.YtbdmodalljibjaaGreatXSFnParts
import Derived.Test.YtbdmodalljibjaaGreatRows
import Derived.WalkKit
import Derived.ProofKit
import Derived.OpenShut
import Derived.ShutString
import Derived.ChangeOld
import Derived.Below
import Derived.Carry
namespace Go.Proofs.YtbdmodalljibjaaGreat
open Go.Gv
open Go.ChangeShapes Go.WideShapes Go.ChangeAt Go.RowKit
open Go.ChangeMaps (open_string shut_string)
set_option linter.unusedVariables false

theorem XV:E7 Tryz.prog 5 UInt8:=aC6 Tryz.underlying5
theorem R7:E7 Tryz.prog 64 (List UInt8):=SG Tryz.underlying64 (by kernel_rfl) (by decide) XV
theorem aEO:ownKnob Tryz.prog.godebug=none:=by kernel_rfl
theorem UF:laidOutB Tryz.prog=true:=by kernel_rfl

set_option maxRecDepth 100000 in
theorem XW(os:Os)(started:os.Started)(H:Type)(enc:TypeId×Value→H) :
    ReturnsInHanded {} Tryz.checked os 6 .any (Rows.fnPartsSpec.pre6 enc Tryz.prog Tryz.f6 Rows.fnPartsRow.domain false) (Rows.fnPartsSpec.post enc Tryz.prog Tryz.f6 false true false false):=by
  refine returnsInHanded_of_change (C:=Tryz.checked) aEO started (by kernel_rfl) Tryz.func6
    (ChangeSpec.witness6 (enc:=enc) (C:=Tryz.checked) false ⟨#[],#[.slice none 0 0],[]⟩ 8 (by kernel_rfl) (by kernel_rfl) (by kernel_rfl) (by kernel_rfl)) ?_
  intro W base args ds gs before hval0 hW hcnd _
  have hval:∀(j:Nat) t v,Tryz.f6.params[j]?=some t→args[j]?=some v→Value.okWide Tryz.prog W .any base t v:=hval0
  have hW':=hW
  obtain⟨p,q,hA0,hV,rfl,hfz,hnd⟩:=hW
  have hA:DataW.TrodAll enc Tryz.prog W 0 (fun _=>true) true Tryz.f6.params.toList args.toList ds p:=hA0
  rw [Tryz.params6] at hA hval
  obtain⟨v0,vs0,d0,ds0,p0,q0,hargs,rfl,rfl,h0,r0⟩:=trodAll_cons hA
  obtain⟨rfl,rfl,rfl⟩:=trodAll_nil r0
  obtain rfl:args=#[v0]:=by cases args;simp_all
  obtain⟨rfl,rfl⟩:=trodVars_none hV
  have YN:∀x∈p0,x.block < W.heap.size:=by obtain⟨m,hm⟩:=h0;exact DataW.trod_lt m _ _ _ hm
  have k0:=h0
  obtain⟨a0,len0,cap0,rfl⟩:=okWide_slice Tryz.underlying64 (hval 0 64 v0 rfl rfl)
  obtain⟨x0,g0,f0⟩:=Trod.opens R7 h0
  obtain⟨su0,wu0⟩:=aDJ g0
  have wv0:Value.slice a0 len0 cap0=Value.slice su0.a x0.length su0.c:=(List.cons.inj wu0).1
  injection wv0 with qa0 qb0 qc0;subst qa0;subst qb0;subst qc0
  clear hA0 hval0
  refine Calls.mono ((VS.r (YH (κ:=cD W) g0) (aE5 f0)).run [_] rfl (aIP W)) fun e W' ⟨v,he,_,hv,hS1⟩=>?_
  have hS:St (cD W) W' [] []:=by obtain⟨⟨R,s1,_⟩,_⟩:=hS1;exact St.weaken s1 (by simp)
  have hv:v=.bool true:=(Option.some.inj hv).symm
  subst he;subst hv
  exact⟨_,rfl,_,_,_,[],_,[],hW',trodAll_mk1 (shut_bool Tryz.underlying4 _),(trodAll_cons_mk (Below.trod UF (by kernel_rfl) (of_decide_eq_true (by kernel_rfl)) k0 hS.below YN) trodAll_mk0),rfl,hS.below.frame _,fun h=>by cases h⟩

theorem aGL:(laidOutB Tryz.pinned.checked.prog)=true:=by kernel_rfl
theorem aGM:(mapsRowed Tryz.pinned.checked.prog)=true:=by kernel_rfl
theorem aGN:(Rows.fnPartsRow.inPlace == Tryz.pinned.checked.prog.inPlace 6)=true:=by kernel_rfl
theorem aEP:(Rows.fnPartsRow.unfollowed == Tryz.pinned.checked.prog.unfollowed 6)=true:=by kernel_rfl
theorem aEQ:(Rows.fnPartsRow.recurses == Tryz.pinned.checked.prog.recurses 6)=true:=by kernel_rfl
theorem aER:(Rows.fnPartsRow.named == Tryz.pinned.checked.prog.varsNamed 6)=true:=by kernel_rfl
theorem aES:(Rows.fnPartsRow.plainKeys == Tryz.pinned.checked.prog.plainKeys)=true:=by kernel_rfl
theorem aET:(Tryz.pinned.checked.prog.stopsHeard)=true:=by kernel_rfl
theorem aEU:(Tryz.pinned.checked.prog.mayEnter)=true:=by kernel_rfl
theorem aEV:(Rows.fnPartsRow.lifted == Tryz.pinned.checked.prog.liftsFinal)=true:=by kernel_rfl
theorem aEW:(Tryz.pinned.checked.prog.make == some Rows.fnPartsRow.make)=true:=by kernel_rfl
theorem aGO:Tryz.pinned.checked.prog.funcNamed Rows.fnPartsRow.func=some 6:=by kernel_rfl
theorem bR{a b:Bool}(h:a=true)(k:b=true):(a && b)=true:=by rw [h,k];rfl
theorem XX:joinedFacts Tryz.pinned.checked.prog 6 Tryz.f6 Rows.fnPartsSpec Rows.fnPartsRow=true:=by
  unfold joinedFacts
  exact(bR (bR (bR (bR (bR (bR (bR (bR (bR (bR (bR (bR (bR (bR (bR (bR (bR (bR (bR (bR (bR (bR (bR (bR (bR (bR (bR (bR (bR (bR (bR (by kernel_rfl) aGL) aGM) (by kernel_rfl)) (by kernel_rfl)) (by kernel_rfl)) (by kernel_rfl)) (by kernel_rfl)) (by kernel_rfl)) aGN) aEP) aEQ) aER) (by kernel_rfl)) (by kernel_rfl)) (by kernel_rfl)) (by kernel_rfl)) (by kernel_rfl)) (by kernel_rfl)) (by kernel_rfl)) (by kernel_rfl)) (by kernel_rfl)) aES) (by kernel_rfl)) aET) aEU) aEV) aEW) (by kernel_rfl)) (by kernel_rfl)) (by kernel_rfl)) (by kernel_rfl))
theorem aCO:Rows.fnPartsRow.holds Tryz.pinned (OpenSpec.ofChange Rows.fnPartsSpec):=
  OpenClaim.holds_of_wide 6 Tryz.f6 rfl rfl rfl rfl rfl rfl rfl ⟨rfl,rfl,rfl,rfl,rfl⟩ rfl rfl rfl rfl rfl aGO Tryz.func6 XX
    (of_decide_eq_true (by kernel_rfl)) (by unfold Func.isWrapper;first | (rw [if_pos (by decide +kernel)];kernel_rfl) | (rw [if_neg (by decide +kernel)];exact⟨rfl,rfl⟩))
    (fun os started H enc _=>XW os started H enc)

theorem fnParts_holds:Rows.FnPartsSaid:=aCO
#print axioms fnParts_holds
end Go.Proofs.YtbdmodalljibjaaGreat
