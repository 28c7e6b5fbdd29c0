/-
  THE ROW OVER 'laws.FnExactDrain', out of its walk and its plain law. Printed by fin3.py.
-/
import Derived.Test.YtbdmodalljibjaaGreatXOH
import Derived.Test.YtbdmodalljibjaaGreatRows
import Derived.WalkKit
import Derived.ProofKit
import Derived.OpenShut
import Derived.ShutString
import Derived.ChangeOld
import Derived.Below
import Derived.Carry
namespace Go.Proofs.YtbdmodalljibjaaGreat
open Go.Gv
open Go.ChangeShapes Go.WideShapes Go.ChangeAt Go.RowKit
open Go.ChangeMaps (open_string shut_string)
set_option linter.unusedVariables false

theorem dM:eM Tryz.prog 3 Int:=aPW Tryz.underlying3
theorem aN0:eM Tryz.prog 208 Ev:=e9 Tryz.underlying208 (by kernel_rfl) (of_cons (k:=1) dM rfl (by kernel_rfl) (of_cons (k:=1) dM rfl (by kernel_rfl) (of_cons (k:=1) dM rfl (by kernel_rfl) (of_cons (k:=1) dM rfl (by kernel_rfl) (of_cons (k:=1) dM rfl (by kernel_rfl) (of_cons (k:=1) dM rfl (by kernel_rfl) (y6 (k:=1) dM rfl (by kernel_rfl) rfl))))))) (fun d=>(d.Kind,d.Who,d.aR,d.Cell,d.Handle,d.dN,d.Code)) (fun p=>⟨⟨p.1,p.2.1,p.2.2.1,p.2.2.2.1,p.2.2.2.2.1,p.2.2.2.2.2.1,p.2.2.2.2.2.2⟩,rfl⟩) (fun h=>h) (fun h=>h)
theorem aQ0:eM Tryz.prog 38 (List Ev):=m5 Tryz.underlying38 (by kernel_rfl) (by decide) aN0
theorem aFR:eM Tryz.prog 202 dP:=e9 Tryz.underlying202 (by kernel_rfl) (of_cons (k:=1) dM rfl (by kernel_rfl) (of_cons (k:=1) dM rfl (by kernel_rfl) (of_cons (k:=1) dM rfl (by kernel_rfl) (y6 (k:=1) dM rfl (by kernel_rfl) rfl)))) (fun d=>(d.Kind,d.Cell,d.dQ,d.dN)) (fun p=>⟨⟨p.1,p.2.1,p.2.2.1,p.2.2.2⟩,rfl⟩) (fun h=>h) (fun h=>h)
theorem aN1:eM Tryz.prog 195 (List dP):=m5 Tryz.underlying195 (by kernel_rfl) (by decide) aFR
theorem aN2:eM Tryz.prog 197 Queue:=e9 Tryz.underlying197 (by kernel_rfl) (y6 (k:=1) aN1 rfl (by kernel_rfl) rfl) (fun d=>(d.eZ)) (fun p=>⟨⟨p⟩,rfl⟩) (fun h=>h) (fun h=>h)
theorem aQ1:eM Tryz.prog 37 (List Queue):=m5 Tryz.underlying37 (by kernel_rfl) (by decide) aN2
theorem W3:eM Tryz.prog 4 Bool:=aMV Tryz.underlying4
theorem aN3:eM Tryz.prog 203 Sub:=e9 Tryz.underlying203 (by kernel_rfl) (of_cons (k:=1) dM rfl (by kernel_rfl) (of_cons (k:=1) dM rfl (by kernel_rfl) (of_cons (k:=1) dM rfl (by kernel_rfl) (of_cons (k:=1) dM rfl (by kernel_rfl) (of_cons (k:=1) dM rfl (by kernel_rfl) (of_cons (k:=1) dM rfl (by kernel_rfl) (of_cons (k:=1) dM rfl (by kernel_rfl) (of_cons (k:=1) dM rfl (by kernel_rfl) (of_cons (k:=1) dM rfl (by kernel_rfl) (y6 (k:=1) W3 rfl (by kernel_rfl) rfl)))))))))) (fun d=>(d.Kind,d.A,d.Pc,d.E,d.Row,d.B,d.H,d.Out,d.Code,d.cJ)) (fun p=>⟨⟨p.1,p.2.1,p.2.2.1,p.2.2.2.1,p.2.2.2.2.1,p.2.2.2.2.2.1,p.2.2.2.2.2.2.1,p.2.2.2.2.2.2.2.1,p.2.2.2.2.2.2.2.2.1,p.2.2.2.2.2.2.2.2.2⟩,rfl⟩) (fun h=>h) (fun h=>h)
theorem aN4:eM Tryz.prog 205 bW:=e9 Tryz.underlying205 (by kernel_rfl) (of_cons (k:=1) W3 rfl (by kernel_rfl) (of_cons (k:=4) aFR rfl (by kernel_rfl) (of_cons (k:=1) dM rfl (by kernel_rfl) (of_cons (k:=1) dM rfl (by kernel_rfl) (of_cons (k:=10) aN3 rfl (by kernel_rfl) (of_cons (k:=1) dM rfl (by kernel_rfl) (of_cons (k:=1) dM rfl (by kernel_rfl) (of_cons (k:=1) dM rfl (by kernel_rfl) (y6 (k:=1) dM rfl (by kernel_rfl) rfl))))))))) (fun d=>(d.fP,d.Op,d.aR,d.Pc,d.Sub,d.H,d.Old,d.dN,d.Code)) (fun p=>⟨⟨p.1,p.2.1,p.2.2.1,p.2.2.2.1,p.2.2.2.2.1,p.2.2.2.2.2.1,p.2.2.2.2.2.2.1,p.2.2.2.2.2.2.2.1,p.2.2.2.2.2.2.2.2⟩,rfl⟩) (fun h=>h) (fun h=>h)
theorem aQ2:eM Tryz.prog 36 (List bW):=m5 Tryz.underlying36 (by kernel_rfl) (by decide) aN4
theorem NQ:eM Tryz.prog 22 (List Int):=m5 Tryz.underlying22 (by kernel_rfl) (by decide) dM
theorem aN5:eM Tryz.prog 367 bM:=e9 Tryz.underlying367 (by kernel_rfl) (of_cons (k:=1) dM rfl (by kernel_rfl) (y6 (k:=1) dM rfl (by kernel_rfl) rfl)) (fun d=>(d.Handle,d.aM)) (fun p=>⟨⟨p.1,p.2⟩,rfl⟩) (fun h=>h) (fun h=>h)
theorem aN6:eM Tryz.prog 265 (List bM):=m5 Tryz.underlying265 (by kernel_rfl) (by decide) aN5
theorem aN7:eM Tryz.prog 267 aO:=e9 Tryz.underlying267 (by kernel_rfl) (y6 (k:=1) aN6 rfl (by kernel_rfl) rfl) (fun d=>(d.Rows)) (fun p=>⟨⟨p⟩,rfl⟩) (fun h=>h) (fun h=>h)
theorem aQ3:eM Tryz.prog 33 (List aO):=m5 Tryz.underlying33 (by kernel_rfl) (by decide) aN7
theorem aN8:eM Tryz.prog 336 fO:=e9 Tryz.underlying336 (by kernel_rfl) (of_cons (k:=1) W3 rfl (by kernel_rfl) (of_cons (k:=1) dM rfl (by kernel_rfl) (of_cons (k:=1) W3 rfl (by kernel_rfl) (y6 (k:=1) dM rfl (by kernel_rfl) rfl)))) (fun d=>(d.On,d.aM,d.eI,d.Seen)) (fun p=>⟨⟨p.1,p.2.1,p.2.2.1,p.2.2.2⟩,rfl⟩) (fun h=>h) (fun h=>h)
theorem aQ4:eM Tryz.prog 30 (List fO):=m5 Tryz.underlying30 (by kernel_rfl) (by decide) aN8
theorem aQ5:eM Tryz.prog 32 aJ:=e9 Tryz.underlying32 (by kernel_rfl) (of_cons (k:=1) dM rfl (by kernel_rfl) (y6 (k:=1) aQ4 rfl (by kernel_rfl) rfl)) (fun d=>(d.aM,d.bD)) (fun p=>⟨⟨p.1,p.2⟩,rfl⟩) (fun h=>h) (fun h=>h)
theorem aN9:eM Tryz.prog 364 aH:=e9 Tryz.underlying364 (by kernel_rfl) (y6 (k:=1) NQ rfl (by kernel_rfl) rfl) (fun d=>(d.aL)) (fun p=>⟨⟨p⟩,rfl⟩) (fun h=>h) (fun h=>h)
theorem aIM:eM Tryz.prog 25 (List aH):=m5 Tryz.underlying25 (by kernel_rfl) (by decide) aN9
theorem aQ6:eM Tryz.prog 27 aA:=e9 Tryz.underlying27 (by kernel_rfl) (of_cons (k:=1) aIM rfl (by kernel_rfl) (y6 (k:=1) aIM rfl (by kernel_rfl) rfl)) (fun d=>(d.Global,d.bQ)) (fun p=>⟨⟨p.1,p.2⟩,rfl⟩) (fun h=>h) (fun h=>h)
theorem aQ7:eM Tryz.prog 24 aG:=e9 Tryz.underlying24 (by kernel_rfl) (of_cons (k:=1) NQ rfl (by kernel_rfl) (y6 (k:=1) NQ rfl (by kernel_rfl) rfl)) (fun d=>(d.Bytes,d.Class)) (fun p=>⟨⟨p.1,p.2⟩,rfl⟩) (fun h=>h) (fun h=>h)
theorem aQ8:eM Tryz.prog 29 Mem:=e9 Tryz.underlying29 (by kernel_rfl) (of_cons (k:=2) aQ7 rfl (by kernel_rfl) (y6 (k:=2) aQ6 rfl (by kernel_rfl) rfl)) (fun d=>(d.aG,d.aA)) (fun p=>⟨⟨p.1,p.2⟩,rfl⟩) (fun h=>h) (fun h=>h)
theorem aQ9:eM Tryz.prog 35 aD:=e9 Tryz.underlying35 (by kernel_rfl) (of_cons (k:=4) aQ8 rfl (by kernel_rfl) (of_cons (k:=2) aQ5 rfl (by kernel_rfl) (of_cons (k:=1) aQ3 rfl (by kernel_rfl) (y6 (k:=1) NQ rfl (by kernel_rfl) rfl)))) (fun d=>(d.Mem,d.aJ,d.aX,d.jQ)) (fun p=>⟨⟨p.1,p.2.1,p.2.2.1,p.2.2.2⟩,rfl⟩) (fun h=>h) (fun h=>h)
theorem aRA:eM Tryz.prog 40 aC:=e9 Tryz.underlying40 (by kernel_rfl) (of_cons (k:=8) aQ9 rfl (by kernel_rfl) (of_cons (k:=1) NQ rfl (by kernel_rfl) (of_cons (k:=1) aQ2 rfl (by kernel_rfl) (of_cons (k:=1) aQ1 rfl (by kernel_rfl) (of_cons (k:=1) aQ0 rfl (by kernel_rfl) (y6 (k:=1) dM rfl (by kernel_rfl) rfl)))))) (fun d=>(d.aD,d.Cells,d.aW,d.cG,d.Log,d.aR)) (fun p=>⟨⟨p.1,p.2.1,p.2.2.1,p.2.2.2.1,p.2.2.2.2.1,p.2.2.2.2.2⟩,rfl⟩) (fun h=>h) (fun h=>h)
theorem YH:ownKnob Tryz.prog.godebug=none:=by kernel_rfl
theorem EV:laidOutB Tryz.prog=true:=by kernel_rfl

set_option maxRecDepth 100000 in
theorem S1(os:Os)(started:os.Started)(H:Type)(enc:TypeId×Value→H) :
    ReturnsInHanded {} Tryz.checked os 3 .any (Rows.fnExactDrainSpec.pre6 enc Tryz.prog Tryz.f3 Rows.fnExactDrainRow.domain false) (Rows.fnExactDrainSpec.post enc Tryz.prog Tryz.f3 false true false false):=by
  refine returnsInHanded_of_change (C:=Tryz.checked) YH started (by kernel_rfl) Tryz.func3
    (ChangeSpec.witness6 (enc:=enc) (C:=Tryz.checked) false ⟨#[],#[.agg #[.slice none 0 0,.slice none 0 0,.slice none 0 0,.slice none 0 0,.int .i64 0,.slice none 0 0,.slice none 0 0,.slice none 0 0,.slice none 0 0,.slice none 0 0,.slice none 0 0,.slice none 0 0,.int .i64 0],.int .i64 0],[]⟩ 8 (by kernel_rfl) (by kernel_rfl) (by kernel_rfl) (by kernel_rfl)) ?_
  intro W base args ds gs before hval0 hW hcnd _
  have hval:∀(j:Nat) t v,Tryz.f3.params[j]?=some t→args[j]?=some v→Value.okWide Tryz.prog W .any base t v:=hval0
  have hW':=hW
  obtain⟨p,q,hA0,hV,rfl,hfz,hnd⟩:=hW
  have hA:DataW.TrodAll enc Tryz.prog W 0 (fun _=>true) true Tryz.f3.params.toList args.toList ds p:=hA0
  rw [Tryz.params3] at hA hval
  obtain⟨v0,vs0,d0,ds0,p0,q0,hargs,rfl,rfl,h0,r0⟩:=trodAll_cons hA
  obtain⟨v1,vs1,d1,ds1,p1,q1,rfl,rfl,rfl,h1,r1⟩:=trodAll_cons r0
  obtain⟨rfl,rfl,rfl⟩:=trodAll_nil r1
  obtain rfl:args=#[v0,v1]:=by cases args;simp_all
  obtain⟨rfl,rfl⟩:=trodVars_none hV
  have HY:∀x∈p0,x.block < W.heap.size:=by obtain⟨m,hm⟩:=h0;exact DataW.trod_lt m _ _ _ hm
  have k0:=h0
  obtain⟨cs0,rfl,hsz0⟩:=okWide_struct Tryz.underlying40 (hval 0 40 v0 rfl rfl)
  obtain⟨x0,g0,f0⟩:=Trod.opens aRA h0
  obtain⟨l0⟩:=cs0
  obtain⟨u0_0,u0_1,u0_2,u0_3,u0_4,u0_5,u0_6,u0_7,u0_8,u0_9,u0_10,e0,hu0_0,hu0_1,hu0_2,hu0_3,hu0_4,hu0_5,hu0_6,hu0_7,hu0_8,hu0_9,hu0_10⟩:=aT3 g0
  obtain⟨su0_0,wu0_0⟩:=JS hu0_0
  injection wu0_0 with wu0_0 _;subst wu0_0
  obtain⟨su0_1,wu0_1⟩:=JS hu0_1
  injection wu0_1 with wu0_1 _;subst wu0_1
  obtain⟨su0_2,wu0_2⟩:=JS hu0_2
  injection wu0_2 with wu0_2 _;subst wu0_2
  obtain⟨su0_3,wu0_3⟩:=JS hu0_3
  injection wu0_3 with wu0_3 _;subst wu0_3
  obtain⟨su0_4,wu0_4⟩:=JS hu0_4
  injection wu0_4 with wu0_4 _;subst wu0_4
  obtain⟨su0_5,wu0_5⟩:=JS hu0_5
  injection wu0_5 with wu0_5 _;subst wu0_5
  obtain⟨su0_6,wu0_6⟩:=JS hu0_6
  injection wu0_6 with wu0_6 _;subst wu0_6
  obtain⟨su0_7,wu0_7⟩:=JS hu0_7
  injection wu0_7 with wu0_7 _;subst wu0_7
  obtain⟨su0_8,wu0_8⟩:=JS hu0_8
  injection wu0_8 with wu0_8 _;subst wu0_8
  obtain⟨su0_9,wu0_9⟩:=JS hu0_9
  injection wu0_9 with wu0_9 _;subst wu0_9
  obtain⟨su0_10,wu0_10⟩:=JS hu0_10
  injection wu0_10 with wu0_10 _;subst wu0_10
  have e0':l0=[_,_,_,_,.int .i64 (x0.aD.aJ.aM),_,_,_,_,_,_,_,.int .i64 (x0.aR)]:=e0
  subst e0'
  have lt1:∀x∈p1,x.block < W.heap.size:=by obtain⟨m,hm⟩:=h1;exact DataW.trod_lt m _ _ _ hm
  have k1:=h1
  obtain⟨a1,rfl,rfl,rfl,w1⟩:=open_int Tryz.underlying3 (hval 1 3 v1 rfl rfl) h1
  have f1:fit a1:=by show -9223372036854775808≤a1∧a1≤9223372036854775807;simpa [Lit.wf,show IntKind.i64.min = -9223372036854775808 by decide,show IntKind.i64.max=9223372036854775807 by decide] using w1
  clear hA0 hval0
  refine Calls.mono ((VS.r (SZ (κ:=cS W) hu0_0 hu0_1 hu0_2 hu0_3 hu0_4 hu0_5 hu0_6 hu0_7 hu0_8 hu0_9 hu0_10) (YG f0 f1)).run [_,_] rfl (aWS W)) fun e W' ⟨v,he,_,hv,hS1⟩=>?_
  have hS:St (cS W) W' [] []:=by obtain⟨⟨R,s1,_⟩,_⟩:=hS1;exact St.weaken s1 (by simp)
  have hv:v=.bool true:=(Option.some.inj hv).symm
  subst he;subst hv
  exact⟨_,rfl,_,_,_,[],_,[],hW',trodAll_mk1 (shut_bool Tryz.underlying4 _),(trodAll_cons_mk (Below.trod EV (by kernel_rfl) (of_decide_eq_true (by kernel_rfl)) k0 hS.below HY) (trodAll_cons_mk (Below.trod EV (by kernel_rfl) (of_decide_eq_true (by kernel_rfl)) k1 hS.below lt1) trodAll_mk0)),rfl,hS.below.frame _,fun h=>by cases h⟩

theorem aBH:(laidOutB Tryz.pinned.checked.prog)=true:=by kernel_rfl
theorem aBI:(mapsRowed Tryz.pinned.checked.prog)=true:=by kernel_rfl
theorem aBJ:(Rows.fnExactDrainRow.inPlace == Tryz.pinned.checked.prog.inPlace 3)=true:=by kernel_rfl
theorem YI:(Rows.fnExactDrainRow.unfollowed == Tryz.pinned.checked.prog.unfollowed 3)=true:=by kernel_rfl
theorem YJ:(Rows.fnExactDrainRow.recurses == Tryz.pinned.checked.prog.recurses 3)=true:=by kernel_rfl
theorem YK:(Rows.fnExactDrainRow.named == Tryz.pinned.checked.prog.varsNamed 3)=true:=by kernel_rfl
theorem YL:(Rows.fnExactDrainRow.plainKeys == Tryz.pinned.checked.prog.plainKeys)=true:=by kernel_rfl
theorem YM:(Tryz.pinned.checked.prog.stopsHeard)=true:=by kernel_rfl
theorem YN:(Tryz.pinned.checked.prog.mayEnter)=true:=by kernel_rfl
theorem YO:(Rows.fnExactDrainRow.lifted == Tryz.pinned.checked.prog.liftsFinal)=true:=by kernel_rfl
theorem YP:(Tryz.pinned.checked.prog.make == some Rows.fnExactDrainRow.make)=true:=by kernel_rfl
theorem aBK:Tryz.pinned.checked.prog.funcNamed Rows.fnExactDrainRow.func=some 3:=by kernel_rfl
theorem a8{a b:Bool}(h:a=true)(k:b=true):(a && b)=true:=by rw [h,k];rfl
theorem S2:joinedFacts Tryz.pinned.checked.prog 3 Tryz.f3 Rows.fnExactDrainSpec Rows.fnExactDrainRow=true:=by
  unfold joinedFacts
  exact(a8 (a8 (a8 (a8 (a8 (a8 (a8 (a8 (a8 (a8 (a8 (a8 (a8 (a8 (a8 (a8 (a8 (a8 (a8 (a8 (a8 (a8 (a8 (a8 (a8 (a8 (a8 (a8 (a8 (a8 (a8 (by kernel_rfl) aBH) aBI) (by kernel_rfl)) (by kernel_rfl)) (by kernel_rfl)) (by kernel_rfl)) (by kernel_rfl)) (by kernel_rfl)) aBJ) YI) YJ) YK) (by kernel_rfl)) (by kernel_rfl)) (by kernel_rfl)) (by kernel_rfl)) (by kernel_rfl)) (by kernel_rfl)) (by kernel_rfl)) (by kernel_rfl)) (by kernel_rfl)) YL) (by kernel_rfl)) YM) YN) YO) YP) (by kernel_rfl)) (by kernel_rfl)) (by kernel_rfl)) (by kernel_rfl))
theorem W4:Rows.fnExactDrainRow.holds Tryz.pinned (OpenSpec.ofChange Rows.fnExactDrainSpec):=
  OpenClaim.holds_of_wide 3 Tryz.f3 rfl rfl rfl rfl rfl rfl rfl ⟨rfl,rfl,rfl,rfl,rfl⟩ rfl rfl rfl rfl rfl aBK Tryz.func3 S2
    (of_decide_eq_true (by kernel_rfl)) (by unfold Func.isWrapper;first | (rw [if_pos (by decide +kernel)];kernel_rfl) | (rw [if_neg (by decide +kernel)];exact⟨rfl,rfl⟩))
    (fun os started H enc _=>S1 os started H enc)

theorem fnExactDrain_holds:Rows.FnExactDrainSaid:=W4
#print axioms fnExactDrain_holds
end Go.Proofs.YtbdmodalljibjaaGreat
