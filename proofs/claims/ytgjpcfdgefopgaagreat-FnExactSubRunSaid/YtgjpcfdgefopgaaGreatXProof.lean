/-
  THE ROW OVER 'laws.FnExactSubRun', out of its walk and its plain law. Printed by fin3.py.
-/
import Derived.Test.YtgjpcfdgefopgaaGreatXLE
import Derived.Test.YtgjpcfdgefopgaaGreatRows
import Derived.WalkKit
import Derived.ProofKit
import Derived.OpenShut
import Derived.ShutString
import Derived.ChangeOld
import Derived.Below
import Derived.Carry
namespace Go.Proofs.YtgjpcfdgefopgaaGreat
open Go.Gv
open Go.ChangeShapes Go.WideShapes Go.ChangeAt Go.RowKit
open Go.ChangeMaps (open_string shut_string)
set_option linter.unusedVariables false

theorem iN:eD Tryz.prog 3 Int:=Z1 Tryz.underlying3
theorem GN:eD Tryz.prog 22 (List Int):=vT Tryz.underlying22 (by kernel_rfl) (by decide) iN
theorem YE:eD Tryz.prog 187 bC:=fQ Tryz.underlying187 (by kernel_rfl) (of_cons (k:=1) iN rfl (by kernel_rfl) (AX (k:=1) iN rfl (by kernel_rfl) rfl)) (fun d=>(d.Handle,d.aG)) (fun p=>⟨⟨p.1,p.2⟩,rfl⟩) (fun h=>h) (fun h=>h)
theorem aAX:eD Tryz.prog 85 (List bC):=vT Tryz.underlying85 (by kernel_rfl) (by decide) YE
theorem aAY:eD Tryz.prog 87 aJ:=fQ Tryz.underlying87 (by kernel_rfl) (AX (k:=1) aAX rfl (by kernel_rfl) rfl) (fun d=>(d.Rows)) (fun p=>⟨⟨p⟩,rfl⟩) (fun h=>h) (fun h=>h)
theorem aAZ:eD Tryz.prog 33 (List aJ):=vT Tryz.underlying33 (by kernel_rfl) (by decide) aAY
theorem Q8:eD Tryz.prog 4 Bool:=W9 Tryz.underlying4
theorem YF:eD Tryz.prog 151 cL:=fQ Tryz.underlying151 (by kernel_rfl) (of_cons (k:=1) Q8 rfl (by kernel_rfl) (of_cons (k:=1) iN rfl (by kernel_rfl) (of_cons (k:=1) Q8 rfl (by kernel_rfl) (AX (k:=1) iN rfl (by kernel_rfl) rfl)))) (fun d=>(d.On,d.aG,d.cH,d.Seen)) (fun p=>⟨⟨p.1,p.2.1,p.2.2.1,p.2.2.2⟩,rfl⟩) (fun h=>h) (fun h=>h)
theorem aA0:eD Tryz.prog 30 (List cL):=vT Tryz.underlying30 (by kernel_rfl) (by decide) YF
theorem aA1:eD Tryz.prog 32 aD:=fQ Tryz.underlying32 (by kernel_rfl) (of_cons (k:=1) iN rfl (by kernel_rfl) (AX (k:=1) aA0 rfl (by kernel_rfl) rfl)) (fun d=>(d.aG,d.aP)) (fun p=>⟨⟨p.1,p.2⟩,rfl⟩) (fun h=>h) (fun h=>h)
theorem YG:eD Tryz.prog 175 aE:=fQ Tryz.underlying175 (by kernel_rfl) (AX (k:=1) GN rfl (by kernel_rfl) rfl) (fun d=>(d.aK)) (fun p=>⟨⟨p⟩,rfl⟩) (fun h=>h) (fun h=>h)
theorem TS:eD Tryz.prog 25 (List aE):=vT Tryz.underlying25 (by kernel_rfl) (by decide) YG
theorem aA2:eD Tryz.prog 27 aA:=fQ Tryz.underlying27 (by kernel_rfl) (of_cons (k:=1) TS rfl (by kernel_rfl) (AX (k:=1) TS rfl (by kernel_rfl) rfl)) (fun d=>(d.Global,d.aV)) (fun p=>⟨⟨p.1,p.2⟩,rfl⟩) (fun h=>h) (fun h=>h)
theorem aA3:eD Tryz.prog 24 aC:=fQ Tryz.underlying24 (by kernel_rfl) (of_cons (k:=1) GN rfl (by kernel_rfl) (AX (k:=1) GN rfl (by kernel_rfl) rfl)) (fun d=>(d.Bytes,d.Class)) (fun p=>⟨⟨p.1,p.2⟩,rfl⟩) (fun h=>h) (fun h=>h)
theorem aA4:eD Tryz.prog 29 Mem:=fQ Tryz.underlying29 (by kernel_rfl) (of_cons (k:=2) aA3 rfl (by kernel_rfl) (AX (k:=2) aA2 rfl (by kernel_rfl) rfl)) (fun d=>(d.aC,d.aA)) (fun p=>⟨⟨p.1,p.2⟩,rfl⟩) (fun h=>h) (fun h=>h)
theorem aA5:eD Tryz.prog 35 aM:=fQ Tryz.underlying35 (by kernel_rfl) (of_cons (k:=4) aA4 rfl (by kernel_rfl) (of_cons (k:=2) aA1 rfl (by kernel_rfl) (of_cons (k:=1) aAZ rfl (by kernel_rfl) (AX (k:=1) GN rfl (by kernel_rfl) rfl)))) (fun d=>(d.Mem,d.aD,d.aL,d.cB)) (fun p=>⟨⟨p.1,p.2.1,p.2.2.1,p.2.2.2⟩,rfl⟩) (fun h=>h) (fun h=>h)
theorem aA6:eD Tryz.prog 37 Sub:=fQ Tryz.underlying37 (by kernel_rfl) (of_cons (k:=1) iN rfl (by kernel_rfl) (of_cons (k:=1) iN rfl (by kernel_rfl) (of_cons (k:=1) iN rfl (by kernel_rfl) (of_cons (k:=1) iN rfl (by kernel_rfl) (of_cons (k:=1) iN rfl (by kernel_rfl) (of_cons (k:=1) iN rfl (by kernel_rfl) (of_cons (k:=1) iN rfl (by kernel_rfl) (of_cons (k:=1) iN rfl (by kernel_rfl) (of_cons (k:=1) iN rfl (by kernel_rfl) (AX (k:=1) Q8 rfl (by kernel_rfl) rfl)))))))))) (fun d=>(d.Kind,d.A,d.Pc,d.E,d.Row,d.B,d.H,d.Out,d.Code,d.cD)) (fun p=>⟨⟨p.1,p.2.1,p.2.2.1,p.2.2.2.1,p.2.2.2.2.1,p.2.2.2.2.2.1,p.2.2.2.2.2.2.1,p.2.2.2.2.2.2.2.1,p.2.2.2.2.2.2.2.2.1,p.2.2.2.2.2.2.2.2.2⟩,rfl⟩) (fun h=>h) (fun h=>h)
theorem J2:ownKnob Tryz.prog.godebug=none:=by kernel_rfl
theorem mE:laidOutB Tryz.prog=true:=by kernel_rfl

set_option maxRecDepth 100000 in
theorem FZ(os:Os)(started:os.Started)(H:Type)(enc:TypeId×Value→H) :
    ReturnsInHanded {} Tryz.checked os 3 .any (Rows.fnExactSubRunSpec.pre6 enc Tryz.prog Tryz.f3 Rows.fnExactSubRunRow.domain false) (Rows.fnExactSubRunSpec.post enc Tryz.prog Tryz.f3 false true false false):=by
  refine returnsInHanded_of_change (C:=Tryz.checked) J2 started (by kernel_rfl) Tryz.func3
    (ChangeSpec.witness6 (enc:=enc) (C:=Tryz.checked) false ⟨#[],#[.agg #[.slice none 0 0,.slice none 0 0,.slice none 0 0,.slice none 0 0,.int .i64 0,.slice none 0 0,.slice none 0 0,.slice none 0 0],.int .i64 0,.agg #[.int .i64 0,.int .i64 0,.int .i64 0,.int .i64 0,.int .i64 0,.int .i64 0,.int .i64 0,.int .i64 0,.int .i64 0,.bool false]],[]⟩ 8 (by kernel_rfl) (by kernel_rfl) (by kernel_rfl) (by kernel_rfl)) ?_
  intro W base args ds gs before hval0 hW hcnd _
  have hval:∀(j:Nat) t v,Tryz.f3.params[j]?=some t→args[j]?=some v→Value.okWide Tryz.prog W .any base t v:=hval0
  have hW':=hW
  obtain⟨p,q,hA0,hV,rfl,hfz,hnd⟩:=hW
  have hA:DataW.TrodAll enc Tryz.prog W 0 (fun _=>true) true Tryz.f3.params.toList args.toList ds p:=hA0
  rw [Tryz.params3] at hA hval
  obtain⟨v0,vs0,d0,ds0,p0,q0,hargs,rfl,rfl,h0,r0⟩:=trodAll_cons hA
  obtain⟨v1,vs1,d1,ds1,p1,q1,rfl,rfl,rfl,h1,r1⟩:=trodAll_cons r0
  obtain⟨v2,vs2,d2,ds2,p2,q2,rfl,rfl,rfl,h2,r2⟩:=trodAll_cons r1
  obtain⟨rfl,rfl,rfl⟩:=trodAll_nil r2
  obtain rfl:args=#[v0,v1,v2]:=by cases args;simp_all
  obtain⟨rfl,rfl⟩:=trodVars_none hV
  have V4:∀x∈p0,x.block < W.heap.size:=by obtain⟨m,hm⟩:=h0;exact DataW.trod_lt m _ _ _ hm
  have k0:=h0
  obtain⟨cs0,rfl,hsz0⟩:=okWide_struct Tryz.underlying35 (hval 0 35 v0 rfl rfl)
  obtain⟨x0,g0,f0⟩:=Trod.opens aA5 h0
  obtain⟨l0⟩:=cs0
  obtain⟨u0_0,u0_1,u0_2,u0_3,u0_4,u0_5,u0_6,e0,hu0_0,hu0_1,hu0_2,hu0_3,hu0_4,hu0_5,hu0_6⟩:=aF6 g0
  obtain⟨su0_0,wu0_0⟩:=IZ hu0_0
  injection wu0_0 with wu0_0 _;subst wu0_0
  obtain⟨su0_1,wu0_1⟩:=IZ hu0_1
  injection wu0_1 with wu0_1 _;subst wu0_1
  obtain⟨su0_2,wu0_2⟩:=IZ hu0_2
  injection wu0_2 with wu0_2 _;subst wu0_2
  obtain⟨su0_3,wu0_3⟩:=IZ hu0_3
  injection wu0_3 with wu0_3 _;subst wu0_3
  obtain⟨su0_4,wu0_4⟩:=IZ hu0_4
  injection wu0_4 with wu0_4 _;subst wu0_4
  obtain⟨su0_5,wu0_5⟩:=IZ hu0_5
  injection wu0_5 with wu0_5 _;subst wu0_5
  obtain⟨su0_6,wu0_6⟩:=IZ hu0_6
  injection wu0_6 with wu0_6 _;subst wu0_6
  have e0':l0=[_,_,_,_,.int .i64 (x0.aD.aG),_,_,_]:=e0
  subst e0'
  have lt1:∀x∈p1,x.block < W.heap.size:=by obtain⟨m,hm⟩:=h1;exact DataW.trod_lt m _ _ _ hm
  have k1:=h1
  obtain⟨a1,rfl,rfl,rfl,w1⟩:=open_int Tryz.underlying3 (hval 1 3 v1 rfl rfl) h1
  have f1:fit a1:=by show -9223372036854775808≤a1∧a1≤9223372036854775807;simpa [Lit.wf,show IntKind.i64.min = -9223372036854775808 by decide,show IntKind.i64.max=9223372036854775807 by decide] using w1
  have lt2:∀x∈p2,x.block < W.heap.size:=by obtain⟨m,hm⟩:=h2;exact DataW.trod_lt m _ _ _ hm
  have k2:=h2
  obtain⟨cs2,rfl,hsz2⟩:=okWide_struct Tryz.underlying37 (hval 2 37 v2 rfl rfl)
  obtain⟨x2,g2,f2⟩:=Trod.opens aA6 h2
  obtain⟨l2⟩:=cs2
  have e2:=aH9 g2
  have e2':l2=[.int .i64 (x2.Kind),.int .i64 (x2.A),.int .i64 (x2.Pc),.int .i64 (x2.E),.int .i64 (x2.Row),.int .i64 (x2.B),.int .i64 (x2.H),.int .i64 (x2.Out),.int .i64 (x2.Code),.bool (x2.cD)]:=e2
  subst e2'
  clear hA0 hval0
  refine Calls.mono ((VS.r (FG (κ:=bV W) hu0_0 hu0_1 hu0_2 hu0_3 hu0_4 hu0_5 hu0_6) (J1 f0 f1 f2)).run [_,_,_] rfl (aFU W)) fun e W' ⟨v,he,_,hv,hS1⟩=>?_
  have hS:St (bV W) W' [] []:=by obtain⟨⟨R,s1,_⟩,_⟩:=hS1;exact St.weaken s1 (by simp)
  have hv:v=.bool true:=(Option.some.inj hv).symm
  subst he;subst hv
  exact⟨_,rfl,_,_,_,[],_,[],hW',trodAll_mk1 (shut_bool Tryz.underlying4 _),(trodAll_cons_mk (Below.trod mE (by kernel_rfl) (of_decide_eq_true (by kernel_rfl)) k0 hS.below V4) (trodAll_cons_mk (Below.trod mE (by kernel_rfl) (of_decide_eq_true (by kernel_rfl)) k1 hS.below lt1) (trodAll_cons_mk (Below.trod mE (by kernel_rfl) (of_decide_eq_true (by kernel_rfl)) k2 hS.below lt2) trodAll_mk0))),rfl,hS.below.frame _,fun h=>by cases h⟩

theorem II:Rows.fnExactSubRunRow.holds Tryz.pinned (OpenSpec.ofChange Rows.fnExactSubRunSpec):=
  OpenClaim.holds_of_wide 3 Tryz.f3 rfl rfl rfl rfl rfl rfl rfl ⟨rfl,rfl,rfl,rfl,rfl⟩ rfl rfl rfl rfl rfl (by kernel_rfl) Tryz.func3 (by kernel_rfl)
    (of_decide_eq_true (by kernel_rfl)) (by unfold Func.isWrapper;first | (rw [if_pos (by decide +kernel)];kernel_rfl) | (rw [if_neg (by decide +kernel)];exact⟨rfl,rfl⟩))
    (fun os started H enc _=>FZ os started H enc)

theorem fnExactSubRun_holds:Rows.FnExactSubRunSaid:=II
#print axioms fnExactSubRun_holds
end Go.Proofs.YtgjpcfdgefopgaaGreat
