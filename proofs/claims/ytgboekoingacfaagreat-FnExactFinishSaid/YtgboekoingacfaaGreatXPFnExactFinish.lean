/-
  THE ROW OVER 'laws.FnExactFinish', out of its walk and its plain law. Printed by fin3.py.
-/
import Derived.Test.YtgboekoingacfaaGreatXSFnExactFinish
import Derived.Test.YtgboekoingacfaaGreatRows
import Derived.WalkKit
import Derived.ProofKit
import Derived.OpenShut
import Derived.ShutString
import Derived.ChangeOld
import Derived.Below
import Derived.Carry
namespace Go.Proofs.YtgboekoingacfaaGreat
open Go.Gv
open Go.ChangeShapes Go.WideShapes Go.ChangeAt Go.RowKit
open Go.ChangeMaps (open_string shut_string)
set_option linter.unusedVariables false

theorem bE:bT Tryz.prog 3 Int:=RP Tryz.underlying3
theorem N6:bT Tryz.prog 144 Ev:=bS Tryz.underlying144 (by kernel_rfl) (of_cons (k:=1) bE rfl (by kernel_rfl) (of_cons (k:=1) bE rfl (by kernel_rfl) (of_cons (k:=1) bE rfl (by kernel_rfl) (of_cons (k:=1) bE rfl (by kernel_rfl) (of_cons (k:=1) bE rfl (by kernel_rfl) (of_cons (k:=1) bE rfl (by kernel_rfl) (gW (k:=1) bE rfl (by kernel_rfl) rfl))))))) (fun d=>(d.Kind,d.XZ,d.aK,d.Cell,d.Handle,d.eY,d.Code)) (fun p=>⟨⟨p.1,p.2.1,p.2.2.1,p.2.2.2.1,p.2.2.2.2.1,p.2.2.2.2.2.1,p.2.2.2.2.2.2⟩,rfl⟩) (fun h=>h) (fun h=>h)
theorem R1:bT Tryz.prog 38 (List Ev):=dM Tryz.underlying38 (by kernel_rfl) (by decide) N6
theorem rO:bT Tryz.prog 135 cM:=bS Tryz.underlying135 (by kernel_rfl) (of_cons (k:=1) bE rfl (by kernel_rfl) (of_cons (k:=1) bE rfl (by kernel_rfl) (of_cons (k:=1) bE rfl (by kernel_rfl) (gW (k:=1) bE rfl (by kernel_rfl) rfl)))) (fun d=>(d.Kind,d.Cell,d.gD,d.eY)) (fun p=>⟨⟨p.1,p.2.1,p.2.2.1,p.2.2.2⟩,rfl⟩) (fun h=>h) (fun h=>h)
theorem wO:bT Tryz.prog 113 (List cM):=dM Tryz.underlying113 (by kernel_rfl) (by decide) rO
theorem wP:bT Tryz.prog 115 Queue:=bS Tryz.underlying115 (by kernel_rfl) (gW (k:=1) wO rfl (by kernel_rfl) rfl) (fun d=>(d.kJ)) (fun p=>⟨⟨p⟩,rfl⟩) (fun h=>h) (fun h=>h)
theorem BA:bT Tryz.prog 37 (List Queue):=dM Tryz.underlying37 (by kernel_rfl) (by decide) wP
theorem uX:bT Tryz.prog 4 Bool:=OE Tryz.underlying4
theorem N7:bT Tryz.prog 136 Sub:=bS Tryz.underlying136 (by kernel_rfl) (of_cons (k:=1) bE rfl (by kernel_rfl) (of_cons (k:=1) bE rfl (by kernel_rfl) (of_cons (k:=1) bE rfl (by kernel_rfl) (of_cons (k:=1) bE rfl (by kernel_rfl) (of_cons (k:=1) bE rfl (by kernel_rfl) (of_cons (k:=1) bE rfl (by kernel_rfl) (of_cons (k:=1) bE rfl (by kernel_rfl) (of_cons (k:=1) bE rfl (by kernel_rfl) (of_cons (k:=1) bE rfl (by kernel_rfl) (gW (k:=1) uX rfl (by kernel_rfl) rfl)))))))))) (fun d=>(d.Kind,d.A,d.Pc,d.E,d.Row,d.B,d.H,d.Out,d.Code,d.dW)) (fun p=>⟨⟨p.1,p.2.1,p.2.2.1,p.2.2.2.1,p.2.2.2.2.1,p.2.2.2.2.2.1,p.2.2.2.2.2.2.1,p.2.2.2.2.2.2.2.1,p.2.2.2.2.2.2.2.2.1,p.2.2.2.2.2.2.2.2.2⟩,rfl⟩) (fun h=>h) (fun h=>h)
theorem N8:bT Tryz.prog 138 bG:=bS Tryz.underlying138 (by kernel_rfl) (of_cons (k:=1) uX rfl (by kernel_rfl) (of_cons (k:=4) rO rfl (by kernel_rfl) (of_cons (k:=1) bE rfl (by kernel_rfl) (of_cons (k:=1) bE rfl (by kernel_rfl) (of_cons (k:=10) N7 rfl (by kernel_rfl) (of_cons (k:=1) bE rfl (by kernel_rfl) (of_cons (k:=1) bE rfl (by kernel_rfl) (of_cons (k:=1) bE rfl (by kernel_rfl) (gW (k:=1) bE rfl (by kernel_rfl) rfl))))))))) (fun d=>(d.g7,d.Op,d.aK,d.Pc,d.Sub,d.H,d.Old,d.eY,d.Code)) (fun p=>⟨⟨p.1,p.2.1,p.2.2.1,p.2.2.2.1,p.2.2.2.2.1,p.2.2.2.2.2.1,p.2.2.2.2.2.2.1,p.2.2.2.2.2.2.2.1,p.2.2.2.2.2.2.2.2⟩,rfl⟩) (fun h=>h) (fun h=>h)
theorem R2:bT Tryz.prog 36 (List bG):=dM Tryz.underlying36 (by kernel_rfl) (by decide) N8
theorem lB:bT Tryz.prog 22 (List Int):=dM Tryz.underlying22 (by kernel_rfl) (by decide) bE
theorem N9:bT Tryz.prog 310 bP:=bS Tryz.underlying310 (by kernel_rfl) (of_cons (k:=1) bE rfl (by kernel_rfl) (gW (k:=1) bE rfl (by kernel_rfl) rfl)) (fun d=>(d.Handle,d.aJ)) (fun p=>⟨⟨p.1,p.2⟩,rfl⟩) (fun h=>h) (fun h=>h)
theorem OA:bT Tryz.prog 178 (List bP):=dM Tryz.underlying178 (by kernel_rfl) (by decide) N9
theorem OB:bT Tryz.prog 180 aP:=bS Tryz.underlying180 (by kernel_rfl) (gW (k:=1) OA rfl (by kernel_rfl) rfl) (fun d=>(d.Rows)) (fun p=>⟨⟨p⟩,rfl⟩) (fun h=>h) (fun h=>h)
theorem R3:bT Tryz.prog 33 (List aP):=dM Tryz.underlying33 (by kernel_rfl) (by decide) OB
theorem OC:bT Tryz.prog 264 cQ:=bS Tryz.underlying264 (by kernel_rfl) (of_cons (k:=1) uX rfl (by kernel_rfl) (of_cons (k:=1) bE rfl (by kernel_rfl) (of_cons (k:=1) uX rfl (by kernel_rfl) (gW (k:=1) bE rfl (by kernel_rfl) rfl)))) (fun d=>(d.On,d.aJ,d.jD,d.Seen)) (fun p=>⟨⟨p.1,p.2.1,p.2.2.1,p.2.2.2⟩,rfl⟩) (fun h=>h) (fun h=>h)
theorem R4:bT Tryz.prog 30 (List cQ):=dM Tryz.underlying30 (by kernel_rfl) (by decide) OC
theorem R5:bT Tryz.prog 32 aD:=bS Tryz.underlying32 (by kernel_rfl) (of_cons (k:=1) bE rfl (by kernel_rfl) (gW (k:=1) R4 rfl (by kernel_rfl) rfl)) (fun d=>(d.aJ,d.aM)) (fun p=>⟨⟨p.1,p.2⟩,rfl⟩) (fun h=>h) (fun h=>h)
theorem OD:bT Tryz.prog 294 aG:=bS Tryz.underlying294 (by kernel_rfl) (gW (k:=1) lB rfl (by kernel_rfl) rfl) (fun d=>(d.bB)) (fun p=>⟨⟨p⟩,rfl⟩) (fun h=>h) (fun h=>h)
theorem FR:bT Tryz.prog 25 (List aG):=dM Tryz.underlying25 (by kernel_rfl) (by decide) OD
theorem R6:bT Tryz.prog 27 aB:=bS Tryz.underlying27 (by kernel_rfl) (of_cons (k:=1) FR rfl (by kernel_rfl) (gW (k:=1) FR rfl (by kernel_rfl) rfl)) (fun d=>(d.Global,d.bA)) (fun p=>⟨⟨p.1,p.2⟩,rfl⟩) (fun h=>h) (fun h=>h)
theorem R7:bT Tryz.prog 24 aC:=bS Tryz.underlying24 (by kernel_rfl) (of_cons (k:=1) lB rfl (by kernel_rfl) (gW (k:=1) lB rfl (by kernel_rfl) rfl)) (fun d=>(d.Bytes,d.Class)) (fun p=>⟨⟨p.1,p.2⟩,rfl⟩) (fun h=>h) (fun h=>h)
theorem R8:bT Tryz.prog 29 Mem:=bS Tryz.underlying29 (by kernel_rfl) (of_cons (k:=2) R7 rfl (by kernel_rfl) (gW (k:=2) R6 rfl (by kernel_rfl) rfl)) (fun d=>(d.aC,d.aB)) (fun p=>⟨⟨p.1,p.2⟩,rfl⟩) (fun h=>h) (fun h=>h)
theorem R9:bT Tryz.prog 35 aA:=bS Tryz.underlying35 (by kernel_rfl) (of_cons (k:=4) R8 rfl (by kernel_rfl) (of_cons (k:=2) R5 rfl (by kernel_rfl) (of_cons (k:=1) R3 rfl (by kernel_rfl) (gW (k:=1) lB rfl (by kernel_rfl) rfl)))) (fun d=>(d.Mem,d.aD,d.aH,d.bO)) (fun p=>⟨⟨p.1,p.2.1,p.2.2.1,p.2.2.2⟩,rfl⟩) (fun h=>h) (fun h=>h)
theorem SA:bT Tryz.prog 40 aE:=bS Tryz.underlying40 (by kernel_rfl) (of_cons (k:=8) R9 rfl (by kernel_rfl) (of_cons (k:=1) lB rfl (by kernel_rfl) (of_cons (k:=1) R2 rfl (by kernel_rfl) (of_cons (k:=1) BA rfl (by kernel_rfl) (of_cons (k:=1) R1 rfl (by kernel_rfl) (gW (k:=1) bE rfl (by kernel_rfl) rfl)))))) (fun d=>(d.aA,d.Cells,d.aR,d.aU,d.Log,d.aK)) (fun p=>⟨⟨p.1,p.2.1,p.2.2.1,p.2.2.2.1,p.2.2.2.2.1,p.2.2.2.2.2⟩,rfl⟩) (fun h=>h) (fun h=>h)
theorem aJV:ownKnob Tryz.prog.godebug=none:=by kernel_rfl
theorem aDU:laidOutB Tryz.prog=true:=by kernel_rfl

set_option maxRecDepth 100000 in
theorem aFA(os:Os)(started:os.Started)(H:Type)(enc:TypeId×Value→H) :
    ReturnsInHanded {} Tryz.checked os 5 .any (Rows.fnExactFinishSpec.pre6 enc Tryz.prog Tryz.f5 Rows.fnExactFinishRow.domain false) (Rows.fnExactFinishSpec.post enc Tryz.prog Tryz.f5 false true false false):=by
  refine returnsInHanded_of_change (C:=Tryz.checked) aJV started (by kernel_rfl) Tryz.func5
    (ChangeSpec.witness6 (enc:=enc) (C:=Tryz.checked) false ⟨#[],#[.agg #[.slice none 0 0,.slice none 0 0,.slice none 0 0,.slice none 0 0,.int .i64 0,.slice none 0 0,.slice none 0 0,.slice none 0 0,.slice none 0 0,.slice none 0 0,.slice none 0 0,.slice none 0 0,.int .i64 0]],[]⟩ 8 (by kernel_rfl) (by kernel_rfl) (by kernel_rfl) (by kernel_rfl)) ?_
  intro W base args ds gs before hval0 hW hcnd _
  have hval:∀(j:Nat) t v,Tryz.f5.params[j]?=some t→args[j]?=some v→Value.okWide Tryz.prog W .any base t v:=hval0
  have hW':=hW
  obtain⟨p,q,hA0,hV,rfl,hfz,hnd⟩:=hW
  have hA:DataW.TrodAll enc Tryz.prog W 0 (fun _=>true) true Tryz.f5.params.toList args.toList ds p:=hA0
  rw [Tryz.params5] at hA hval
  obtain⟨v0,vs0,d0,ds0,p0,q0,hargs,rfl,rfl,h0,r0⟩:=trodAll_cons hA
  obtain⟨rfl,rfl,rfl⟩:=trodAll_nil r0
  obtain rfl:args=#[v0]:=by cases args;simp_all
  obtain⟨rfl,rfl⟩:=trodVars_none hV
  have LR:∀x∈p0,x.block < W.heap.size:=by obtain⟨m,hm⟩:=h0;exact DataW.trod_lt m _ _ _ hm
  have k0:=h0
  obtain⟨cs0,rfl,hsz0⟩:=okWide_struct Tryz.underlying40 (hval 0 40 v0 rfl rfl)
  obtain⟨x0,g0,f0⟩:=Trod.opens SA h0
  obtain⟨l0⟩:=cs0
  obtain⟨u0_0,u0_1,u0_2,u0_3,u0_4,u0_5,u0_6,u0_7,u0_8,u0_9,u0_10,e0,hu0_0,hu0_1,hu0_2,hu0_3,hu0_4,hu0_5,hu0_6,hu0_7,hu0_8,hu0_9,hu0_10⟩:=WA g0
  obtain⟨su0_0,wu0_0⟩:=iN hu0_0
  injection wu0_0 with wu0_0 _;subst wu0_0
  obtain⟨su0_1,wu0_1⟩:=iN hu0_1
  injection wu0_1 with wu0_1 _;subst wu0_1
  obtain⟨su0_2,wu0_2⟩:=iN hu0_2
  injection wu0_2 with wu0_2 _;subst wu0_2
  obtain⟨su0_3,wu0_3⟩:=iN hu0_3
  injection wu0_3 with wu0_3 _;subst wu0_3
  obtain⟨su0_4,wu0_4⟩:=iN hu0_4
  injection wu0_4 with wu0_4 _;subst wu0_4
  obtain⟨su0_5,wu0_5⟩:=iN hu0_5
  injection wu0_5 with wu0_5 _;subst wu0_5
  obtain⟨su0_6,wu0_6⟩:=iN hu0_6
  injection wu0_6 with wu0_6 _;subst wu0_6
  obtain⟨su0_7,wu0_7⟩:=iN hu0_7
  injection wu0_7 with wu0_7 _;subst wu0_7
  obtain⟨su0_8,wu0_8⟩:=iN hu0_8
  injection wu0_8 with wu0_8 _;subst wu0_8
  obtain⟨su0_9,wu0_9⟩:=iN hu0_9
  injection wu0_9 with wu0_9 _;subst wu0_9
  obtain⟨su0_10,wu0_10⟩:=iN hu0_10
  injection wu0_10 with wu0_10 _;subst wu0_10
  have e0':l0=[_,_,_,_,.int .i64 (x0.aA.aD.aJ),_,_,_,_,_,_,_,.int .i64 (x0.aK)]:=e0
  subst e0'
  clear hA0 hval0
  refine Calls.mono ((VS.r (aFG (κ:=gA W) hu0_0 hu0_1 hu0_2 hu0_3 hu0_4 hu0_5 hu0_6 hu0_7 hu0_8 hu0_9 hu0_10) (aJ1 f0)).run [_] rfl (aQS W)) fun e W' ⟨v,he,_,hv,hS1⟩=>?_
  have hS:St (gA W) W' [] []:=by obtain⟨⟨R,s1,_⟩,_⟩:=hS1;exact St.weaken s1 (by simp)
  have hv:v=.bool true:=(Option.some.inj hv).symm
  subst he;subst hv
  exact⟨_,rfl,_,_,_,[],_,[],hW',trodAll_mk1 (shut_bool Tryz.underlying4 _),(trodAll_cons_mk (Below.trod aDU (by kernel_rfl) (of_decide_eq_true (by kernel_rfl)) k0 hS.below LR) trodAll_mk0),rfl,hS.below.frame _,fun h=>by cases h⟩

theorem j1_FnExactFinish : (laidOutB Tryz.pinned.checked.prog) = true := by kernel_rfl
theorem j2_FnExactFinish : (mapsRowed Tryz.pinned.checked.prog) = true := by kernel_rfl
theorem j9_FnExactFinish : (Rows.fnExactFinishRow.inPlace == Tryz.pinned.checked.prog.inPlace 5) = true := by kernel_rfl
theorem j10_FnExactFinish : (Rows.fnExactFinishRow.unfollowed == Tryz.pinned.checked.prog.unfollowed 5) = true := by kernel_rfl
theorem j11_FnExactFinish : (Rows.fnExactFinishRow.recurses == Tryz.pinned.checked.prog.recurses 5) = true := by kernel_rfl
theorem j12_FnExactFinish : (Rows.fnExactFinishRow.named == Tryz.pinned.checked.prog.varsNamed 5) = true := by kernel_rfl
theorem j22_FnExactFinish : (Rows.fnExactFinishRow.plainKeys == Tryz.pinned.checked.prog.plainKeys) = true := by kernel_rfl
theorem j24_FnExactFinish : (Tryz.pinned.checked.prog.stopsHeard) = true := by kernel_rfl
theorem j25_FnExactFinish : (Tryz.pinned.checked.prog.mayEnter) = true := by kernel_rfl
theorem j26_FnExactFinish : (Rows.fnExactFinishRow.lifted == Tryz.pinned.checked.prog.liftsFinal) = true := by kernel_rfl
theorem j27_FnExactFinish : (Tryz.pinned.checked.prog.make == some Rows.fnExactFinishRow.make) = true := by kernel_rfl
theorem jn_FnExactFinish : Tryz.pinned.checked.prog.funcNamed Rows.fnExactFinishRow.func = some 5 := by kernel_rfl
theorem and2_FnExactFinish {a b : Bool} (h : a = true) (k : b = true) : (a && b) = true := by rw [h, k]; rfl
theorem joined_FnExactFinish : joinedFacts Tryz.pinned.checked.prog 5 Tryz.f5 Rows.fnExactFinishSpec Rows.fnExactFinishRow = true := by
  unfold joinedFacts
  exact (and2_FnExactFinish (and2_FnExactFinish (and2_FnExactFinish (and2_FnExactFinish (and2_FnExactFinish (and2_FnExactFinish (and2_FnExactFinish (and2_FnExactFinish (and2_FnExactFinish (and2_FnExactFinish (and2_FnExactFinish (and2_FnExactFinish (and2_FnExactFinish (and2_FnExactFinish (and2_FnExactFinish (and2_FnExactFinish (and2_FnExactFinish (and2_FnExactFinish (and2_FnExactFinish (and2_FnExactFinish (and2_FnExactFinish (and2_FnExactFinish (and2_FnExactFinish (and2_FnExactFinish (and2_FnExactFinish (and2_FnExactFinish (and2_FnExactFinish (and2_FnExactFinish (and2_FnExactFinish (and2_FnExactFinish (and2_FnExactFinish (by kernel_rfl) j1_FnExactFinish) j2_FnExactFinish) (by kernel_rfl)) (by kernel_rfl)) (by kernel_rfl)) (by kernel_rfl)) (by kernel_rfl)) (by kernel_rfl)) j9_FnExactFinish) j10_FnExactFinish) j11_FnExactFinish) j12_FnExactFinish) (by kernel_rfl)) (by kernel_rfl)) (by kernel_rfl)) (by kernel_rfl)) (by kernel_rfl)) (by kernel_rfl)) (by kernel_rfl)) (by kernel_rfl)) (by kernel_rfl)) j22_FnExactFinish) (by kernel_rfl)) j24_FnExactFinish) j25_FnExactFinish) j26_FnExactFinish) j27_FnExactFinish) (by kernel_rfl)) (by kernel_rfl)) (by kernel_rfl)) (by kernel_rfl))
theorem aH5:Rows.fnExactFinishRow.holds Tryz.pinned (OpenSpec.ofChange Rows.fnExactFinishSpec):=
  OpenClaim.holds_of_wide 5 Tryz.f5 rfl rfl rfl rfl rfl rfl rfl ⟨rfl,rfl,rfl,rfl,rfl⟩ rfl rfl rfl rfl rfl jn_FnExactFinish Tryz.func5 joined_FnExactFinish
    (of_decide_eq_true (by kernel_rfl)) (by unfold Func.isWrapper;first | (rw [if_pos (by decide +kernel)];kernel_rfl) | (rw [if_neg (by decide +kernel)];exact⟨rfl,rfl⟩))
    (fun os started H enc _=>aFA os started H enc)

theorem fnExactFinish_holds:Rows.FnExactFinishSaid:=aH5
#print axioms fnExactFinish_holds
end Go.Proofs.YtgboekoingacfaaGreat
