import Derived.Test.YtbdmodalljibjaaGreatXOC
import Derived.Test.YtbdmodalljibjaaGreatProg
set_option linter.unusedVariables false
set_option linter.unusedSimpArgs false
set_option linter.unusedSectionVars false
set_option linter.constructorNameAsVariable false
set_option linter.unnecessarySimpa false
noncomputable section
set_option maxHeartbeats 4000000
set_option maxRecDepth 100000
namespace Go.Proofs.YtbdmodalljibjaaGreat
open Go.Gv
theorem cQ:U2 Tryz.prog 3 1 (.int .i64 0):=HU (b:=8) (by kernel_rfl) rfl
theorem gO:U2 Tryz.prog 105 2 (.agg #[.int .i64 0,.int .i64 0]):=HU (b:=16) (by kernel_rfl) rfl
theorem eN:U2 Tryz.prog 162 1 (.agg #[.slice none 0 0]):=HU (b:=24) (by kernel_rfl) rfl
theorem ES:U2 Tryz.prog 175 4 (.agg #[.bool false,.int .i64 0,.bool false,.int .i64 0]):=HU (b:=32) (by kernel_rfl) rfl
theorem tQ:U2 Tryz.prog 103 1 (.agg #[.slice none 0 0]):=HU (b:=24) (by kernel_rfl) rfl
theorem zI:U2 Tryz.prog 77 1 (.agg #[.slice none 0 0]):=HU (b:=24) (by kernel_rfl) rfl
theorem gK:U2 Tryz.prog 70 4 (.agg #[.int .i64 0,.int .i64 0,.int .i64 0,.int .i64 0]):=HU (b:=32) (by kernel_rfl) rfl
theorem dD:U2 Tryz.prog 74 21 (.agg #[.bool false,.int .i64 0,.int .i64 0,.int .i64 0,.int .i64 0,.int .i64 0,.int .i64 0,.int .i64 0,.int .i64 0,.int .i64 0,.int .i64 0,.int .i64 0,.int .i64 0,.int .i64 0,.int .i64 0,.int .i64 0,.bool false,.int .i64 0,.int .i64 0,.int .i64 0,.int .i64 0]):=HU (b:=168) (by kernel_rfl) rfl
theorem bE:U2 Tryz.prog 79 7 (.agg #[.int .i64 0,.int .i64 0,.int .i64 0,.int .i64 0,.int .i64 0,.int .i64 0,.int .i64 0]):=HU (b:=56) (by kernel_rfl) rfl
theorem aH4:U2 Tryz.prog 5 1 (.int .u8 0):=HU (b:=1) (by kernel_rfl) rfl
theorem aND:U2 Tryz.prog 43 1 (.slice none 0 0):=HU (b:=24) (by kernel_rfl) rfl
theorem aB:Tryz.prog.follows .mixedOrders=true:=by kernel_rfl
theorem YU(D:Nat)(d d':fO)(w:World):(Op.eqFields (D+2) #[.bool (d.On),.int .i64 (d.aM),.bool (d.eI),.int .i64 (d.Seen)] #[.bool (d'.On),.int .i64 (d'.aM),.bool (d'.eI),.int .i64 (d'.Seen)] (match Tryz.prog.underlying 175 with | some (.struct fs)=>fs | _=>#[]).toList).run Tryz.prog w=.ok (decide (d=d')) w:=by
  rw [Tryz.underlying175]
  have h:(d.On == d'.On && (d.aM == d'.aM && (d.eI == d'.eI && (d.Seen == d'.Seen && true))))=decide (d=d'):=by
    cases d;cases d';rw [Bool.eq_iff_iff];simp
  rw [←h]
  exact eQ _ _ _ _ _ rfl (fF Tryz.isAgg4 rfl) (fF Tryz.isAgg4 rfl) (aBN Tryz.underlying4)<|
    eQ _ _ _ _ _ rfl (fF Tryz.isAgg3 rfl) (fF Tryz.isAgg3 rfl) (nL Tryz.underlying3)<|
    eQ _ _ _ _ _ rfl (fF Tryz.isAgg4 rfl) (fF Tryz.isAgg4 rfl) (aBN Tryz.underlying4)<|
    eQ _ _ _ _ _ rfl (fF Tryz.isAgg3 rfl) (fF Tryz.isAgg3 rfl) (nL Tryz.underlying3)<|
    aBM _ _ _
theorem aNE(D:Nat)(d d':dP)(w:World):(Op.eqFields (D+2) #[.int .i64 (d.Kind),.int .i64 (d.Cell),.int .i64 (d.dQ),.int .i64 (d.dN)] #[.int .i64 (d'.Kind),.int .i64 (d'.Cell),.int .i64 (d'.dQ),.int .i64 (d'.dN)] (match Tryz.prog.underlying 70 with | some (.struct fs)=>fs | _=>#[]).toList).run Tryz.prog w=.ok (decide (d=d')) w:=by
  rw [Tryz.underlying70]
  have h:(d.Kind == d'.Kind && (d.Cell == d'.Cell && (d.dQ == d'.dQ && (d.dN == d'.dN && true))))=decide (d=d'):=by
    cases d;cases d';rw [Bool.eq_iff_iff];simp
  rw [←h]
  exact eQ _ _ _ _ _ rfl (fF Tryz.isAgg3 rfl) (fF Tryz.isAgg3 rfl) (nL Tryz.underlying3)<|
    eQ _ _ _ _ _ rfl (fF Tryz.isAgg3 rfl) (fF Tryz.isAgg3 rfl) (nL Tryz.underlying3)<|
    eQ _ _ _ _ _ rfl (fF Tryz.isAgg3 rfl) (fF Tryz.isAgg3 rfl) (nL Tryz.underlying3)<|
    eQ _ _ _ _ _ rfl (fF Tryz.isAgg3 rfl) (fF Tryz.isAgg3 rfl) (nL Tryz.underlying3)<|
    aBM _ _ _
theorem aNF(D:Nat)(d d':Sub)(w:World):(Op.eqFields (D+2) #[.int .i64 (d.Kind),.int .i64 (d.A),.int .i64 (d.Pc),.int .i64 (d.E),.int .i64 (d.Row),.int .i64 (d.B),.int .i64 (d.H),.int .i64 (d.Out),.int .i64 (d.Code),.bool (d.cJ)] #[.int .i64 (d'.Kind),.int .i64 (d'.A),.int .i64 (d'.Pc),.int .i64 (d'.E),.int .i64 (d'.Row),.int .i64 (d'.B),.int .i64 (d'.H),.int .i64 (d'.Out),.int .i64 (d'.Code),.bool (d'.cJ)] (match Tryz.prog.underlying 72 with | some (.struct fs)=>fs | _=>#[]).toList).run Tryz.prog w=.ok (decide (d=d')) w:=by
  rw [Tryz.underlying72]
  have h:(d.Kind == d'.Kind && (d.A == d'.A && (d.Pc == d'.Pc && (d.E == d'.E && (d.Row == d'.Row && (d.B == d'.B && (d.H == d'.H && (d.Out == d'.Out && (d.Code == d'.Code && (d.cJ == d'.cJ && true))))))))))=decide (d=d'):=by
    cases d;cases d';rw [Bool.eq_iff_iff];simp
  rw [←h]
  exact eQ _ _ _ _ _ rfl (fF Tryz.isAgg3 rfl) (fF Tryz.isAgg3 rfl) (nL Tryz.underlying3)<|
    eQ _ _ _ _ _ rfl (fF Tryz.isAgg3 rfl) (fF Tryz.isAgg3 rfl) (nL Tryz.underlying3)<|
    eQ _ _ _ _ _ rfl (fF Tryz.isAgg3 rfl) (fF Tryz.isAgg3 rfl) (nL Tryz.underlying3)<|
    eQ _ _ _ _ _ rfl (fF Tryz.isAgg3 rfl) (fF Tryz.isAgg3 rfl) (nL Tryz.underlying3)<|
    eQ _ _ _ _ _ rfl (fF Tryz.isAgg3 rfl) (fF Tryz.isAgg3 rfl) (nL Tryz.underlying3)<|
    eQ _ _ _ _ _ rfl (fF Tryz.isAgg3 rfl) (fF Tryz.isAgg3 rfl) (nL Tryz.underlying3)<|
    eQ _ _ _ _ _ rfl (fF Tryz.isAgg3 rfl) (fF Tryz.isAgg3 rfl) (nL Tryz.underlying3)<|
    eQ _ _ _ _ _ rfl (fF Tryz.isAgg3 rfl) (fF Tryz.isAgg3 rfl) (nL Tryz.underlying3)<|
    eQ _ _ _ _ _ rfl (fF Tryz.isAgg3 rfl) (fF Tryz.isAgg3 rfl) (nL Tryz.underlying3)<|
    eQ _ _ _ _ _ rfl (fF Tryz.isAgg4 rfl) (fF Tryz.isAgg4 rfl) (aBN Tryz.underlying4)<|
    aBM _ _ _
theorem aDK(D:Nat)(d d':bW)(w:World):(Op.eqFields (D+3) #[.bool (d.fP),.int .i64 (d.Op.Kind),.int .i64 (d.Op.Cell),.int .i64 (d.Op.dQ),.int .i64 (d.Op.dN),.int .i64 (d.aR),.int .i64 (d.Pc),.int .i64 (d.Sub.Kind),.int .i64 (d.Sub.A),.int .i64 (d.Sub.Pc),.int .i64 (d.Sub.E),.int .i64 (d.Sub.Row),.int .i64 (d.Sub.B),.int .i64 (d.Sub.H),.int .i64 (d.Sub.Out),.int .i64 (d.Sub.Code),.bool (d.Sub.cJ),.int .i64 (d.H),.int .i64 (d.Old),.int .i64 (d.dN),.int .i64 (d.Code)] #[.bool (d'.fP),.int .i64 (d'.Op.Kind),.int .i64 (d'.Op.Cell),.int .i64 (d'.Op.dQ),.int .i64 (d'.Op.dN),.int .i64 (d'.aR),.int .i64 (d'.Pc),.int .i64 (d'.Sub.Kind),.int .i64 (d'.Sub.A),.int .i64 (d'.Sub.Pc),.int .i64 (d'.Sub.E),.int .i64 (d'.Sub.Row),.int .i64 (d'.Sub.B),.int .i64 (d'.Sub.H),.int .i64 (d'.Sub.Out),.int .i64 (d'.Sub.Code),.bool (d'.Sub.cJ),.int .i64 (d'.H),.int .i64 (d'.Old),.int .i64 (d'.dN),.int .i64 (d'.Code)] (match Tryz.prog.underlying 74 with | some (.struct fs)=>fs | _=>#[]).toList).run Tryz.prog w=.ok (decide (d=d')) w:=by
  rw [Tryz.underlying74]
  have h:(d.fP == d'.fP && (decide (d.Op=d'.Op) && (d.aR == d'.aR && (d.Pc == d'.Pc && (decide (d.Sub=d'.Sub) && (d.H == d'.H && (d.Old == d'.Old && (d.dN == d'.dN && (d.Code == d'.Code && true)))))))))=decide (d=d'):=by
    cases d;cases d';rw [Bool.eq_iff_iff];simp
  rw [←h]
  exact eQ _ _ _ _ _ rfl (fF Tryz.isAgg4 rfl) (fF Tryz.isAgg4 rfl) (aBN Tryz.underlying4)<|
    eQ _ _ _ _ _ rfl (aOC (vs:=#[.int .i64 (d.Op.Kind),.int .i64 (d.Op.Cell),.int .i64 (d.Op.dQ),.int .i64 (d.Op.dN)]) Tryz.isAgg70 Tryz.sizeOf70 rfl) (aOC (vs:=#[.int .i64 (d'.Op.Kind),.int .i64 (d'.Op.Cell),.int .i64 (d'.Op.dQ),.int .i64 (d'.Op.dN)]) Tryz.isAgg70 Tryz.sizeOf70 rfl) (aHP Tryz.stoodInHeld70 Tryz.underlying70 (aNE D _ _ w))<|
    eQ _ _ _ _ _ rfl (fF Tryz.isAgg3 rfl) (fF Tryz.isAgg3 rfl) (nL Tryz.underlying3)<|
    eQ _ _ _ _ _ rfl (fF Tryz.isAgg3 rfl) (fF Tryz.isAgg3 rfl) (nL Tryz.underlying3)<|
    eQ _ _ _ _ _ rfl (aOC (vs:=#[.int .i64 (d.Sub.Kind),.int .i64 (d.Sub.A),.int .i64 (d.Sub.Pc),.int .i64 (d.Sub.E),.int .i64 (d.Sub.Row),.int .i64 (d.Sub.B),.int .i64 (d.Sub.H),.int .i64 (d.Sub.Out),.int .i64 (d.Sub.Code),.bool (d.Sub.cJ)]) Tryz.isAgg72 Tryz.sizeOf72 rfl) (aOC (vs:=#[.int .i64 (d'.Sub.Kind),.int .i64 (d'.Sub.A),.int .i64 (d'.Sub.Pc),.int .i64 (d'.Sub.E),.int .i64 (d'.Sub.Row),.int .i64 (d'.Sub.B),.int .i64 (d'.Sub.H),.int .i64 (d'.Sub.Out),.int .i64 (d'.Sub.Code),.bool (d'.Sub.cJ)]) Tryz.isAgg72 Tryz.sizeOf72 rfl) (aHP Tryz.stoodInHeld72 Tryz.underlying72 (aNF D _ _ w))<|
    eQ _ _ _ _ _ rfl (fF Tryz.isAgg3 rfl) (fF Tryz.isAgg3 rfl) (nL Tryz.underlying3)<|
    eQ _ _ _ _ _ rfl (fF Tryz.isAgg3 rfl) (fF Tryz.isAgg3 rfl) (nL Tryz.underlying3)<|
    eQ _ _ _ _ _ rfl (fF Tryz.isAgg3 rfl) (fF Tryz.isAgg3 rfl) (nL Tryz.underlying3)<|
    eQ _ _ _ _ _ rfl (fF Tryz.isAgg3 rfl) (fF Tryz.isAgg3 rfl) (nL Tryz.underlying3)<|
    aBM _ _ _
set_option maxRecDepth 100000 in
theorem M9{w0:World}{n:Int}(hn:0≤n∧n≤1073741824) :
    Calls Tryz.prog 337 #[.slice none 0 0,.int .i64 n] w0 (Ret fun v w'=>∃s0_0:Value,v=s0_0∧St (cS w0) w' [dB [s0_0] ([]:List Raw)] []):=by
  have hS:St (cS w0) w0 [] []:=St.enter (by intro f hf;cases hf)
  have hw:aE (n - aE (0 - 0))=n:=by
    rw [HW (x:=0 - 0) (by omega),HW (by omega)];omega
  refine aRN (args:=[_,_]) Tryz.func337 rfl Tryz.ntmps337 rfl ?_
  intro a hA
  refine bO ?_
  refine cC hA ?_
  clear hA
  refine eP (CN rfl rfl) (bU rfl) rfl rfl ?_
  refine bG ?_
  intro a hA
  refine bO ?_
  refine bO ?_
  refine cC hA ?_
  clear hA
  refine eP (m4 rfl rfl) (bU rfl) rfl rfl ?_
  refine eP (EW rfl rfl rfl) (bU rfl) rfl rfl ?_
  refine bG ?_
  intro a hA
  refine kT hA rfl (fun hc=>?_) (fun hc=>?_)
  · exfalso;simp at hc;omega
  refine nQ ?_
  refine bO ?_
  refine bO ?_
  refine cC hA ?_
  clear hA
  refine eP (m4 rfl rfl) (bU rfl) rfl rfl ?_
  refine eP (m4 rfl rfl) (bU rfl) rfl rfl ?_
  refine eP (aHU Tryz.underlying43 rfl rfl) (bU rfl) rfl rfl ?_
  refine eP (m4 rfl rfl) (bU rfl) rfl rfl ?_
  refine eP (nR (aRR (α:=Raw) (S:=F0)) Tryz.underlying43 rfl rfl) (bU rfl) rfl rfl ?_
  refine eP (aML rfl rfl rfl) (bU rfl) rfl rfl ?_
  refine eP (aML rfl rfl rfl) (bU rfl) rfl rfl ?_
  refine eP (CN rfl rfl) (bU rfl) rfl rfl ?_
  refine bG ?_
  intro a hA
  refine bO ?_
  refine cC hA ?_
  clear hA
  refine eP (m4 rfl rfl) (bU rfl) rfl rfl ?_
  refine eP (aMO rfl rfl rfl) (bU rfl) rfl rfl ?_
  refine bG ?_
  intro a hA
  refine kT hA rfl (fun hc=>?_) (fun hc=>?_)
  · have hn1:0 < n:=by
      have h2:decide (0 < aE (n - aE (0 - 0)))=true:=hc
      rw [hw] at h2;simpa using h2
    refine cC hA ?_
    clear hA
    refine eP (m4 rfl rfl) (bU rfl) rfl rfl ?_
    refine eP (m4 rfl rfl) (bU rfl) rfl rfl ?_
    refine eP (aHU Tryz.underlying43 rfl rfl) (bU rfl) rfl rfl ?_
    refine eP (aOJ (s:=.slice none 0 0) ⟨_,_,_,rfl⟩ Tryz.underlying43 Tryz.sizeOf162 rfl rfl rfl) (bU rfl) rfl rfl ?_
    refine eP (m4 rfl rfl) (bU rfl) rfl rfl ?_
    refine K2 (aV4 (i:=aE (n - aE (0 - 0))) hS Tryz.underlying43 Tryz.underlying3 eN rfl rfl (by rw [hw];omega) rfl rfl rfl) (bU rfl) rfl rfl ?_
    clear hS
    intro s w hS
    refine eP (m4 rfl rfl) (bU rfl) rfl rfl ?_
    refine eP (nR (aRR (α:=Raw) (S:=F0)) Tryz.underlying43 rfl rfl) (bU rfl) rfl rfl ?_
    refine eP (aOJ (hS.aSB 0 rfl) Tryz.underlying43 Tryz.sizeOf162 rfl rfl rfl) (bU rfl) rfl rfl ?_
    refine eP (CN rfl rfl) (bU rfl) rfl rfl ?_
    refine bG ?_
    intro a hA
    replace hS:=hS.aY2 (α:=Raw) 0 rfl rfl
    refine bO ?_
    refine cC hA ?_
    clear hA
    refine eP (m4 rfl rfl) (bU rfl) rfl rfl ?_
    refine eP (CN rfl rfl) (bU rfl) rfl rfl ?_
    refine bG ?_
    intro a hA
    refine y4 ?_
    exact aVS Tryz.results337 hA (aBL rfl) ⟨_,rfl,(hS.NR [0] rfl).weaken (R':=[]) (fun _ h=>nomatch h)⟩
  · refine nQ ?_
    replace hS:=hS.aYV (α:=Raw)
    refine bO ?_
    refine cC hA ?_
    clear hA
    refine eP (m4 rfl rfl) (bU rfl) rfl rfl ?_
    refine eP (CN rfl rfl) (bU rfl) rfl rfl ?_
    refine bG ?_
    intro a hA
    refine y4 ?_
    exact aVS Tryz.results337 hA (aBL rfl) ⟨_,rfl,(hS.NR [0] rfl).weaken (R':=[]) (fun _ h=>nomatch h)⟩
theorem QC{w0:World}{slices:List (List Raw)}{s1:Value}{r:(List Raw)}(h1:aK.rd (O3 w0) w0 [s1] (slices:List (List Raw)))(hF:nT slices=some r) :
    Calls Tryz.prog 221 #[s1] w0 (Ret fun v w'=>∃(s0_0:Value),v=s0_0∧St (cS w0) w' [dB [s0_0] (r:List Raw)] []):=by
 have hS:St (cS w0) w0 [] [z6 [s1] (slices:List (List Raw))]:=St.enter (by
   intro f hf
   simp only [List.mem_cons,List.not_mem_nil,or_false] at hf
   subst hf;exact h1)
 refine zP (args:=[_]) Tryz.func221 rfl Tryz.ntmps221 rfl ?_
 unfold nT at hF
 intro a hA
 refine bO<|cC hA ?_
 clear hA
 refine oa rfl rfl<|bG fun a hA=>bO<|cC hA ?_
 clear hA
 refine oa rfl rfl<|bG fun a hA=>bO<|bO<|cC hA ?_
 clear hA
 refine om rfl rfl<|oy (nR (hS.rd 0 rfl) Tryz.underlying313 rfl rfl) rfl<|om rfl rfl<|bG fun a hA=>?_
 obtain⟨o1,hl1,hF⟩:=sB hF
 refine CP (J:=fun a' w'=>∃(x5:Int),o1=x5∧kM 36 [(0,s1),(3,.int .i64 (x5))] a'∧St (cS w0) w' [] [z6 [s1] (slices:List (List Raw))]) ?_ ?_
 ·refine kN ?_
  refine JL (body:=fA slices) (r:=o1) (fun sg a' w'=>kM 36 [(0,s1),(3,.int .i64 (sg.1)),(9,s1),(10,.int .i64 ((slices.length:Int))),(11,.int .i64 (sg.2))] a'∧St (cS w0) w' [] [z6 [s1] (slices:List (List Raw))]) ?_ hl1 ⟨hA.part ⟨rfl,rfl,rfl,rfl,rfl,trivial⟩,((hS).NR [] rfl).uC [0] rfl⟩
  clear hA hS hl1
  rintro⟨x3,x4⟩ a w q1 ⟨hA,hS⟩ hG1 hr1
  try dsimp only at hA hS
  unfold fA at hG1
  refine bO<|cC hA ?_
  clear hA
  refine oy (EW rfl rfl rfl) rfl<|bG fun a hA=>bO<|kT hA rfl (fun hc2=>?_) (fun hc2=>?_)
  ·replace hG1:=L8 hc2 hG1
   refine nQ<|bO<|kN<|bO<|cC hA ?_
   clear hA
   obtain⟨x12,hx12,hG1⟩:=sB hG1
   refine oy (QJ (m:=1) (hS.rd 0 rfl) rfl hx12 Tryz.underlying313 Tryz.sizeOf43 rfl rfl rfl) rfl ?_
   obtain⟨s8,hel,hS⟩:=hS.aKV 0 rfl (jI hx12).2.2
   refine oy (iG rfl rfl Tryz.isAgg43 (aRQ hel)) rfl<|oa rfl rfl<|bG fun a hA=>bO<|cC hA ?_
   clear hA
   refine om rfl rfl<|om rfl rfl<|oy (nR (hS.rd 1 rfl) Tryz.underlying43 rfl rfl) rfl<|oy (K3 rfl rfl rfl) rfl<|oa rfl rfl<|bG fun a hA=>bO<|cC hA ?_
   clear hA
   refine om rfl rfl<|oy (EW rfl rfl rfl) rfl<|bG fun a hA=>kT hA rfl (fun hc3=>?_) (fun hc3=>?_)
   ·replace hG1:=L8 hc3 hG1
    refine cC hA ?_
    clear hA
    cases hG1
   ·replace hG1:=L9 hc3 hG1
    refine nQ<|cC hA ?_
    clear hA
    refine oy (K3 rfl rfl rfl) rfl<|om rfl rfl<|bG fun a hA=>?_
    cases hG1
    exact⟨_,rfl,⟨hA.part ⟨rfl,rfl,rfl,rfl,rfl,trivial⟩,((hS).NR [] rfl).uC [0] rfl⟩⟩
  ·replace hG1:=L9 hc2 hG1
   refine JK<|CM ?_
   cases hG1
   have ho:=hr1 _ rfl;subst ho
   exact⟨x3,rfl,hA.part ⟨rfl,rfl,trivial⟩,((hS).NR [] rfl).uC [0] rfl⟩
 ·skip
  clear hA hS hl1
  rintro a w ⟨x5,heq,hA,hS⟩
  replace hF:kX slices x5=some r:=by rw [heq] at hF;exact hF
  clear heq
  unfold kX at hF
  refine bO<|cC hA ?_
  clear hA
  refine om rfl rfl ?_
  obtain⟨hn1,hF⟩:=kO hF
  refine YQ (JO Tryz.call337 rfl rfl) (bU rfl) rfl rfl (M9 hn1) ?_
  rintro s2 w ⟨_,rfl,hk⟩
  replace hS:=hS.after hk;clear hk
  refine oa rfl rfl<|bG fun a hA=>bO<|bO<|cC hA ?_
  clear hA
  refine om rfl rfl<|oy (nR (hS.rd 0 rfl) Tryz.underlying313 rfl rfl) rfl<|om rfl rfl<|bG fun a hA=>?_
  obtain⟨o2,hl2,hF⟩:=sB hF
  refine CP (J:=fun a' w'=>∃(x10:List Raw) (s5:Value),o2=x10∧kM 36 [(6,s5)] a'∧St (cS w0) w' [dB [s5] (x10:List Raw)] []) ?_ ?_
  ·refine kN ?_
   refine JL (body:=f9 slices) (r:=o2) (fun sg a' w'=>∃(s4:Value),kM 36 [(6,s4),(25,s1),(26,.int .i64 ((slices.length:Int))),(27,.int .i64 (sg.2))] a'∧St (cS w0) w' [dB [s4] (sg.1:List Raw)] [z6 [s1] (slices:List (List Raw))]) ?_ hl2 ⟨s2,hA.part ⟨rfl,rfl,rfl,rfl,trivial⟩,((hS).NR [0] rfl).uC [0] rfl⟩
   clear hA hS hl2
   rintro⟨x8,x9⟩ a w q2 ⟨s4,hA,hS⟩ hG2 hr2
   try dsimp only at hA hS
   unfold f9 at hG2
   refine bO<|cC hA ?_
   clear hA
   refine oy (EW rfl rfl rfl) rfl<|bG fun a hA=>bO<|kT hA rfl (fun hc1=>?_) (fun hc1=>?_)
   ·replace hG2:=L8 hc1 hG2
    refine nQ<|bO<|kN<|bO<|cC hA ?_
    clear hA
    obtain⟨x11,hx11,hG2⟩:=sB hG2
    refine oy (QJ (m:=1) (hS.rd 0 rfl) rfl hx11 Tryz.underlying313 Tryz.sizeOf43 rfl rfl rfl) rfl ?_
    obtain⟨s6,hel,hS⟩:=hS.aKV 0 rfl (jI hx11).2.2
    refine oy (iG rfl rfl Tryz.isAgg43 (aRQ hel)) rfl<|oa rfl rfl<|bG fun a hA=>cC hA ?_
    clear hA
    refine om rfl rfl<|om rfl rfl ?_
    obtain⟨hn2,hG2⟩:=kO hG2
    refine K2 (aHQ (α:=Raw) 0 hS rfl (hS.rd 1 rfl) rfl Tryz.underlying43 eN rfl hn2 rfl rfl rfl) (bU rfl) rfl rfl ?_
    clear hS
    rintro s7 w hS
    refine oa rfl rfl<|bG fun a hA=>cC hA ?_
    clear hA
    refine oy (K3 rfl rfl rfl) rfl<|om rfl rfl<|bG fun a hA=>?_
    cases hG2
    exact⟨_,rfl,⟨s7,hA.part ⟨rfl,rfl,rfl,rfl,trivial⟩,((hS).NR [0] rfl).uC [0] rfl⟩⟩
   ·replace hG2:=L9 hc1 hG2
    refine JK<|CM ?_
    cases hG2
    have ho:=hr2 _ rfl;subst ho
    exact⟨x8,s4,rfl,hA.part ⟨rfl,trivial⟩,((hS).NR [0] rfl).uC [] rfl⟩
  ·skip
   clear hA hS hl2
   rintro a w ⟨x10,s5,heq,hA,hS⟩
   replace hF:p7 x10=some r:=by rw [heq] at hF;exact hF
   clear heq
   unfold p7 at hF
   refine bO<|cC hA ?_
   clear hA
   refine om rfl rfl<|oa rfl rfl<|bG fun a hA=>y4 ?_
   cases hF
   exact aVS Tryz.results221 hA (aBL rfl) ⟨s5,rfl,(hS.NR [0] rfl).weaken (R':=[]) (fun _ h=>nomatch h)⟩
theorem LH{w0:World}{n:Int}{low:Int}{high:Int}{r:Bool}(hF:cD n low high=some r) :
    Calls Tryz.prog 107 #[.int .i64 (n),.int .i64 (low),.int .i64 (high)] w0 (Ret fun v w'=>v=.bool (r)∧St (cS w0) w' [] []):=by
 have hS:St (cS w0) w0 [] []:=St.enter (by
   intro f hf;cases hf)
 refine zP (args:=[_,_,_]) Tryz.func107 rfl Tryz.ntmps107 rfl ?_
 unfold cD at hF
 intro a hA
 refine bO<|cC hA ?_
 clear hA
 refine oa rfl rfl<|bG fun a hA=>bO<|CP (J:=fun a' w'=>∃(x1:Bool),oX x1=some r∧kM 15 [(6,.bool (x1))] a'∧St (cS w0) w' [] []) ?_ ?_
 ·skip
  refine cC hA ?_
  clear hA
  refine om rfl rfl<|om rfl rfl<|oy (aRJ rfl rfl rfl) rfl<|om rfl rfl<|HR (s:=10) rfl (fun hc1=>?_) (fun hc1=>?_)
  ·replace hF:=L8 hc1 hF
   refine eP (m4 rfl rfl) (b9 rfl rfl rfl (by rw [hc1];rfl)) rfl rfl ?_
   refine eP (m4 rfl rfl) (b9 rfl rfl rfl (by rw [hc1];rfl)) rfl rfl ?_
   refine eP (aMN rfl rfl rfl) (b9 rfl rfl rfl (by rw [hc1];rfl)) rfl rfl ?_
   refine oy (uB rfl rfl hc1 rfl) rfl<|oa rfl rfl<|bG fun a hA=>?_
   exact⟨decide (n≤high),hF,hA.part ⟨rfl,trivial⟩,((hS).NR [] rfl).uC [] rfl⟩
  ·replace hF:=L9 hc1 hF
   refine eV (b9 rfl rfl rfl (by rw [hc1];rfl)) rfl rfl ?_
   refine eV (b9 rfl rfl rfl (by rw [hc1];rfl)) rfl rfl ?_
   refine eV (b9 rfl rfl rfl (by rw [hc1];rfl)) rfl rfl ?_
   refine oy (zO rfl rfl hc1 rfl) rfl<|oa rfl rfl<|bG fun a hA=>?_
   exact⟨false,hF,hA.part ⟨rfl,trivial⟩,((hS).NR [] rfl).uC [] rfl⟩
 ·skip
  clear hA hS hF
  rintro a w ⟨x1,hF,hA,hS⟩
  unfold oX at hF
  refine y4 ?_
  cases hF
  exact fy Tryz.results107 hA rfl hS
theorem aGA{w0:World}{slot:Int}{r:Bool}(hF:lF slot=some r) :
    Calls Tryz.prog 222 #[.int .i64 (slot)] w0 (Ret fun v w'=>v=.bool (r)∧St (cS w0) w' [] []):=by
 have hS:St (cS w0) w0 [] []:=St.enter (by
   intro f hf;cases hf)
 refine zP (args:=[_]) Tryz.func222 rfl Tryz.ntmps222 rfl ?_
 unfold lF at hF
 intro a hA
 refine bO<|cC hA ?_
 clear hA
 refine oa rfl rfl<|bG fun a hA=>bO<|cC hA ?_
 clear hA
 refine om rfl rfl ?_
 obtain⟨x1,hx1,hF⟩:=sB hF
 refine YQ (JO Tryz.call107 rfl rfl) (bU rfl) rfl rfl (LH (n:=slot) (low:=0) (high:=23) hx1) ?_
 rintro _ w ⟨rfl,hk⟩
 replace hS:=hS.after hk;clear hk
 refine oa rfl rfl<|bG fun a hA=>y4 ?_
 cases hF
 exact fy Tryz.results222 hA rfl hS
theorem aDL{w0:World}{l:aA}{s1:Value}{s2:Value}{r:Bool}(h1:aK.rd (O3 w0) w0 [s1] (l.Global:List aH))(h2:aK.rd (O3 w0) w0 [s2] (l.bQ:List aH))(hF:jD l=some r) :
    Calls Tryz.prog 123 #[.agg #[s1,s2]] w0 (Ret fun v w'=>v=.bool (r)∧St (cS w0) w' [] []):=by
 have hS:St (cS w0) w0 [] [z6 [s1] (l.Global:List aH),z6 [s2] (l.bQ:List aH)]:=St.enter (by
   intro f hf
   simp only [List.mem_cons,List.not_mem_nil,or_false] at hf
   rcases hf with rfl | rfl
   · exact h1
   · exact h2)
 refine zP (args:=[_]) Tryz.func123 rfl Tryz.ntmps123 rfl ?_
 unfold jD at hF
 intro a hA
 refine bO<|cC hA ?_
 clear hA
 refine K2 (aYR (cs:=[s1,s2]) hS rfl rfl rfl) (bU rfl) rfl rfl ?_
 clear hS
 rintro _ w ⟨b1,rfl,hS⟩
 refine oa rfl rfl<|bG fun a hA=>bO<|bO<|CP (J:=fun a' w'=>∃(x1:Bool),rB l x1=some r∧kM 61 [(1,.pointer (some ⟨b1,0,none⟩)),(17,.bool (x1))] a'∧St (cS w0) w' [CH b1 [s1,s2]] [z6 [s1] (l.Global:List aH),z6 [s2] (l.bQ:List aH)]) ?_ ?_
 ·skip
  refine cC hA ?_
  clear hA
  refine oy (y5 (m:=0) Tryz.underlying45 rfl rfl Tryz.sizeOf43 rfl rfl) rfl<|oy (iG rfl rfl Tryz.isAgg43 (hS.cell 0 rfl rfl)) rfl<|oy (nR (hS.rd 0 rfl) Tryz.underlying43 rfl rfl) rfl<|oy (aIO rfl rfl rfl) rfl<|om rfl rfl<|HR (s:=12) rfl (fun hc8=>?_) (fun hc8=>?_)
  ·replace hF:=L8 hc8 hF
   refine eV (b9 rfl rfl rfl (by rw [hc8];rfl)) rfl rfl ?_
   refine eV (b9 rfl rfl rfl (by rw [hc8];rfl)) rfl rfl ?_
   refine eV (b9 rfl rfl rfl (by rw [hc8];rfl)) rfl rfl ?_
   refine eV (b9 rfl rfl rfl (by rw [hc8];rfl)) rfl rfl ?_
   refine oy (uB rfl rfl hc8 rfl) rfl<|bG fun a hA=>?_
   exact⟨true,hF,hA.part ⟨rfl,rfl,trivial⟩,((hS).NR [0] rfl).uC [0,1] rfl⟩
  ·replace hF:=L9 hc8 hF
   refine eP (y5 (m:=0) Tryz.underlying45 rfl rfl Tryz.sizeOf43 rfl rfl) (b9 rfl rfl rfl (by rw [hc8];rfl)) rfl rfl ?_
   refine eP (iG rfl rfl Tryz.isAgg43 (hS.cell 0 rfl rfl)) (b9 rfl rfl rfl (by rw [hc8];rfl)) rfl rfl ?_
   refine eP (nR (hS.rd 1 rfl) Tryz.underlying43 rfl rfl) (b9 rfl rfl rfl (by rw [hc8];rfl)) rfl rfl ?_
   refine eP (aIO rfl rfl rfl) (b9 rfl rfl rfl (by rw [hc8];rfl)) rfl rfl ?_
   refine oy (zO rfl rfl hc8 rfl) rfl<|bG fun a hA=>?_
   exact⟨(l.bQ.length:Int) != 9,hF,hA.part ⟨rfl,rfl,trivial⟩,((hS).NR [0] rfl).uC [0,1] rfl⟩
 ·skip
  clear hA hS hF
  rintro a w ⟨x1,hF,hA,hS⟩
  unfold rB at hF
  refine kT hA rfl (fun hc1=>?_) (fun hc1=>?_)
  ·replace hF:=L8 hc1 hF
   refine bO<|cC hA ?_
   clear hA
   refine oa rfl rfl<|bG fun a hA=>y4 ?_
   cases hF
   exact fy Tryz.results123 hA rfl hS
  ·replace hF:=L9 hc1 hF
   refine nQ<|bO<|cC hA ?_
   clear hA
   refine oy (W6 (cells:=#[.bool (false),.bool (false),.bool (false),.bool (false),.bool (false),.bool (false),.bool (false),.bool (false),.bool (false),.bool (false),.bool (false),.bool (false),.bool (false),.bool (false),.bool (false),.bool (false),.bool (false),.bool (false),.bool (false),.bool (false),.bool (false),.bool (false),.bool (false),.bool (false)]) rfl Tryz.zeroValue238 Tryz.underlying238 Tryz.sizeOf4 rfl rfl) rfl<|K2 (L7 (cs:=List.map (fun q:Bool=>Value.bool q) [false,false,false,false,false,false,false,false,false,false,false,false,false,false,false,false,false,false,false,false,false,false,false,false]) hS rfl Tryz.zeroValue238 rfl) (bU rfl) rfl rfl ?_
   clear hS
   rintro _ w ⟨b2,rfl,hS⟩
   refine QH (T8 (vs:=[.bool (false),.bool (false),.bool (false),.bool (false),.bool (false),.bool (false),.bool (false),.bool (false),.bool (false),.bool (false),.bool (false),.bool (false),.bool (false),.bool (false),.bool (false),.bool (false),.bool (false),.bool (false),.bool (false),.bool (false),.bool (false),.bool (false),.bool (false),.bool (false)]) hS (i:=1) rfl rfl rfl rfl rfl Tryz.sizeOf238 rfl rfl rfl) (bU rfl) rfl ?_
   clear hS
   intro w hS
   refine bG fun a hA=>bO<|bO<|cC hA ?_
   clear hA
   refine oy (y5 (m:=0) Tryz.underlying45 rfl rfl Tryz.sizeOf43 rfl rfl) rfl<|oy (iG rfl rfl Tryz.isAgg43 (hS.cell 0 rfl rfl)) rfl<|oy (y5 (m:=0) Tryz.underlying45 rfl rfl Tryz.sizeOf43 rfl rfl) rfl<|oy (iG rfl rfl Tryz.isAgg43 (hS.cell 0 rfl rfl)) rfl<|K2 (aMU hS (hS.rd 1 rfl) (hS.rd 0 rfl) Tryz.underlying313 aND rfl rfl rfl) (bU rfl) rfl rfl ?_
   clear hS
   rintro s3 w hS
   obtain⟨hn1,hF⟩:=kO hF
   replace hS:=hS.a0S 2 rfl
   obtain⟨u1,u2,hu1,hl1,hS⟩:=hS.aV5 rfl 2 1 0 rfl rfl rfl
   refine YQ (JO Tryz.call221 rfl rfl) (bU rfl) rfl rfl (QC hu1 (MT hl1 hn1)) ?_
   rintro s4 w ⟨_,rfl,hk⟩
   replace hS:=hS.after hk;clear hk
   replace hS:=hS.a0S 3 rfl
   replace hS:=hS.a0Y rfl 4 3 rfl rfl
   refine oy (nR (hS.rd 5 rfl) Tryz.underlying43 rfl rfl) rfl<|om rfl rfl<|bG fun a hA=>?_
   obtain⟨o1,hl2,hF⟩:=sB hF
   refine CP (J:=fun a' w'=>o1=Out.brk ()∧kM 61 [] a'∧St (cS w0) w' [] []) ?_ ?_
   ·refine kN ?_
    refine JL (body:=kG l) (r:=o1) (fun sg a' w'=>kM 61 [(1,.pointer (some ⟨b1,0,none⟩)),(3,.pointer (some ⟨b2,0,none⟩)),(24,s4),(25,.int .i64 (((l.bQ++l.Global).length:Int))),(26,.int .i64 (sg.1))] a'∧St (cS w0) w' [CH b1 [s1,s2],CH b2 (List.map (fun q:Bool=>Value.bool q) (sg.2:List Bool))] [z6 [s4] (l.bQ++l.Global:List aH),z6 [s1] (l.Global:List aH),z6 [s2] (l.bQ:List aH)]) ?_ hl2 ⟨hA.part ⟨rfl,rfl,rfl,rfl,rfl,trivial⟩,((hS).NR [0,1] rfl).uC [5,0,1] rfl⟩
    clear hA hS hl2
    rintro⟨x4,x5⟩ a w q2 ⟨hA,hS⟩ hG2 hr2
    try dsimp only at hA hS
    unfold kG at hG2
    refine bO<|cC hA ?_
    clear hA
    refine oy (EW rfl rfl rfl) rfl<|bG fun a hA=>bO<|kT hA rfl (fun hc2=>?_) (fun hc2=>?_)
    ·replace hG2:=L8 hc2 hG2
     refine nQ<|bO<|kN<|bO<|cC hA ?_
     clear hA
     refine om rfl rfl ?_
     obtain⟨x6,hx6,hG2⟩:=sB hG2
     refine oy (QJ (m:=1) (hS.rd 0 rfl) rfl hx6 Tryz.underlying43 Tryz.sizeOf162 rfl rfl rfl) rfl ?_
     obtain⟨s5,hel,hS⟩:=hS.aTX 0 rfl (jI hx6).2.2
     refine oy (QI rfl rfl Tryz.isAgg162 Tryz.sizeOf162 rfl hel) rfl<|K2 (L7 (cs:=[(.slice none 0 0)]) hS rfl Tryz.zeroValue162 rfl) (bU rfl) rfl rfl ?_
     clear hS
     rintro _ w ⟨b3,rfl,hS⟩
     refine oa rfl rfl<|QH (T8 (vs:=[s5]) hS (i:=2) rfl rfl rfl rfl rfl Tryz.sizeOf162 rfl rfl (aYW (aCD (hS.rd 3 rfl)) rfl)) (bU rfl) rfl ?_
     clear hS
     intro w hS
     refine bG fun a hA=>bO<|bO<|CP (J:=fun a' w'=>∃(x7:Bool),kE x4 x5 x6 x7=some q2∧kM 61 [(1,.pointer (some ⟨b1,0,none⟩)),(3,.pointer (some ⟨b2,0,none⟩)),(5,.pointer (some ⟨b3,0,none⟩)),(24,s4),(25,.int .i64 (((l.bQ++l.Global).length:Int))),(26,.int .i64 (x4)),(41,.bool (x7))] a'∧St (cS w0) w' [CH b1 [s1,s2],CH b2 (List.map (fun q:Bool=>Value.bool q) (x5:List Bool)),CH b3 [s5]] [z6 [s4] (l.bQ++l.Global:List aH),z6 [s1] (l.Global:List aH),z6 [s2] (l.bQ:List aH),z6 [s5] (x6.aL:List Int)]) ?_ ?_
     ·skip
      refine cC hA ?_
      clear hA
      refine om rfl rfl<|oy (y5 (m:=0) Tryz.underlying45 rfl rfl Tryz.sizeOf43 rfl rfl) rfl<|oy (iG rfl rfl Tryz.isAgg43 (hS.cell 0 rfl rfl)) rfl<|oy (nR (hS.rd 2 rfl) Tryz.underlying43 rfl rfl) rfl<|oy (EW rfl rfl rfl) rfl<|om rfl rfl<|HR (s:=36) rfl (fun hc7=>?_) (fun hc7=>?_)
      ·replace hG2:=L8 hc7 hG2
       refine eP (y5 (m:=0) Tryz.underlying162 rfl rfl Tryz.sizeOf22 rfl rfl) (b9 rfl rfl rfl (by rw [hc7];rfl)) rfl rfl ?_
       refine eP (iG rfl rfl Tryz.isAgg22 (hS.cell 2 rfl rfl)) (b9 rfl rfl rfl (by rw [hc7];rfl)) rfl rfl ?_
       refine eP (nR (hS.rd 3 rfl) Tryz.underlying22 rfl rfl) (b9 rfl rfl rfl (by rw [hc7];rfl)) rfl rfl ?_
       refine eP (aMO rfl rfl rfl) (b9 rfl rfl rfl (by rw [hc7];rfl)) rfl rfl ?_
       refine oy (uB rfl rfl hc7 rfl) rfl<|bG fun a hA=>?_
       exact⟨decide (2 < (x6.aL.length:Int)),hG2,hA.part ⟨rfl,rfl,rfl,rfl,rfl,rfl,rfl,trivial⟩,((hS).NR [0,1,2] rfl).uC [0,1,2,3] rfl⟩
      ·replace hG2:=L9 hc7 hG2
       refine eV (b9 rfl rfl rfl (by rw [hc7];rfl)) rfl rfl ?_
       refine eV (b9 rfl rfl rfl (by rw [hc7];rfl)) rfl rfl ?_
       refine eV (b9 rfl rfl rfl (by rw [hc7];rfl)) rfl rfl ?_
       refine eV (b9 rfl rfl rfl (by rw [hc7];rfl)) rfl rfl ?_
       refine oy (zO rfl rfl hc7 rfl) rfl<|bG fun a hA=>?_
       exact⟨false,hG2,hA.part ⟨rfl,rfl,rfl,rfl,rfl,rfl,rfl,trivial⟩,((hS).NR [0,1,2] rfl).uC [0,1,2,3] rfl⟩
     ·skip
      clear hA hS hG2
      rintro a w ⟨x7,hG2,hA,hS⟩
      unfold kE at hG2
      refine kT hA rfl (fun hc3=>?_) (fun hc3=>?_)
      ·replace hG2:=L8 hc3 hG2
       refine bO<|cC hA ?_
       clear hA
       refine oa rfl rfl<|bG fun a hA=>y4 ?_
       cases hG2
       have ho:=hr2 _ rfl;subst ho
       replace hF:some false=some r:=hF
       cases hF
       exact fy Tryz.results123 hA rfl hS
      ·replace hG2:=L9 hc3 hG2
       refine nQ<|bO<|cC hA ?_
       clear hA
       refine oy (y5 (m:=0) Tryz.underlying162 rfl rfl Tryz.sizeOf22 rfl rfl) rfl<|oy (iG rfl rfl Tryz.isAgg22 (hS.cell 2 rfl rfl)) rfl<|oy (nR (hS.rd 3 rfl) Tryz.underlying22 rfl rfl) rfl<|om rfl rfl<|bG fun a hA=>?_
       obtain⟨o2,hl3,hG2⟩:=sB hG2
       refine CP (J:=fun a' w'=>∃(x12:List Bool),o2=Out.brk x12∧kM 61 [(1,.pointer (some ⟨b1,0,none⟩)),(3,.pointer (some ⟨b2,0,none⟩)),(24,s4),(25,.int .i64 (((l.bQ++l.Global).length:Int))),(26,.int .i64 (x4))] a'∧St (cS w0) w' [CH b1 [s1,s2],CH b2 (List.map (fun q:Bool=>Value.bool q) (x12:List Bool))] [z6 [s4] (l.bQ++l.Global:List aH),z6 [s1] (l.Global:List aH),z6 [s2] (l.bQ:List aH)]) ?_ ?_
       ·refine kN ?_
        refine JL (body:=kD x6) (r:=o2) (fun sg a' w'=>kM 61 [(1,.pointer (some ⟨b1,0,none⟩)),(3,.pointer (some ⟨b2,0,none⟩)),(24,s4),(25,.int .i64 (((l.bQ++l.Global).length:Int))),(26,.int .i64 (x4)),(43,s5),(44,.int .i64 ((x6.aL.length:Int))),(45,.int .i64 (sg.1))] a'∧St (cS w0) w' [CH b1 [s1,s2],CH b2 (List.map (fun q:Bool=>Value.bool q) (sg.2:List Bool))] [z6 [s4] (l.bQ++l.Global:List aH),z6 [s5] (x6.aL:List Int),z6 [s1] (l.Global:List aH),z6 [s2] (l.bQ:List aH)]) ?_ hl3 ⟨hA.part ⟨rfl,rfl,rfl,rfl,rfl,rfl,rfl,rfl,trivial⟩,((hS).NR [0,1] rfl).uC [0,3,1,2] rfl⟩
        clear hA hS hl3
        rintro⟨x10,x11⟩ a w q4 ⟨hA,hS⟩ hG4 hr4
        try dsimp only at hA hS
        unfold kD at hG4
        refine bO<|cC hA ?_
        clear hA
        refine oy (EW rfl rfl rfl) rfl<|bG fun a hA=>bO<|kT hA rfl (fun hc4=>?_) (fun hc4=>?_)
        ·replace hG4:=L8 hc4 hG4
         refine nQ<|bO<|kN<|bO<|cC hA ?_
         clear hA
         obtain⟨x13,hx13,hG4⟩:=sB hG4
         refine oy (QJ (m:=1) (hS.rd 1 rfl) rfl hx13 Tryz.underlying22 Tryz.sizeOf3 rfl rfl rfl) rfl<|oy (iG rfl rfl Tryz.isAgg3 (aRQ (aYT (hS.rd 1 rfl) (jI hx13).2.2))) rfl<|oa rfl rfl<|bG fun a hA=>bO<|bO<|CP (J:=fun a' w'=>∃(x14:Bool),mW x10 x11 x13 x14=some q4∧kM 61 [(1,.pointer (some ⟨b1,0,none⟩)),(3,.pointer (some ⟨b2,0,none⟩)),(7,.int .i64 (x13)),(24,s4),(25,.int .i64 (((l.bQ++l.Global).length:Int))),(26,.int .i64 (x4)),(43,s5),(44,.int .i64 ((x6.aL.length:Int))),(45,.int .i64 (x10)),(56,.bool (x14))] a'∧St (cS w0) w' [CH b1 [s1,s2],CH b2 (List.map (fun q:Bool=>Value.bool q) (x11:List Bool))] [z6 [s4] (l.bQ++l.Global:List aH),z6 [s5] (x6.aL:List Int),z6 [s1] (l.Global:List aH),z6 [s2] (l.bQ:List aH)]) ?_ ?_
         ·skip
          refine cC hA ?_
          clear hA
          refine om rfl rfl ?_
          obtain⟨x16,hx16,hG4⟩:=sB hG4
          refine YQ (JO Tryz.call222 rfl rfl) (bU rfl) rfl rfl (aGA (slot:=x13) hx16) ?_
          rintro _ w ⟨rfl,hk⟩
          replace hS:=hS.after hk;clear hk
          refine oy (aB5 rfl rfl) rfl<|om rfl rfl<|HR (s:=52) rfl (fun hc6=>?_) (fun hc6=>?_)
          ·replace hG4:=L8 hc6 hG4
           refine eV (b9 rfl rfl rfl (by rw [hc6];rfl)) rfl rfl ?_
           refine eV (b9 rfl rfl rfl (by rw [hc6];rfl)) rfl rfl ?_
           refine eV (b9 rfl rfl rfl (by rw [hc6];rfl)) rfl rfl ?_
           refine oy (uB rfl rfl hc6 rfl) rfl<|bG fun a hA=>?_
           exact⟨true,hG4,hA.part ⟨rfl,rfl,rfl,rfl,rfl,rfl,rfl,rfl,rfl,rfl,trivial⟩,((hS).NR [0,1] rfl).uC [0,1,2,3] rfl⟩
          ·replace hG4:=L9 hc6 hG4
           refine eP (m4 rfl rfl) (b9 rfl rfl rfl (by rw [hc6];rfl)) rfl rfl ?_
           obtain⟨hn3,hG4⟩:=kO hG4
           refine eP (aBP Tryz.underlying238 Tryz.sizeOf4 hn3 rfl rfl rfl) (b9 rfl rfl rfl (by rw [hc6];rfl)) rfl rfl ?_
           obtain⟨x17,hx17,hG4⟩:=sB hG4
           refine eP (iG rfl rfl Tryz.isAgg4 (hS.aOI 1 rfl hx17)) (b9 rfl rfl rfl (by rw [hc6];rfl)) rfl rfl ?_
           refine oy (zO rfl rfl hc6 rfl) rfl<|bG fun a hA=>?_
           exact⟨x17,hG4,hA.part ⟨rfl,rfl,rfl,rfl,rfl,rfl,rfl,rfl,rfl,rfl,trivial⟩,((hS).NR [0,1] rfl).uC [0,1,2,3] rfl⟩
         ·skip
          clear hA hS hG4
          rintro a w ⟨x14,hG4,hA,hS⟩
          unfold mW at hG4
          refine kT hA rfl (fun hc5=>?_) (fun hc5=>?_)
          ·replace hG4:=L8 hc5 hG4
           refine bO<|cC hA ?_
           clear hA
           refine oa rfl rfl<|bG fun a hA=>y4 ?_
           cases hG4
           have ho:=hr4 _ rfl;subst ho
           replace hG2:some (.stop (Out.ret false))=some q2:=hG2
           cases hG2
           have ho:=hr2 _ rfl;subst ho
           replace hF:some false=some r:=hF
           cases hF
           exact fy Tryz.results123 hA rfl hS
          ·replace hG4:=L9 hc5 hG4
           refine nQ<|cC hA ?_
           clear hA
           refine om rfl rfl ?_
           obtain⟨hn2,hG4⟩:=kO hG4
           refine oy (aBP Tryz.underlying238 Tryz.sizeOf4 hn2 rfl rfl rfl) rfl ?_
           obtain⟨x15,hx15,hG4⟩:=sB hG4
           refine QH (aR7 (xd:=true) hS (m:=1) rfl hx15 Tryz.sizeOf4 rfl rfl rfl rfl rfl rfl) (bU rfl) rfl ?_
           clear hS
           intro w hS
           refine bG fun a hA=>cC hA ?_
           clear hA
           refine oy (K3 rfl rfl rfl) rfl<|om rfl rfl<|bG fun a hA=>?_
           cases hG4
           exact⟨_,rfl,⟨hA.part ⟨rfl,rfl,rfl,rfl,rfl,rfl,rfl,rfl,trivial⟩,((hS).NR [0,1] rfl).uC [0,1,2,3] rfl⟩⟩
        ·replace hG4:=L9 hc4 hG4
         refine JK<|CM ?_
         cases hG4
         have ho:=hr4 _ rfl;subst ho
         exact⟨x11,rfl,hA.part ⟨rfl,rfl,rfl,rfl,rfl,trivial⟩,((hS).NR [0,1] rfl).uC [0,2,3] rfl⟩
       ·skip
        clear hA hS hl3
        rintro a w ⟨x12,heq,hA,hS⟩
        replace hG2:xX x4 x12=some q2:=by rw [heq] at hG2;exact hG2
        clear heq
        unfold xX at hG2
        refine cC hA ?_
        clear hA
        refine oy (K3 rfl rfl rfl) rfl<|om rfl rfl<|bG fun a hA=>?_
        cases hG2
        exact⟨_,rfl,⟨hA.part ⟨rfl,rfl,rfl,rfl,rfl,trivial⟩,((hS).NR [0,1] rfl).uC [0,1,2] rfl⟩⟩
    ·replace hG2:=L9 hc2 hG2
     refine JK<|CM ?_
     cases hG2
     have ho:=hr2 _ rfl;subst ho
     exact⟨rfl,hA.part trivial,((hS).NR [] rfl).uC [] rfl⟩
   ·skip
    clear hA hS hl2
    rintro a w ⟨heq,hA,hS⟩
    replace hF:E7=some r:=by rw [heq] at hF;exact hF
    clear heq
    unfold E7 at hF
    refine bO<|cC hA ?_
    clear hA
    refine oa rfl rfl<|bG fun a hA=>y4 ?_
    cases hF
    exact fy Tryz.results123 hA rfl hS
theorem Z6{w0:World}{h:Int}{r:Bool}(hF:fZ h=some r) :
    Calls Tryz.prog 295 #[.int .i64 (h)] w0 (Ret fun v w'=>v=.bool (r)∧St (cS w0) w' [] []):=by
 have hS:St (cS w0) w0 [] []:=St.enter (by
   intro f hf;cases hf)
 refine zP (args:=[_]) Tryz.func295 rfl Tryz.ntmps295 rfl ?_
 unfold fZ at hF
 intro a hA
 refine bO<|cC hA ?_
 clear hA
 refine oa rfl rfl<|bG fun a hA=>bO<|CP (J:=fun a' w'=>∃(x1:Bool),lQ x1=some r∧kM 10 [(2,.bool (x1))] a'∧St (cS w0) w' [] []) ?_ ?_
 ·skip
  refine cC hA ?_
  clear hA
  refine om rfl rfl ?_
  obtain⟨x2,hx2,hF⟩:=sB hF
  refine YQ (JO Tryz.call107 rfl rfl) (bU rfl) rfl rfl (LH (n:=h) (low:=32) (high:=223) hx2) ?_
  rintro _ w ⟨rfl,hk⟩
  replace hS:=hS.after hk;clear hk
  refine om rfl rfl<|HR (s:=5) rfl (fun hc1=>?_) (fun hc1=>?_)
  ·replace hF:=L8 hc1 hF
   refine eP (m4 rfl rfl) (b9 rfl rfl rfl (by rw [hc1];rfl)) rfl rfl ?_
   refine eP (aB6 rfl rfl rfl (by decide)) (b9 rfl rfl rfl (by rw [hc1];rfl)) rfl rfl ?_
   refine eP (EW rfl rfl rfl) (b9 rfl rfl rfl (by rw [hc1];rfl)) rfl rfl ?_
   refine oy (uB rfl rfl hc1 rfl) rfl<|oa rfl rfl<|bG fun a hA=>?_
   exact⟨decide ((Int.tmod h 32) < 24),hF,hA.part ⟨rfl,trivial⟩,((hS).NR [] rfl).uC [] rfl⟩
  ·replace hF:=L9 hc1 hF
   refine eV (b9 rfl rfl rfl (by rw [hc1];rfl)) rfl rfl ?_
   refine eV (b9 rfl rfl rfl (by rw [hc1];rfl)) rfl rfl ?_
   refine eV (b9 rfl rfl rfl (by rw [hc1];rfl)) rfl rfl ?_
   refine oy (zO rfl rfl hc1 rfl) rfl<|oa rfl rfl<|bG fun a hA=>?_
   exact⟨false,hF,hA.part ⟨rfl,trivial⟩,((hS).NR [] rfl).uC [] rfl⟩
 ·skip
  clear hA hS hF
  rintro a w ⟨x1,hF,hA,hS⟩
  unfold lQ at hF
  refine y4 ?_
  cases hF
  exact fy Tryz.results295 hA rfl hS
theorem XU{w0:World}{l:List aO}{s1:Value}{r:Int}(h1:aK.rd (O3 w0) w0 [s1] (l:List aO))(hF:tG l=some r) :
    Calls Tryz.prog 35 #[s1] w0 (Ret fun v w'=>v=.int .i64 (r)∧St (cS w0) w' [] []):=by
 have hS:St (cS w0) w0 [] [z6 [s1] (l:List aO)]:=St.enter (by
   intro f hf
   simp only [List.mem_cons,List.not_mem_nil,or_false] at hf
   subst hf;exact h1)
 refine zP (args:=[_]) Tryz.func35 rfl Tryz.ntmps35 rfl ?_
 unfold tG at hF
 intro a hA
 refine bO<|cC hA ?_
 clear hA
 refine oa rfl rfl<|bG fun a hA=>bO<|cC hA ?_
 clear hA
 refine oa rfl rfl<|bG fun a hA=>bO<|bO<|cC hA ?_
 clear hA
 refine om rfl rfl<|oy (nR (hS.rd 0 rfl) Tryz.underlying51 rfl rfl) rfl<|om rfl rfl<|bG fun a hA=>?_
 obtain⟨o1,hl1,hF⟩:=sB hF
 refine CP (J:=fun a' w'=>∃(x5:Int),o1=x5∧kM 19 [(3,.int .i64 (x5))] a'∧St (cS w0) w' [] []) ?_ ?_
 ·refine kN ?_
  refine JL (body:=iJ l) (r:=o1) (fun sg a' w'=>kM 19 [(3,.int .i64 (sg.1)),(6,s1),(7,.int .i64 ((l.length:Int))),(8,.int .i64 (sg.2))] a'∧St (cS w0) w' [] [z6 [s1] (l:List aO)]) ?_ hl1 ⟨hA.part ⟨rfl,rfl,rfl,rfl,trivial⟩,((hS).NR [] rfl).uC [0] rfl⟩
  clear hA hS hl1
  rintro⟨x3,x4⟩ a w q1 ⟨hA,hS⟩ hG1 hr1
  try dsimp only at hA hS
  unfold iJ at hG1
  refine bO<|cC hA ?_
  clear hA
  refine oy (EW rfl rfl rfl) rfl<|bG fun a hA=>bO<|kT hA rfl (fun hc1=>?_) (fun hc1=>?_)
  ·replace hG1:=L8 hc1 hG1
   refine nQ<|bO<|kN<|bO<|cC hA ?_
   clear hA
   obtain⟨x6,hx6,hG1⟩:=sB hG1
   refine oy (QJ (m:=1) (hS.rd 0 rfl) rfl hx6 Tryz.underlying51 Tryz.sizeOf103 rfl rfl rfl) rfl ?_
   obtain⟨s2,hel,hS⟩:=hS.aLQ 0 rfl (jI hx6).2.2
   refine oy (QI rfl rfl Tryz.isAgg103 Tryz.sizeOf103 rfl hel) rfl<|K2 (L7 (cs:=[(.slice none 0 0)]) hS rfl Tryz.zeroValue103 rfl) (bU rfl) rfl rfl ?_
   clear hS
   rintro _ w ⟨b1,rfl,hS⟩
   refine QH (T8 (vs:=[s2]) hS (i:=0) rfl rfl rfl rfl rfl Tryz.sizeOf103 rfl rfl (aYW (aCD (hS.rd 1 rfl)) rfl)) (bU rfl) rfl ?_
   clear hS
   intro w hS
   refine bG fun a hA=>cC hA ?_
   clear hA
   refine om rfl rfl<|oy (y5 (m:=0) Tryz.underlying103 rfl rfl Tryz.sizeOf101 rfl rfl) rfl<|oy (iG rfl rfl Tryz.isAgg101 (hS.cell 0 rfl rfl)) rfl<|oy (nR (hS.rd 1 rfl) Tryz.underlying101 rfl rfl) rfl<|oy (K3 rfl rfl rfl) rfl<|oa rfl rfl<|bG fun a hA=>cC hA ?_
   clear hA
   refine oy (K3 rfl rfl rfl) rfl<|om rfl rfl<|bG fun a hA=>?_
   cases hG1
   exact⟨_,rfl,⟨hA.part ⟨rfl,rfl,rfl,rfl,trivial⟩,((hS).NR [] rfl).uC [0] rfl⟩⟩
  ·replace hG1:=L9 hc1 hG1
   refine JK<|CM ?_
   cases hG1
   have ho:=hr1 _ rfl;subst ho
   exact⟨x3,rfl,hA.part ⟨rfl,trivial⟩,((hS).NR [] rfl).uC [] rfl⟩
 ·skip
  clear hA hS hl1
  rintro a w ⟨x5,heq,hA,hS⟩
  replace hF:A0 x5=some r:=by rw [heq] at hF;exact hF
  clear heq
  unfold A0 at hF
  refine bO<|cC hA ?_
  clear hA
  refine om rfl rfl<|oa rfl rfl<|bG fun a hA=>y4 ?_
  cases hF
  exact fy Tryz.results35 hA rfl hS
theorem aDM{w0:World}{l:List aO}{s1:Value}{r:Bool}(h1:aK.rd (O3 w0) w0 [s1] (l:List aO))(hF:kZ l=some r) :
    Calls Tryz.prog 212 #[s1] w0 (Ret fun v w'=>v=.bool (r)∧St (cS w0) w' [] []):=by
 have hS:St (cS w0) w0 [] [z6 [s1] (l:List aO)]:=St.enter (by
   intro f hf
   simp only [List.mem_cons,List.not_mem_nil,or_false] at hf
   subst hf;exact h1)
 refine zP (args:=[_]) Tryz.func212 rfl Tryz.ntmps212 rfl ?_
 unfold kZ at hF
 intro a hA
 refine bO<|cC hA ?_
 clear hA
 refine oa rfl rfl<|bG fun a hA=>bO<|bO<|cC hA ?_
 clear hA
 refine om rfl rfl<|oy (nR (hS.rd 0 rfl) Tryz.underlying51 rfl rfl) rfl<|oy (aIO rfl rfl rfl) rfl<|bG fun a hA=>kT hA rfl (fun hc1=>?_) (fun hc1=>?_)
 ·replace hF:=L8 hc1 hF
  refine bO<|cC hA ?_
  clear hA
  refine oa rfl rfl<|bG fun a hA=>y4 ?_
  cases hF
  exact fy Tryz.results212 hA rfl hS
 ·replace hF:=L9 hc1 hF
  refine nQ<|bO<|cC hA ?_
  clear hA
  refine oy (W6 (cells:=#[.bool (false),.bool (false),.bool (false),.bool (false),.bool (false),.bool (false),.bool (false),.bool (false),.bool (false),.bool (false),.bool (false),.bool (false),.bool (false),.bool (false),.bool (false),.bool (false),.bool (false),.bool (false),.bool (false),.bool (false),.bool (false),.bool (false),.bool (false),.bool (false)]) rfl Tryz.zeroValue238 Tryz.underlying238 Tryz.sizeOf4 rfl rfl) rfl<|K2 (L7 (cs:=List.map (fun q:Bool=>Value.bool q) [false,false,false,false,false,false,false,false,false,false,false,false,false,false,false,false,false,false,false,false,false,false,false,false]) hS rfl Tryz.zeroValue238 rfl) (bU rfl) rfl rfl ?_
  clear hS
  rintro _ w ⟨b1,rfl,hS⟩
  refine QH (T8 (vs:=[.bool (false),.bool (false),.bool (false),.bool (false),.bool (false),.bool (false),.bool (false),.bool (false),.bool (false),.bool (false),.bool (false),.bool (false),.bool (false),.bool (false),.bool (false),.bool (false),.bool (false),.bool (false),.bool (false),.bool (false),.bool (false),.bool (false),.bool (false),.bool (false)]) hS (i:=0) rfl rfl rfl rfl rfl Tryz.sizeOf238 rfl rfl rfl) (bU rfl) rfl ?_
  clear hS
  intro w hS
  refine bG fun a hA=>bO<|bO<|cC hA ?_
  clear hA
  refine om rfl rfl<|oy (nR (hS.rd 0 rfl) Tryz.underlying51 rfl rfl) rfl<|om rfl rfl<|bG fun a hA=>?_
  obtain⟨o1,hl1,hF⟩:=sB hF
  refine CP (J:=fun a' w'=>o1=Out.brk ()∧kM 51 [(0,s1)] a'∧St (cS w0) w' [] [z6 [s1] (l:List aO)]) ?_ ?_
  ·refine kN ?_
   refine JL (body:=kI l) (r:=o1) (fun sg a' w'=>kM 51 [(0,s1),(3,.pointer (some ⟨b1,0,none⟩)),(12,s1),(13,.int .i64 ((l.length:Int))),(14,.int .i64 (sg.1))] a'∧St (cS w0) w' [CH b1 (List.map (fun q:Bool=>Value.bool q) (sg.2:List Bool))] [z6 [s1] (l:List aO)]) ?_ hl1 ⟨hA.part ⟨rfl,rfl,rfl,rfl,rfl,trivial⟩,((hS).NR [0] rfl).uC [0] rfl⟩
   clear hA hS hl1
   rintro⟨x3,x4⟩ a w q1 ⟨hA,hS⟩ hG1 hr1
   try dsimp only at hA hS
   unfold kI at hG1
   refine bO<|cC hA ?_
   clear hA
   refine oy (EW rfl rfl rfl) rfl<|bG fun a hA=>bO<|kT hA rfl (fun hc2=>?_) (fun hc2=>?_)
   ·replace hG1:=L8 hc2 hG1
    refine nQ<|bO<|kN<|bO<|cC hA ?_
    clear hA
    obtain⟨x6,hx6,hG1⟩:=sB hG1
    refine oy (QJ (m:=1) (hS.rd 0 rfl) rfl hx6 Tryz.underlying51 Tryz.sizeOf103 rfl rfl rfl) rfl ?_
    obtain⟨s2,hel,hS⟩:=hS.aLQ 0 rfl (jI hx6).2.2
    refine oy (QI rfl rfl Tryz.isAgg103 Tryz.sizeOf103 rfl hel) rfl<|K2 (L7 (cs:=[(.slice none 0 0)]) hS rfl Tryz.zeroValue103 rfl) (bU rfl) rfl rfl ?_
    clear hS
    rintro _ w ⟨b2,rfl,hS⟩
    refine QH (T8 (vs:=[s2]) hS (i:=1) rfl rfl rfl rfl rfl Tryz.sizeOf103 rfl rfl (aYW (aCD (hS.rd 1 rfl)) rfl)) (bU rfl) rfl ?_
    clear hS
    intro w hS
    refine bG fun a hA=>bO<|cC hA ?_
    clear hA
    refine oy (y5 (m:=0) Tryz.underlying103 rfl rfl Tryz.sizeOf101 rfl rfl) rfl<|oy (iG rfl rfl Tryz.isAgg101 (hS.cell 1 rfl rfl)) rfl<|oy (nR (hS.rd 1 rfl) Tryz.underlying101 rfl rfl) rfl<|om rfl rfl<|bG fun a hA=>?_
    obtain⟨o2,hl2,hG1⟩:=sB hG1
    refine CP (J:=fun a' w'=>∃(x11:List Bool),o2=Out.brk x11∧kM 51 [(0,s1),(3,.pointer (some ⟨b1,0,none⟩)),(12,s1),(13,.int .i64 ((l.length:Int))),(14,.int .i64 (x3))] a'∧St (cS w0) w' [CH b1 (List.map (fun q:Bool=>Value.bool q) (x11:List Bool))] [z6 [s1] (l:List aO)]) ?_ ?_
    ·refine kN ?_
     refine JL (body:=kH x6) (r:=o2) (fun sg a' w'=>kM 51 [(0,s1),(3,.pointer (some ⟨b1,0,none⟩)),(12,s1),(13,.int .i64 ((l.length:Int))),(14,.int .i64 (x3)),(19,s2),(20,.int .i64 ((x6.Rows.length:Int))),(21,.int .i64 (sg.1))] a'∧St (cS w0) w' [CH b1 (List.map (fun q:Bool=>Value.bool q) (sg.2:List Bool))] [z6 [s1] (l:List aO),z6 [s2] (x6.Rows:List bM)]) ?_ hl2 ⟨hA.part ⟨rfl,rfl,rfl,rfl,rfl,rfl,rfl,rfl,trivial⟩,((hS).NR [0] rfl).uC [0,1] rfl⟩
     clear hA hS hl2
     rintro⟨x9,x10⟩ a w q2 ⟨hA,hS⟩ hG2 hr2
     try dsimp only at hA hS
     unfold kH at hG2
     refine bO<|cC hA ?_
     clear hA
     refine oy (EW rfl rfl rfl) rfl<|bG fun a hA=>bO<|kT hA rfl (fun hc3=>?_) (fun hc3=>?_)
     ·replace hG2:=L8 hc3 hG2
      refine nQ<|bO<|kN<|bO<|cC hA ?_
      clear hA
      obtain⟨x12,hx12,hG2⟩:=sB hG2
      refine oy (QJ (m:=2) (hS.rd 1 rfl) rfl hx12 Tryz.underlying101 Tryz.sizeOf105 rfl rfl rfl) rfl<|oy (QI rfl rfl Tryz.isAgg105 Tryz.sizeOf105 rfl (aW0 (hS.rd 1 rfl) (jI hx12).2.2)) rfl<|K2 (L7 (cs:=[.int .i64 (0),.int .i64 (0)]) hS rfl Tryz.zeroValue105 rfl) (bU rfl) rfl rfl ?_
      clear hS
      rintro _ w ⟨b3,rfl,hS⟩
      refine QH (T8 (vs:=[.int .i64 (x12.Handle),.int .i64 (x12.aM)]) hS (i:=1) rfl rfl rfl rfl rfl Tryz.sizeOf105 rfl rfl rfl) (bU rfl) rfl ?_
      clear hS
      intro w hS
      refine bG fun a hA=>bO<|bO<|CP (J:=fun a' w'=>∃(x13:Bool),iS x9 x10 x12 x13=some q2∧kM 51 [(0,s1),(3,.pointer (some ⟨b1,0,none⟩)),(7,.pointer (some ⟨b3,0,none⟩)),(12,s1),(13,.int .i64 ((l.length:Int))),(14,.int .i64 (x3)),(19,s2),(20,.int .i64 ((x6.Rows.length:Int))),(21,.int .i64 (x9)),(41,.bool (x13))] a'∧St (cS w0) w' [CH b1 (List.map (fun q:Bool=>Value.bool q) (x10:List Bool)),CH b3 [.int .i64 (x12.Handle),.int .i64 (x12.aM)]] [z6 [s1] (l:List aO),z6 [s2] (x6.Rows:List bM)]) ?_ ?_
      ·skip
       refine cC hA ?_
       clear hA
       refine oy (y5 (m:=0) Tryz.underlying105 rfl rfl Tryz.sizeOf3 rfl rfl) rfl<|oy (iG rfl rfl Tryz.isAgg3 (hS.cell 1 rfl rfl)) rfl ?_
       obtain⟨x15,hx15,hG2⟩:=sB hG2
       refine YQ (JO Tryz.call295 rfl rfl) (bU rfl) rfl rfl (Z6 (h:=x12.Handle) hx15) ?_
       rintro _ w ⟨rfl,hk⟩
       replace hS:=hS.after hk;clear hk
       refine oy (aB5 rfl rfl) rfl<|om rfl rfl<|HR (s:=29) rfl (fun hc5=>?_) (fun hc5=>?_)
       ·replace hG2:=L8 hc5 hG2
        refine eV (b9 rfl rfl rfl (by rw [hc5];rfl)) rfl rfl ?_
        refine eV (b9 rfl rfl rfl (by rw [hc5];rfl)) rfl rfl ?_
        refine eV (b9 rfl rfl rfl (by rw [hc5];rfl)) rfl rfl ?_
        refine eV (b9 rfl rfl rfl (by rw [hc5];rfl)) rfl rfl ?_
        refine oy (uB rfl rfl hc5 rfl) rfl<|om rfl rfl<|eV (b9 rfl rfl rfl rfl) rfl rfl<|eV (b9 rfl rfl rfl rfl) rfl rfl<|eV (b9 rfl rfl rfl rfl) rfl rfl<|eV (b9 rfl rfl rfl rfl) rfl rfl<|eV (b9 rfl rfl rfl rfl) rfl rfl<|oy (uB rfl rfl rfl rfl) rfl<|bG fun a hA=>?_
        exact⟨true,hG2,hA.part ⟨rfl,rfl,rfl,rfl,rfl,rfl,rfl,rfl,rfl,rfl,trivial⟩,((hS).NR [0,1] rfl).uC [0,1] rfl⟩
       ·replace hG2:=L9 hc5 hG2
        refine eP (y5 (m:=0) Tryz.underlying105 rfl rfl Tryz.sizeOf3 rfl rfl) (b9 rfl rfl rfl (by rw [hc5];rfl)) rfl rfl ?_
        refine eP (iG rfl rfl Tryz.isAgg3 (hS.cell 1 rfl rfl)) (b9 rfl rfl rfl (by rw [hc5];rfl)) rfl rfl ?_
        obtain⟨x16,hx16,hG2⟩:=sB hG2
        refine YQ (JO Tryz.call107 rfl rfl) (b9 rfl rfl rfl (by rw [hc5];rfl)) rfl rfl (LH (n:=x12.aM) (low:=0) (high:=100000) hx16) ?_
        rintro _ w ⟨rfl,hk⟩
        replace hS:=hS.after hk;clear hk
        refine eP (aB5 rfl rfl) (b9 rfl rfl rfl (by rw [hc5];rfl)) rfl rfl ?_
        refine oy (zO rfl rfl hc5 rfl) rfl<|om rfl rfl<|HR (s:=35) rfl (fun hc6=>?_) (fun hc6=>?_)
        ·replace hG2:=L8 hc6 hG2
         refine eV (b9 rfl rfl rfl (by rw [hc6];rfl)) rfl rfl ?_
         refine eV (b9 rfl rfl rfl (by rw [hc6];rfl)) rfl rfl ?_
         refine eV (b9 rfl rfl rfl (by rw [hc6];rfl)) rfl rfl ?_
         refine eV (b9 rfl rfl rfl (by rw [hc6];rfl)) rfl rfl ?_
         refine eV (b9 rfl rfl rfl (by rw [hc6];rfl)) rfl rfl ?_
         refine oy (uB rfl rfl hc6 rfl) rfl<|bG fun a hA=>?_
         exact⟨true,hG2,hA.part ⟨rfl,rfl,rfl,rfl,rfl,rfl,rfl,rfl,rfl,rfl,trivial⟩,((hS).NR [0,1] rfl).uC [0,1] rfl⟩
        ·replace hG2:=L9 hc6 hG2
         refine eP (y5 (m:=0) Tryz.underlying105 rfl rfl Tryz.sizeOf3 rfl rfl) (b9 rfl rfl rfl (by rw [hc6];rfl)) rfl rfl ?_
         refine eP (iG rfl rfl Tryz.isAgg3 (hS.cell 1 rfl rfl)) (b9 rfl rfl rfl (by rw [hc6];rfl)) rfl rfl ?_
         refine eP (aB6 rfl rfl rfl (by decide)) (b9 rfl rfl rfl (by rw [hc6];rfl)) rfl rfl ?_
         obtain⟨hn2,hG2⟩:=kO hG2
         refine eP (aBP Tryz.underlying238 Tryz.sizeOf4 hn2 rfl rfl rfl) (b9 rfl rfl rfl (by rw [hc6];rfl)) rfl rfl ?_
         obtain⟨x17,hx17,hG2⟩:=sB hG2
         refine eP (iG rfl rfl Tryz.isAgg4 (hS.aOI 0 rfl hx17)) (b9 rfl rfl rfl (by rw [hc6];rfl)) rfl rfl ?_
         refine oy (zO rfl rfl hc6 rfl) rfl<|bG fun a hA=>?_
         exact⟨x17,hG2,hA.part ⟨rfl,rfl,rfl,rfl,rfl,rfl,rfl,rfl,rfl,rfl,trivial⟩,((hS).NR [0,1] rfl).uC [0,1] rfl⟩
      ·skip
       clear hA hS hG2
       rintro a w ⟨x13,hG2,hA,hS⟩
       unfold iS at hG2
       refine kT hA rfl (fun hc4=>?_) (fun hc4=>?_)
       ·replace hG2:=L8 hc4 hG2
        refine bO<|cC hA ?_
        clear hA
        refine oa rfl rfl<|bG fun a hA=>y4 ?_
        cases hG2
        have ho:=hr2 _ rfl;subst ho
        replace hG1:some (.stop (Out.ret false))=some q1:=hG1
        cases hG1
        have ho:=hr1 _ rfl;subst ho
        replace hF:some false=some r:=hF
        cases hF
        exact fy Tryz.results212 hA rfl hS
       ·replace hG2:=L9 hc4 hG2
        refine nQ<|cC hA ?_
        clear hA
        refine oy (y5 (m:=0) Tryz.underlying105 rfl rfl Tryz.sizeOf3 rfl rfl) rfl<|oy (iG rfl rfl Tryz.isAgg3 (hS.cell 1 rfl rfl)) rfl<|oy (aB6 rfl rfl rfl (by decide)) rfl ?_
        obtain⟨hn1,hG2⟩:=kO hG2
        refine oy (aBP Tryz.underlying238 Tryz.sizeOf4 hn1 rfl rfl rfl) rfl ?_
        obtain⟨x14,hx14,hG2⟩:=sB hG2
        refine QH (aR7 (xd:=true) hS (m:=0) rfl hx14 Tryz.sizeOf4 rfl rfl rfl rfl rfl rfl) (bU rfl) rfl ?_
        clear hS
        intro w hS
        refine bG fun a hA=>cC hA ?_
        clear hA
        refine oy (K3 rfl rfl rfl) rfl<|om rfl rfl<|bG fun a hA=>?_
        cases hG2
        exact⟨_,rfl,⟨hA.part ⟨rfl,rfl,rfl,rfl,rfl,rfl,rfl,rfl,trivial⟩,((hS).NR [0] rfl).uC [0,1] rfl⟩⟩
     ·replace hG2:=L9 hc3 hG2
      refine JK<|CM ?_
      cases hG2
      have ho:=hr2 _ rfl;subst ho
      exact⟨x10,rfl,hA.part ⟨rfl,rfl,rfl,rfl,rfl,trivial⟩,((hS).NR [0] rfl).uC [0] rfl⟩
    ·skip
     clear hA hS hl2
     rintro a w ⟨x11,heq,hA,hS⟩
     replace hG1:yC x3 x11=some q1:=by rw [heq] at hG1;exact hG1
     clear heq
     unfold yC at hG1
     refine cC hA ?_
     clear hA
     refine oy (K3 rfl rfl rfl) rfl<|om rfl rfl<|bG fun a hA=>?_
     cases hG1
     exact⟨_,rfl,⟨hA.part ⟨rfl,rfl,rfl,rfl,rfl,trivial⟩,((hS).NR [0] rfl).uC [0] rfl⟩⟩
   ·replace hG1:=L9 hc2 hG1
    refine JK<|CM ?_
    cases hG1
    have ho:=hr1 _ rfl;subst ho
    exact⟨rfl,hA.part ⟨rfl,trivial⟩,((hS).NR [] rfl).uC [0] rfl⟩
  ·skip
   clear hA hS hl1
   rintro a w ⟨heq,hA,hS⟩
   replace hF:yA l=some r:=by rw [heq] at hF;exact hF
   clear heq
   unfold yA at hF
   refine bO<|cC hA ?_
   clear hA
   refine om rfl rfl ?_
   obtain⟨x5,hx5,hF⟩:=sB hF
   refine YQ (JO Tryz.call35 rfl rfl) (bU rfl) rfl rfl (XU (l:=l) (hS.rd 0 rfl) hx5) ?_
   rintro _ w ⟨rfl,hk⟩
   replace hS:=hS.after hk;clear hk
   refine oy (aMN rfl rfl rfl) rfl<|oa rfl rfl<|bG fun a hA=>y4 ?_
   cases hF
   exact fy Tryz.results212 hA rfl hS
end Go.Proofs.YtbdmodalljibjaaGreat
end
