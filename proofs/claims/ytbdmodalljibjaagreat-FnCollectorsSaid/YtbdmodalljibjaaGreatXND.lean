import Derived.Test.YtbdmodalljibjaaGreatXNC
import Derived.Test.YtbdmodalljibjaaGreatProg
set_option linter.unusedVariables false
set_option linter.unusedSimpArgs false
set_option linter.unusedSectionVars false
set_option linter.constructorNameAsVariable false
set_option linter.unnecessarySimpa false
noncomputable section
set_option maxHeartbeats 4000000
set_option maxRecDepth 100000
namespace Go.Proofs.YtbdmodalljibjaaGreat
open Go.Gv
theorem aU:UO Tryz.prog 3 1 (.int .i64 0):=H5 (b:=8) (by kernel_rfl) rfl
theorem dF:UO Tryz.prog 105 2 (.agg #[.int .i64 0,.int .i64 0]):=H5 (b:=16) (by kernel_rfl) rfl
theorem dQ:UO Tryz.prog 162 1 (.agg #[.slice none 0 0]):=H5 (b:=24) (by kernel_rfl) rfl
theorem FJ:UO Tryz.prog 175 4 (.agg #[.bool false,.int .i64 0,.bool false,.int .i64 0]):=H5 (b:=32) (by kernel_rfl) rfl
theorem uB:UO Tryz.prog 103 1 (.agg #[.slice none 0 0]):=H5 (b:=24) (by kernel_rfl) rfl
theorem qN:UO Tryz.prog 77 1 (.agg #[.slice none 0 0]):=H5 (b:=24) (by kernel_rfl) rfl
theorem fZ:UO Tryz.prog 70 4 (.agg #[.int .i64 0,.int .i64 0,.int .i64 0,.int .i64 0]):=H5 (b:=32) (by kernel_rfl) rfl
theorem cL:UO Tryz.prog 74 21 (.agg #[.bool false,.int .i64 0,.int .i64 0,.int .i64 0,.int .i64 0,.int .i64 0,.int .i64 0,.int .i64 0,.int .i64 0,.int .i64 0,.int .i64 0,.int .i64 0,.int .i64 0,.int .i64 0,.int .i64 0,.int .i64 0,.bool false,.int .i64 0,.int .i64 0,.int .i64 0,.int .i64 0]):=H5 (b:=168) (by kernel_rfl) rfl
theorem bN:UO Tryz.prog 79 7 (.agg #[.int .i64 0,.int .i64 0,.int .i64 0,.int .i64 0,.int .i64 0,.int .i64 0,.int .i64 0]):=H5 (b:=56) (by kernel_rfl) rfl
theorem aGD:UO Tryz.prog 5 1 (.int .u8 0):=H5 (b:=1) (by kernel_rfl) rfl
theorem aKZ:UO Tryz.prog 43 1 (.slice none 0 0):=H5 (b:=24) (by kernel_rfl) rfl
theorem aA:Tryz.prog.follows .mixedOrders=true:=by kernel_rfl
theorem QU(D:Nat)(d d':iI)(w:World):(Op.eqFields (D+2) #[.bool (d.On),.int .i64 (d.aM),.bool (d.fG),.int .i64 (d.Seen)] #[.bool (d'.On),.int .i64 (d'.aM),.bool (d'.fG),.int .i64 (d'.Seen)] (match Tryz.prog.underlying 175 with | some (.struct fs)=>fs | _=>#[]).toList).run Tryz.prog w=.ok (decide (d=d')) w:=by
  rw [Tryz.underlying175]
  have h:(d.On == d'.On && (d.aM == d'.aM && (d.fG == d'.fG && (d.Seen == d'.Seen && true))))=decide (d=d'):=by
    cases d;cases d';rw [Bool.eq_iff_iff];simp
  rw [←h]
  exact dM _ _ _ _ _ rfl (dT Tryz.isAgg4 rfl) (dT Tryz.isAgg4 rfl) (aAX Tryz.underlying4)<|
    dM _ _ _ _ _ rfl (dT Tryz.isAgg3 rfl) (dT Tryz.isAgg3 rfl) (iE Tryz.underlying3)<|
    dM _ _ _ _ _ rfl (dT Tryz.isAgg4 rfl) (dT Tryz.isAgg4 rfl) (aAX Tryz.underlying4)<|
    dM _ _ _ _ _ rfl (dT Tryz.isAgg3 rfl) (dT Tryz.isAgg3 rfl) (iE Tryz.underlying3)<|
    RY _ _ _
theorem T9(D:Nat)(d d':eM)(w:World):(Op.eqFields (D+2) #[.int .i64 (d.Kind),.int .i64 (d.Cell),.int .i64 (d.eR),.int .i64 (d.eS)] #[.int .i64 (d'.Kind),.int .i64 (d'.Cell),.int .i64 (d'.eR),.int .i64 (d'.eS)] (match Tryz.prog.underlying 70 with | some (.struct fs)=>fs | _=>#[]).toList).run Tryz.prog w=.ok (decide (d=d')) w:=by
  rw [Tryz.underlying70]
  have h:(d.Kind == d'.Kind && (d.Cell == d'.Cell && (d.eR == d'.eR && (d.eS == d'.eS && true))))=decide (d=d'):=by
    cases d;cases d';rw [Bool.eq_iff_iff];simp
  rw [←h]
  exact dM _ _ _ _ _ rfl (dT Tryz.isAgg3 rfl) (dT Tryz.isAgg3 rfl) (iE Tryz.underlying3)<|
    dM _ _ _ _ _ rfl (dT Tryz.isAgg3 rfl) (dT Tryz.isAgg3 rfl) (iE Tryz.underlying3)<|
    dM _ _ _ _ _ rfl (dT Tryz.isAgg3 rfl) (dT Tryz.isAgg3 rfl) (iE Tryz.underlying3)<|
    dM _ _ _ _ _ rfl (dT Tryz.isAgg3 rfl) (dT Tryz.isAgg3 rfl) (iE Tryz.underlying3)<|
    RY _ _ _
theorem aK0(D:Nat)(d d':Sub)(w:World):(Op.eqFields (D+2) #[.int .i64 (d.Kind),.int .i64 (d.A),.int .i64 (d.Pc),.int .i64 (d.E),.int .i64 (d.Row),.int .i64 (d.B),.int .i64 (d.H),.int .i64 (d.Out),.int .i64 (d.Code),.bool (d.cQ)] #[.int .i64 (d'.Kind),.int .i64 (d'.A),.int .i64 (d'.Pc),.int .i64 (d'.E),.int .i64 (d'.Row),.int .i64 (d'.B),.int .i64 (d'.H),.int .i64 (d'.Out),.int .i64 (d'.Code),.bool (d'.cQ)] (match Tryz.prog.underlying 72 with | some (.struct fs)=>fs | _=>#[]).toList).run Tryz.prog w=.ok (decide (d=d')) w:=by
  rw [Tryz.underlying72]
  have h:(d.Kind == d'.Kind && (d.A == d'.A && (d.Pc == d'.Pc && (d.E == d'.E && (d.Row == d'.Row && (d.B == d'.B && (d.H == d'.H && (d.Out == d'.Out && (d.Code == d'.Code && (d.cQ == d'.cQ && true))))))))))=decide (d=d'):=by
    cases d;cases d';rw [Bool.eq_iff_iff];simp
  rw [←h]
  exact dM _ _ _ _ _ rfl (dT Tryz.isAgg3 rfl) (dT Tryz.isAgg3 rfl) (iE Tryz.underlying3)<|
    dM _ _ _ _ _ rfl (dT Tryz.isAgg3 rfl) (dT Tryz.isAgg3 rfl) (iE Tryz.underlying3)<|
    dM _ _ _ _ _ rfl (dT Tryz.isAgg3 rfl) (dT Tryz.isAgg3 rfl) (iE Tryz.underlying3)<|
    dM _ _ _ _ _ rfl (dT Tryz.isAgg3 rfl) (dT Tryz.isAgg3 rfl) (iE Tryz.underlying3)<|
    dM _ _ _ _ _ rfl (dT Tryz.isAgg3 rfl) (dT Tryz.isAgg3 rfl) (iE Tryz.underlying3)<|
    dM _ _ _ _ _ rfl (dT Tryz.isAgg3 rfl) (dT Tryz.isAgg3 rfl) (iE Tryz.underlying3)<|
    dM _ _ _ _ _ rfl (dT Tryz.isAgg3 rfl) (dT Tryz.isAgg3 rfl) (iE Tryz.underlying3)<|
    dM _ _ _ _ _ rfl (dT Tryz.isAgg3 rfl) (dT Tryz.isAgg3 rfl) (iE Tryz.underlying3)<|
    dM _ _ _ _ _ rfl (dT Tryz.isAgg3 rfl) (dT Tryz.isAgg3 rfl) (iE Tryz.underlying3)<|
    dM _ _ _ _ _ rfl (dT Tryz.isAgg4 rfl) (dT Tryz.isAgg4 rfl) (aAX Tryz.underlying4)<|
    RY _ _ _
theorem UA(D:Nat)(d d':bX)(w:World):(Op.eqFields (D+3) #[.bool (d.gG),.int .i64 (d.Op.Kind),.int .i64 (d.Op.Cell),.int .i64 (d.Op.eR),.int .i64 (d.Op.eS),.int .i64 (d.aQ),.int .i64 (d.Pc),.int .i64 (d.Sub.Kind),.int .i64 (d.Sub.A),.int .i64 (d.Sub.Pc),.int .i64 (d.Sub.E),.int .i64 (d.Sub.Row),.int .i64 (d.Sub.B),.int .i64 (d.Sub.H),.int .i64 (d.Sub.Out),.int .i64 (d.Sub.Code),.bool (d.Sub.cQ),.int .i64 (d.H),.int .i64 (d.Old),.int .i64 (d.eS),.int .i64 (d.Code)] #[.bool (d'.gG),.int .i64 (d'.Op.Kind),.int .i64 (d'.Op.Cell),.int .i64 (d'.Op.eR),.int .i64 (d'.Op.eS),.int .i64 (d'.aQ),.int .i64 (d'.Pc),.int .i64 (d'.Sub.Kind),.int .i64 (d'.Sub.A),.int .i64 (d'.Sub.Pc),.int .i64 (d'.Sub.E),.int .i64 (d'.Sub.Row),.int .i64 (d'.Sub.B),.int .i64 (d'.Sub.H),.int .i64 (d'.Sub.Out),.int .i64 (d'.Sub.Code),.bool (d'.Sub.cQ),.int .i64 (d'.H),.int .i64 (d'.Old),.int .i64 (d'.eS),.int .i64 (d'.Code)] (match Tryz.prog.underlying 74 with | some (.struct fs)=>fs | _=>#[]).toList).run Tryz.prog w=.ok (decide (d=d')) w:=by
  rw [Tryz.underlying74]
  have h:(d.gG == d'.gG && (decide (d.Op=d'.Op) && (d.aQ == d'.aQ && (d.Pc == d'.Pc && (decide (d.Sub=d'.Sub) && (d.H == d'.H && (d.Old == d'.Old && (d.eS == d'.eS && (d.Code == d'.Code && true)))))))))=decide (d=d'):=by
    cases d;cases d';rw [Bool.eq_iff_iff];simp
  rw [←h]
  exact dM _ _ _ _ _ rfl (dT Tryz.isAgg4 rfl) (dT Tryz.isAgg4 rfl) (aAX Tryz.underlying4)<|
    dM _ _ _ _ _ rfl (aLI (vs:=#[.int .i64 (d.Op.Kind),.int .i64 (d.Op.Cell),.int .i64 (d.Op.eR),.int .i64 (d.Op.eS)]) Tryz.isAgg70 Tryz.sizeOf70 rfl) (aLI (vs:=#[.int .i64 (d'.Op.Kind),.int .i64 (d'.Op.Cell),.int .i64 (d'.Op.eR),.int .i64 (d'.Op.eS)]) Tryz.isAgg70 Tryz.sizeOf70 rfl) (aFZ Tryz.stoodInHeld70 Tryz.underlying70 (T9 D _ _ w))<|
    dM _ _ _ _ _ rfl (dT Tryz.isAgg3 rfl) (dT Tryz.isAgg3 rfl) (iE Tryz.underlying3)<|
    dM _ _ _ _ _ rfl (dT Tryz.isAgg3 rfl) (dT Tryz.isAgg3 rfl) (iE Tryz.underlying3)<|
    dM _ _ _ _ _ rfl (aLI (vs:=#[.int .i64 (d.Sub.Kind),.int .i64 (d.Sub.A),.int .i64 (d.Sub.Pc),.int .i64 (d.Sub.E),.int .i64 (d.Sub.Row),.int .i64 (d.Sub.B),.int .i64 (d.Sub.H),.int .i64 (d.Sub.Out),.int .i64 (d.Sub.Code),.bool (d.Sub.cQ)]) Tryz.isAgg72 Tryz.sizeOf72 rfl) (aLI (vs:=#[.int .i64 (d'.Sub.Kind),.int .i64 (d'.Sub.A),.int .i64 (d'.Sub.Pc),.int .i64 (d'.Sub.E),.int .i64 (d'.Sub.Row),.int .i64 (d'.Sub.B),.int .i64 (d'.Sub.H),.int .i64 (d'.Sub.Out),.int .i64 (d'.Sub.Code),.bool (d'.Sub.cQ)]) Tryz.isAgg72 Tryz.sizeOf72 rfl) (aFZ Tryz.stoodInHeld72 Tryz.underlying72 (aK0 D _ _ w))<|
    dM _ _ _ _ _ rfl (dT Tryz.isAgg3 rfl) (dT Tryz.isAgg3 rfl) (iE Tryz.underlying3)<|
    dM _ _ _ _ _ rfl (dT Tryz.isAgg3 rfl) (dT Tryz.isAgg3 rfl) (iE Tryz.underlying3)<|
    dM _ _ _ _ _ rfl (dT Tryz.isAgg3 rfl) (dT Tryz.isAgg3 rfl) (iE Tryz.underlying3)<|
    dM _ _ _ _ _ rfl (dT Tryz.isAgg3 rfl) (dT Tryz.isAgg3 rfl) (iE Tryz.underlying3)<|
    RY _ _ _
theorem aJM(D:Nat)(d d':b8)(w:World):(Op.eqFields (D+2) #[.int .i64 (d.Handle),.int .i64 (d.aM)] #[.int .i64 (d'.Handle),.int .i64 (d'.aM)] (match Tryz.prog.underlying 105 with | some (.struct fs)=>fs | _=>#[]).toList).run Tryz.prog w=.ok (decide (d=d')) w:=by
  rw [Tryz.underlying105]
  have h:(d.Handle == d'.Handle && (d.aM == d'.aM && true))=decide (d=d'):=by
    cases d;cases d';rw [Bool.eq_iff_iff];simp
  rw [←h]
  exact dM _ _ _ _ _ rfl (dT Tryz.isAgg3 rfl) (dT Tryz.isAgg3 rfl) (iE Tryz.underlying3)<|
    dM _ _ _ _ _ rfl (dT Tryz.isAgg3 rfl) (dT Tryz.isAgg3 rfl) (iE Tryz.underlying3)<|
    RY _ _ _
theorem aK1(D:Nat)(d d':Ev)(w:World):(Op.eqFields (D+2) #[.int .i64 (d.Kind),.int .i64 (d.Who),.int .i64 (d.aQ),.int .i64 (d.Cell),.int .i64 (d.Handle),.int .i64 (d.eS),.int .i64 (d.Code)] #[.int .i64 (d'.Kind),.int .i64 (d'.Who),.int .i64 (d'.aQ),.int .i64 (d'.Cell),.int .i64 (d'.Handle),.int .i64 (d'.eS),.int .i64 (d'.Code)] (match Tryz.prog.underlying 79 with | some (.struct fs)=>fs | _=>#[]).toList).run Tryz.prog w=.ok (decide (d=d')) w:=by
  rw [Tryz.underlying79]
  have h:(d.Kind == d'.Kind && (d.Who == d'.Who && (d.aQ == d'.aQ && (d.Cell == d'.Cell && (d.Handle == d'.Handle && (d.eS == d'.eS && (d.Code == d'.Code && true)))))))=decide (d=d'):=by
    cases d;cases d';rw [Bool.eq_iff_iff];simp
  rw [←h]
  exact dM _ _ _ _ _ rfl (dT Tryz.isAgg3 rfl) (dT Tryz.isAgg3 rfl) (iE Tryz.underlying3)<|
    dM _ _ _ _ _ rfl (dT Tryz.isAgg3 rfl) (dT Tryz.isAgg3 rfl) (iE Tryz.underlying3)<|
    dM _ _ _ _ _ rfl (dT Tryz.isAgg3 rfl) (dT Tryz.isAgg3 rfl) (iE Tryz.underlying3)<|
    dM _ _ _ _ _ rfl (dT Tryz.isAgg3 rfl) (dT Tryz.isAgg3 rfl) (iE Tryz.underlying3)<|
    dM _ _ _ _ _ rfl (dT Tryz.isAgg3 rfl) (dT Tryz.isAgg3 rfl) (iE Tryz.underlying3)<|
    dM _ _ _ _ _ rfl (dT Tryz.isAgg3 rfl) (dT Tryz.isAgg3 rfl) (iE Tryz.underlying3)<|
    dM _ _ _ _ _ rfl (dT Tryz.isAgg3 rfl) (dT Tryz.isAgg3 rfl) (iE Tryz.underlying3)<|
    RY _ _ _
set_option maxRecDepth 100000 in
theorem MS{w0:World}{n:Int}(hn:0≤n∧n≤1073741824) :
    Calls Tryz.prog 337 #[.slice none 0 0,.int .i64 n] w0 (Ret fun v w'=>∃s0_0:Value,v=s0_0∧St (c9 w0) w' [fM [s0_0] ([]:List Raw)] []):=by
  have hS:St (c9 w0) w0 [] []:=St.enter (by intro f hf;cases hf)
  have hw:bC (n - bC (0 - 0))=n:=by
    rw [H7 (x:=0 - 0) (by omega),H7 (by omega)];omega
  refine aN9 (args:=[_,_]) Tryz.func337 rfl Tryz.ntmps337 rfl ?_
  intro a hA
  refine bV ?_
  refine cJ hA ?_
  clear hA
  refine eU (C6 rfl rfl) (bZ rfl) rfl rfl ?_
  refine bM ?_
  intro a hA
  refine bV ?_
  refine bV ?_
  refine cJ hA ?_
  clear hA
  refine eU (mW rfl rfl) (bZ rfl) rfl rfl ?_
  refine eU (FP rfl rfl rfl) (bZ rfl) rfl rfl ?_
  refine bM ?_
  intro a hA
  refine kV hA rfl (fun hc=>?_) (fun hc=>?_)
  · exfalso;simp at hc;omega
  refine nO ?_
  refine bV ?_
  refine bV ?_
  refine cJ hA ?_
  clear hA
  refine eU (mW rfl rfl) (bZ rfl) rfl rfl ?_
  refine eU (mW rfl rfl) (bZ rfl) rfl rfl ?_
  refine eU (aF4 Tryz.underlying43 rfl rfl) (bZ rfl) rfl rfl ?_
  refine eU (mW rfl rfl) (bZ rfl) rfl rfl ?_
  refine eU (nP (aOD (α:=Raw) (S:=F0)) Tryz.underlying43 rfl rfl) (bZ rfl) rfl rfl ?_
  refine eU (aJ9 rfl rfl rfl) (bZ rfl) rfl rfl ?_
  refine eU (aJ9 rfl rfl rfl) (bZ rfl) rfl rfl ?_
  refine eU (C6 rfl rfl) (bZ rfl) rfl rfl ?_
  refine bM ?_
  intro a hA
  refine bV ?_
  refine cJ hA ?_
  clear hA
  refine eU (mW rfl rfl) (bZ rfl) rfl rfl ?_
  refine eU (aKC rfl rfl rfl) (bZ rfl) rfl rfl ?_
  refine bM ?_
  intro a hA
  refine kV hA rfl (fun hc=>?_) (fun hc=>?_)
  · have hn1:0 < n:=by
      have h2:decide (0 < bC (n - bC (0 - 0)))=true:=hc
      rw [hw] at h2;simpa using h2
    refine cJ hA ?_
    clear hA
    refine eU (mW rfl rfl) (bZ rfl) rfl rfl ?_
    refine eU (mW rfl rfl) (bZ rfl) rfl rfl ?_
    refine eU (aF4 Tryz.underlying43 rfl rfl) (bZ rfl) rfl rfl ?_
    refine eU (aLP (s:=.slice none 0 0) ⟨_,_,_,rfl⟩ Tryz.underlying43 Tryz.sizeOf162 rfl rfl rfl) (bZ rfl) rfl rfl ?_
    refine eU (mW rfl rfl) (bZ rfl) rfl rfl ?_
    refine KY (aSE (i:=bC (n - bC (0 - 0))) hS Tryz.underlying43 Tryz.underlying3 dQ rfl rfl (by rw [hw];omega) rfl rfl rfl) (bZ rfl) rfl rfl ?_
    clear hS
    intro s w hS
    refine eU (mW rfl rfl) (bZ rfl) rfl rfl ?_
    refine eU (nP (aOD (α:=Raw) (S:=F0)) Tryz.underlying43 rfl rfl) (bZ rfl) rfl rfl ?_
    refine eU (aLP (hS.aOX 0 rfl) Tryz.underlying43 Tryz.sizeOf162 rfl rfl rfl) (bZ rfl) rfl rfl ?_
    refine eU (C6 rfl rfl) (bZ rfl) rfl rfl ?_
    refine bM ?_
    intro a hA
    replace hS:=hS.aU3 (α:=Raw) 0 rfl rfl
    refine bV ?_
    refine cJ hA ?_
    clear hA
    refine eU (mW rfl rfl) (bZ rfl) rfl rfl ?_
    refine eU (C6 rfl rfl) (bZ rfl) rfl rfl ?_
    refine bM ?_
    intro a hA
    refine yZ ?_
    exact aR2 Tryz.results337 hA (aAW rfl) ⟨_,rfl,(hS.M8 [0] rfl).weaken (R':=[]) (fun _ h=>nomatch h)⟩
  · refine nO ?_
    replace hS:=hS.aUX (α:=Raw)
    refine bV ?_
    refine cJ hA ?_
    clear hA
    refine eU (mW rfl rfl) (bZ rfl) rfl rfl ?_
    refine eU (C6 rfl rfl) (bZ rfl) rfl rfl ?_
    refine bM ?_
    intro a hA
    refine yZ ?_
    exact aR2 Tryz.results337 hA (aAW rfl) ⟨_,rfl,(hS.M8 [0] rfl).weaken (R':=[]) (fun _ h=>nomatch h)⟩
theorem PM{w0:World}{slices:List (List Raw)}{s1:Value}{r:(List Raw)}(h1:aL.rd (PI w0) w0 [s1] (slices:List (List Raw)))(hF:nR slices=some r) :
    Calls Tryz.prog 221 #[s1] w0 (Ret fun v w'=>∃(s0_0:Value),v=s0_0∧St (c9 w0) w' [fM [s0_0] (r:List Raw)] []):=by
 have hS:St (c9 w0) w0 [] [z5 [s1] (slices:List (List Raw))]:=St.enter (by
   intro f hf
   simp only [List.mem_cons,List.not_mem_nil,or_false] at hf
   subst hf;exact h1)
 refine zK (args:=[_]) Tryz.func221 rfl Tryz.ntmps221 rfl ?_
 unfold nR at hF
 intro a hA
 refine bV<|cJ hA ?_
 clear hA
 refine oa rfl rfl<|bM fun a hA=>bV<|cJ hA ?_
 clear hA
 refine oa rfl rfl<|bM fun a hA=>bV<|bV<|cJ hA ?_
 clear hA
 refine om rfl rfl<|oy (nP (hS.rd 0 rfl) Tryz.underlying313 rfl rfl) rfl<|om rfl rfl<|bM fun a hA=>?_
 obtain⟨o1,hl1,hF⟩:=sH hF
 refine C7 (J:=fun a' w'=>∃(x5:Int),o1=x5∧kP 36 [(0,s1),(3,.int .i64 (x5))] a'∧St (c9 w0) w' [] [z5 [s1] (slices:List (List Raw))]) ?_ ?_
 ·refine kQ ?_
  refine JO (body:=fF slices) (r:=o1) (fun sg a' w'=>kP 36 [(0,s1),(3,.int .i64 (sg.1)),(9,s1),(10,.int .i64 ((slices.length:Int))),(11,.int .i64 (sg.2))] a'∧St (c9 w0) w' [] [z5 [s1] (slices:List (List Raw))]) ?_ hl1 ⟨hA.part ⟨rfl,rfl,rfl,rfl,rfl,trivial⟩,((hS).M8 [] rfl).uR [0] rfl⟩
  clear hA hS hl1
  rintro⟨x3,x4⟩ a w q1 ⟨hA,hS⟩ hG1 hr1
  try dsimp only at hA hS
  unfold fF at hG1
  refine bV<|cJ hA ?_
  clear hA
  refine oy (FP rfl rfl rfl) rfl<|bM fun a hA=>bV<|kV hA rfl (fun hc2=>?_) (fun hc2=>?_)
  ·replace hG1:=MD hc2 hG1
   refine nO<|bV<|kQ<|bV<|cJ hA ?_
   clear hA
   obtain⟨x12,hx12,hG1⟩:=sH hG1
   refine oy (PX (m:=1) (hS.rd 0 rfl) rfl hx12 Tryz.underlying313 Tryz.sizeOf43 rfl rfl rfl) rfl ?_
   obtain⟨s8,hel,hS⟩:=hS.aIQ 0 rfl (jK hx12).2.2
   refine oy (iG rfl rfl Tryz.isAgg43 (aOC hel)) rfl<|oa rfl rfl<|bM fun a hA=>bV<|cJ hA ?_
   clear hA
   refine om rfl rfl<|om rfl rfl<|oy (nP (hS.rd 1 rfl) Tryz.underlying43 rfl rfl) rfl<|oy (KZ rfl rfl rfl) rfl<|oa rfl rfl<|bM fun a hA=>bV<|cJ hA ?_
   clear hA
   refine om rfl rfl<|oy (FP rfl rfl rfl) rfl<|bM fun a hA=>kV hA rfl (fun hc3=>?_) (fun hc3=>?_)
   ·replace hG1:=MD hc3 hG1
    refine cJ hA ?_
    clear hA
    cases hG1
   ·replace hG1:=ME hc3 hG1
    refine nO<|cJ hA ?_
    clear hA
    refine oy (KZ rfl rfl rfl) rfl<|om rfl rfl<|bM fun a hA=>?_
    cases hG1
    exact⟨_,rfl,⟨hA.part ⟨rfl,rfl,rfl,rfl,rfl,trivial⟩,((hS).M8 [] rfl).uR [0] rfl⟩⟩
  ·replace hG1:=ME hc2 hG1
   refine JN<|C5 ?_
   cases hG1
   have ho:=hr1 _ rfl;subst ho
   exact⟨x3,rfl,hA.part ⟨rfl,rfl,trivial⟩,((hS).M8 [] rfl).uR [0] rfl⟩
 ·skip
  clear hA hS hl1
  rintro a w ⟨x5,heq,hA,hS⟩
  replace hF:kZ slices x5=some r:=by rw [heq] at hF;exact hF
  clear heq
  unfold kZ at hF
  refine bV<|cJ hA ?_
  clear hA
  refine om rfl rfl ?_
  obtain⟨hn1,hF⟩:=jL hF
  refine YJ (JT Tryz.call337 rfl rfl) (bZ rfl) rfl rfl (MS hn1) ?_
  rintro s2 w ⟨_,rfl,hk⟩
  replace hS:=hS.after hk;clear hk
  refine oa rfl rfl<|bM fun a hA=>bV<|bV<|cJ hA ?_
  clear hA
  refine om rfl rfl<|oy (nP (hS.rd 0 rfl) Tryz.underlying313 rfl rfl) rfl<|om rfl rfl<|bM fun a hA=>?_
  obtain⟨o2,hl2,hF⟩:=sH hF
  refine C7 (J:=fun a' w'=>∃(x10:List Raw) (s5:Value),o2=x10∧kP 36 [(6,s5)] a'∧St (c9 w0) w' [fM [s5] (x10:List Raw)] []) ?_ ?_
  ·refine kQ ?_
   refine JO (body:=gE slices) (r:=o2) (fun sg a' w'=>∃(s4:Value),kP 36 [(6,s4),(25,s1),(26,.int .i64 ((slices.length:Int))),(27,.int .i64 (sg.2))] a'∧St (c9 w0) w' [fM [s4] (sg.1:List Raw)] [z5 [s1] (slices:List (List Raw))]) ?_ hl2 ⟨s2,hA.part ⟨rfl,rfl,rfl,rfl,trivial⟩,((hS).M8 [0] rfl).uR [0] rfl⟩
   clear hA hS hl2
   rintro⟨x8,x9⟩ a w q2 ⟨s4,hA,hS⟩ hG2 hr2
   try dsimp only at hA hS
   unfold gE at hG2
   refine bV<|cJ hA ?_
   clear hA
   refine oy (FP rfl rfl rfl) rfl<|bM fun a hA=>bV<|kV hA rfl (fun hc1=>?_) (fun hc1=>?_)
   ·replace hG2:=MD hc1 hG2
    refine nO<|bV<|kQ<|bV<|cJ hA ?_
    clear hA
    obtain⟨x11,hx11,hG2⟩:=sH hG2
    refine oy (PX (m:=1) (hS.rd 0 rfl) rfl hx11 Tryz.underlying313 Tryz.sizeOf43 rfl rfl rfl) rfl ?_
    obtain⟨s6,hel,hS⟩:=hS.aIQ 0 rfl (jK hx11).2.2
    refine oy (iG rfl rfl Tryz.isAgg43 (aOC hel)) rfl<|oa rfl rfl<|bM fun a hA=>cJ hA ?_
    clear hA
    refine om rfl rfl<|om rfl rfl ?_
    obtain⟨hn2,hG2⟩:=jL hG2
    refine KY (aF0 (α:=Raw) 0 hS rfl (hS.rd 1 rfl) rfl Tryz.underlying43 dQ rfl hn2 rfl rfl rfl) (bZ rfl) rfl rfl ?_
    clear hS
    rintro s7 w hS
    refine oa rfl rfl<|bM fun a hA=>cJ hA ?_
    clear hA
    refine oy (KZ rfl rfl rfl) rfl<|om rfl rfl<|bM fun a hA=>?_
    cases hG2
    exact⟨_,rfl,⟨s7,hA.part ⟨rfl,rfl,rfl,rfl,trivial⟩,((hS).M8 [0] rfl).uR [0] rfl⟩⟩
   ·replace hG2:=ME hc1 hG2
    refine JN<|C5 ?_
    cases hG2
    have ho:=hr2 _ rfl;subst ho
    exact⟨x8,s4,rfl,hA.part ⟨rfl,trivial⟩,((hS).M8 [0] rfl).uR [] rfl⟩
  ·skip
   clear hA hS hl2
   rintro a w ⟨x10,s5,heq,hA,hS⟩
   replace hF:qA x10=some r:=by rw [heq] at hF;exact hF
   clear heq
   unfold qA at hF
   refine bV<|cJ hA ?_
   clear hA
   refine om rfl rfl<|oa rfl rfl<|bM fun a hA=>yZ ?_
   cases hF
   exact aR2 Tryz.results221 hA (aAW rfl) ⟨s5,rfl,(hS.M8 [0] rfl).weaken (R':=[]) (fun _ h=>nomatch h)⟩
theorem LJ{w0:World}{n:Int}{low:Int}{high:Int}{r:Bool}(hF:cK n low high=some r) :
    Calls Tryz.prog 107 #[.int .i64 (n),.int .i64 (low),.int .i64 (high)] w0 (Ret fun v w'=>v=.bool (r)∧St (c9 w0) w' [] []):=by
 have hS:St (c9 w0) w0 [] []:=St.enter (by
   intro f hf;cases hf)
 refine zK (args:=[_,_,_]) Tryz.func107 rfl Tryz.ntmps107 rfl ?_
 unfold cK at hF
 intro a hA
 refine bV<|cJ hA ?_
 clear hA
 refine oa rfl rfl<|bM fun a hA=>bV<|C7 (J:=fun a' w'=>∃(x1:Bool),oV x1=some r∧kP 15 [(6,.bool (x1))] a'∧St (c9 w0) w' [] []) ?_ ?_
 ·skip
  refine cJ hA ?_
  clear hA
  refine om rfl rfl<|om rfl rfl<|oy (aN5 rfl rfl rfl) rfl<|om rfl rfl<|H3 (s:=10) rfl (fun hc1=>?_) (fun hc1=>?_)
  ·replace hF:=MD hc1 hF
   refine eU (mW rfl rfl) (cE rfl rfl rfl (by rw [hc1];rfl)) rfl rfl ?_
   refine eU (mW rfl rfl) (cE rfl rfl rfl (by rw [hc1];rfl)) rfl rfl ?_
   refine eU (aKB rfl rfl rfl) (cE rfl rfl rfl (by rw [hc1];rfl)) rfl rfl ?_
   refine oy (uQ rfl rfl hc1 rfl) rfl<|oa rfl rfl<|bM fun a hA=>?_
   exact⟨decide (n≤high),hF,hA.part ⟨rfl,trivial⟩,((hS).M8 [] rfl).uR [] rfl⟩
  ·replace hF:=ME hc1 hF
   refine e9 (cE rfl rfl rfl (by rw [hc1];rfl)) rfl rfl ?_
   refine e9 (cE rfl rfl rfl (by rw [hc1];rfl)) rfl rfl ?_
   refine e9 (cE rfl rfl rfl (by rw [hc1];rfl)) rfl rfl ?_
   refine oy (zJ rfl rfl hc1 rfl) rfl<|oa rfl rfl<|bM fun a hA=>?_
   exact⟨false,hF,hA.part ⟨rfl,trivial⟩,((hS).M8 [] rfl).uR [] rfl⟩
 ·skip
  clear hA hS hF
  rintro a w ⟨x1,hF,hA,hS⟩
  unfold oV at hF
  refine yZ ?_
  cases hF
  exact fy Tryz.results107 hA rfl hS
theorem aE1{w0:World}{slot:Int}{r:Bool}(hF:lH slot=some r) :
    Calls Tryz.prog 222 #[.int .i64 (slot)] w0 (Ret fun v w'=>v=.bool (r)∧St (c9 w0) w' [] []):=by
 have hS:St (c9 w0) w0 [] []:=St.enter (by
   intro f hf;cases hf)
 refine zK (args:=[_]) Tryz.func222 rfl Tryz.ntmps222 rfl ?_
 unfold lH at hF
 intro a hA
 refine bV<|cJ hA ?_
 clear hA
 refine oa rfl rfl<|bM fun a hA=>bV<|cJ hA ?_
 clear hA
 refine om rfl rfl ?_
 obtain⟨x1,hx1,hF⟩:=sH hF
 refine YJ (JT Tryz.call107 rfl rfl) (bZ rfl) rfl rfl (LJ (n:=slot) (low:=0) (high:=23) hx1) ?_
 rintro _ w ⟨rfl,hk⟩
 replace hS:=hS.after hk;clear hk
 refine oa rfl rfl<|bM fun a hA=>yZ ?_
 cases hF
 exact fy Tryz.results222 hA rfl hS
theorem aC0{w0:World}{l:aB}{s1:Value}{s2:Value}{r:Bool}(h1:aL.rd (PI w0) w0 [s1] (l.Global:List aH))(h2:aL.rd (PI w0) w0 [s2] (l.bQ:List aH))(hF:jF l=some r) :
    Calls Tryz.prog 123 #[.agg #[s1,s2]] w0 (Ret fun v w'=>v=.bool (r)∧St (c9 w0) w' [] []):=by
 have hS:St (c9 w0) w0 [] [z5 [s1] (l.Global:List aH),z5 [s2] (l.bQ:List aH)]:=St.enter (by
   intro f hf
   simp only [List.mem_cons,List.not_mem_nil,or_false] at hf
   rcases hf with rfl | rfl
   · exact h1
   · exact h2)
 refine zK (args:=[_]) Tryz.func123 rfl Tryz.ntmps123 rfl ?_
 unfold jF at hF
 intro a hA
 refine bV<|cJ hA ?_
 clear hA
 refine KY (aUT (cs:=[s1,s2]) hS rfl rfl rfl) (bZ rfl) rfl rfl ?_
 clear hS
 rintro _ w ⟨b1,rfl,hS⟩
 refine oa rfl rfl<|bM fun a hA=>bV<|bV<|C7 (J:=fun a' w'=>∃(x1:Bool),rC l x1=some r∧kP 61 [(1,.pointer (some ⟨b1,0,none⟩)),(17,.bool (x1))] a'∧St (c9 w0) w' [C1 b1 [s1,s2]] [z5 [s1] (l.Global:List aH),z5 [s2] (l.bQ:List aH)]) ?_ ?_
 ·skip
  refine cJ hA ?_
  clear hA
  refine oy (y4 (m:=0) Tryz.underlying45 rfl rfl Tryz.sizeOf43 rfl rfl) rfl<|oy (iG rfl rfl Tryz.isAgg43 (hS.cell 0 rfl rfl)) rfl<|oy (nP (hS.rd 0 rfl) Tryz.underlying43 rfl rfl) rfl<|oy (aGY rfl rfl rfl) rfl<|om rfl rfl<|H3 (s:=12) rfl (fun hc8=>?_) (fun hc8=>?_)
  ·replace hF:=MD hc8 hF
   refine e9 (cE rfl rfl rfl (by rw [hc8];rfl)) rfl rfl ?_
   refine e9 (cE rfl rfl rfl (by rw [hc8];rfl)) rfl rfl ?_
   refine e9 (cE rfl rfl rfl (by rw [hc8];rfl)) rfl rfl ?_
   refine e9 (cE rfl rfl rfl (by rw [hc8];rfl)) rfl rfl ?_
   refine oy (uQ rfl rfl hc8 rfl) rfl<|bM fun a hA=>?_
   exact⟨true,hF,hA.part ⟨rfl,rfl,trivial⟩,((hS).M8 [0] rfl).uR [0,1] rfl⟩
  ·replace hF:=ME hc8 hF
   refine eU (y4 (m:=0) Tryz.underlying45 rfl rfl Tryz.sizeOf43 rfl rfl) (cE rfl rfl rfl (by rw [hc8];rfl)) rfl rfl ?_
   refine eU (iG rfl rfl Tryz.isAgg43 (hS.cell 0 rfl rfl)) (cE rfl rfl rfl (by rw [hc8];rfl)) rfl rfl ?_
   refine eU (nP (hS.rd 1 rfl) Tryz.underlying43 rfl rfl) (cE rfl rfl rfl (by rw [hc8];rfl)) rfl rfl ?_
   refine eU (aGY rfl rfl rfl) (cE rfl rfl rfl (by rw [hc8];rfl)) rfl rfl ?_
   refine oy (zJ rfl rfl hc8 rfl) rfl<|bM fun a hA=>?_
   exact⟨(l.bQ.length:Int) != 9,hF,hA.part ⟨rfl,rfl,trivial⟩,((hS).M8 [0] rfl).uR [0,1] rfl⟩
 ·skip
  clear hA hS hF
  rintro a w ⟨x1,hF,hA,hS⟩
  unfold rC at hF
  refine kV hA rfl (fun hc1=>?_) (fun hc1=>?_)
  ·replace hF:=MD hc1 hF
   refine bV<|cJ hA ?_
   clear hA
   refine oa rfl rfl<|bM fun a hA=>yZ ?_
   cases hF
   exact fy Tryz.results123 hA rfl hS
  ·replace hF:=ME hc1 hF
   refine nO<|bV<|cJ hA ?_
   clear hA
   refine oy (W3 (cells:=#[.bool (false),.bool (false),.bool (false),.bool (false),.bool (false),.bool (false),.bool (false),.bool (false),.bool (false),.bool (false),.bool (false),.bool (false),.bool (false),.bool (false),.bool (false),.bool (false),.bool (false),.bool (false),.bool (false),.bool (false),.bool (false),.bool (false),.bool (false),.bool (false)]) rfl Tryz.zeroValue238 Tryz.underlying238 Tryz.sizeOf4 rfl rfl) rfl<|KY (MC (cs:=List.map (fun q:Bool=>Value.bool q) [false,false,false,false,false,false,false,false,false,false,false,false,false,false,false,false,false,false,false,false,false,false,false,false]) hS rfl Tryz.zeroValue238 rfl) (bZ rfl) rfl rfl ?_
   clear hS
   rintro _ w ⟨b2,rfl,hS⟩
   refine PU (TZ (vs:=[.bool (false),.bool (false),.bool (false),.bool (false),.bool (false),.bool (false),.bool (false),.bool (false),.bool (false),.bool (false),.bool (false),.bool (false),.bool (false),.bool (false),.bool (false),.bool (false),.bool (false),.bool (false),.bool (false),.bool (false),.bool (false),.bool (false),.bool (false),.bool (false)]) hS (i:=1) rfl rfl rfl rfl rfl Tryz.sizeOf238 rfl rfl rfl) (bZ rfl) rfl ?_
   clear hS
   intro w hS
   refine bM fun a hA=>bV<|bV<|cJ hA ?_
   clear hA
   refine oy (y4 (m:=0) Tryz.underlying45 rfl rfl Tryz.sizeOf43 rfl rfl) rfl<|oy (iG rfl rfl Tryz.isAgg43 (hS.cell 0 rfl rfl)) rfl<|oy (y4 (m:=0) Tryz.underlying45 rfl rfl Tryz.sizeOf43 rfl rfl) rfl<|oy (iG rfl rfl Tryz.isAgg43 (hS.cell 0 rfl rfl)) rfl<|KY (aKI hS (hS.rd 1 rfl) (hS.rd 0 rfl) Tryz.underlying313 aKZ rfl rfl rfl) (bZ rfl) rfl rfl ?_
   clear hS
   rintro s3 w hS
   obtain⟨hn1,hF⟩:=jL hF
   replace hS:=hS.aWP 2 rfl
   obtain⟨u1,u2,hu1,hl1,hS⟩:=hS.aSF rfl 2 1 0 rfl rfl rfl
   refine YJ (JT Tryz.call221 rfl rfl) (bZ rfl) rfl rfl (PM hu1 (MM hl1 hn1)) ?_
   rintro s4 w ⟨_,rfl,hk⟩
   replace hS:=hS.after hk;clear hk
   replace hS:=hS.aWP 3 rfl
   replace hS:=hS.aWV rfl 4 3 rfl rfl
   refine oy (nP (hS.rd 5 rfl) Tryz.underlying43 rfl rfl) rfl<|om rfl rfl<|bM fun a hA=>?_
   obtain⟨o1,hl2,hF⟩:=sH hF
   refine C7 (J:=fun a' w'=>o1=Out.brk ()∧kP 61 [] a'∧St (c9 w0) w' [] []) ?_ ?_
   ·refine kQ ?_
    refine JO (body:=kI l) (r:=o1) (fun sg a' w'=>kP 61 [(1,.pointer (some ⟨b1,0,none⟩)),(3,.pointer (some ⟨b2,0,none⟩)),(24,s4),(25,.int .i64 (((l.bQ++l.Global).length:Int))),(26,.int .i64 (sg.1))] a'∧St (c9 w0) w' [C1 b1 [s1,s2],C1 b2 (List.map (fun q:Bool=>Value.bool q) (sg.2:List Bool))] [z5 [s4] (l.bQ++l.Global:List aH),z5 [s1] (l.Global:List aH),z5 [s2] (l.bQ:List aH)]) ?_ hl2 ⟨hA.part ⟨rfl,rfl,rfl,rfl,rfl,trivial⟩,((hS).M8 [0,1] rfl).uR [5,0,1] rfl⟩
    clear hA hS hl2
    rintro⟨x4,x5⟩ a w q2 ⟨hA,hS⟩ hG2 hr2
    try dsimp only at hA hS
    unfold kI at hG2
    refine bV<|cJ hA ?_
    clear hA
    refine oy (FP rfl rfl rfl) rfl<|bM fun a hA=>bV<|kV hA rfl (fun hc2=>?_) (fun hc2=>?_)
    ·replace hG2:=MD hc2 hG2
     refine nO<|bV<|kQ<|bV<|cJ hA ?_
     clear hA
     refine om rfl rfl ?_
     obtain⟨x6,hx6,hG2⟩:=sH hG2
     refine oy (PX (m:=1) (hS.rd 0 rfl) rfl hx6 Tryz.underlying43 Tryz.sizeOf162 rfl rfl rfl) rfl ?_
     obtain⟨s5,hel,hS⟩:=hS.aQV 0 rfl (jK hx6).2.2
     refine oy (PW rfl rfl Tryz.isAgg162 Tryz.sizeOf162 rfl hel) rfl<|KY (MC (cs:=[(.slice none 0 0)]) hS rfl Tryz.zeroValue162 rfl) (bZ rfl) rfl rfl ?_
     clear hS
     rintro _ w ⟨b3,rfl,hS⟩
     refine oa rfl rfl<|PU (TZ (vs:=[s5]) hS (i:=2) rfl rfl rfl rfl rfl Tryz.sizeOf162 rfl rfl (aUY (aBQ (hS.rd 3 rfl)) rfl)) (bZ rfl) rfl ?_
     clear hS
     intro w hS
     refine bM fun a hA=>bV<|bV<|C7 (J:=fun a' w'=>∃(x7:Bool),kH x4 x5 x6 x7=some q2∧kP 61 [(1,.pointer (some ⟨b1,0,none⟩)),(3,.pointer (some ⟨b2,0,none⟩)),(5,.pointer (some ⟨b3,0,none⟩)),(24,s4),(25,.int .i64 (((l.bQ++l.Global).length:Int))),(26,.int .i64 (x4)),(41,.bool (x7))] a'∧St (c9 w0) w' [C1 b1 [s1,s2],C1 b2 (List.map (fun q:Bool=>Value.bool q) (x5:List Bool)),C1 b3 [s5]] [z5 [s4] (l.bQ++l.Global:List aH),z5 [s1] (l.Global:List aH),z5 [s2] (l.bQ:List aH),z5 [s5] (x6.aN:List Int)]) ?_ ?_
     ·skip
      refine cJ hA ?_
      clear hA
      refine om rfl rfl<|oy (y4 (m:=0) Tryz.underlying45 rfl rfl Tryz.sizeOf43 rfl rfl) rfl<|oy (iG rfl rfl Tryz.isAgg43 (hS.cell 0 rfl rfl)) rfl<|oy (nP (hS.rd 2 rfl) Tryz.underlying43 rfl rfl) rfl<|oy (FP rfl rfl rfl) rfl<|om rfl rfl<|H3 (s:=36) rfl (fun hc7=>?_) (fun hc7=>?_)
      ·replace hG2:=MD hc7 hG2
       refine eU (y4 (m:=0) Tryz.underlying162 rfl rfl Tryz.sizeOf22 rfl rfl) (cE rfl rfl rfl (by rw [hc7];rfl)) rfl rfl ?_
       refine eU (iG rfl rfl Tryz.isAgg22 (hS.cell 2 rfl rfl)) (cE rfl rfl rfl (by rw [hc7];rfl)) rfl rfl ?_
       refine eU (nP (hS.rd 3 rfl) Tryz.underlying22 rfl rfl) (cE rfl rfl rfl (by rw [hc7];rfl)) rfl rfl ?_
       refine eU (aKC rfl rfl rfl) (cE rfl rfl rfl (by rw [hc7];rfl)) rfl rfl ?_
       refine oy (uQ rfl rfl hc7 rfl) rfl<|bM fun a hA=>?_
       exact⟨decide (2 < (x6.aN.length:Int)),hG2,hA.part ⟨rfl,rfl,rfl,rfl,rfl,rfl,rfl,trivial⟩,((hS).M8 [0,1,2] rfl).uR [0,1,2,3] rfl⟩
      ·replace hG2:=ME hc7 hG2
       refine e9 (cE rfl rfl rfl (by rw [hc7];rfl)) rfl rfl ?_
       refine e9 (cE rfl rfl rfl (by rw [hc7];rfl)) rfl rfl ?_
       refine e9 (cE rfl rfl rfl (by rw [hc7];rfl)) rfl rfl ?_
       refine e9 (cE rfl rfl rfl (by rw [hc7];rfl)) rfl rfl ?_
       refine oy (zJ rfl rfl hc7 rfl) rfl<|bM fun a hA=>?_
       exact⟨false,hG2,hA.part ⟨rfl,rfl,rfl,rfl,rfl,rfl,rfl,trivial⟩,((hS).M8 [0,1,2] rfl).uR [0,1,2,3] rfl⟩
     ·skip
      clear hA hS hG2
      rintro a w ⟨x7,hG2,hA,hS⟩
      unfold kH at hG2
      refine kV hA rfl (fun hc3=>?_) (fun hc3=>?_)
      ·replace hG2:=MD hc3 hG2
       refine bV<|cJ hA ?_
       clear hA
       refine oa rfl rfl<|bM fun a hA=>yZ ?_
       cases hG2
       have ho:=hr2 _ rfl;subst ho
       replace hF:some false=some r:=hF
       cases hF
       exact fy Tryz.results123 hA rfl hS
      ·replace hG2:=ME hc3 hG2
       refine nO<|bV<|cJ hA ?_
       clear hA
       refine oy (y4 (m:=0) Tryz.underlying162 rfl rfl Tryz.sizeOf22 rfl rfl) rfl<|oy (iG rfl rfl Tryz.isAgg22 (hS.cell 2 rfl rfl)) rfl<|oy (nP (hS.rd 3 rfl) Tryz.underlying22 rfl rfl) rfl<|om rfl rfl<|bM fun a hA=>?_
       obtain⟨o2,hl3,hG2⟩:=sH hG2
       refine C7 (J:=fun a' w'=>∃(x12:List Bool),o2=Out.brk x12∧kP 61 [(1,.pointer (some ⟨b1,0,none⟩)),(3,.pointer (some ⟨b2,0,none⟩)),(24,s4),(25,.int .i64 (((l.bQ++l.Global).length:Int))),(26,.int .i64 (x4))] a'∧St (c9 w0) w' [C1 b1 [s1,s2],C1 b2 (List.map (fun q:Bool=>Value.bool q) (x12:List Bool))] [z5 [s4] (l.bQ++l.Global:List aH),z5 [s1] (l.Global:List aH),z5 [s2] (l.bQ:List aH)]) ?_ ?_
       ·refine kQ ?_
        refine JO (body:=kG x6) (r:=o2) (fun sg a' w'=>kP 61 [(1,.pointer (some ⟨b1,0,none⟩)),(3,.pointer (some ⟨b2,0,none⟩)),(24,s4),(25,.int .i64 (((l.bQ++l.Global).length:Int))),(26,.int .i64 (x4)),(43,s5),(44,.int .i64 ((x6.aN.length:Int))),(45,.int .i64 (sg.1))] a'∧St (c9 w0) w' [C1 b1 [s1,s2],C1 b2 (List.map (fun q:Bool=>Value.bool q) (sg.2:List Bool))] [z5 [s4] (l.bQ++l.Global:List aH),z5 [s5] (x6.aN:List Int),z5 [s1] (l.Global:List aH),z5 [s2] (l.bQ:List aH)]) ?_ hl3 ⟨hA.part ⟨rfl,rfl,rfl,rfl,rfl,rfl,rfl,rfl,trivial⟩,((hS).M8 [0,1] rfl).uR [0,3,1,2] rfl⟩
        clear hA hS hl3
        rintro⟨x10,x11⟩ a w q4 ⟨hA,hS⟩ hG4 hr4
        try dsimp only at hA hS
        unfold kG at hG4
        refine bV<|cJ hA ?_
        clear hA
        refine oy (FP rfl rfl rfl) rfl<|bM fun a hA=>bV<|kV hA rfl (fun hc4=>?_) (fun hc4=>?_)
        ·replace hG4:=MD hc4 hG4
         refine nO<|bV<|kQ<|bV<|cJ hA ?_
         clear hA
         obtain⟨x13,hx13,hG4⟩:=sH hG4
         refine oy (PX (m:=1) (hS.rd 1 rfl) rfl hx13 Tryz.underlying22 Tryz.sizeOf3 rfl rfl rfl) rfl<|oy (iG rfl rfl Tryz.isAgg3 (aOC (aUV (hS.rd 1 rfl) (jK hx13).2.2))) rfl<|oa rfl rfl<|bM fun a hA=>bV<|bV<|C7 (J:=fun a' w'=>∃(x14:Bool),mT x10 x11 x13 x14=some q4∧kP 61 [(1,.pointer (some ⟨b1,0,none⟩)),(3,.pointer (some ⟨b2,0,none⟩)),(7,.int .i64 (x13)),(24,s4),(25,.int .i64 (((l.bQ++l.Global).length:Int))),(26,.int .i64 (x4)),(43,s5),(44,.int .i64 ((x6.aN.length:Int))),(45,.int .i64 (x10)),(56,.bool (x14))] a'∧St (c9 w0) w' [C1 b1 [s1,s2],C1 b2 (List.map (fun q:Bool=>Value.bool q) (x11:List Bool))] [z5 [s4] (l.bQ++l.Global:List aH),z5 [s5] (x6.aN:List Int),z5 [s1] (l.Global:List aH),z5 [s2] (l.bQ:List aH)]) ?_ ?_
         ·skip
          refine cJ hA ?_
          clear hA
          refine om rfl rfl ?_
          obtain⟨x16,hx16,hG4⟩:=sH hG4
          refine YJ (JT Tryz.call222 rfl rfl) (bZ rfl) rfl rfl (aE1 (slot:=x13) hx16) ?_
          rintro _ w ⟨rfl,hk⟩
          replace hS:=hS.after hk;clear hk
          refine oy (aBJ rfl rfl) rfl<|om rfl rfl<|H3 (s:=52) rfl (fun hc6=>?_) (fun hc6=>?_)
          ·replace hG4:=MD hc6 hG4
           refine e9 (cE rfl rfl rfl (by rw [hc6];rfl)) rfl rfl ?_
           refine e9 (cE rfl rfl rfl (by rw [hc6];rfl)) rfl rfl ?_
           refine e9 (cE rfl rfl rfl (by rw [hc6];rfl)) rfl rfl ?_
           refine oy (uQ rfl rfl hc6 rfl) rfl<|bM fun a hA=>?_
           exact⟨true,hG4,hA.part ⟨rfl,rfl,rfl,rfl,rfl,rfl,rfl,rfl,rfl,rfl,trivial⟩,((hS).M8 [0,1] rfl).uR [0,1,2,3] rfl⟩
          ·replace hG4:=ME hc6 hG4
           refine eU (mW rfl rfl) (cE rfl rfl rfl (by rw [hc6];rfl)) rfl rfl ?_
           obtain⟨hn3,hG4⟩:=jL hG4
           refine eU (aAZ Tryz.underlying238 Tryz.sizeOf4 hn3 rfl rfl rfl) (cE rfl rfl rfl (by rw [hc6];rfl)) rfl rfl ?_
           obtain⟨x17,hx17,hG4⟩:=sH hG4
           refine eU (iG rfl rfl Tryz.isAgg4 (hS.aLO 1 rfl hx17)) (cE rfl rfl rfl (by rw [hc6];rfl)) rfl rfl ?_
           refine oy (zJ rfl rfl hc6 rfl) rfl<|bM fun a hA=>?_
           exact⟨x17,hG4,hA.part ⟨rfl,rfl,rfl,rfl,rfl,rfl,rfl,rfl,rfl,rfl,trivial⟩,((hS).M8 [0,1] rfl).uR [0,1,2,3] rfl⟩
         ·skip
          clear hA hS hG4
          rintro a w ⟨x14,hG4,hA,hS⟩
          unfold mT at hG4
          refine kV hA rfl (fun hc5=>?_) (fun hc5=>?_)
          ·replace hG4:=MD hc5 hG4
           refine bV<|cJ hA ?_
           clear hA
           refine oa rfl rfl<|bM fun a hA=>yZ ?_
           cases hG4
           have ho:=hr4 _ rfl;subst ho
           replace hG2:some (.stop (Out.ret false))=some q2:=hG2
           cases hG2
           have ho:=hr2 _ rfl;subst ho
           replace hF:some false=some r:=hF
           cases hF
           exact fy Tryz.results123 hA rfl hS
          ·replace hG4:=ME hc5 hG4
           refine nO<|cJ hA ?_
           clear hA
           refine om rfl rfl ?_
           obtain⟨hn2,hG4⟩:=jL hG4
           refine oy (aAZ Tryz.underlying238 Tryz.sizeOf4 hn2 rfl rfl rfl) rfl ?_
           obtain⟨x15,hx15,hG4⟩:=sH hG4
           refine PU (aOT (xd:=true) hS (m:=1) rfl hx15 Tryz.sizeOf4 rfl rfl rfl rfl rfl rfl) (bZ rfl) rfl ?_
           clear hS
           intro w hS
           refine bM fun a hA=>cJ hA ?_
           clear hA
           refine oy (KZ rfl rfl rfl) rfl<|om rfl rfl<|bM fun a hA=>?_
           cases hG4
           exact⟨_,rfl,⟨hA.part ⟨rfl,rfl,rfl,rfl,rfl,rfl,rfl,rfl,trivial⟩,((hS).M8 [0,1] rfl).uR [0,1,2,3] rfl⟩⟩
        ·replace hG4:=ME hc4 hG4
         refine JN<|C5 ?_
         cases hG4
         have ho:=hr4 _ rfl;subst ho
         exact⟨x11,rfl,hA.part ⟨rfl,rfl,rfl,rfl,rfl,trivial⟩,((hS).M8 [0,1] rfl).uR [0,2,3] rfl⟩
       ·skip
        clear hA hS hl3
        rintro a w ⟨x12,heq,hA,hS⟩
        replace hG2:yC x4 x12=some q2:=by rw [heq] at hG2;exact hG2
        clear heq
        unfold yC at hG2
        refine cJ hA ?_
        clear hA
        refine oy (KZ rfl rfl rfl) rfl<|om rfl rfl<|bM fun a hA=>?_
        cases hG2
        exact⟨_,rfl,⟨hA.part ⟨rfl,rfl,rfl,rfl,rfl,trivial⟩,((hS).M8 [0,1] rfl).uR [0,1,2] rfl⟩⟩
    ·replace hG2:=ME hc2 hG2
     refine JN<|C5 ?_
     cases hG2
     have ho:=hr2 _ rfl;subst ho
     exact⟨rfl,hA.part trivial,((hS).M8 [] rfl).uR [] rfl⟩
   ·skip
    clear hA hS hl2
    rintro a w ⟨heq,hA,hS⟩
    replace hF:F5=some r:=by rw [heq] at hF;exact hF
    clear heq
    unfold F5 at hF
    refine bV<|cJ hA ?_
    clear hA
    refine oa rfl rfl<|bM fun a hA=>yZ ?_
    cases hF
    exact fy Tryz.results123 hA rfl hS
theorem ZV{w0:World}{h:Int}{r:Bool}(hF:gC h=some r) :
    Calls Tryz.prog 295 #[.int .i64 (h)] w0 (Ret fun v w'=>v=.bool (r)∧St (c9 w0) w' [] []):=by
 have hS:St (c9 w0) w0 [] []:=St.enter (by
   intro f hf;cases hf)
 refine zK (args:=[_]) Tryz.func295 rfl Tryz.ntmps295 rfl ?_
 unfold gC at hF
 intro a hA
 refine bV<|cJ hA ?_
 clear hA
 refine oa rfl rfl<|bM fun a hA=>bV<|C7 (J:=fun a' w'=>∃(x1:Bool),lR x1=some r∧kP 10 [(2,.bool (x1))] a'∧St (c9 w0) w' [] []) ?_ ?_
 ·skip
  refine cJ hA ?_
  clear hA
  refine om rfl rfl ?_
  obtain⟨x2,hx2,hF⟩:=sH hF
  refine YJ (JT Tryz.call107 rfl rfl) (bZ rfl) rfl rfl (LJ (n:=h) (low:=32) (high:=223) hx2) ?_
  rintro _ w ⟨rfl,hk⟩
  replace hS:=hS.after hk;clear hk
  refine om rfl rfl<|H3 (s:=5) rfl (fun hc1=>?_) (fun hc1=>?_)
  ·replace hF:=MD hc1 hF
   refine eU (mW rfl rfl) (cE rfl rfl rfl (by rw [hc1];rfl)) rfl rfl ?_
   refine eU (W2 rfl rfl rfl (by decide)) (cE rfl rfl rfl (by rw [hc1];rfl)) rfl rfl ?_
   refine eU (FP rfl rfl rfl) (cE rfl rfl rfl (by rw [hc1];rfl)) rfl rfl ?_
   refine oy (uQ rfl rfl hc1 rfl) rfl<|oa rfl rfl<|bM fun a hA=>?_
   exact⟨decide ((Int.tmod h 32) < 24),hF,hA.part ⟨rfl,trivial⟩,((hS).M8 [] rfl).uR [] rfl⟩
  ·replace hF:=ME hc1 hF
   refine e9 (cE rfl rfl rfl (by rw [hc1];rfl)) rfl rfl ?_
   refine e9 (cE rfl rfl rfl (by rw [hc1];rfl)) rfl rfl ?_
   refine e9 (cE rfl rfl rfl (by rw [hc1];rfl)) rfl rfl ?_
   refine oy (zJ rfl rfl hc1 rfl) rfl<|oa rfl rfl<|bM fun a hA=>?_
   exact⟨false,hF,hA.part ⟨rfl,trivial⟩,((hS).M8 [] rfl).uR [] rfl⟩
 ·skip
  clear hA hS hF
  rintro a w ⟨x1,hF,hA,hS⟩
  unfold lR at hF
  refine yZ ?_
  cases hF
  exact fy Tryz.results295 hA rfl hS
theorem XP{w0:World}{l:List aP}{s1:Value}{r:Int}(h1:aL.rd (PI w0) w0 [s1] (l:List aP))(hF:tS l=some r) :
    Calls Tryz.prog 35 #[s1] w0 (Ret fun v w'=>v=.int .i64 (r)∧St (c9 w0) w' [] []):=by
 have hS:St (c9 w0) w0 [] [z5 [s1] (l:List aP)]:=St.enter (by
   intro f hf
   simp only [List.mem_cons,List.not_mem_nil,or_false] at hf
   subst hf;exact h1)
 refine zK (args:=[_]) Tryz.func35 rfl Tryz.ntmps35 rfl ?_
 unfold tS at hF
 intro a hA
 refine bV<|cJ hA ?_
 clear hA
 refine oa rfl rfl<|bM fun a hA=>bV<|cJ hA ?_
 clear hA
 refine oa rfl rfl<|bM fun a hA=>bV<|bV<|cJ hA ?_
 clear hA
 refine om rfl rfl<|oy (nP (hS.rd 0 rfl) Tryz.underlying51 rfl rfl) rfl<|om rfl rfl<|bM fun a hA=>?_
 obtain⟨o1,hl1,hF⟩:=sH hF
 refine C7 (J:=fun a' w'=>∃(x5:Int),o1=x5∧kP 19 [(3,.int .i64 (x5))] a'∧St (c9 w0) w' [] []) ?_ ?_
 ·refine kQ ?_
  refine JO (body:=iL l) (r:=o1) (fun sg a' w'=>kP 19 [(3,.int .i64 (sg.1)),(6,s1),(7,.int .i64 ((l.length:Int))),(8,.int .i64 (sg.2))] a'∧St (c9 w0) w' [] [z5 [s1] (l:List aP)]) ?_ hl1 ⟨hA.part ⟨rfl,rfl,rfl,rfl,trivial⟩,((hS).M8 [] rfl).uR [0] rfl⟩
  clear hA hS hl1
  rintro⟨x3,x4⟩ a w q1 ⟨hA,hS⟩ hG1 hr1
  try dsimp only at hA hS
  unfold iL at hG1
  refine bV<|cJ hA ?_
  clear hA
  refine oy (FP rfl rfl rfl) rfl<|bM fun a hA=>bV<|kV hA rfl (fun hc1=>?_) (fun hc1=>?_)
  ·replace hG1:=MD hc1 hG1
   refine nO<|bV<|kQ<|bV<|cJ hA ?_
   clear hA
   obtain⟨x6,hx6,hG1⟩:=sH hG1
   refine oy (PX (m:=1) (hS.rd 0 rfl) rfl hx6 Tryz.underlying51 Tryz.sizeOf103 rfl rfl rfl) rfl ?_
   obtain⟨s2,hel,hS⟩:=hS.aJL 0 rfl (jK hx6).2.2
   refine oy (PW rfl rfl Tryz.isAgg103 Tryz.sizeOf103 rfl hel) rfl<|KY (MC (cs:=[(.slice none 0 0)]) hS rfl Tryz.zeroValue103 rfl) (bZ rfl) rfl rfl ?_
   clear hS
   rintro _ w ⟨b1,rfl,hS⟩
   refine PU (TZ (vs:=[s2]) hS (i:=0) rfl rfl rfl rfl rfl Tryz.sizeOf103 rfl rfl (aUY (aBQ (hS.rd 1 rfl)) rfl)) (bZ rfl) rfl ?_
   clear hS
   intro w hS
   refine bM fun a hA=>cJ hA ?_
   clear hA
   refine om rfl rfl<|oy (y4 (m:=0) Tryz.underlying103 rfl rfl Tryz.sizeOf101 rfl rfl) rfl<|oy (iG rfl rfl Tryz.isAgg101 (hS.cell 0 rfl rfl)) rfl<|oy (nP (hS.rd 1 rfl) Tryz.underlying101 rfl rfl) rfl<|oy (KZ rfl rfl rfl) rfl<|oa rfl rfl<|bM fun a hA=>cJ hA ?_
   clear hA
   refine oy (KZ rfl rfl rfl) rfl<|om rfl rfl<|bM fun a hA=>?_
   cases hG1
   exact⟨_,rfl,⟨hA.part ⟨rfl,rfl,rfl,rfl,trivial⟩,((hS).M8 [] rfl).uR [0] rfl⟩⟩
  ·replace hG1:=ME hc1 hG1
   refine JN<|C5 ?_
   cases hG1
   have ho:=hr1 _ rfl;subst ho
   exact⟨x3,rfl,hA.part ⟨rfl,trivial⟩,((hS).M8 [] rfl).uR [] rfl⟩
 ·skip
  clear hA hS hl1
  rintro a w ⟨x5,heq,hA,hS⟩
  replace hF:A1 x5=some r:=by rw [heq] at hF;exact hF
  clear heq
  unfold A1 at hF
  refine bV<|cJ hA ?_
  clear hA
  refine om rfl rfl<|oa rfl rfl<|bM fun a hA=>yZ ?_
  cases hF
  exact fy Tryz.results35 hA rfl hS
theorem aC1{w0:World}{l:List aP}{s1:Value}{r:Bool}(h1:aL.rd (PI w0) w0 [s1] (l:List aP))(hF:lA l=some r) :
    Calls Tryz.prog 212 #[s1] w0 (Ret fun v w'=>v=.bool (r)∧St (c9 w0) w' [] []):=by
 have hS:St (c9 w0) w0 [] [z5 [s1] (l:List aP)]:=St.enter (by
   intro f hf
   simp only [List.mem_cons,List.not_mem_nil,or_false] at hf
   subst hf;exact h1)
 refine zK (args:=[_]) Tryz.func212 rfl Tryz.ntmps212 rfl ?_
 unfold lA at hF
 intro a hA
 refine bV<|cJ hA ?_
 clear hA
 refine oa rfl rfl<|bM fun a hA=>bV<|bV<|cJ hA ?_
 clear hA
 refine om rfl rfl<|oy (nP (hS.rd 0 rfl) Tryz.underlying51 rfl rfl) rfl<|oy (aGY rfl rfl rfl) rfl<|bM fun a hA=>kV hA rfl (fun hc1=>?_) (fun hc1=>?_)
 ·replace hF:=MD hc1 hF
  refine bV<|cJ hA ?_
  clear hA
  refine oa rfl rfl<|bM fun a hA=>yZ ?_
  cases hF
  exact fy Tryz.results212 hA rfl hS
 ·replace hF:=ME hc1 hF
  refine nO<|bV<|cJ hA ?_
  clear hA
  refine oy (W3 (cells:=#[.bool (false),.bool (false),.bool (false),.bool (false),.bool (false),.bool (false),.bool (false),.bool (false),.bool (false),.bool (false),.bool (false),.bool (false),.bool (false),.bool (false),.bool (false),.bool (false),.bool (false),.bool (false),.bool (false),.bool (false),.bool (false),.bool (false),.bool (false),.bool (false)]) rfl Tryz.zeroValue238 Tryz.underlying238 Tryz.sizeOf4 rfl rfl) rfl<|KY (MC (cs:=List.map (fun q:Bool=>Value.bool q) [false,false,false,false,false,false,false,false,false,false,false,false,false,false,false,false,false,false,false,false,false,false,false,false]) hS rfl Tryz.zeroValue238 rfl) (bZ rfl) rfl rfl ?_
  clear hS
  rintro _ w ⟨b1,rfl,hS⟩
  refine PU (TZ (vs:=[.bool (false),.bool (false),.bool (false),.bool (false),.bool (false),.bool (false),.bool (false),.bool (false),.bool (false),.bool (false),.bool (false),.bool (false),.bool (false),.bool (false),.bool (false),.bool (false),.bool (false),.bool (false),.bool (false),.bool (false),.bool (false),.bool (false),.bool (false),.bool (false)]) hS (i:=0) rfl rfl rfl rfl rfl Tryz.sizeOf238 rfl rfl rfl) (bZ rfl) rfl ?_
  clear hS
  intro w hS
  refine bM fun a hA=>bV<|bV<|cJ hA ?_
  clear hA
  refine om rfl rfl<|oy (nP (hS.rd 0 rfl) Tryz.underlying51 rfl rfl) rfl<|om rfl rfl<|bM fun a hA=>?_
  obtain⟨o1,hl1,hF⟩:=sH hF
  refine C7 (J:=fun a' w'=>o1=Out.brk ()∧kP 51 [(0,s1)] a'∧St (c9 w0) w' [] [z5 [s1] (l:List aP)]) ?_ ?_
  ·refine kQ ?_
   refine JO (body:=kK l) (r:=o1) (fun sg a' w'=>kP 51 [(0,s1),(3,.pointer (some ⟨b1,0,none⟩)),(12,s1),(13,.int .i64 ((l.length:Int))),(14,.int .i64 (sg.1))] a'∧St (c9 w0) w' [C1 b1 (List.map (fun q:Bool=>Value.bool q) (sg.2:List Bool))] [z5 [s1] (l:List aP)]) ?_ hl1 ⟨hA.part ⟨rfl,rfl,rfl,rfl,rfl,trivial⟩,((hS).M8 [0] rfl).uR [0] rfl⟩
   clear hA hS hl1
   rintro⟨x3,x4⟩ a w q1 ⟨hA,hS⟩ hG1 hr1
   try dsimp only at hA hS
   unfold kK at hG1
   refine bV<|cJ hA ?_
   clear hA
   refine oy (FP rfl rfl rfl) rfl<|bM fun a hA=>bV<|kV hA rfl (fun hc2=>?_) (fun hc2=>?_)
   ·replace hG1:=MD hc2 hG1
    refine nO<|bV<|kQ<|bV<|cJ hA ?_
    clear hA
    obtain⟨x6,hx6,hG1⟩:=sH hG1
    refine oy (PX (m:=1) (hS.rd 0 rfl) rfl hx6 Tryz.underlying51 Tryz.sizeOf103 rfl rfl rfl) rfl ?_
    obtain⟨s2,hel,hS⟩:=hS.aJL 0 rfl (jK hx6).2.2
    refine oy (PW rfl rfl Tryz.isAgg103 Tryz.sizeOf103 rfl hel) rfl<|KY (MC (cs:=[(.slice none 0 0)]) hS rfl Tryz.zeroValue103 rfl) (bZ rfl) rfl rfl ?_
    clear hS
    rintro _ w ⟨b2,rfl,hS⟩
    refine PU (TZ (vs:=[s2]) hS (i:=1) rfl rfl rfl rfl rfl Tryz.sizeOf103 rfl rfl (aUY (aBQ (hS.rd 1 rfl)) rfl)) (bZ rfl) rfl ?_
    clear hS
    intro w hS
    refine bM fun a hA=>bV<|cJ hA ?_
    clear hA
    refine oy (y4 (m:=0) Tryz.underlying103 rfl rfl Tryz.sizeOf101 rfl rfl) rfl<|oy (iG rfl rfl Tryz.isAgg101 (hS.cell 1 rfl rfl)) rfl<|oy (nP (hS.rd 1 rfl) Tryz.underlying101 rfl rfl) rfl<|om rfl rfl<|bM fun a hA=>?_
    obtain⟨o2,hl2,hG1⟩:=sH hG1
    refine C7 (J:=fun a' w'=>∃(x11:List Bool),o2=Out.brk x11∧kP 51 [(0,s1),(3,.pointer (some ⟨b1,0,none⟩)),(12,s1),(13,.int .i64 ((l.length:Int))),(14,.int .i64 (x3))] a'∧St (c9 w0) w' [C1 b1 (List.map (fun q:Bool=>Value.bool q) (x11:List Bool))] [z5 [s1] (l:List aP)]) ?_ ?_
    ·refine kQ ?_
     refine JO (body:=kJ x6) (r:=o2) (fun sg a' w'=>kP 51 [(0,s1),(3,.pointer (some ⟨b1,0,none⟩)),(12,s1),(13,.int .i64 ((l.length:Int))),(14,.int .i64 (x3)),(19,s2),(20,.int .i64 ((x6.Rows.length:Int))),(21,.int .i64 (sg.1))] a'∧St (c9 w0) w' [C1 b1 (List.map (fun q:Bool=>Value.bool q) (sg.2:List Bool))] [z5 [s1] (l:List aP),z5 [s2] (x6.Rows:List b8)]) ?_ hl2 ⟨hA.part ⟨rfl,rfl,rfl,rfl,rfl,rfl,rfl,rfl,trivial⟩,((hS).M8 [0] rfl).uR [0,1] rfl⟩
     clear hA hS hl2
     rintro⟨x9,x10⟩ a w q2 ⟨hA,hS⟩ hG2 hr2
     try dsimp only at hA hS
     unfold kJ at hG2
     refine bV<|cJ hA ?_
     clear hA
     refine oy (FP rfl rfl rfl) rfl<|bM fun a hA=>bV<|kV hA rfl (fun hc3=>?_) (fun hc3=>?_)
     ·replace hG2:=MD hc3 hG2
      refine nO<|bV<|kQ<|bV<|cJ hA ?_
      clear hA
      obtain⟨x12,hx12,hG2⟩:=sH hG2
      refine oy (PX (m:=2) (hS.rd 1 rfl) rfl hx12 Tryz.underlying101 Tryz.sizeOf105 rfl rfl rfl) rfl<|oy (PW rfl rfl Tryz.isAgg105 Tryz.sizeOf105 rfl (aS9 (hS.rd 1 rfl) (jK hx12).2.2)) rfl<|KY (MC (cs:=[.int .i64 (0),.int .i64 (0)]) hS rfl Tryz.zeroValue105 rfl) (bZ rfl) rfl rfl ?_
      clear hS
      rintro _ w ⟨b3,rfl,hS⟩
      refine PU (TZ (vs:=[.int .i64 (x12.Handle),.int .i64 (x12.aM)]) hS (i:=1) rfl rfl rfl rfl rfl Tryz.sizeOf105 rfl rfl rfl) (bZ rfl) rfl ?_
      clear hS
      intro w hS
      refine bM fun a hA=>bV<|bV<|C7 (J:=fun a' w'=>∃(x13:Bool),iW x9 x10 x12 x13=some q2∧kP 51 [(0,s1),(3,.pointer (some ⟨b1,0,none⟩)),(7,.pointer (some ⟨b3,0,none⟩)),(12,s1),(13,.int .i64 ((l.length:Int))),(14,.int .i64 (x3)),(19,s2),(20,.int .i64 ((x6.Rows.length:Int))),(21,.int .i64 (x9)),(41,.bool (x13))] a'∧St (c9 w0) w' [C1 b1 (List.map (fun q:Bool=>Value.bool q) (x10:List Bool)),C1 b3 [.int .i64 (x12.Handle),.int .i64 (x12.aM)]] [z5 [s1] (l:List aP),z5 [s2] (x6.Rows:List b8)]) ?_ ?_
      ·skip
       refine cJ hA ?_
       clear hA
       refine oy (y4 (m:=0) Tryz.underlying105 rfl rfl Tryz.sizeOf3 rfl rfl) rfl<|oy (iG rfl rfl Tryz.isAgg3 (hS.cell 1 rfl rfl)) rfl ?_
       obtain⟨x15,hx15,hG2⟩:=sH hG2
       refine YJ (JT Tryz.call295 rfl rfl) (bZ rfl) rfl rfl (ZV (h:=x12.Handle) hx15) ?_
       rintro _ w ⟨rfl,hk⟩
       replace hS:=hS.after hk;clear hk
       refine oy (aBJ rfl rfl) rfl<|om rfl rfl<|H3 (s:=29) rfl (fun hc5=>?_) (fun hc5=>?_)
       ·replace hG2:=MD hc5 hG2
        refine e9 (cE rfl rfl rfl (by rw [hc5];rfl)) rfl rfl ?_
        refine e9 (cE rfl rfl rfl (by rw [hc5];rfl)) rfl rfl ?_
        refine e9 (cE rfl rfl rfl (by rw [hc5];rfl)) rfl rfl ?_
        refine e9 (cE rfl rfl rfl (by rw [hc5];rfl)) rfl rfl ?_
        refine oy (uQ rfl rfl hc5 rfl) rfl<|om rfl rfl<|e9 (cE rfl rfl rfl rfl) rfl rfl<|e9 (cE rfl rfl rfl rfl) rfl rfl<|e9 (cE rfl rfl rfl rfl) rfl rfl<|e9 (cE rfl rfl rfl rfl) rfl rfl<|e9 (cE rfl rfl rfl rfl) rfl rfl<|oy (uQ rfl rfl rfl rfl) rfl<|bM fun a hA=>?_
        exact⟨true,hG2,hA.part ⟨rfl,rfl,rfl,rfl,rfl,rfl,rfl,rfl,rfl,rfl,trivial⟩,((hS).M8 [0,1] rfl).uR [0,1] rfl⟩
       ·replace hG2:=ME hc5 hG2
        refine eU (y4 (m:=0) Tryz.underlying105 rfl rfl Tryz.sizeOf3 rfl rfl) (cE rfl rfl rfl (by rw [hc5];rfl)) rfl rfl ?_
        refine eU (iG rfl rfl Tryz.isAgg3 (hS.cell 1 rfl rfl)) (cE rfl rfl rfl (by rw [hc5];rfl)) rfl rfl ?_
        obtain⟨x16,hx16,hG2⟩:=sH hG2
        refine YJ (JT Tryz.call107 rfl rfl) (cE rfl rfl rfl (by rw [hc5];rfl)) rfl rfl (LJ (n:=x12.aM) (low:=0) (high:=100000) hx16) ?_
        rintro _ w ⟨rfl,hk⟩
        replace hS:=hS.after hk;clear hk
        refine eU (aBJ rfl rfl) (cE rfl rfl rfl (by rw [hc5];rfl)) rfl rfl ?_
        refine oy (zJ rfl rfl hc5 rfl) rfl<|om rfl rfl<|H3 (s:=35) rfl (fun hc6=>?_) (fun hc6=>?_)
        ·replace hG2:=MD hc6 hG2
         refine e9 (cE rfl rfl rfl (by rw [hc6];rfl)) rfl rfl ?_
         refine e9 (cE rfl rfl rfl (by rw [hc6];rfl)) rfl rfl ?_
         refine e9 (cE rfl rfl rfl (by rw [hc6];rfl)) rfl rfl ?_
         refine e9 (cE rfl rfl rfl (by rw [hc6];rfl)) rfl rfl ?_
         refine e9 (cE rfl rfl rfl (by rw [hc6];rfl)) rfl rfl ?_
         refine oy (uQ rfl rfl hc6 rfl) rfl<|bM fun a hA=>?_
         exact⟨true,hG2,hA.part ⟨rfl,rfl,rfl,rfl,rfl,rfl,rfl,rfl,rfl,rfl,trivial⟩,((hS).M8 [0,1] rfl).uR [0,1] rfl⟩
        ·replace hG2:=ME hc6 hG2
         refine eU (y4 (m:=0) Tryz.underlying105 rfl rfl Tryz.sizeOf3 rfl rfl) (cE rfl rfl rfl (by rw [hc6];rfl)) rfl rfl ?_
         refine eU (iG rfl rfl Tryz.isAgg3 (hS.cell 1 rfl rfl)) (cE rfl rfl rfl (by rw [hc6];rfl)) rfl rfl ?_
         refine eU (W2 rfl rfl rfl (by decide)) (cE rfl rfl rfl (by rw [hc6];rfl)) rfl rfl ?_
         obtain⟨hn2,hG2⟩:=jL hG2
         refine eU (aAZ Tryz.underlying238 Tryz.sizeOf4 hn2 rfl rfl rfl) (cE rfl rfl rfl (by rw [hc6];rfl)) rfl rfl ?_
         obtain⟨x17,hx17,hG2⟩:=sH hG2
         refine eU (iG rfl rfl Tryz.isAgg4 (hS.aLO 0 rfl hx17)) (cE rfl rfl rfl (by rw [hc6];rfl)) rfl rfl ?_
         refine oy (zJ rfl rfl hc6 rfl) rfl<|bM fun a hA=>?_
         exact⟨x17,hG2,hA.part ⟨rfl,rfl,rfl,rfl,rfl,rfl,rfl,rfl,rfl,rfl,trivial⟩,((hS).M8 [0,1] rfl).uR [0,1] rfl⟩
      ·skip
       clear hA hS hG2
       rintro a w ⟨x13,hG2,hA,hS⟩
       unfold iW at hG2
       refine kV hA rfl (fun hc4=>?_) (fun hc4=>?_)
       ·replace hG2:=MD hc4 hG2
        refine bV<|cJ hA ?_
        clear hA
        refine oa rfl rfl<|bM fun a hA=>yZ ?_
        cases hG2
        have ho:=hr2 _ rfl;subst ho
        replace hG1:some (.stop (Out.ret false))=some q1:=hG1
        cases hG1
        have ho:=hr1 _ rfl;subst ho
        replace hF:some false=some r:=hF
        cases hF
        exact fy Tryz.results212 hA rfl hS
       ·replace hG2:=ME hc4 hG2
        refine nO<|cJ hA ?_
        clear hA
        refine oy (y4 (m:=0) Tryz.underlying105 rfl rfl Tryz.sizeOf3 rfl rfl) rfl<|oy (iG rfl rfl Tryz.isAgg3 (hS.cell 1 rfl rfl)) rfl<|oy (W2 rfl rfl rfl (by decide)) rfl ?_
        obtain⟨hn1,hG2⟩:=jL hG2
        refine oy (aAZ Tryz.underlying238 Tryz.sizeOf4 hn1 rfl rfl rfl) rfl ?_
        obtain⟨x14,hx14,hG2⟩:=sH hG2
        refine PU (aOT (xd:=true) hS (m:=0) rfl hx14 Tryz.sizeOf4 rfl rfl rfl rfl rfl rfl) (bZ rfl) rfl ?_
        clear hS
        intro w hS
        refine bM fun a hA=>cJ hA ?_
        clear hA
        refine oy (KZ rfl rfl rfl) rfl<|om rfl rfl<|bM fun a hA=>?_
        cases hG2
        exact⟨_,rfl,⟨hA.part ⟨rfl,rfl,rfl,rfl,rfl,rfl,rfl,rfl,trivial⟩,((hS).M8 [0] rfl).uR [0,1] rfl⟩⟩
     ·replace hG2:=ME hc3 hG2
      refine JN<|C5 ?_
      cases hG2
      have ho:=hr2 _ rfl;subst ho
      exact⟨x10,rfl,hA.part ⟨rfl,rfl,rfl,rfl,rfl,trivial⟩,((hS).M8 [0] rfl).uR [0] rfl⟩
    ·skip
     clear hA hS hl2
     rintro a w ⟨x11,heq,hA,hS⟩
     replace hG1:yG x3 x11=some q1:=by rw [heq] at hG1;exact hG1
     clear heq
     unfold yG at hG1
     refine cJ hA ?_
     clear hA
     refine oy (KZ rfl rfl rfl) rfl<|om rfl rfl<|bM fun a hA=>?_
     cases hG1
     exact⟨_,rfl,⟨hA.part ⟨rfl,rfl,rfl,rfl,rfl,trivial⟩,((hS).M8 [0] rfl).uR [0] rfl⟩⟩
   ·replace hG1:=ME hc2 hG1
    refine JN<|C5 ?_
    cases hG1
    have ho:=hr1 _ rfl;subst ho
    exact⟨rfl,hA.part ⟨rfl,trivial⟩,((hS).M8 [] rfl).uR [0] rfl⟩
  ·skip
   clear hA hS hl1
   rintro a w ⟨heq,hA,hS⟩
   replace hF:yF l=some r:=by rw [heq] at hF;exact hF
   clear heq
   unfold yF at hF
   refine bV<|cJ hA ?_
   clear hA
   refine om rfl rfl ?_
   obtain⟨x5,hx5,hF⟩:=sH hF
   refine YJ (JT Tryz.call35 rfl rfl) (bZ rfl) rfl rfl (XP (l:=l) (hS.rd 0 rfl) hx5) ?_
   rintro _ w ⟨rfl,hk⟩
   replace hS:=hS.after hk;clear hk
   refine oy (aKB rfl rfl rfl) rfl<|oa rfl rfl<|bM fun a hA=>yZ ?_
   cases hF
   exact fy Tryz.results212 hA rfl hS
end Go.Proofs.YtbdmodalljibjaaGreat
end
