import Derived.Test.YtbdmodalljibjaaGreatXRC
import Derived.Test.YtbdmodalljibjaaGreatProg
set_option linter.unusedVariables false
set_option linter.unusedSimpArgs false
set_option linter.unusedSectionVars false
set_option linter.constructorNameAsVariable false
set_option linter.unnecessarySimpa false
noncomputable section
set_option maxHeartbeats 4000000
set_option maxRecDepth 100000
namespace Go.Proofs.YtbdmodalljibjaaGreat
open Go.Gv
theorem aT:TH Tryz.prog 3 1 (.int .i64 0):=HH (b:=8) (by kernel_rfl) rfl
theorem dE:TH Tryz.prog 105 2 (.agg #[.int .i64 0,.int .i64 0]):=HH (b:=16) (by kernel_rfl) rfl
theorem dR:TH Tryz.prog 162 1 (.agg #[.slice none 0 0]):=HH (b:=24) (by kernel_rfl) rfl
theorem EZ:TH Tryz.prog 175 4 (.agg #[.bool false,.int .i64 0,.bool false,.int .i64 0]):=HH (b:=32) (by kernel_rfl) rfl
theorem tS:TH Tryz.prog 103 1 (.agg #[.slice none 0 0]):=HH (b:=24) (by kernel_rfl) rfl
theorem qI:TH Tryz.prog 77 1 (.agg #[.slice none 0 0]):=HH (b:=24) (by kernel_rfl) rfl
theorem lX:TH Tryz.prog 70 4 (.agg #[.int .i64 0,.int .i64 0,.int .i64 0,.int .i64 0]):=HH (b:=32) (by kernel_rfl) rfl
theorem cJ:TH Tryz.prog 74 21 (.agg #[.bool false,.int .i64 0,.int .i64 0,.int .i64 0,.int .i64 0,.int .i64 0,.int .i64 0,.int .i64 0,.int .i64 0,.int .i64 0,.int .i64 0,.int .i64 0,.int .i64 0,.int .i64 0,.int .i64 0,.int .i64 0,.bool false,.int .i64 0,.int .i64 0,.int .i64 0,.int .i64 0]):=HH (b:=168) (by kernel_rfl) rfl
theorem bN:TH Tryz.prog 79 7 (.agg #[.int .i64 0,.int .i64 0,.int .i64 0,.int .i64 0,.int .i64 0,.int .i64 0,.int .i64 0]):=HH (b:=56) (by kernel_rfl) rfl
theorem aE1:TH Tryz.prog 5 1 (.int .u8 0):=HH (b:=1) (by kernel_rfl) rfl
theorem aJS:TH Tryz.prog 43 1 (.slice none 0 0):=HH (b:=24) (by kernel_rfl) rfl
theorem aC:Tryz.prog.follows .mixedOrders=true:=by kernel_rfl
theorem P0(D:Nat)(d d':gK)(w:World):(Op.eqFields (D+2) #[.bool (d.On),.int .i64 (d.aL),.bool (d.fF),.int .i64 (d.Seen)] #[.bool (d'.On),.int .i64 (d'.aL),.bool (d'.fF),.int .i64 (d'.Seen)] (match Tryz.prog.underlying 175 with | some (.struct fs)=>fs | _=>#[]).toList).run Tryz.prog w=.ok (decide (d=d')) w:=by
  rw [Tryz.underlying175]
  have h:(d.On == d'.On && (d.aL == d'.aL && (d.fF == d'.fF && (d.Seen == d'.Seen && true))))=decide (d=d'):=by
    cases d;cases d';rw [Bool.eq_iff_iff];simp
  rw [←h]
  exact dM _ _ _ _ _ rfl (dU Tryz.isAgg4 rfl) (dU Tryz.isAgg4 rfl) (ZD Tryz.underlying4)<|
    dM _ _ _ _ _ rfl (dU Tryz.isAgg3 rfl) (dU Tryz.isAgg3 rfl) (iA Tryz.underlying3)<|
    dM _ _ _ _ _ rfl (dU Tryz.isAgg4 rfl) (dU Tryz.isAgg4 rfl) (ZD Tryz.underlying4)<|
    dM _ _ _ _ _ rfl (dU Tryz.isAgg3 rfl) (dU Tryz.isAgg3 rfl) (iA Tryz.underlying3)<|
    Q1 _ _ _
theorem aBB(D:Nat)(d d':gA)(w:World):(Op.eqFields (D+2) #[.int .i64 (d.Kind),.int .i64 (d.Cell),.int .i64 (d.eT),.int .i64 (d.eU)] #[.int .i64 (d'.Kind),.int .i64 (d'.Cell),.int .i64 (d'.eT),.int .i64 (d'.eU)] (match Tryz.prog.underlying 70 with | some (.struct fs)=>fs | _=>#[]).toList).run Tryz.prog w=.ok (decide (d=d')) w:=by
  rw [Tryz.underlying70]
  have h:(d.Kind == d'.Kind && (d.Cell == d'.Cell && (d.eT == d'.eT && (d.eU == d'.eU && true))))=decide (d=d'):=by
    cases d;cases d';rw [Bool.eq_iff_iff];simp
  rw [←h]
  exact dM _ _ _ _ _ rfl (dU Tryz.isAgg3 rfl) (dU Tryz.isAgg3 rfl) (iA Tryz.underlying3)<|
    dM _ _ _ _ _ rfl (dU Tryz.isAgg3 rfl) (dU Tryz.isAgg3 rfl) (iA Tryz.underlying3)<|
    dM _ _ _ _ _ rfl (dU Tryz.isAgg3 rfl) (dU Tryz.isAgg3 rfl) (iA Tryz.underlying3)<|
    dM _ _ _ _ _ rfl (dU Tryz.isAgg3 rfl) (dU Tryz.isAgg3 rfl) (iA Tryz.underlying3)<|
    Q1 _ _ _
theorem aJT(D:Nat)(d d':Sub)(w:World):(Op.eqFields (D+2) #[.int .i64 (d.Kind),.int .i64 (d.A),.int .i64 (d.Pc),.int .i64 (d.E),.int .i64 (d.Row),.int .i64 (d.B),.int .i64 (d.H),.int .i64 (d.Out),.int .i64 (d.Code),.bool (d.cQ)] #[.int .i64 (d'.Kind),.int .i64 (d'.A),.int .i64 (d'.Pc),.int .i64 (d'.E),.int .i64 (d'.Row),.int .i64 (d'.B),.int .i64 (d'.H),.int .i64 (d'.Out),.int .i64 (d'.Code),.bool (d'.cQ)] (match Tryz.prog.underlying 72 with | some (.struct fs)=>fs | _=>#[]).toList).run Tryz.prog w=.ok (decide (d=d')) w:=by
  rw [Tryz.underlying72]
  have h:(d.Kind == d'.Kind && (d.A == d'.A && (d.Pc == d'.Pc && (d.E == d'.E && (d.Row == d'.Row && (d.B == d'.B && (d.H == d'.H && (d.Out == d'.Out && (d.Code == d'.Code && (d.cQ == d'.cQ && true))))))))))=decide (d=d'):=by
    cases d;cases d';rw [Bool.eq_iff_iff];simp
  rw [←h]
  exact dM _ _ _ _ _ rfl (dU Tryz.isAgg3 rfl) (dU Tryz.isAgg3 rfl) (iA Tryz.underlying3)<|
    dM _ _ _ _ _ rfl (dU Tryz.isAgg3 rfl) (dU Tryz.isAgg3 rfl) (iA Tryz.underlying3)<|
    dM _ _ _ _ _ rfl (dU Tryz.isAgg3 rfl) (dU Tryz.isAgg3 rfl) (iA Tryz.underlying3)<|
    dM _ _ _ _ _ rfl (dU Tryz.isAgg3 rfl) (dU Tryz.isAgg3 rfl) (iA Tryz.underlying3)<|
    dM _ _ _ _ _ rfl (dU Tryz.isAgg3 rfl) (dU Tryz.isAgg3 rfl) (iA Tryz.underlying3)<|
    dM _ _ _ _ _ rfl (dU Tryz.isAgg3 rfl) (dU Tryz.isAgg3 rfl) (iA Tryz.underlying3)<|
    dM _ _ _ _ _ rfl (dU Tryz.isAgg3 rfl) (dU Tryz.isAgg3 rfl) (iA Tryz.underlying3)<|
    dM _ _ _ _ _ rfl (dU Tryz.isAgg3 rfl) (dU Tryz.isAgg3 rfl) (iA Tryz.underlying3)<|
    dM _ _ _ _ _ rfl (dU Tryz.isAgg3 rfl) (dU Tryz.isAgg3 rfl) (iA Tryz.underlying3)<|
    dM _ _ _ _ _ rfl (dU Tryz.isAgg4 rfl) (dU Tryz.isAgg4 rfl) (ZD Tryz.underlying4)<|
    Q1 _ _ _
theorem H9(D:Nat)(d d':bX)(w:World):(Op.eqFields (D+3) #[.bool (d.iV),.int .i64 (d.Op.Kind),.int .i64 (d.Op.Cell),.int .i64 (d.Op.eT),.int .i64 (d.Op.eU),.int .i64 (d.aN),.int .i64 (d.Pc),.int .i64 (d.Sub.Kind),.int .i64 (d.Sub.A),.int .i64 (d.Sub.Pc),.int .i64 (d.Sub.E),.int .i64 (d.Sub.Row),.int .i64 (d.Sub.B),.int .i64 (d.Sub.H),.int .i64 (d.Sub.Out),.int .i64 (d.Sub.Code),.bool (d.Sub.cQ),.int .i64 (d.H),.int .i64 (d.Old),.int .i64 (d.eU),.int .i64 (d.Code)] #[.bool (d'.iV),.int .i64 (d'.Op.Kind),.int .i64 (d'.Op.Cell),.int .i64 (d'.Op.eT),.int .i64 (d'.Op.eU),.int .i64 (d'.aN),.int .i64 (d'.Pc),.int .i64 (d'.Sub.Kind),.int .i64 (d'.Sub.A),.int .i64 (d'.Sub.Pc),.int .i64 (d'.Sub.E),.int .i64 (d'.Sub.Row),.int .i64 (d'.Sub.B),.int .i64 (d'.Sub.H),.int .i64 (d'.Sub.Out),.int .i64 (d'.Sub.Code),.bool (d'.Sub.cQ),.int .i64 (d'.H),.int .i64 (d'.Old),.int .i64 (d'.eU),.int .i64 (d'.Code)] (match Tryz.prog.underlying 74 with | some (.struct fs)=>fs | _=>#[]).toList).run Tryz.prog w=.ok (decide (d=d')) w:=by
  rw [Tryz.underlying74]
  have h:(d.iV == d'.iV && (decide (d.Op=d'.Op) && (d.aN == d'.aN && (d.Pc == d'.Pc && (decide (d.Sub=d'.Sub) && (d.H == d'.H && (d.Old == d'.Old && (d.eU == d'.eU && (d.Code == d'.Code && true)))))))))=decide (d=d'):=by
    cases d;cases d';rw [Bool.eq_iff_iff];simp
  rw [←h]
  exact dM _ _ _ _ _ rfl (dU Tryz.isAgg4 rfl) (dU Tryz.isAgg4 rfl) (ZD Tryz.underlying4)<|
    dM _ _ _ _ _ rfl (aKF (vs:=#[.int .i64 (d.Op.Kind),.int .i64 (d.Op.Cell),.int .i64 (d.Op.eT),.int .i64 (d.Op.eU)]) Tryz.isAgg70 Tryz.sizeOf70 rfl) (aKF (vs:=#[.int .i64 (d'.Op.Kind),.int .i64 (d'.Op.Cell),.int .i64 (d'.Op.eT),.int .i64 (d'.Op.eU)]) Tryz.isAgg70 Tryz.sizeOf70 rfl) (aEJ Tryz.stoodInHeld70 Tryz.underlying70 (aBB D _ _ w))<|
    dM _ _ _ _ _ rfl (dU Tryz.isAgg3 rfl) (dU Tryz.isAgg3 rfl) (iA Tryz.underlying3)<|
    dM _ _ _ _ _ rfl (dU Tryz.isAgg3 rfl) (dU Tryz.isAgg3 rfl) (iA Tryz.underlying3)<|
    dM _ _ _ _ _ rfl (aKF (vs:=#[.int .i64 (d.Sub.Kind),.int .i64 (d.Sub.A),.int .i64 (d.Sub.Pc),.int .i64 (d.Sub.E),.int .i64 (d.Sub.Row),.int .i64 (d.Sub.B),.int .i64 (d.Sub.H),.int .i64 (d.Sub.Out),.int .i64 (d.Sub.Code),.bool (d.Sub.cQ)]) Tryz.isAgg72 Tryz.sizeOf72 rfl) (aKF (vs:=#[.int .i64 (d'.Sub.Kind),.int .i64 (d'.Sub.A),.int .i64 (d'.Sub.Pc),.int .i64 (d'.Sub.E),.int .i64 (d'.Sub.Row),.int .i64 (d'.Sub.B),.int .i64 (d'.Sub.H),.int .i64 (d'.Sub.Out),.int .i64 (d'.Sub.Code),.bool (d'.Sub.cQ)]) Tryz.isAgg72 Tryz.sizeOf72 rfl) (aEJ Tryz.stoodInHeld72 Tryz.underlying72 (aJT D _ _ w))<|
    dM _ _ _ _ _ rfl (dU Tryz.isAgg3 rfl) (dU Tryz.isAgg3 rfl) (iA Tryz.underlying3)<|
    dM _ _ _ _ _ rfl (dU Tryz.isAgg3 rfl) (dU Tryz.isAgg3 rfl) (iA Tryz.underlying3)<|
    dM _ _ _ _ _ rfl (dU Tryz.isAgg3 rfl) (dU Tryz.isAgg3 rfl) (iA Tryz.underlying3)<|
    dM _ _ _ _ _ rfl (dU Tryz.isAgg3 rfl) (dU Tryz.isAgg3 rfl) (iA Tryz.underlying3)<|
    Q1 _ _ _
theorem aID(D:Nat)(d d':b8)(w:World):(Op.eqFields (D+2) #[.int .i64 (d.Handle),.int .i64 (d.aL)] #[.int .i64 (d'.Handle),.int .i64 (d'.aL)] (match Tryz.prog.underlying 105 with | some (.struct fs)=>fs | _=>#[]).toList).run Tryz.prog w=.ok (decide (d=d')) w:=by
  rw [Tryz.underlying105]
  have h:(d.Handle == d'.Handle && (d.aL == d'.aL && true))=decide (d=d'):=by
    cases d;cases d';rw [Bool.eq_iff_iff];simp
  rw [←h]
  exact dM _ _ _ _ _ rfl (dU Tryz.isAgg3 rfl) (dU Tryz.isAgg3 rfl) (iA Tryz.underlying3)<|
    dM _ _ _ _ _ rfl (dU Tryz.isAgg3 rfl) (dU Tryz.isAgg3 rfl) (iA Tryz.underlying3)<|
    Q1 _ _ _
theorem S3(D:Nat)(d d':Ev)(w:World):(Op.eqFields (D+2) #[.int .i64 (d.Kind),.int .i64 (d.Who),.int .i64 (d.aN),.int .i64 (d.Cell),.int .i64 (d.Handle),.int .i64 (d.eU),.int .i64 (d.Code)] #[.int .i64 (d'.Kind),.int .i64 (d'.Who),.int .i64 (d'.aN),.int .i64 (d'.Cell),.int .i64 (d'.Handle),.int .i64 (d'.eU),.int .i64 (d'.Code)] (match Tryz.prog.underlying 79 with | some (.struct fs)=>fs | _=>#[]).toList).run Tryz.prog w=.ok (decide (d=d')) w:=by
  rw [Tryz.underlying79]
  have h:(d.Kind == d'.Kind && (d.Who == d'.Who && (d.aN == d'.aN && (d.Cell == d'.Cell && (d.Handle == d'.Handle && (d.eU == d'.eU && (d.Code == d'.Code && true)))))))=decide (d=d'):=by
    cases d;cases d';rw [Bool.eq_iff_iff];simp
  rw [←h]
  exact dM _ _ _ _ _ rfl (dU Tryz.isAgg3 rfl) (dU Tryz.isAgg3 rfl) (iA Tryz.underlying3)<|
    dM _ _ _ _ _ rfl (dU Tryz.isAgg3 rfl) (dU Tryz.isAgg3 rfl) (iA Tryz.underlying3)<|
    dM _ _ _ _ _ rfl (dU Tryz.isAgg3 rfl) (dU Tryz.isAgg3 rfl) (iA Tryz.underlying3)<|
    dM _ _ _ _ _ rfl (dU Tryz.isAgg3 rfl) (dU Tryz.isAgg3 rfl) (iA Tryz.underlying3)<|
    dM _ _ _ _ _ rfl (dU Tryz.isAgg3 rfl) (dU Tryz.isAgg3 rfl) (iA Tryz.underlying3)<|
    dM _ _ _ _ _ rfl (dU Tryz.isAgg3 rfl) (dU Tryz.isAgg3 rfl) (iA Tryz.underlying3)<|
    dM _ _ _ _ _ rfl (dU Tryz.isAgg3 rfl) (dU Tryz.isAgg3 rfl) (iA Tryz.underlying3)<|
    Q1 _ _ _
set_option maxRecDepth 100000 in
theorem L5{w0:World}{n:Int}(hn:0≤n∧n≤1073741824) :
    Calls Tryz.prog 337 #[.slice none 0 0,.int .i64 n] w0 (Ret fun v w'=>∃s0_0:Value,v=s0_0∧St (dA w0) w' [fV [s0_0] ([]:List Raw)] []):=by
  have hS:St (dA w0) w0 [] []:=St.enter (by intro f hf;cases hf)
  have hw:bC (n - bC (0 - 0))=n:=by
    rw [HJ (x:=0 - 0) (by omega),HJ (by omega)];omega
  refine aNI (args:=[_,_]) Tryz.func337 rfl Tryz.ntmps337 rfl ?_
  intro a hA
  refine bW ?_
  refine cH hA ?_
  clear hA
  refine eV (CR rfl rfl) (bZ rfl) rfl rfl ?_
  refine bL ?_
  intro a hA
  refine bW ?_
  refine bW ?_
  refine cH hA ?_
  clear hA
  refine eV (mT rfl rfl) (bZ rfl) rfl rfl ?_
  refine eV (E5 rfl rfl rfl) (bZ rfl) rfl rfl ?_
  refine bL ?_
  intro a hA
  refine kY hA rfl (fun hc=>?_) (fun hc=>?_)
  · exfalso;simp at hc;omega
  refine nN ?_
  refine bW ?_
  refine bW ?_
  refine cH hA ?_
  clear hA
  refine eV (mT rfl rfl) (bZ rfl) rfl rfl ?_
  refine eV (mT rfl rfl) (bZ rfl) rfl rfl ?_
  refine eV (aEO Tryz.underlying43 rfl rfl) (bZ rfl) rfl rfl ?_
  refine eV (mT rfl rfl) (bZ rfl) rfl rfl ?_
  refine eV (nO (aNM (α:=Raw) (S:=F0)) Tryz.underlying43 rfl rfl) (bZ rfl) rfl rfl ?_
  refine eV (aIZ rfl rfl rfl) (bZ rfl) rfl rfl ?_
  refine eV (aIZ rfl rfl rfl) (bZ rfl) rfl rfl ?_
  refine eV (CR rfl rfl) (bZ rfl) rfl rfl ?_
  refine bL ?_
  intro a hA
  refine bW ?_
  refine cH hA ?_
  clear hA
  refine eV (mT rfl rfl) (bZ rfl) rfl rfl ?_
  refine eV (aI2 rfl rfl rfl) (bZ rfl) rfl rfl ?_
  refine bL ?_
  intro a hA
  refine kY hA rfl (fun hc=>?_) (fun hc=>?_)
  · have hn1:0 < n:=by
      have h2:decide (0 < bC (n - bC (0 - 0)))=true:=hc
      rw [hw] at h2;simpa using h2
    refine cH hA ?_
    clear hA
    refine eV (mT rfl rfl) (bZ rfl) rfl rfl ?_
    refine eV (mT rfl rfl) (bZ rfl) rfl rfl ?_
    refine eV (aEO Tryz.underlying43 rfl rfl) (bZ rfl) rfl rfl ?_
    refine eV (aKM (s:=.slice none 0 0) ⟨_,_,_,rfl⟩ Tryz.underlying43 Tryz.sizeOf162 rfl rfl rfl) (bZ rfl) rfl rfl ?_
    refine eV (mT rfl rfl) (bZ rfl) rfl rfl ?_
    refine KC (aRE (i:=bC (n - bC (0 - 0))) hS Tryz.underlying43 Tryz.underlying3 dR rfl rfl (by rw [hw];omega) rfl rfl rfl) (bZ rfl) rfl rfl ?_
    clear hS
    intro s w hS
    refine eV (mT rfl rfl) (bZ rfl) rfl rfl ?_
    refine eV (nO (aNM (α:=Raw) (S:=F0)) Tryz.underlying43 rfl rfl) (bZ rfl) rfl rfl ?_
    refine eV (aKM (hS.aN6 0 rfl) Tryz.underlying43 Tryz.sizeOf162 rfl rfl rfl) (bZ rfl) rfl rfl ?_
    refine eV (CR rfl rfl) (bZ rfl) rfl rfl ?_
    refine bL ?_
    intro a hA
    replace hS:=hS.aT2 (α:=Raw) 0 rfl rfl
    refine bW ?_
    refine cH hA ?_
    clear hA
    refine eV (mT rfl rfl) (bZ rfl) rfl rfl ?_
    refine eV (CR rfl rfl) (bZ rfl) rfl rfl ?_
    refine bL ?_
    intro a hA
    refine yI ?_
    exact aQ2 Tryz.results337 hA (ZC rfl) ⟨_,rfl,(hS.MI [0] rfl).weaken (R':=[]) (fun _ h=>nomatch h)⟩
  · refine nN ?_
    replace hS:=hS.aTW (α:=Raw)
    refine bW ?_
    refine cH hA ?_
    clear hA
    refine eV (mT rfl rfl) (bZ rfl) rfl rfl ?_
    refine eV (CR rfl rfl) (bZ rfl) rfl rfl ?_
    refine bL ?_
    intro a hA
    refine yI ?_
    exact aQ2 Tryz.results337 hA (ZC rfl) ⟨_,rfl,(hS.MI [0] rfl).weaken (R':=[]) (fun _ h=>nomatch h)⟩
theorem OW{w0:World}{slices:List (List Raw)}{s1:Value}{r:(List Raw)}(h1:aM.rd (O0 w0) w0 [s1] (slices:List (List Raw)))(hF:nQ slices=some r) :
    Calls Tryz.prog 221 #[s1] w0 (Ret fun v w'=>∃(s0_0:Value),v=s0_0∧St (dA w0) w' [fV [s0_0] (r:List Raw)] []):=by
 have hS:St (dA w0) w0 [] [zK [s1] (slices:List (List Raw))]:=St.enter (by
   intro f hf
   simp only [List.mem_cons,List.not_mem_nil,or_false] at hf
   subst hf;exact h1)
 refine yZ (args:=[_]) Tryz.func221 rfl Tryz.ntmps221 rfl ?_
 unfold nQ at hF
 intro a hA
 refine bW<|cH hA ?_
 clear hA
 refine oa rfl rfl<|bL fun a hA=>bW<|cH hA ?_
 clear hA
 refine oa rfl rfl<|bL fun a hA=>bW<|bW<|cH hA ?_
 clear hA
 refine om rfl rfl<|oy (nO (hS.rd 0 rfl) Tryz.underlying313 rfl rfl) rfl<|om rfl rfl<|bL fun a hA=>?_
 obtain⟨o1,hl1,hF⟩:=rW hF
 refine CS (J:=fun a' w'=>∃(x5:Int),o1=x5∧kT 36 [(0,s1),(3,.int .i64 (x5))] a'∧St (dA w0) w' [] [zK [s1] (slices:List (List Raw))]) ?_ ?_
 ·refine kU ?_
  refine I2 (body:=fE slices) (r:=o1) (fun sg a' w'=>kT 36 [(0,s1),(3,.int .i64 (sg.1)),(9,s1),(10,.int .i64 ((slices.length:Int))),(11,.int .i64 (sg.2))] a'∧St (dA w0) w' [] [zK [s1] (slices:List (List Raw))]) ?_ hl1 ⟨hA.part ⟨rfl,rfl,rfl,rfl,rfl,trivial⟩,((hS).MI [] rfl).uD [0] rfl⟩
  clear hA hS hl1
  rintro⟨x3,x4⟩ a w q1 ⟨hA,hS⟩ hG1 hr1
  try dsimp only at hA hS
  unfold fE at hG1
  refine bW<|cH hA ?_
  clear hA
  refine oy (E5 rfl rfl rfl) rfl<|bL fun a hA=>bW<|kY hA rfl (fun hc2=>?_) (fun hc2=>?_)
  ·replace hG1:=LL hc2 hG1
   refine nN<|bW<|kU<|bW<|cH hA ?_
   clear hA
   obtain⟨x12,hx12,hG1⟩:=rW hG1
   refine oy (O5 (m:=1) (hS.rd 0 rfl) rfl hx12 Tryz.underlying313 Tryz.sizeOf43 rfl rfl rfl) rfl ?_
   obtain⟨s8,hel,hS⟩:=hS.aHH 0 rfl (jN hx12).2.2
   refine oy (iD rfl rfl Tryz.isAgg43 (aNL hel)) rfl<|oa rfl rfl<|bL fun a hA=>bW<|cH hA ?_
   clear hA
   refine om rfl rfl<|om rfl rfl<|oy (nO (hS.rd 1 rfl) Tryz.underlying43 rfl rfl) rfl<|oy (KD rfl rfl rfl) rfl<|oa rfl rfl<|bL fun a hA=>bW<|cH hA ?_
   clear hA
   refine om rfl rfl<|oy (E5 rfl rfl rfl) rfl<|bL fun a hA=>kY hA rfl (fun hc3=>?_) (fun hc3=>?_)
   ·replace hG1:=LL hc3 hG1
    refine cH hA ?_
    clear hA
    cases hG1
   ·replace hG1:=LM hc3 hG1
    refine nN<|cH hA ?_
    clear hA
    refine oy (KD rfl rfl rfl) rfl<|om rfl rfl<|bL fun a hA=>?_
    cases hG1
    exact⟨_,rfl,⟨hA.part ⟨rfl,rfl,rfl,rfl,rfl,trivial⟩,((hS).MI [] rfl).uD [0] rfl⟩⟩
  ·replace hG1:=LM hc2 hG1
   refine I1<|CQ ?_
   cases hG1
   have ho:=hr1 _ rfl;subst ho
   exact⟨x3,rfl,hA.part ⟨rfl,rfl,trivial⟩,((hS).MI [] rfl).uD [0] rfl⟩
 ·skip
  clear hA hS hl1
  rintro a w ⟨x5,heq,hA,hS⟩
  replace hF:lA slices x5=some r:=by rw [heq] at hF;exact hF
  clear heq
  unfold lA at hF
  refine bW<|cH hA ?_
  clear hA
  refine om rfl rfl ?_
  obtain⟨hn1,hF⟩:=jO hF
  refine W1 (I5 Tryz.call337 rfl rfl) (bZ rfl) rfl rfl (L5 hn1) ?_
  rintro s2 w ⟨_,rfl,hk⟩
  replace hS:=hS.after hk;clear hk
  refine oa rfl rfl<|bL fun a hA=>bW<|bW<|cH hA ?_
  clear hA
  refine om rfl rfl<|oy (nO (hS.rd 0 rfl) Tryz.underlying313 rfl rfl) rfl<|om rfl rfl<|bL fun a hA=>?_
  obtain⟨o2,hl2,hF⟩:=rW hF
  refine CS (J:=fun a' w'=>∃(x10:List Raw) (s5:Value),o2=x10∧kT 36 [(6,s5)] a'∧St (dA w0) w' [fV [s5] (x10:List Raw)] []) ?_ ?_
  ·refine kU ?_
   refine I2 (body:=gG slices) (r:=o2) (fun sg a' w'=>∃(s4:Value),kT 36 [(6,s4),(25,s1),(26,.int .i64 ((slices.length:Int))),(27,.int .i64 (sg.2))] a'∧St (dA w0) w' [fV [s4] (sg.1:List Raw)] [zK [s1] (slices:List (List Raw))]) ?_ hl2 ⟨s2,hA.part ⟨rfl,rfl,rfl,rfl,trivial⟩,((hS).MI [0] rfl).uD [0] rfl⟩
   clear hA hS hl2
   rintro⟨x8,x9⟩ a w q2 ⟨s4,hA,hS⟩ hG2 hr2
   try dsimp only at hA hS
   unfold gG at hG2
   refine bW<|cH hA ?_
   clear hA
   refine oy (E5 rfl rfl rfl) rfl<|bL fun a hA=>bW<|kY hA rfl (fun hc1=>?_) (fun hc1=>?_)
   ·replace hG2:=LL hc1 hG2
    refine nN<|bW<|kU<|bW<|cH hA ?_
    clear hA
    obtain⟨x11,hx11,hG2⟩:=rW hG2
    refine oy (O5 (m:=1) (hS.rd 0 rfl) rfl hx11 Tryz.underlying313 Tryz.sizeOf43 rfl rfl rfl) rfl ?_
    obtain⟨s6,hel,hS⟩:=hS.aHH 0 rfl (jN hx11).2.2
    refine oy (iD rfl rfl Tryz.isAgg43 (aNL hel)) rfl<|oa rfl rfl<|bL fun a hA=>cH hA ?_
    clear hA
    refine om rfl rfl<|om rfl rfl ?_
    obtain⟨hn2,hG2⟩:=jO hG2
    refine KC (aEK (α:=Raw) 0 hS rfl (hS.rd 1 rfl) rfl Tryz.underlying43 dR rfl hn2 rfl rfl rfl) (bZ rfl) rfl rfl ?_
    clear hS
    rintro s7 w hS
    refine oa rfl rfl<|bL fun a hA=>cH hA ?_
    clear hA
    refine oy (KD rfl rfl rfl) rfl<|om rfl rfl<|bL fun a hA=>?_
    cases hG2
    exact⟨_,rfl,⟨s7,hA.part ⟨rfl,rfl,rfl,rfl,trivial⟩,((hS).MI [0] rfl).uD [0] rfl⟩⟩
   ·replace hG2:=LM hc1 hG2
    refine I1<|CQ ?_
    cases hG2
    have ho:=hr2 _ rfl;subst ho
    exact⟨x8,s4,rfl,hA.part ⟨rfl,trivial⟩,((hS).MI [0] rfl).uD [] rfl⟩
  ·skip
   clear hA hS hl2
   rintro a w ⟨x10,s5,heq,hA,hS⟩
   replace hF:pX x10=some r:=by rw [heq] at hF;exact hF
   clear heq
   unfold pX at hF
   refine bW<|cH hA ?_
   clear hA
   refine om rfl rfl<|oa rfl rfl<|bL fun a hA=>yI ?_
   cases hF
   exact aQ2 Tryz.results221 hA (ZC rfl) ⟨s5,rfl,(hS.MI [0] rfl).weaken (R':=[]) (fun _ h=>nomatch h)⟩
theorem KV{w0:World}{n:Int}{low:Int}{high:Int}{r:Bool}(hF:cL n low high=some r) :
    Calls Tryz.prog 107 #[.int .i64 (n),.int .i64 (low),.int .i64 (high)] w0 (Ret fun v w'=>v=.bool (r)∧St (dA w0) w' [] []):=by
 have hS:St (dA w0) w0 [] []:=St.enter (by
   intro f hf;cases hf)
 refine yZ (args:=[_,_,_]) Tryz.func107 rfl Tryz.ntmps107 rfl ?_
 unfold cL at hF
 intro a hA
 refine bW<|cH hA ?_
 clear hA
 refine oa rfl rfl<|bL fun a hA=>bW<|CS (J:=fun a' w'=>∃(x1:Bool),oP x1=some r∧kT 15 [(6,.bool (x1))] a'∧St (dA w0) w' [] []) ?_ ?_
 ·skip
  refine cH hA ?_
  clear hA
  refine om rfl rfl<|om rfl rfl<|oy (aNE rfl rfl rfl) rfl<|om rfl rfl<|HE (s:=10) rfl (fun hc1=>?_) (fun hc1=>?_)
  ·replace hF:=LL hc1 hF
   refine eV (mT rfl rfl) (cD rfl rfl rfl (by rw [hc1];rfl)) rfl rfl ?_
   refine eV (mT rfl rfl) (cD rfl rfl rfl (by rw [hc1];rfl)) rfl rfl ?_
   refine eV (aI1 rfl rfl rfl) (cD rfl rfl rfl (by rw [hc1];rfl)) rfl rfl ?_
   refine oy (uC rfl rfl hc1 rfl) rfl<|oa rfl rfl<|bL fun a hA=>?_
   exact⟨decide (n≤high),hF,hA.part ⟨rfl,trivial⟩,((hS).MI [] rfl).uD [] rfl⟩
  ·replace hF:=LM hc1 hF
   refine eZ (cD rfl rfl rfl (by rw [hc1];rfl)) rfl rfl ?_
   refine eZ (cD rfl rfl rfl (by rw [hc1];rfl)) rfl rfl ?_
   refine eZ (cD rfl rfl rfl (by rw [hc1];rfl)) rfl rfl ?_
   refine oy (yY rfl rfl hc1 rfl) rfl<|oa rfl rfl<|bL fun a hA=>?_
   exact⟨false,hF,hA.part ⟨rfl,trivial⟩,((hS).MI [] rfl).uD [] rfl⟩
 ·skip
  clear hA hS hF
  rintro a w ⟨x1,hF,hA,hS⟩
  unfold oP at hF
  refine yI ?_
  cases hF
  exact fy Tryz.results107 hA rfl hS
theorem aDN{w0:World}{slot:Int}{r:Bool}(hF:lI slot=some r) :
    Calls Tryz.prog 222 #[.int .i64 (slot)] w0 (Ret fun v w'=>v=.bool (r)∧St (dA w0) w' [] []):=by
 have hS:St (dA w0) w0 [] []:=St.enter (by
   intro f hf;cases hf)
 refine yZ (args:=[_]) Tryz.func222 rfl Tryz.ntmps222 rfl ?_
 unfold lI at hF
 intro a hA
 refine bW<|cH hA ?_
 clear hA
 refine oa rfl rfl<|bL fun a hA=>bW<|cH hA ?_
 clear hA
 refine om rfl rfl ?_
 obtain⟨x1,hx1,hF⟩:=rW hF
 refine W1 (I5 Tryz.call107 rfl rfl) (bZ rfl) rfl rfl (KV (n:=slot) (low:=0) (high:=23) hx1) ?_
 rintro _ w ⟨rfl,hk⟩
 replace hS:=hS.after hk;clear hk
 refine oa rfl rfl<|bL fun a hA=>yI ?_
 cases hF
 exact fy Tryz.results222 hA rfl hS
theorem aBC{w0:World}{l:aA}{s1:Value}{s2:Value}{r:Bool}(h1:aM.rd (O0 w0) w0 [s1] (l.Global:List aH))(h2:aM.rd (O0 w0) w0 [s2] (l.bJ:List aH))(hF:jI l=some r) :
    Calls Tryz.prog 123 #[.agg #[s1,s2]] w0 (Ret fun v w'=>v=.bool (r)∧St (dA w0) w' [] []):=by
 have hS:St (dA w0) w0 [] [zK [s1] (l.Global:List aH),zK [s2] (l.bJ:List aH)]:=St.enter (by
   intro f hf
   simp only [List.mem_cons,List.not_mem_nil,or_false] at hf
   rcases hf with rfl | rfl
   · exact h1
   · exact h2)
 refine yZ (args:=[_]) Tryz.func123 rfl Tryz.ntmps123 rfl ?_
 unfold jI at hF
 intro a hA
 refine bW<|cH hA ?_
 clear hA
 refine KC (aTS (cs:=[s1,s2]) hS rfl rfl rfl) (bZ rfl) rfl rfl ?_
 clear hS
 rintro _ w ⟨b1,rfl,hS⟩
 refine oa rfl rfl<|bL fun a hA=>bW<|bW<|CS (J:=fun a' w'=>∃(x1:Bool),qV l x1=some r∧kT 61 [(1,.pointer (some ⟨b1,0,none⟩)),(17,.bool (x1))] a'∧St (dA w0) w' [CJ b1 [s1,s2]] [zK [s1] (l.Global:List aH),zK [s2] (l.bJ:List aH)]) ?_ ?_
 ·skip
  refine cH hA ?_
  clear hA
  refine oy (yJ (m:=0) Tryz.underlying45 rfl rfl Tryz.sizeOf43 rfl rfl) rfl<|oy (iD rfl rfl Tryz.isAgg43 (hS.cell 0 rfl rfl)) rfl<|oy (nO (hS.rd 0 rfl) Tryz.underlying43 rfl rfl) rfl<|oy (aFO rfl rfl rfl) rfl<|om rfl rfl<|HE (s:=12) rfl (fun hc8=>?_) (fun hc8=>?_)
  ·replace hF:=LL hc8 hF
   refine eZ (cD rfl rfl rfl (by rw [hc8];rfl)) rfl rfl ?_
   refine eZ (cD rfl rfl rfl (by rw [hc8];rfl)) rfl rfl ?_
   refine eZ (cD rfl rfl rfl (by rw [hc8];rfl)) rfl rfl ?_
   refine eZ (cD rfl rfl rfl (by rw [hc8];rfl)) rfl rfl ?_
   refine oy (uC rfl rfl hc8 rfl) rfl<|bL fun a hA=>?_
   exact⟨true,hF,hA.part ⟨rfl,rfl,trivial⟩,((hS).MI [0] rfl).uD [0,1] rfl⟩
  ·replace hF:=LM hc8 hF
   refine eV (yJ (m:=0) Tryz.underlying45 rfl rfl Tryz.sizeOf43 rfl rfl) (cD rfl rfl rfl (by rw [hc8];rfl)) rfl rfl ?_
   refine eV (iD rfl rfl Tryz.isAgg43 (hS.cell 0 rfl rfl)) (cD rfl rfl rfl (by rw [hc8];rfl)) rfl rfl ?_
   refine eV (nO (hS.rd 1 rfl) Tryz.underlying43 rfl rfl) (cD rfl rfl rfl (by rw [hc8];rfl)) rfl rfl ?_
   refine eV (aFO rfl rfl rfl) (cD rfl rfl rfl (by rw [hc8];rfl)) rfl rfl ?_
   refine oy (yY rfl rfl hc8 rfl) rfl<|bL fun a hA=>?_
   exact⟨(l.bJ.length:Int) != 9,hF,hA.part ⟨rfl,rfl,trivial⟩,((hS).MI [0] rfl).uD [0,1] rfl⟩
 ·skip
  clear hA hS hF
  rintro a w ⟨x1,hF,hA,hS⟩
  unfold qV at hF
  refine kY hA rfl (fun hc1=>?_) (fun hc1=>?_)
  ·replace hF:=LL hc1 hF
   refine bW<|cH hA ?_
   clear hA
   refine oa rfl rfl<|bL fun a hA=>yI ?_
   cases hF
   exact fy Tryz.results123 hA rfl hS
  ·replace hF:=LM hc1 hF
   refine nN<|bW<|cH hA ?_
   clear hA
   refine oy (VK (cells:=#[.bool (false),.bool (false),.bool (false),.bool (false),.bool (false),.bool (false),.bool (false),.bool (false),.bool (false),.bool (false),.bool (false),.bool (false),.bool (false),.bool (false),.bool (false),.bool (false),.bool (false),.bool (false),.bool (false),.bool (false),.bool (false),.bool (false),.bool (false),.bool (false)]) rfl Tryz.zeroValue238 Tryz.underlying238 Tryz.sizeOf4 rfl rfl) rfl<|KC (LK (cs:=List.map (fun q:Bool=>Value.bool q) [false,false,false,false,false,false,false,false,false,false,false,false,false,false,false,false,false,false,false,false,false,false,false,false]) hS rfl Tryz.zeroValue238 rfl) (bZ rfl) rfl rfl ?_
   clear hS
   rintro _ w ⟨b2,rfl,hS⟩
   refine O3 (SP (vs:=[.bool (false),.bool (false),.bool (false),.bool (false),.bool (false),.bool (false),.bool (false),.bool (false),.bool (false),.bool (false),.bool (false),.bool (false),.bool (false),.bool (false),.bool (false),.bool (false),.bool (false),.bool (false),.bool (false),.bool (false),.bool (false),.bool (false),.bool (false),.bool (false)]) hS (i:=1) rfl rfl rfl rfl rfl Tryz.sizeOf238 rfl rfl rfl) (bZ rfl) rfl ?_
   clear hS
   intro w hS
   refine bL fun a hA=>bW<|bW<|cH hA ?_
   clear hA
   refine oy (yJ (m:=0) Tryz.underlying45 rfl rfl Tryz.sizeOf43 rfl rfl) rfl<|oy (iD rfl rfl Tryz.isAgg43 (hS.cell 0 rfl rfl)) rfl<|oy (yJ (m:=0) Tryz.underlying45 rfl rfl Tryz.sizeOf43 rfl rfl) rfl<|oy (iD rfl rfl Tryz.isAgg43 (hS.cell 0 rfl rfl)) rfl<|KC (aI8 hS (hS.rd 1 rfl) (hS.rd 0 rfl) Tryz.underlying313 aJS rfl rfl rfl) (bZ rfl) rfl rfl ?_
   clear hS
   rintro s3 w hS
   obtain⟨hn1,hF⟩:=jO hF
   replace hS:=hS.aVP 2 rfl
   obtain⟨u1,u2,hu1,hl1,hS⟩:=hS.aRF rfl 2 1 0 rfl rfl rfl
   refine W1 (I5 Tryz.call221 rfl rfl) (bZ rfl) rfl rfl (OW hu1 (LV hl1 hn1)) ?_
   rintro s4 w ⟨_,rfl,hk⟩
   replace hS:=hS.after hk;clear hk
   replace hS:=hS.aVP 3 rfl
   replace hS:=hS.aVV rfl 4 3 rfl rfl
   refine oy (nO (hS.rd 5 rfl) Tryz.underlying43 rfl rfl) rfl<|om rfl rfl<|bL fun a hA=>?_
   obtain⟨o1,hl2,hF⟩:=rW hF
   refine CS (J:=fun a' w'=>o1=Out.brk ()∧kT 61 [] a'∧St (dA w0) w' [] []) ?_ ?_
   ·refine kU ?_
    refine I2 (body:=kM l) (r:=o1) (fun sg a' w'=>kT 61 [(1,.pointer (some ⟨b1,0,none⟩)),(3,.pointer (some ⟨b2,0,none⟩)),(24,s4),(25,.int .i64 (((l.bJ++l.Global).length:Int))),(26,.int .i64 (sg.1))] a'∧St (dA w0) w' [CJ b1 [s1,s2],CJ b2 (List.map (fun q:Bool=>Value.bool q) (sg.2:List Bool))] [zK [s4] (l.bJ++l.Global:List aH),zK [s1] (l.Global:List aH),zK [s2] (l.bJ:List aH)]) ?_ hl2 ⟨hA.part ⟨rfl,rfl,rfl,rfl,rfl,trivial⟩,((hS).MI [0,1] rfl).uD [5,0,1] rfl⟩
    clear hA hS hl2
    rintro⟨x4,x5⟩ a w q2 ⟨hA,hS⟩ hG2 hr2
    try dsimp only at hA hS
    unfold kM at hG2
    refine bW<|cH hA ?_
    clear hA
    refine oy (E5 rfl rfl rfl) rfl<|bL fun a hA=>bW<|kY hA rfl (fun hc2=>?_) (fun hc2=>?_)
    ·replace hG2:=LL hc2 hG2
     refine nN<|bW<|kU<|bW<|cH hA ?_
     clear hA
     refine om rfl rfl ?_
     obtain⟨x6,hx6,hG2⟩:=rW hG2
     refine oy (O5 (m:=1) (hS.rd 0 rfl) rfl hx6 Tryz.underlying43 Tryz.sizeOf162 rfl rfl rfl) rfl ?_
     obtain⟨s5,hel,hS⟩:=hS.aP2 0 rfl (jN hx6).2.2
     refine oy (O4 rfl rfl Tryz.isAgg162 Tryz.sizeOf162 rfl hel) rfl<|KC (LK (cs:=[(.slice none 0 0)]) hS rfl Tryz.zeroValue162 rfl) (bZ rfl) rfl rfl ?_
     clear hS
     rintro _ w ⟨b3,rfl,hS⟩
     refine oa rfl rfl<|O3 (SP (vs:=[s5]) hS (i:=2) rfl rfl rfl rfl rfl Tryz.sizeOf162 rfl rfl (aTX (Z5 (hS.rd 3 rfl)) rfl)) (bZ rfl) rfl ?_
     clear hS
     intro w hS
     refine bL fun a hA=>bW<|bW<|CS (J:=fun a' w'=>∃(x7:Bool),kL x4 x5 x6 x7=some q2∧kT 61 [(1,.pointer (some ⟨b1,0,none⟩)),(3,.pointer (some ⟨b2,0,none⟩)),(5,.pointer (some ⟨b3,0,none⟩)),(24,s4),(25,.int .i64 (((l.bJ++l.Global).length:Int))),(26,.int .i64 (x4)),(41,.bool (x7))] a'∧St (dA w0) w' [CJ b1 [s1,s2],CJ b2 (List.map (fun q:Bool=>Value.bool q) (x5:List Bool)),CJ b3 [s5]] [zK [s4] (l.bJ++l.Global:List aH),zK [s1] (l.Global:List aH),zK [s2] (l.bJ:List aH),zK [s5] (x6.aP:List Int)]) ?_ ?_
     ·skip
      refine cH hA ?_
      clear hA
      refine om rfl rfl<|oy (yJ (m:=0) Tryz.underlying45 rfl rfl Tryz.sizeOf43 rfl rfl) rfl<|oy (iD rfl rfl Tryz.isAgg43 (hS.cell 0 rfl rfl)) rfl<|oy (nO (hS.rd 2 rfl) Tryz.underlying43 rfl rfl) rfl<|oy (E5 rfl rfl rfl) rfl<|om rfl rfl<|HE (s:=36) rfl (fun hc7=>?_) (fun hc7=>?_)
      ·replace hG2:=LL hc7 hG2
       refine eV (yJ (m:=0) Tryz.underlying162 rfl rfl Tryz.sizeOf22 rfl rfl) (cD rfl rfl rfl (by rw [hc7];rfl)) rfl rfl ?_
       refine eV (iD rfl rfl Tryz.isAgg22 (hS.cell 2 rfl rfl)) (cD rfl rfl rfl (by rw [hc7];rfl)) rfl rfl ?_
       refine eV (nO (hS.rd 3 rfl) Tryz.underlying22 rfl rfl) (cD rfl rfl rfl (by rw [hc7];rfl)) rfl rfl ?_
       refine eV (aI2 rfl rfl rfl) (cD rfl rfl rfl (by rw [hc7];rfl)) rfl rfl ?_
       refine oy (uC rfl rfl hc7 rfl) rfl<|bL fun a hA=>?_
       exact⟨decide (2 < (x6.aP.length:Int)),hG2,hA.part ⟨rfl,rfl,rfl,rfl,rfl,rfl,rfl,trivial⟩,((hS).MI [0,1,2] rfl).uD [0,1,2,3] rfl⟩
      ·replace hG2:=LM hc7 hG2
       refine eZ (cD rfl rfl rfl (by rw [hc7];rfl)) rfl rfl ?_
       refine eZ (cD rfl rfl rfl (by rw [hc7];rfl)) rfl rfl ?_
       refine eZ (cD rfl rfl rfl (by rw [hc7];rfl)) rfl rfl ?_
       refine eZ (cD rfl rfl rfl (by rw [hc7];rfl)) rfl rfl ?_
       refine oy (yY rfl rfl hc7 rfl) rfl<|bL fun a hA=>?_
       exact⟨false,hG2,hA.part ⟨rfl,rfl,rfl,rfl,rfl,rfl,rfl,trivial⟩,((hS).MI [0,1,2] rfl).uD [0,1,2,3] rfl⟩
     ·skip
      clear hA hS hG2
      rintro a w ⟨x7,hG2,hA,hS⟩
      unfold kL at hG2
      refine kY hA rfl (fun hc3=>?_) (fun hc3=>?_)
      ·replace hG2:=LL hc3 hG2
       refine bW<|cH hA ?_
       clear hA
       refine oa rfl rfl<|bL fun a hA=>yI ?_
       cases hG2
       have ho:=hr2 _ rfl;subst ho
       replace hF:some false=some r:=hF
       cases hF
       exact fy Tryz.results123 hA rfl hS
      ·replace hG2:=LM hc3 hG2
       refine nN<|bW<|cH hA ?_
       clear hA
       refine oy (yJ (m:=0) Tryz.underlying162 rfl rfl Tryz.sizeOf22 rfl rfl) rfl<|oy (iD rfl rfl Tryz.isAgg22 (hS.cell 2 rfl rfl)) rfl<|oy (nO (hS.rd 3 rfl) Tryz.underlying22 rfl rfl) rfl<|om rfl rfl<|bL fun a hA=>?_
       obtain⟨o2,hl3,hG2⟩:=rW hG2
       refine CS (J:=fun a' w'=>∃(x12:List Bool),o2=Out.brk x12∧kT 61 [(1,.pointer (some ⟨b1,0,none⟩)),(3,.pointer (some ⟨b2,0,none⟩)),(24,s4),(25,.int .i64 (((l.bJ++l.Global).length:Int))),(26,.int .i64 (x4))] a'∧St (dA w0) w' [CJ b1 [s1,s2],CJ b2 (List.map (fun q:Bool=>Value.bool q) (x12:List Bool))] [zK [s4] (l.bJ++l.Global:List aH),zK [s1] (l.Global:List aH),zK [s2] (l.bJ:List aH)]) ?_ ?_
       ·refine kU ?_
        refine I2 (body:=kK x6) (r:=o2) (fun sg a' w'=>kT 61 [(1,.pointer (some ⟨b1,0,none⟩)),(3,.pointer (some ⟨b2,0,none⟩)),(24,s4),(25,.int .i64 (((l.bJ++l.Global).length:Int))),(26,.int .i64 (x4)),(43,s5),(44,.int .i64 ((x6.aP.length:Int))),(45,.int .i64 (sg.1))] a'∧St (dA w0) w' [CJ b1 [s1,s2],CJ b2 (List.map (fun q:Bool=>Value.bool q) (sg.2:List Bool))] [zK [s4] (l.bJ++l.Global:List aH),zK [s5] (x6.aP:List Int),zK [s1] (l.Global:List aH),zK [s2] (l.bJ:List aH)]) ?_ hl3 ⟨hA.part ⟨rfl,rfl,rfl,rfl,rfl,rfl,rfl,rfl,trivial⟩,((hS).MI [0,1] rfl).uD [0,3,1,2] rfl⟩
        clear hA hS hl3
        rintro⟨x10,x11⟩ a w q4 ⟨hA,hS⟩ hG4 hr4
        try dsimp only at hA hS
        unfold kK at hG4
        refine bW<|cH hA ?_
        clear hA
        refine oy (E5 rfl rfl rfl) rfl<|bL fun a hA=>bW<|kY hA rfl (fun hc4=>?_) (fun hc4=>?_)
        ·replace hG4:=LL hc4 hG4
         refine nN<|bW<|kU<|bW<|cH hA ?_
         clear hA
         obtain⟨x13,hx13,hG4⟩:=rW hG4
         refine oy (O5 (m:=1) (hS.rd 1 rfl) rfl hx13 Tryz.underlying22 Tryz.sizeOf3 rfl rfl rfl) rfl<|oy (iD rfl rfl Tryz.isAgg3 (aNL (aTU (hS.rd 1 rfl) (jN hx13).2.2))) rfl<|oa rfl rfl<|bL fun a hA=>bW<|bW<|CS (J:=fun a' w'=>∃(x14:Bool),mQ x10 x11 x13 x14=some q4∧kT 61 [(1,.pointer (some ⟨b1,0,none⟩)),(3,.pointer (some ⟨b2,0,none⟩)),(7,.int .i64 (x13)),(24,s4),(25,.int .i64 (((l.bJ++l.Global).length:Int))),(26,.int .i64 (x4)),(43,s5),(44,.int .i64 ((x6.aP.length:Int))),(45,.int .i64 (x10)),(56,.bool (x14))] a'∧St (dA w0) w' [CJ b1 [s1,s2],CJ b2 (List.map (fun q:Bool=>Value.bool q) (x11:List Bool))] [zK [s4] (l.bJ++l.Global:List aH),zK [s5] (x6.aP:List Int),zK [s1] (l.Global:List aH),zK [s2] (l.bJ:List aH)]) ?_ ?_
         ·skip
          refine cH hA ?_
          clear hA
          refine om rfl rfl ?_
          obtain⟨x16,hx16,hG4⟩:=rW hG4
          refine W1 (I5 Tryz.call222 rfl rfl) (bZ rfl) rfl rfl (aDN (slot:=x13) hx16) ?_
          rintro _ w ⟨rfl,hk⟩
          replace hS:=hS.after hk;clear hk
          refine oy (ZY rfl rfl) rfl<|om rfl rfl<|HE (s:=52) rfl (fun hc6=>?_) (fun hc6=>?_)
          ·replace hG4:=LL hc6 hG4
           refine eZ (cD rfl rfl rfl (by rw [hc6];rfl)) rfl rfl ?_
           refine eZ (cD rfl rfl rfl (by rw [hc6];rfl)) rfl rfl ?_
           refine eZ (cD rfl rfl rfl (by rw [hc6];rfl)) rfl rfl ?_
           refine oy (uC rfl rfl hc6 rfl) rfl<|bL fun a hA=>?_
           exact⟨true,hG4,hA.part ⟨rfl,rfl,rfl,rfl,rfl,rfl,rfl,rfl,rfl,rfl,trivial⟩,((hS).MI [0,1] rfl).uD [0,1,2,3] rfl⟩
          ·replace hG4:=LM hc6 hG4
           refine eV (mT rfl rfl) (cD rfl rfl rfl (by rw [hc6];rfl)) rfl rfl ?_
           obtain⟨hn3,hG4⟩:=jO hG4
           refine eV (ZF Tryz.underlying238 Tryz.sizeOf4 hn3 rfl rfl rfl) (cD rfl rfl rfl (by rw [hc6];rfl)) rfl rfl ?_
           obtain⟨x17,hx17,hG4⟩:=rW hG4
           refine eV (iD rfl rfl Tryz.isAgg4 (hS.aKL 1 rfl hx17)) (cD rfl rfl rfl (by rw [hc6];rfl)) rfl rfl ?_
           refine oy (yY rfl rfl hc6 rfl) rfl<|bL fun a hA=>?_
           exact⟨x17,hG4,hA.part ⟨rfl,rfl,rfl,rfl,rfl,rfl,rfl,rfl,rfl,rfl,trivial⟩,((hS).MI [0,1] rfl).uD [0,1,2,3] rfl⟩
         ·skip
          clear hA hS hG4
          rintro a w ⟨x14,hG4,hA,hS⟩
          unfold mQ at hG4
          refine kY hA rfl (fun hc5=>?_) (fun hc5=>?_)
          ·replace hG4:=LL hc5 hG4
           refine bW<|cH hA ?_
           clear hA
           refine oa rfl rfl<|bL fun a hA=>yI ?_
           cases hG4
           have ho:=hr4 _ rfl;subst ho
           replace hG2:some (.stop (Out.ret false))=some q2:=hG2
           cases hG2
           have ho:=hr2 _ rfl;subst ho
           replace hF:some false=some r:=hF
           cases hF
           exact fy Tryz.results123 hA rfl hS
          ·replace hG4:=LM hc5 hG4
           refine nN<|cH hA ?_
           clear hA
           refine om rfl rfl ?_
           obtain⟨hn2,hG4⟩:=jO hG4
           refine oy (ZF Tryz.underlying238 Tryz.sizeOf4 hn2 rfl rfl rfl) rfl ?_
           obtain⟨x15,hx15,hG4⟩:=rW hG4
           refine O3 (aN2 (xd:=true) hS (m:=1) rfl hx15 Tryz.sizeOf4 rfl rfl rfl rfl rfl rfl) (bZ rfl) rfl ?_
           clear hS
           intro w hS
           refine bL fun a hA=>cH hA ?_
           clear hA
           refine oy (KD rfl rfl rfl) rfl<|om rfl rfl<|bL fun a hA=>?_
           cases hG4
           exact⟨_,rfl,⟨hA.part ⟨rfl,rfl,rfl,rfl,rfl,rfl,rfl,rfl,trivial⟩,((hS).MI [0,1] rfl).uD [0,1,2,3] rfl⟩⟩
        ·replace hG4:=LM hc4 hG4
         refine I1<|CQ ?_
         cases hG4
         have ho:=hr4 _ rfl;subst ho
         exact⟨x11,rfl,hA.part ⟨rfl,rfl,rfl,rfl,rfl,trivial⟩,((hS).MI [0,1] rfl).uD [0,2,3] rfl⟩
       ·skip
        clear hA hS hl3
        rintro a w ⟨x12,heq,hA,hS⟩
        replace hG2:xL x4 x12=some q2:=by rw [heq] at hG2;exact hG2
        clear heq
        unfold xL at hG2
        refine cH hA ?_
        clear hA
        refine oy (KD rfl rfl rfl) rfl<|om rfl rfl<|bL fun a hA=>?_
        cases hG2
        exact⟨_,rfl,⟨hA.part ⟨rfl,rfl,rfl,rfl,rfl,trivial⟩,((hS).MI [0,1] rfl).uD [0,1,2] rfl⟩⟩
    ·replace hG2:=LM hc2 hG2
     refine I1<|CQ ?_
     cases hG2
     have ho:=hr2 _ rfl;subst ho
     exact⟨rfl,hA.part trivial,((hS).MI [] rfl).uD [] rfl⟩
   ·skip
    clear hA hS hl2
    rintro a w ⟨heq,hA,hS⟩
    replace hF:FG=some r:=by rw [heq] at hF;exact hF
    clear heq
    unfold FG at hF
    refine bW<|cH hA ?_
    clear hA
    refine oa rfl rfl<|bL fun a hA=>yI ?_
    cases hF
    exact fy Tryz.results123 hA rfl hS
theorem YI{w0:World}{h:Int}{r:Bool}(hF:gD h=some r) :
    Calls Tryz.prog 295 #[.int .i64 (h)] w0 (Ret fun v w'=>v=.bool (r)∧St (dA w0) w' [] []):=by
 have hS:St (dA w0) w0 [] []:=St.enter (by
   intro f hf;cases hf)
 refine yZ (args:=[_]) Tryz.func295 rfl Tryz.ntmps295 rfl ?_
 unfold gD at hF
 intro a hA
 refine bW<|cH hA ?_
 clear hA
 refine oa rfl rfl<|bL fun a hA=>bW<|CS (J:=fun a' w'=>∃(x1:Bool),lR x1=some r∧kT 10 [(2,.bool (x1))] a'∧St (dA w0) w' [] []) ?_ ?_
 ·skip
  refine cH hA ?_
  clear hA
  refine om rfl rfl ?_
  obtain⟨x2,hx2,hF⟩:=rW hF
  refine W1 (I5 Tryz.call107 rfl rfl) (bZ rfl) rfl rfl (KV (n:=h) (low:=32) (high:=223) hx2) ?_
  rintro _ w ⟨rfl,hk⟩
  replace hS:=hS.after hk;clear hk
  refine om rfl rfl<|HE (s:=5) rfl (fun hc1=>?_) (fun hc1=>?_)
  ·replace hF:=LL hc1 hF
   refine eV (mT rfl rfl) (cD rfl rfl rfl (by rw [hc1];rfl)) rfl rfl ?_
   refine eV (VJ rfl rfl rfl (by decide)) (cD rfl rfl rfl (by rw [hc1];rfl)) rfl rfl ?_
   refine eV (E5 rfl rfl rfl) (cD rfl rfl rfl (by rw [hc1];rfl)) rfl rfl ?_
   refine oy (uC rfl rfl hc1 rfl) rfl<|oa rfl rfl<|bL fun a hA=>?_
   exact⟨decide ((Int.tmod h 32) < 24),hF,hA.part ⟨rfl,trivial⟩,((hS).MI [] rfl).uD [] rfl⟩
  ·replace hF:=LM hc1 hF
   refine eZ (cD rfl rfl rfl (by rw [hc1];rfl)) rfl rfl ?_
   refine eZ (cD rfl rfl rfl (by rw [hc1];rfl)) rfl rfl ?_
   refine eZ (cD rfl rfl rfl (by rw [hc1];rfl)) rfl rfl ?_
   refine oy (yY rfl rfl hc1 rfl) rfl<|oa rfl rfl<|bL fun a hA=>?_
   exact⟨false,hF,hA.part ⟨rfl,trivial⟩,((hS).MI [] rfl).uD [] rfl⟩
 ·skip
  clear hA hS hF
  rintro a w ⟨x1,hF,hA,hS⟩
  unfold lR at hF
  refine yI ?_
  cases hF
  exact fy Tryz.results295 hA rfl hS
theorem WB{w0:World}{l:List aO}{s1:Value}{r:Int}(h1:aM.rd (O0 w0) w0 [s1] (l:List aO))(hF:tI l=some r) :
    Calls Tryz.prog 35 #[s1] w0 (Ret fun v w'=>v=.int .i64 (r)∧St (dA w0) w' [] []):=by
 have hS:St (dA w0) w0 [] [zK [s1] (l:List aO)]:=St.enter (by
   intro f hf
   simp only [List.mem_cons,List.not_mem_nil,or_false] at hf
   subst hf;exact h1)
 refine yZ (args:=[_]) Tryz.func35 rfl Tryz.ntmps35 rfl ?_
 unfold tI at hF
 intro a hA
 refine bW<|cH hA ?_
 clear hA
 refine oa rfl rfl<|bL fun a hA=>bW<|cH hA ?_
 clear hA
 refine oa rfl rfl<|bL fun a hA=>bW<|bW<|cH hA ?_
 clear hA
 refine om rfl rfl<|oy (nO (hS.rd 0 rfl) Tryz.underlying51 rfl rfl) rfl<|om rfl rfl<|bL fun a hA=>?_
 obtain⟨o1,hl1,hF⟩:=rW hF
 refine CS (J:=fun a' w'=>∃(x5:Int),o1=x5∧kT 19 [(3,.int .i64 (x5))] a'∧St (dA w0) w' [] []) ?_ ?_
 ·refine kU ?_
  refine I2 (body:=iJ l) (r:=o1) (fun sg a' w'=>kT 19 [(3,.int .i64 (sg.1)),(6,s1),(7,.int .i64 ((l.length:Int))),(8,.int .i64 (sg.2))] a'∧St (dA w0) w' [] [zK [s1] (l:List aO)]) ?_ hl1 ⟨hA.part ⟨rfl,rfl,rfl,rfl,trivial⟩,((hS).MI [] rfl).uD [0] rfl⟩
  clear hA hS hl1
  rintro⟨x3,x4⟩ a w q1 ⟨hA,hS⟩ hG1 hr1
  try dsimp only at hA hS
  unfold iJ at hG1
  refine bW<|cH hA ?_
  clear hA
  refine oy (E5 rfl rfl rfl) rfl<|bL fun a hA=>bW<|kY hA rfl (fun hc1=>?_) (fun hc1=>?_)
  ·replace hG1:=LL hc1 hG1
   refine nN<|bW<|kU<|bW<|cH hA ?_
   clear hA
   obtain⟨x6,hx6,hG1⟩:=rW hG1
   refine oy (O5 (m:=1) (hS.rd 0 rfl) rfl hx6 Tryz.underlying51 Tryz.sizeOf103 rfl rfl rfl) rfl ?_
   obtain⟨s2,hel,hS⟩:=hS.aIC 0 rfl (jN hx6).2.2
   refine oy (O4 rfl rfl Tryz.isAgg103 Tryz.sizeOf103 rfl hel) rfl<|KC (LK (cs:=[(.slice none 0 0)]) hS rfl Tryz.zeroValue103 rfl) (bZ rfl) rfl rfl ?_
   clear hS
   rintro _ w ⟨b1,rfl,hS⟩
   refine O3 (SP (vs:=[s2]) hS (i:=0) rfl rfl rfl rfl rfl Tryz.sizeOf103 rfl rfl (aTX (Z5 (hS.rd 1 rfl)) rfl)) (bZ rfl) rfl ?_
   clear hS
   intro w hS
   refine bL fun a hA=>cH hA ?_
   clear hA
   refine om rfl rfl<|oy (yJ (m:=0) Tryz.underlying103 rfl rfl Tryz.sizeOf101 rfl rfl) rfl<|oy (iD rfl rfl Tryz.isAgg101 (hS.cell 0 rfl rfl)) rfl<|oy (nO (hS.rd 1 rfl) Tryz.underlying101 rfl rfl) rfl<|oy (KD rfl rfl rfl) rfl<|oa rfl rfl<|bL fun a hA=>cH hA ?_
   clear hA
   refine oy (KD rfl rfl rfl) rfl<|om rfl rfl<|bL fun a hA=>?_
   cases hG1
   exact⟨_,rfl,⟨hA.part ⟨rfl,rfl,rfl,rfl,trivial⟩,((hS).MI [] rfl).uD [0] rfl⟩⟩
  ·replace hG1:=LM hc1 hG1
   refine I1<|CQ ?_
   cases hG1
   have ho:=hr1 _ rfl;subst ho
   exact⟨x3,rfl,hA.part ⟨rfl,trivial⟩,((hS).MI [] rfl).uD [] rfl⟩
 ·skip
  clear hA hS hl1
  rintro a w ⟨x5,heq,hA,hS⟩
  replace hF:AL x5=some r:=by rw [heq] at hF;exact hF
  clear heq
  unfold AL at hF
  refine bW<|cH hA ?_
  clear hA
  refine om rfl rfl<|oa rfl rfl<|bL fun a hA=>yI ?_
  cases hF
  exact fy Tryz.results35 hA rfl hS
theorem aBD{w0:World}{l:List aO}{s1:Value}{r:Bool}(h1:aM.rd (O0 w0) w0 [s1] (l:List aO))(hF:lC l=some r) :
    Calls Tryz.prog 212 #[s1] w0 (Ret fun v w'=>v=.bool (r)∧St (dA w0) w' [] []):=by
 have hS:St (dA w0) w0 [] [zK [s1] (l:List aO)]:=St.enter (by
   intro f hf
   simp only [List.mem_cons,List.not_mem_nil,or_false] at hf
   subst hf;exact h1)
 refine yZ (args:=[_]) Tryz.func212 rfl Tryz.ntmps212 rfl ?_
 unfold lC at hF
 intro a hA
 refine bW<|cH hA ?_
 clear hA
 refine oa rfl rfl<|bL fun a hA=>bW<|bW<|cH hA ?_
 clear hA
 refine om rfl rfl<|oy (nO (hS.rd 0 rfl) Tryz.underlying51 rfl rfl) rfl<|oy (aFO rfl rfl rfl) rfl<|bL fun a hA=>kY hA rfl (fun hc1=>?_) (fun hc1=>?_)
 ·replace hF:=LL hc1 hF
  refine bW<|cH hA ?_
  clear hA
  refine oa rfl rfl<|bL fun a hA=>yI ?_
  cases hF
  exact fy Tryz.results212 hA rfl hS
 ·replace hF:=LM hc1 hF
  refine nN<|bW<|cH hA ?_
  clear hA
  refine oy (VK (cells:=#[.bool (false),.bool (false),.bool (false),.bool (false),.bool (false),.bool (false),.bool (false),.bool (false),.bool (false),.bool (false),.bool (false),.bool (false),.bool (false),.bool (false),.bool (false),.bool (false),.bool (false),.bool (false),.bool (false),.bool (false),.bool (false),.bool (false),.bool (false),.bool (false)]) rfl Tryz.zeroValue238 Tryz.underlying238 Tryz.sizeOf4 rfl rfl) rfl<|KC (LK (cs:=List.map (fun q:Bool=>Value.bool q) [false,false,false,false,false,false,false,false,false,false,false,false,false,false,false,false,false,false,false,false,false,false,false,false]) hS rfl Tryz.zeroValue238 rfl) (bZ rfl) rfl rfl ?_
  clear hS
  rintro _ w ⟨b1,rfl,hS⟩
  refine O3 (SP (vs:=[.bool (false),.bool (false),.bool (false),.bool (false),.bool (false),.bool (false),.bool (false),.bool (false),.bool (false),.bool (false),.bool (false),.bool (false),.bool (false),.bool (false),.bool (false),.bool (false),.bool (false),.bool (false),.bool (false),.bool (false),.bool (false),.bool (false),.bool (false),.bool (false)]) hS (i:=0) rfl rfl rfl rfl rfl Tryz.sizeOf238 rfl rfl rfl) (bZ rfl) rfl ?_
  clear hS
  intro w hS
  refine bL fun a hA=>bW<|bW<|cH hA ?_
  clear hA
  refine om rfl rfl<|oy (nO (hS.rd 0 rfl) Tryz.underlying51 rfl rfl) rfl<|om rfl rfl<|bL fun a hA=>?_
  obtain⟨o1,hl1,hF⟩:=rW hF
  refine CS (J:=fun a' w'=>o1=Out.brk ()∧kT 51 [(0,s1)] a'∧St (dA w0) w' [] [zK [s1] (l:List aO)]) ?_ ?_
  ·refine kU ?_
   refine I2 (body:=kO l) (r:=o1) (fun sg a' w'=>kT 51 [(0,s1),(3,.pointer (some ⟨b1,0,none⟩)),(12,s1),(13,.int .i64 ((l.length:Int))),(14,.int .i64 (sg.1))] a'∧St (dA w0) w' [CJ b1 (List.map (fun q:Bool=>Value.bool q) (sg.2:List Bool))] [zK [s1] (l:List aO)]) ?_ hl1 ⟨hA.part ⟨rfl,rfl,rfl,rfl,rfl,trivial⟩,((hS).MI [0] rfl).uD [0] rfl⟩
   clear hA hS hl1
   rintro⟨x3,x4⟩ a w q1 ⟨hA,hS⟩ hG1 hr1
   try dsimp only at hA hS
   unfold kO at hG1
   refine bW<|cH hA ?_
   clear hA
   refine oy (E5 rfl rfl rfl) rfl<|bL fun a hA=>bW<|kY hA rfl (fun hc2=>?_) (fun hc2=>?_)
   ·replace hG1:=LL hc2 hG1
    refine nN<|bW<|kU<|bW<|cH hA ?_
    clear hA
    obtain⟨x6,hx6,hG1⟩:=rW hG1
    refine oy (O5 (m:=1) (hS.rd 0 rfl) rfl hx6 Tryz.underlying51 Tryz.sizeOf103 rfl rfl rfl) rfl ?_
    obtain⟨s2,hel,hS⟩:=hS.aIC 0 rfl (jN hx6).2.2
    refine oy (O4 rfl rfl Tryz.isAgg103 Tryz.sizeOf103 rfl hel) rfl<|KC (LK (cs:=[(.slice none 0 0)]) hS rfl Tryz.zeroValue103 rfl) (bZ rfl) rfl rfl ?_
    clear hS
    rintro _ w ⟨b2,rfl,hS⟩
    refine O3 (SP (vs:=[s2]) hS (i:=1) rfl rfl rfl rfl rfl Tryz.sizeOf103 rfl rfl (aTX (Z5 (hS.rd 1 rfl)) rfl)) (bZ rfl) rfl ?_
    clear hS
    intro w hS
    refine bL fun a hA=>bW<|cH hA ?_
    clear hA
    refine oy (yJ (m:=0) Tryz.underlying103 rfl rfl Tryz.sizeOf101 rfl rfl) rfl<|oy (iD rfl rfl Tryz.isAgg101 (hS.cell 1 rfl rfl)) rfl<|oy (nO (hS.rd 1 rfl) Tryz.underlying101 rfl rfl) rfl<|om rfl rfl<|bL fun a hA=>?_
    obtain⟨o2,hl2,hG1⟩:=rW hG1
    refine CS (J:=fun a' w'=>∃(x11:List Bool),o2=Out.brk x11∧kT 51 [(0,s1),(3,.pointer (some ⟨b1,0,none⟩)),(12,s1),(13,.int .i64 ((l.length:Int))),(14,.int .i64 (x3))] a'∧St (dA w0) w' [CJ b1 (List.map (fun q:Bool=>Value.bool q) (x11:List Bool))] [zK [s1] (l:List aO)]) ?_ ?_
    ·refine kU ?_
     refine I2 (body:=kN x6) (r:=o2) (fun sg a' w'=>kT 51 [(0,s1),(3,.pointer (some ⟨b1,0,none⟩)),(12,s1),(13,.int .i64 ((l.length:Int))),(14,.int .i64 (x3)),(19,s2),(20,.int .i64 ((x6.Rows.length:Int))),(21,.int .i64 (sg.1))] a'∧St (dA w0) w' [CJ b1 (List.map (fun q:Bool=>Value.bool q) (sg.2:List Bool))] [zK [s1] (l:List aO),zK [s2] (x6.Rows:List b8)]) ?_ hl2 ⟨hA.part ⟨rfl,rfl,rfl,rfl,rfl,rfl,rfl,rfl,trivial⟩,((hS).MI [0] rfl).uD [0,1] rfl⟩
     clear hA hS hl2
     rintro⟨x9,x10⟩ a w q2 ⟨hA,hS⟩ hG2 hr2
     try dsimp only at hA hS
     unfold kN at hG2
     refine bW<|cH hA ?_
     clear hA
     refine oy (E5 rfl rfl rfl) rfl<|bL fun a hA=>bW<|kY hA rfl (fun hc3=>?_) (fun hc3=>?_)
     ·replace hG2:=LL hc3 hG2
      refine nN<|bW<|kU<|bW<|cH hA ?_
      clear hA
      obtain⟨x12,hx12,hG2⟩:=rW hG2
      refine oy (O5 (m:=2) (hS.rd 1 rfl) rfl hx12 Tryz.underlying101 Tryz.sizeOf105 rfl rfl rfl) rfl<|oy (O4 rfl rfl Tryz.isAgg105 Tryz.sizeOf105 rfl (aR9 (hS.rd 1 rfl) (jN hx12).2.2)) rfl<|KC (LK (cs:=[.int .i64 (0),.int .i64 (0)]) hS rfl Tryz.zeroValue105 rfl) (bZ rfl) rfl rfl ?_
      clear hS
      rintro _ w ⟨b3,rfl,hS⟩
      refine O3 (SP (vs:=[.int .i64 (x12.Handle),.int .i64 (x12.aL)]) hS (i:=1) rfl rfl rfl rfl rfl Tryz.sizeOf105 rfl rfl rfl) (bZ rfl) rfl ?_
      clear hS
      intro w hS
      refine bL fun a hA=>bW<|bW<|CS (J:=fun a' w'=>∃(x13:Bool),iX x9 x10 x12 x13=some q2∧kT 51 [(0,s1),(3,.pointer (some ⟨b1,0,none⟩)),(7,.pointer (some ⟨b3,0,none⟩)),(12,s1),(13,.int .i64 ((l.length:Int))),(14,.int .i64 (x3)),(19,s2),(20,.int .i64 ((x6.Rows.length:Int))),(21,.int .i64 (x9)),(41,.bool (x13))] a'∧St (dA w0) w' [CJ b1 (List.map (fun q:Bool=>Value.bool q) (x10:List Bool)),CJ b3 [.int .i64 (x12.Handle),.int .i64 (x12.aL)]] [zK [s1] (l:List aO),zK [s2] (x6.Rows:List b8)]) ?_ ?_
      ·skip
       refine cH hA ?_
       clear hA
       refine oy (yJ (m:=0) Tryz.underlying105 rfl rfl Tryz.sizeOf3 rfl rfl) rfl<|oy (iD rfl rfl Tryz.isAgg3 (hS.cell 1 rfl rfl)) rfl ?_
       obtain⟨x15,hx15,hG2⟩:=rW hG2
       refine W1 (I5 Tryz.call295 rfl rfl) (bZ rfl) rfl rfl (YI (h:=x12.Handle) hx15) ?_
       rintro _ w ⟨rfl,hk⟩
       replace hS:=hS.after hk;clear hk
       refine oy (ZY rfl rfl) rfl<|om rfl rfl<|HE (s:=29) rfl (fun hc5=>?_) (fun hc5=>?_)
       ·replace hG2:=LL hc5 hG2
        refine eZ (cD rfl rfl rfl (by rw [hc5];rfl)) rfl rfl ?_
        refine eZ (cD rfl rfl rfl (by rw [hc5];rfl)) rfl rfl ?_
        refine eZ (cD rfl rfl rfl (by rw [hc5];rfl)) rfl rfl ?_
        refine eZ (cD rfl rfl rfl (by rw [hc5];rfl)) rfl rfl ?_
        refine oy (uC rfl rfl hc5 rfl) rfl<|om rfl rfl<|eZ (cD rfl rfl rfl rfl) rfl rfl<|eZ (cD rfl rfl rfl rfl) rfl rfl<|eZ (cD rfl rfl rfl rfl) rfl rfl<|eZ (cD rfl rfl rfl rfl) rfl rfl<|eZ (cD rfl rfl rfl rfl) rfl rfl<|oy (uC rfl rfl rfl rfl) rfl<|bL fun a hA=>?_
        exact⟨true,hG2,hA.part ⟨rfl,rfl,rfl,rfl,rfl,rfl,rfl,rfl,rfl,rfl,trivial⟩,((hS).MI [0,1] rfl).uD [0,1] rfl⟩
       ·replace hG2:=LM hc5 hG2
        refine eV (yJ (m:=0) Tryz.underlying105 rfl rfl Tryz.sizeOf3 rfl rfl) (cD rfl rfl rfl (by rw [hc5];rfl)) rfl rfl ?_
        refine eV (iD rfl rfl Tryz.isAgg3 (hS.cell 1 rfl rfl)) (cD rfl rfl rfl (by rw [hc5];rfl)) rfl rfl ?_
        obtain⟨x16,hx16,hG2⟩:=rW hG2
        refine W1 (I5 Tryz.call107 rfl rfl) (cD rfl rfl rfl (by rw [hc5];rfl)) rfl rfl (KV (n:=x12.aL) (low:=0) (high:=100000) hx16) ?_
        rintro _ w ⟨rfl,hk⟩
        replace hS:=hS.after hk;clear hk
        refine eV (ZY rfl rfl) (cD rfl rfl rfl (by rw [hc5];rfl)) rfl rfl ?_
        refine oy (yY rfl rfl hc5 rfl) rfl<|om rfl rfl<|HE (s:=35) rfl (fun hc6=>?_) (fun hc6=>?_)
        ·replace hG2:=LL hc6 hG2
         refine eZ (cD rfl rfl rfl (by rw [hc6];rfl)) rfl rfl ?_
         refine eZ (cD rfl rfl rfl (by rw [hc6];rfl)) rfl rfl ?_
         refine eZ (cD rfl rfl rfl (by rw [hc6];rfl)) rfl rfl ?_
         refine eZ (cD rfl rfl rfl (by rw [hc6];rfl)) rfl rfl ?_
         refine eZ (cD rfl rfl rfl (by rw [hc6];rfl)) rfl rfl ?_
         refine oy (uC rfl rfl hc6 rfl) rfl<|bL fun a hA=>?_
         exact⟨true,hG2,hA.part ⟨rfl,rfl,rfl,rfl,rfl,rfl,rfl,rfl,rfl,rfl,trivial⟩,((hS).MI [0,1] rfl).uD [0,1] rfl⟩
        ·replace hG2:=LM hc6 hG2
         refine eV (yJ (m:=0) Tryz.underlying105 rfl rfl Tryz.sizeOf3 rfl rfl) (cD rfl rfl rfl (by rw [hc6];rfl)) rfl rfl ?_
         refine eV (iD rfl rfl Tryz.isAgg3 (hS.cell 1 rfl rfl)) (cD rfl rfl rfl (by rw [hc6];rfl)) rfl rfl ?_
         refine eV (VJ rfl rfl rfl (by decide)) (cD rfl rfl rfl (by rw [hc6];rfl)) rfl rfl ?_
         obtain⟨hn2,hG2⟩:=jO hG2
         refine eV (ZF Tryz.underlying238 Tryz.sizeOf4 hn2 rfl rfl rfl) (cD rfl rfl rfl (by rw [hc6];rfl)) rfl rfl ?_
         obtain⟨x17,hx17,hG2⟩:=rW hG2
         refine eV (iD rfl rfl Tryz.isAgg4 (hS.aKL 0 rfl hx17)) (cD rfl rfl rfl (by rw [hc6];rfl)) rfl rfl ?_
         refine oy (yY rfl rfl hc6 rfl) rfl<|bL fun a hA=>?_
         exact⟨x17,hG2,hA.part ⟨rfl,rfl,rfl,rfl,rfl,rfl,rfl,rfl,rfl,rfl,trivial⟩,((hS).MI [0,1] rfl).uD [0,1] rfl⟩
      ·skip
       clear hA hS hG2
       rintro a w ⟨x13,hG2,hA,hS⟩
       unfold iX at hG2
       refine kY hA rfl (fun hc4=>?_) (fun hc4=>?_)
       ·replace hG2:=LL hc4 hG2
        refine bW<|cH hA ?_
        clear hA
        refine oa rfl rfl<|bL fun a hA=>yI ?_
        cases hG2
        have ho:=hr2 _ rfl;subst ho
        replace hG1:some (.stop (Out.ret false))=some q1:=hG1
        cases hG1
        have ho:=hr1 _ rfl;subst ho
        replace hF:some false=some r:=hF
        cases hF
        exact fy Tryz.results212 hA rfl hS
       ·replace hG2:=LM hc4 hG2
        refine nN<|cH hA ?_
        clear hA
        refine oy (yJ (m:=0) Tryz.underlying105 rfl rfl Tryz.sizeOf3 rfl rfl) rfl<|oy (iD rfl rfl Tryz.isAgg3 (hS.cell 1 rfl rfl)) rfl<|oy (VJ rfl rfl rfl (by decide)) rfl ?_
        obtain⟨hn1,hG2⟩:=jO hG2
        refine oy (ZF Tryz.underlying238 Tryz.sizeOf4 hn1 rfl rfl rfl) rfl ?_
        obtain⟨x14,hx14,hG2⟩:=rW hG2
        refine O3 (aN2 (xd:=true) hS (m:=0) rfl hx14 Tryz.sizeOf4 rfl rfl rfl rfl rfl rfl) (bZ rfl) rfl ?_
        clear hS
        intro w hS
        refine bL fun a hA=>cH hA ?_
        clear hA
        refine oy (KD rfl rfl rfl) rfl<|om rfl rfl<|bL fun a hA=>?_
        cases hG2
        exact⟨_,rfl,⟨hA.part ⟨rfl,rfl,rfl,rfl,rfl,rfl,rfl,rfl,trivial⟩,((hS).MI [0] rfl).uD [0,1] rfl⟩⟩
     ·replace hG2:=LM hc3 hG2
      refine I1<|CQ ?_
      cases hG2
      have ho:=hr2 _ rfl;subst ho
      exact⟨x10,rfl,hA.part ⟨rfl,rfl,rfl,rfl,rfl,trivial⟩,((hS).MI [0] rfl).uD [0] rfl⟩
    ·skip
     clear hA hS hl2
     rintro a w ⟨x11,heq,hA,hS⟩
     replace hG1:xP x3 x11=some q1:=by rw [heq] at hG1;exact hG1
     clear heq
     unfold xP at hG1
     refine cH hA ?_
     clear hA
     refine oy (KD rfl rfl rfl) rfl<|om rfl rfl<|bL fun a hA=>?_
     cases hG1
     exact⟨_,rfl,⟨hA.part ⟨rfl,rfl,rfl,rfl,rfl,trivial⟩,((hS).MI [0] rfl).uD [0] rfl⟩⟩
   ·replace hG1:=LM hc2 hG1
    refine I1<|CQ ?_
    cases hG1
    have ho:=hr1 _ rfl;subst ho
    exact⟨rfl,hA.part ⟨rfl,trivial⟩,((hS).MI [] rfl).uD [0] rfl⟩
  ·skip
   clear hA hS hl1
   rintro a w ⟨heq,hA,hS⟩
   replace hF:xO l=some r:=by rw [heq] at hF;exact hF
   clear heq
   unfold xO at hF
   refine bW<|cH hA ?_
   clear hA
   refine om rfl rfl ?_
   obtain⟨x5,hx5,hF⟩:=rW hF
   refine W1 (I5 Tryz.call35 rfl rfl) (bZ rfl) rfl rfl (WB (l:=l) (hS.rd 0 rfl) hx5) ?_
   rintro _ w ⟨rfl,hk⟩
   replace hS:=hS.after hk;clear hk
   refine oy (aI1 rfl rfl rfl) rfl<|oa rfl rfl<|bL fun a hA=>yI ?_
   cases hF
   exact fy Tryz.results212 hA rfl hS
end Go.Proofs.YtbdmodalljibjaaGreat
end
