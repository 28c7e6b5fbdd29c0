import Derived.Test.YtabnjpbikjfhoaaGreatXRC
import Derived.Test.YtabnjpbikjfhoaaGreatProg
set_option linter.unusedVariables false
set_option linter.unusedSimpArgs false
set_option linter.unusedSectionVars false
set_option linter.constructorNameAsVariable false
set_option linter.unnecessarySimpa false
noncomputable section
set_option maxHeartbeats 4000000
set_option maxRecDepth 100000
namespace Go.Proofs.YtabnjpbikjfhoaaGreat
open Go.Gv
theorem bI:RC Tryz.prog 3 1 (.int .i64 0):=FR (b:=8) (by kernel_rfl) rfl
theorem m8:RC Tryz.prog 122 1 (.agg #[.slice none 0 0]):=FR (b:=24) (by kernel_rfl) rfl
theorem d5:RC Tryz.prog 87 4 (.agg #[.int .i64 0,.int .i64 0,.int .i64 0,.int .i64 0]):=FR (b:=32) (by kernel_rfl) rfl
theorem dR:RC Tryz.prog 148 1 (.agg #[.slice none 0 0]):=FR (b:=24) (by kernel_rfl) rfl
theorem HR:RC Tryz.prog 100 4 (.agg #[.bool false,.int .i64 0,.bool false,.int .i64 0]):=FR (b:=32) (by kernel_rfl) rfl
theorem DQ:RC Tryz.prog 152 1 (.agg #[.slice none 0 0]):=FR (b:=24) (by kernel_rfl) rfl
theorem fB:RC Tryz.prog 91 21 (.agg #[.bool false,.int .i64 0,.int .i64 0,.int .i64 0,.int .i64 0,.int .i64 0,.int .i64 0,.int .i64 0,.int .i64 0,.int .i64 0,.int .i64 0,.int .i64 0,.int .i64 0,.int .i64 0,.int .i64 0,.int .i64 0,.bool false,.int .i64 0,.int .i64 0,.int .i64 0,.int .i64 0]):=FR (b:=168) (by kernel_rfl) rfl
theorem GD:RC Tryz.prog 97 2 (.agg #[.int .i64 0,.int .i64 0]):=FR (b:=16) (by kernel_rfl) rfl
theorem BW:RC Tryz.prog 50 7 (.agg #[.int .i64 0,.int .i64 0,.int .i64 0,.int .i64 0,.int .i64 0,.int .i64 0,.int .i64 0]):=FR (b:=56) (by kernel_rfl) rfl
theorem aHO:RC Tryz.prog 32 1 (.slice none 0 0):=FR (b:=24) (by kernel_rfl) rfl
theorem aKV:RC Tryz.prog 5 1 (.int .u8 0):=FR (b:=1) (by kernel_rfl) rfl
theorem aT:Tryz.prog.follows .mixedOrders=true:=by kernel_rfl
theorem aFN(D:Nat)(d d':o8)(w:World):(Op.eqFields (D+2) #[.bool (d.On),.int .i64 (d.aJ),.bool (d.dI),.int .i64 (d.Seen)] #[.bool (d'.On),.int .i64 (d'.aJ),.bool (d'.dI),.int .i64 (d'.Seen)] (match Tryz.prog.underlying 100 with | some (.struct fs)=>fs | _=>#[]).toList).run Tryz.prog w=.ok (decide (d=d')) w:=by
  rw [Tryz.underlying100]
  have h:(d.On == d'.On && (d.aJ == d'.aJ && (d.dI == d'.dI && (d.Seen == d'.Seen && true))))=decide (d=d'):=by
    cases d;cases d';rw [Bool.eq_iff_iff];simp
  rw [←h]
  exact dN _ _ _ _ _ rfl (dZ Tryz.isAgg4 rfl) (dZ Tryz.isAgg4 rfl) (WR Tryz.underlying4)<|
    dN _ _ _ _ _ rfl (dZ Tryz.isAgg3 rfl) (dZ Tryz.isAgg3 rfl) (i9 Tryz.underlying3)<|
    dN _ _ _ _ _ rfl (dZ Tryz.isAgg4 rfl) (dZ Tryz.isAgg4 rfl) (WR Tryz.underlying4)<|
    dN _ _ _ _ _ rfl (dZ Tryz.isAgg3 rfl) (dZ Tryz.isAgg3 rfl) (i9 Tryz.underlying3)<|
    RF _ _ _
theorem aHP(D:Nat)(d d':dO)(w:World):(Op.eqFields (D+2) #[.int .i64 (d.Kind),.int .i64 (d.Cell),.int .i64 (d.f8),.int .i64 (d.cV)] #[.int .i64 (d'.Kind),.int .i64 (d'.Cell),.int .i64 (d'.f8),.int .i64 (d'.cV)] (match Tryz.prog.underlying 87 with | some (.struct fs)=>fs | _=>#[]).toList).run Tryz.prog w=.ok (decide (d=d')) w:=by
  rw [Tryz.underlying87]
  have h:(d.Kind == d'.Kind && (d.Cell == d'.Cell && (d.f8 == d'.f8 && (d.cV == d'.cV && true))))=decide (d=d'):=by
    cases d;cases d';rw [Bool.eq_iff_iff];simp
  rw [←h]
  exact dN _ _ _ _ _ rfl (dZ Tryz.isAgg3 rfl) (dZ Tryz.isAgg3 rfl) (i9 Tryz.underlying3)<|
    dN _ _ _ _ _ rfl (dZ Tryz.isAgg3 rfl) (dZ Tryz.isAgg3 rfl) (i9 Tryz.underlying3)<|
    dN _ _ _ _ _ rfl (dZ Tryz.isAgg3 rfl) (dZ Tryz.isAgg3 rfl) (i9 Tryz.underlying3)<|
    dN _ _ _ _ _ rfl (dZ Tryz.isAgg3 rfl) (dZ Tryz.isAgg3 rfl) (i9 Tryz.underlying3)<|
    RF _ _ _
theorem aHQ(D:Nat)(d d':Sub)(w:World):(Op.eqFields (D+2) #[.int .i64 (d.Kind),.int .i64 (d.A),.int .i64 (d.Pc),.int .i64 (d.E),.int .i64 (d.Row),.int .i64 (d.B),.int .i64 (d.H),.int .i64 (d.Out),.int .i64 (d.Code),.bool (d.cE)] #[.int .i64 (d'.Kind),.int .i64 (d'.A),.int .i64 (d'.Pc),.int .i64 (d'.E),.int .i64 (d'.Row),.int .i64 (d'.B),.int .i64 (d'.H),.int .i64 (d'.Out),.int .i64 (d'.Code),.bool (d'.cE)] (match Tryz.prog.underlying 89 with | some (.struct fs)=>fs | _=>#[]).toList).run Tryz.prog w=.ok (decide (d=d')) w:=by
  rw [Tryz.underlying89]
  have h:(d.Kind == d'.Kind && (d.A == d'.A && (d.Pc == d'.Pc && (d.E == d'.E && (d.Row == d'.Row && (d.B == d'.B && (d.H == d'.H && (d.Out == d'.Out && (d.Code == d'.Code && (d.cE == d'.cE && true))))))))))=decide (d=d'):=by
    cases d;cases d';rw [Bool.eq_iff_iff];simp
  rw [←h]
  exact dN _ _ _ _ _ rfl (dZ Tryz.isAgg3 rfl) (dZ Tryz.isAgg3 rfl) (i9 Tryz.underlying3)<|
    dN _ _ _ _ _ rfl (dZ Tryz.isAgg3 rfl) (dZ Tryz.isAgg3 rfl) (i9 Tryz.underlying3)<|
    dN _ _ _ _ _ rfl (dZ Tryz.isAgg3 rfl) (dZ Tryz.isAgg3 rfl) (i9 Tryz.underlying3)<|
    dN _ _ _ _ _ rfl (dZ Tryz.isAgg3 rfl) (dZ Tryz.isAgg3 rfl) (i9 Tryz.underlying3)<|
    dN _ _ _ _ _ rfl (dZ Tryz.isAgg3 rfl) (dZ Tryz.isAgg3 rfl) (i9 Tryz.underlying3)<|
    dN _ _ _ _ _ rfl (dZ Tryz.isAgg3 rfl) (dZ Tryz.isAgg3 rfl) (i9 Tryz.underlying3)<|
    dN _ _ _ _ _ rfl (dZ Tryz.isAgg3 rfl) (dZ Tryz.isAgg3 rfl) (i9 Tryz.underlying3)<|
    dN _ _ _ _ _ rfl (dZ Tryz.isAgg3 rfl) (dZ Tryz.isAgg3 rfl) (i9 Tryz.underlying3)<|
    dN _ _ _ _ _ rfl (dZ Tryz.isAgg3 rfl) (dZ Tryz.isAgg3 rfl) (i9 Tryz.underlying3)<|
    dN _ _ _ _ _ rfl (dZ Tryz.isAgg4 rfl) (dZ Tryz.isAgg4 rfl) (WR Tryz.underlying4)<|
    RF _ _ _
theorem aHR(D:Nat)(d d':aZ)(w:World):(Op.eqFields (D+3) #[.bool (d.dE),.int .i64 (d.Op.Kind),.int .i64 (d.Op.Cell),.int .i64 (d.Op.f8),.int .i64 (d.Op.cV),.int .i64 (d.aG),.int .i64 (d.Pc),.int .i64 (d.Sub.Kind),.int .i64 (d.Sub.A),.int .i64 (d.Sub.Pc),.int .i64 (d.Sub.E),.int .i64 (d.Sub.Row),.int .i64 (d.Sub.B),.int .i64 (d.Sub.H),.int .i64 (d.Sub.Out),.int .i64 (d.Sub.Code),.bool (d.Sub.cE),.int .i64 (d.H),.int .i64 (d.Old),.int .i64 (d.cV),.int .i64 (d.Code)] #[.bool (d'.dE),.int .i64 (d'.Op.Kind),.int .i64 (d'.Op.Cell),.int .i64 (d'.Op.f8),.int .i64 (d'.Op.cV),.int .i64 (d'.aG),.int .i64 (d'.Pc),.int .i64 (d'.Sub.Kind),.int .i64 (d'.Sub.A),.int .i64 (d'.Sub.Pc),.int .i64 (d'.Sub.E),.int .i64 (d'.Sub.Row),.int .i64 (d'.Sub.B),.int .i64 (d'.Sub.H),.int .i64 (d'.Sub.Out),.int .i64 (d'.Sub.Code),.bool (d'.Sub.cE),.int .i64 (d'.H),.int .i64 (d'.Old),.int .i64 (d'.cV),.int .i64 (d'.Code)] (match Tryz.prog.underlying 91 with | some (.struct fs)=>fs | _=>#[]).toList).run Tryz.prog w=.ok (decide (d=d')) w:=by
  rw [Tryz.underlying91]
  have h:(d.dE == d'.dE && (decide (d.Op=d'.Op) && (d.aG == d'.aG && (d.Pc == d'.Pc && (decide (d.Sub=d'.Sub) && (d.H == d'.H && (d.Old == d'.Old && (d.cV == d'.cV && (d.Code == d'.Code && true)))))))))=decide (d=d'):=by
    cases d;cases d';rw [Bool.eq_iff_iff];simp
  rw [←h]
  exact dN _ _ _ _ _ rfl (dZ Tryz.isAgg4 rfl) (dZ Tryz.isAgg4 rfl) (WR Tryz.underlying4)<|
    dN _ _ _ _ _ rfl (aIQ (vs:=#[.int .i64 (d.Op.Kind),.int .i64 (d.Op.Cell),.int .i64 (d.Op.f8),.int .i64 (d.Op.cV)]) Tryz.isAgg87 Tryz.sizeOf87 rfl) (aIQ (vs:=#[.int .i64 (d'.Op.Kind),.int .i64 (d'.Op.Cell),.int .i64 (d'.Op.f8),.int .i64 (d'.Op.cV)]) Tryz.isAgg87 Tryz.sizeOf87 rfl) (aBY Tryz.stoodInHeld87 Tryz.underlying87 (aHP D _ _ w))<|
    dN _ _ _ _ _ rfl (dZ Tryz.isAgg3 rfl) (dZ Tryz.isAgg3 rfl) (i9 Tryz.underlying3)<|
    dN _ _ _ _ _ rfl (dZ Tryz.isAgg3 rfl) (dZ Tryz.isAgg3 rfl) (i9 Tryz.underlying3)<|
    dN _ _ _ _ _ rfl (aIQ (vs:=#[.int .i64 (d.Sub.Kind),.int .i64 (d.Sub.A),.int .i64 (d.Sub.Pc),.int .i64 (d.Sub.E),.int .i64 (d.Sub.Row),.int .i64 (d.Sub.B),.int .i64 (d.Sub.H),.int .i64 (d.Sub.Out),.int .i64 (d.Sub.Code),.bool (d.Sub.cE)]) Tryz.isAgg89 Tryz.sizeOf89 rfl) (aIQ (vs:=#[.int .i64 (d'.Sub.Kind),.int .i64 (d'.Sub.A),.int .i64 (d'.Sub.Pc),.int .i64 (d'.Sub.E),.int .i64 (d'.Sub.Row),.int .i64 (d'.Sub.B),.int .i64 (d'.Sub.H),.int .i64 (d'.Sub.Out),.int .i64 (d'.Sub.Code),.bool (d'.Sub.cE)]) Tryz.isAgg89 Tryz.sizeOf89 rfl) (aBY Tryz.stoodInHeld89 Tryz.underlying89 (aHQ D _ _ w))<|
    dN _ _ _ _ _ rfl (dZ Tryz.isAgg3 rfl) (dZ Tryz.isAgg3 rfl) (i9 Tryz.underlying3)<|
    dN _ _ _ _ _ rfl (dZ Tryz.isAgg3 rfl) (dZ Tryz.isAgg3 rfl) (i9 Tryz.underlying3)<|
    dN _ _ _ _ _ rfl (dZ Tryz.isAgg3 rfl) (dZ Tryz.isAgg3 rfl) (i9 Tryz.underlying3)<|
    dN _ _ _ _ _ rfl (dZ Tryz.isAgg3 rfl) (dZ Tryz.isAgg3 rfl) (i9 Tryz.underlying3)<|
    RF _ _ _
theorem aHS(D:Nat)(d d':Ev)(w:World):(Op.eqFields (D+2) #[.int .i64 (d.Kind),.int .i64 (d.VQ),.int .i64 (d.aG),.int .i64 (d.Cell),.int .i64 (d.Handle),.int .i64 (d.cV),.int .i64 (d.Code)] #[.int .i64 (d'.Kind),.int .i64 (d'.VQ),.int .i64 (d'.aG),.int .i64 (d'.Cell),.int .i64 (d'.Handle),.int .i64 (d'.cV),.int .i64 (d'.Code)] (match Tryz.prog.underlying 50 with | some (.struct fs)=>fs | _=>#[]).toList).run Tryz.prog w=.ok (decide (d=d')) w:=by
  rw [Tryz.underlying50]
  have h:(d.Kind == d'.Kind && (d.VQ == d'.VQ && (d.aG == d'.aG && (d.Cell == d'.Cell && (d.Handle == d'.Handle && (d.cV == d'.cV && (d.Code == d'.Code && true)))))))=decide (d=d'):=by
    cases d;cases d';rw [Bool.eq_iff_iff];simp
  rw [←h]
  exact dN _ _ _ _ _ rfl (dZ Tryz.isAgg3 rfl) (dZ Tryz.isAgg3 rfl) (i9 Tryz.underlying3)<|
    dN _ _ _ _ _ rfl (dZ Tryz.isAgg3 rfl) (dZ Tryz.isAgg3 rfl) (i9 Tryz.underlying3)<|
    dN _ _ _ _ _ rfl (dZ Tryz.isAgg3 rfl) (dZ Tryz.isAgg3 rfl) (i9 Tryz.underlying3)<|
    dN _ _ _ _ _ rfl (dZ Tryz.isAgg3 rfl) (dZ Tryz.isAgg3 rfl) (i9 Tryz.underlying3)<|
    dN _ _ _ _ _ rfl (dZ Tryz.isAgg3 rfl) (dZ Tryz.isAgg3 rfl) (i9 Tryz.underlying3)<|
    dN _ _ _ _ _ rfl (dZ Tryz.isAgg3 rfl) (dZ Tryz.isAgg3 rfl) (i9 Tryz.underlying3)<|
    dN _ _ _ _ _ rfl (dZ Tryz.isAgg3 rfl) (dZ Tryz.isAgg3 rfl) (i9 Tryz.underlying3)<|
    RF _ _ _
set_option maxRecDepth 100000 in
theorem JU{w0:World}{n:Int}(hn:0≤n∧n≤1073741824) :
    Calls Tryz.prog 340 #[.slice none 0 0,.int .i64 n] w0 (Ret fun v w'=>∃s0_0:Value,v=s0_0∧St (cQ w0) w' [fV [s0_0] ([]:List Raw)] []):=by
  have hS:St (cQ w0) w0 [] []:=St.enter (by intro f hf;cases hf)
  have hw:bC (n - bC (0 - 0))=n:=by
    rw [FU (x:=0 - 0) (by omega),FU (by omega)];omega
  refine aMA (args:=[_,_]) Tryz.func340 rfl Tryz.ntmps340 rfl ?_
  intro a hA
  refine bK ?_
  refine cD hA ?_
  clear hA
  refine eX (BM rfl rfl) (bQ rfl) rfl rfl ?_
  refine bE ?_
  intro a hA
  refine bK ?_
  refine bK ?_
  refine cD hA ?_
  clear hA
  refine eX (mS rfl rfl) (bQ rfl) rfl rfl ?_
  refine eX (DX rfl rfl rfl) (bQ rfl) rfl rfl ?_
  refine bE ?_
  intro a hA
  refine kY hA rfl (fun hc=>?_) (fun hc=>?_)
  · exfalso;simp at hc;omega
  refine nG ?_
  refine bK ?_
  refine bK ?_
  refine cD hA ?_
  clear hA
  refine eX (mS rfl rfl) (bQ rfl) rfl rfl ?_
  refine eX (mS rfl rfl) (bQ rfl) rfl rfl ?_
  refine eX (aB3 Tryz.underlying32 rfl rfl) (bQ rfl) rfl rfl ?_
  refine eX (mS rfl rfl) (bQ rfl) rfl rfl ?_
  refine eX (nH (aME (α:=Raw) (S:=F0)) Tryz.underlying32 rfl rfl) (bQ rfl) rfl rfl ?_
  refine eX (aGU rfl rfl rfl) (bQ rfl) rfl rfl ?_
  refine eX (aGU rfl rfl rfl) (bQ rfl) rfl rfl ?_
  refine eX (BM rfl rfl) (bQ rfl) rfl rfl ?_
  refine bE ?_
  intro a hA
  refine bK ?_
  refine cD hA ?_
  clear hA
  refine eX (mS rfl rfl) (bQ rfl) rfl rfl ?_
  refine eX (aGX rfl rfl rfl) (bQ rfl) rfl rfl ?_
  refine bE ?_
  intro a hA
  refine kY hA rfl (fun hc=>?_) (fun hc=>?_)
  · have hn1:0 < n:=by
      have h2:decide (0 < bC (n - bC (0 - 0)))=true:=hc
      rw [hw] at h2;simpa using h2
    refine cD hA ?_
    clear hA
    refine eX (mS rfl rfl) (bQ rfl) rfl rfl ?_
    refine eX (mS rfl rfl) (bQ rfl) rfl rfl ?_
    refine eX (aB3 Tryz.underlying32 rfl rfl) (bQ rfl) rfl rfl ?_
    refine eX (aIX (s:=.slice none 0 0) ⟨_,_,_,rfl⟩ Tryz.underlying32 Tryz.sizeOf148 rfl rfl rfl) (bQ rfl) rfl rfl ?_
    refine eX (mS rfl rfl) (bQ rfl) rfl rfl ?_
    refine HY (aRF (i:=bC (n - bC (0 - 0))) hS Tryz.underlying32 Tryz.underlying3 dR rfl rfl (by rw [hw];omega) rfl rfl rfl) (bQ rfl) rfl rfl ?_
    clear hS
    intro s w hS
    refine eX (mS rfl rfl) (bQ rfl) rfl rfl ?_
    refine eX (nH (aME (α:=Raw) (S:=F0)) Tryz.underlying32 rfl rfl) (bQ rfl) rfl rfl ?_
    refine eX (aIX (hS.aMY 0 rfl) Tryz.underlying32 Tryz.sizeOf148 rfl rfl rfl) (bQ rfl) rfl rfl ?_
    refine eX (BM rfl rfl) (bQ rfl) rfl rfl ?_
    refine bE ?_
    intro a hA
    replace hS:=hS.aUS (α:=Raw) 0 rfl rfl
    refine bK ?_
    refine cD hA ?_
    clear hA
    refine eX (mS rfl rfl) (bQ rfl) rfl rfl ?_
    refine eX (BM rfl rfl) (bQ rfl) rfl rfl ?_
    refine bE ?_
    intro a hA
    refine xN ?_
    exact aQ2 Tryz.results340 hA (WQ rfl) ⟨_,rfl,(hS.KC [0] rfl).weaken (R':=[]) (fun _ h=>nomatch h)⟩
  · refine nG ?_
    replace hS:=hS.aUL (α:=Raw)
    refine bK ?_
    refine cD hA ?_
    clear hA
    refine eX (mS rfl rfl) (bQ rfl) rfl rfl ?_
    refine eX (BM rfl rfl) (bQ rfl) rfl rfl ?_
    refine bE ?_
    intro a hA
    refine xN ?_
    exact aQ2 Tryz.results340 hA (WQ rfl) ⟨_,rfl,(hS.KC [0] rfl).weaken (R':=[]) (fun _ h=>nomatch h)⟩
theorem MQ{w0:World}{slices:List (List Raw)}{s1:Value}{r:(List Raw)}(h1:aK.rd (LR w0) w0 [s1] (slices:List (List Raw)))(hF:nJ slices=some r) :
    Calls Tryz.prog 300 #[s1] w0 (Ret fun v w'=>∃(s0_0:Value),v=s0_0∧St (cQ w0) w' [fV [s0_0] (r:List Raw)] []):=by
 have hS:St (cQ w0) w0 [] [yD [s1] (slices:List (List Raw))]:=St.enter (by
   intro f hf
   simp only [List.mem_cons,List.not_mem_nil,or_false] at hf
   subst hf;exact h1)
 refine yF (args:=[_]) Tryz.func300 rfl Tryz.ntmps300 rfl ?_
 unfold nJ at hF
 intro a hA
 refine bK<|cD hA ?_
 clear hA
 refine oa rfl rfl<|bE fun a hA=>bK<|cD hA ?_
 clear hA
 refine oa rfl rfl<|bE fun a hA=>bK<|bK<|cD hA ?_
 clear hA
 refine om rfl rfl<|oy (nH (hS.rd 0 rfl) Tryz.underlying275 rfl rfl) rfl<|om rfl rfl<|bE fun a hA=>?_
 obtain⟨o1,hl1,hF⟩:=rJ hF
 refine BN (J:=fun a' w'=>∃(x5:Int),o1=x5∧kH 36 [(0,s1),(3,.int .i64 (x5))] a'∧St (cQ w0) w' [] [yD [s1] (slices:List (List Raw))]) ?_ ?_
 ·refine kT ?_
  refine G6 (body:=fM slices) (r:=o1) (fun sg a' w'=>kH 36 [(0,s1),(3,.int .i64 (sg.1)),(9,s1),(10,.int .i64 ((slices.length:Int))),(11,.int .i64 (sg.2))] a'∧St (cQ w0) w' [] [yD [s1] (slices:List (List Raw))]) ?_ hl1 ⟨hA.part ⟨rfl,rfl,rfl,rfl,rfl,trivial⟩,((hS).KC [] rfl).tQ [0] rfl⟩
  clear hA hS hl1
  rintro⟨x3,x4⟩ a w q1 ⟨hA,hS⟩ hG1 hr1
  try dsimp only at hA hS
  unfold fM at hG1
  refine bK<|cD hA ?_
  clear hA
  refine oy (DX rfl rfl rfl) rfl<|bE fun a hA=>bK<|kY hA rfl (fun hc2=>?_) (fun hc2=>?_)
  ·replace hG1:=I8 hc2 hG1
   refine nG<|bK<|kT<|bK<|cD hA ?_
   clear hA
   obtain⟨x12,hx12,hG1⟩:=rJ hG1
   refine oy (MY (m:=1) (hS.rd 0 rfl) rfl hx12 Tryz.underlying275 Tryz.sizeOf32 rfl rfl rfl) rfl ?_
   obtain⟨s8,hel,hS⟩:=hS.aEU 0 rfl (jU hx12).2.2
   refine oy (iO rfl rfl Tryz.isAgg32 (aMD hel)) rfl<|oa rfl rfl<|bE fun a hA=>bK<|cD hA ?_
   clear hA
   refine om rfl rfl<|om rfl rfl<|oy (nH (hS.rd 1 rfl) Tryz.underlying32 rfl rfl) rfl<|oy (HZ rfl rfl rfl) rfl<|oa rfl rfl<|bE fun a hA=>bK<|cD hA ?_
   clear hA
   refine om rfl rfl<|oy (DX rfl rfl rfl) rfl<|bE fun a hA=>kY hA rfl (fun hc3=>?_) (fun hc3=>?_)
   ·replace hG1:=I8 hc3 hG1
    refine cD hA ?_
    clear hA
    cases hG1
   ·replace hG1:=I9 hc3 hG1
    refine nG<|cD hA ?_
    clear hA
    refine oy (HZ rfl rfl rfl) rfl<|om rfl rfl<|bE fun a hA=>?_
    cases hG1
    exact⟨_,rfl,⟨hA.part ⟨rfl,rfl,rfl,rfl,rfl,trivial⟩,((hS).KC [] rfl).tQ [0] rfl⟩⟩
  ·replace hG1:=I9 hc2 hG1
   refine G5<|BL ?_
   cases hG1
   have ho:=hr1 _ rfl;subst ho
   exact⟨x3,rfl,hA.part ⟨rfl,rfl,trivial⟩,((hS).KC [] rfl).tQ [0] rfl⟩
 ·skip
  clear hA hS hl1
  rintro a w ⟨x5,heq,hA,hS⟩
  replace hF:lA slices x5=some r:=by rw [heq] at hF;exact hF
  clear heq
  unfold lA at hF
  refine bK<|cD hA ?_
  clear hA
  refine om rfl rfl ?_
  obtain⟨hn1,hF⟩:=jV hF
  refine UB (G9 Tryz.call340 rfl rfl) (bQ rfl) rfl rfl (JU hn1) ?_
  rintro s2 w ⟨_,rfl,hk⟩
  replace hS:=hS.after hk;clear hk
  refine oa rfl rfl<|bE fun a hA=>bK<|bK<|cD hA ?_
  clear hA
  refine om rfl rfl<|oy (nH (hS.rd 0 rfl) Tryz.underlying275 rfl rfl) rfl<|om rfl rfl<|bE fun a hA=>?_
  obtain⟨o2,hl2,hF⟩:=rJ hF
  refine BN (J:=fun a' w'=>∃(x10:List Raw) (s5:Value),o2=x10∧kH 36 [(6,s5)] a'∧St (cQ w0) w' [fV [s5] (x10:List Raw)] []) ?_ ?_
  ·refine kT ?_
   refine G6 (body:=gP slices) (r:=o2) (fun sg a' w'=>∃(s4:Value),kH 36 [(6,s4),(25,s1),(26,.int .i64 ((slices.length:Int))),(27,.int .i64 (sg.2))] a'∧St (cQ w0) w' [fV [s4] (sg.1:List Raw)] [yD [s1] (slices:List (List Raw))]) ?_ hl2 ⟨s2,hA.part ⟨rfl,rfl,rfl,rfl,trivial⟩,((hS).KC [0] rfl).tQ [0] rfl⟩
   clear hA hS hl2
   rintro⟨x8,x9⟩ a w q2 ⟨s4,hA,hS⟩ hG2 hr2
   try dsimp only at hA hS
   unfold gP at hG2
   refine bK<|cD hA ?_
   clear hA
   refine oy (DX rfl rfl rfl) rfl<|bE fun a hA=>bK<|kY hA rfl (fun hc1=>?_) (fun hc1=>?_)
   ·replace hG2:=I8 hc1 hG2
    refine nG<|bK<|kT<|bK<|cD hA ?_
    clear hA
    obtain⟨x11,hx11,hG2⟩:=rJ hG2
    refine oy (MY (m:=1) (hS.rd 0 rfl) rfl hx11 Tryz.underlying275 Tryz.sizeOf32 rfl rfl rfl) rfl ?_
    obtain⟨s6,hel,hS⟩:=hS.aEU 0 rfl (jU hx11).2.2
    refine oy (iO rfl rfl Tryz.isAgg32 (aMD hel)) rfl<|oa rfl rfl<|bE fun a hA=>cD hA ?_
    clear hA
    refine om rfl rfl<|om rfl rfl ?_
    obtain⟨hn2,hG2⟩:=jV hG2
    refine HY (aBZ (α:=Raw) 0 hS rfl (hS.rd 1 rfl) rfl Tryz.underlying32 dR rfl hn2 rfl rfl rfl) (bQ rfl) rfl rfl ?_
    clear hS
    rintro s7 w hS
    refine oa rfl rfl<|bE fun a hA=>cD hA ?_
    clear hA
    refine oy (HZ rfl rfl rfl) rfl<|om rfl rfl<|bE fun a hA=>?_
    cases hG2
    exact⟨_,rfl,⟨s7,hA.part ⟨rfl,rfl,rfl,rfl,trivial⟩,((hS).KC [0] rfl).tQ [0] rfl⟩⟩
   ·replace hG2:=I9 hc1 hG2
    refine G5<|BL ?_
    cases hG2
    have ho:=hr2 _ rfl;subst ho
    exact⟨x8,s4,rfl,hA.part ⟨rfl,trivial⟩,((hS).KC [0] rfl).tQ [] rfl⟩
  ·skip
   clear hA hS hl2
   rintro a w ⟨x10,s5,heq,hA,hS⟩
   replace hF:pL x10=some r:=by rw [heq] at hF;exact hF
   clear heq
   unfold pL at hF
   refine bK<|cD hA ?_
   clear hA
   refine om rfl rfl<|oa rfl rfl<|bE fun a hA=>xN ?_
   cases hF
   exact aQ2 Tryz.results300 hA (WQ rfl) ⟨s5,rfl,(hS.KC [0] rfl).weaken (R':=[]) (fun _ h=>nomatch h)⟩
theorem IN{w0:World}{n:Int}{low:Int}{high:Int}{r:Bool}(hF:cG n low high=some r) :
    Calls Tryz.prog 58 #[.int .i64 (n),.int .i64 (low),.int .i64 (high)] w0 (Ret fun v w'=>v=.bool (r)∧St (cQ w0) w' [] []):=by
 have hS:St (cQ w0) w0 [] []:=St.enter (by
   intro f hf;cases hf)
 refine yF (args:=[_,_,_]) Tryz.func58 rfl Tryz.ntmps58 rfl ?_
 unfold cG at hF
 intro a hA
 refine bK<|cD hA ?_
 clear hA
 refine oa rfl rfl<|bE fun a hA=>bK<|BN (J:=fun a' w'=>∃(x1:Bool),oA x1=some r∧kH 15 [(6,.bool (x1))] a'∧St (cQ w0) w' [] []) ?_ ?_
 ·skip
  refine cD hA ?_
  clear hA
  refine om rfl rfl<|om rfl rfl<|oy (aL6 rfl rfl rfl) rfl<|om rfl rfl<|FP (s:=10) rfl (fun hc1=>?_) (fun hc1=>?_)
  ·replace hF:=I8 hc1 hF
   refine eX (mS rfl rfl) (bX rfl rfl rfl (by rw [hc1];rfl)) rfl rfl ?_
   refine eX (mS rfl rfl) (bX rfl rfl rfl (by rw [hc1];rfl)) rfl rfl ?_
   refine eX (aGW rfl rfl rfl) (bX rfl rfl rfl (by rw [hc1];rfl)) rfl rfl ?_
   refine oy (tP rfl rfl hc1 rfl) rfl<|oa rfl rfl<|bE fun a hA=>?_
   exact⟨decide (n≤high),hF,hA.part ⟨rfl,trivial⟩,((hS).KC [] rfl).tQ [] rfl⟩
  ·replace hF:=I9 hc1 hF
   refine fI (bX rfl rfl rfl (by rw [hc1];rfl)) rfl rfl ?_
   refine fI (bX rfl rfl rfl (by rw [hc1];rfl)) rfl rfl ?_
   refine fI (bX rfl rfl rfl (by rw [hc1];rfl)) rfl rfl ?_
   refine oy (yE rfl rfl hc1 rfl) rfl<|oa rfl rfl<|bE fun a hA=>?_
   exact⟨false,hF,hA.part ⟨rfl,trivial⟩,((hS).KC [] rfl).tQ [] rfl⟩
 ·skip
  clear hA hS hF
  rintro a w ⟨x1,hF,hA,hS⟩
  unfold oA at hF
  refine xN ?_
  cases hF
  exact fy Tryz.results58 hA rfl hS
theorem aA9{w0:World}{slot:Int}{r:Bool}(hF:lL slot=some r) :
    Calls Tryz.prog 143 #[.int .i64 (slot)] w0 (Ret fun v w'=>v=.bool (r)∧St (cQ w0) w' [] []):=by
 have hS:St (cQ w0) w0 [] []:=St.enter (by
   intro f hf;cases hf)
 refine yF (args:=[_]) Tryz.func143 rfl Tryz.ntmps143 rfl ?_
 unfold lL at hF
 intro a hA
 refine bK<|cD hA ?_
 clear hA
 refine oa rfl rfl<|bE fun a hA=>bK<|cD hA ?_
 clear hA
 refine om rfl rfl ?_
 obtain⟨x1,hx1,hF⟩:=rJ hF
 refine UB (G9 Tryz.call58 rfl rfl) (bQ rfl) rfl rfl (IN (n:=slot) (low:=0) (high:=23) hx1) ?_
 rintro _ w ⟨rfl,hk⟩
 replace hS:=hS.after hk;clear hk
 refine oa rfl rfl<|bE fun a hA=>xN ?_
 cases hF
 exact fy Tryz.results143 hA rfl hS
theorem YT{w0:World}{l:aB}{s1:Value}{s2:Value}{r:Bool}(h1:aK.rd (LR w0) w0 [s1] (l.Global:List aN))(h2:aK.rd (LR w0) w0 [s2] (l.Own:List aN))(hF:jP l=some r) :
    Calls Tryz.prog 241 #[.agg #[s1,s2]] w0 (Ret fun v w'=>v=.bool (r)∧St (cQ w0) w' [] []):=by
 have hS:St (cQ w0) w0 [] [yD [s1] (l.Global:List aN),yD [s2] (l.Own:List aN)]:=St.enter (by
   intro f hf
   simp only [List.mem_cons,List.not_mem_nil,or_false] at hf
   rcases hf with rfl | rfl
   · exact h1
   · exact h2)
 refine yF (args:=[_]) Tryz.func241 rfl Tryz.ntmps241 rfl ?_
 unfold jP at hF
 intro a hA
 refine bK<|cD hA ?_
 clear hA
 refine HY (aUH (cs:=[s1,s2]) hS rfl rfl rfl) (bQ rfl) rfl rfl ?_
 clear hS
 rintro _ w ⟨b1,rfl,hS⟩
 refine oa rfl rfl<|bE fun a hA=>bK<|bK<|BN (J:=fun a' w'=>∃(x1:Bool),qH l x1=some r∧kH 61 [(1,.pointer (some ⟨b1,0,none⟩)),(17,.bool (x1))] a'∧St (cQ w0) w' [BE b1 [s1,s2]] [yD [s1] (l.Global:List aN),yD [s2] (l.Own:List aN)]) ?_ ?_
 ·skip
  refine cD hA ?_
  clear hA
  refine oy (xO (m:=0) Tryz.underlying34 rfl rfl Tryz.sizeOf32 rfl rfl) rfl<|oy (iO rfl rfl Tryz.isAgg32 (hS.cell 0 rfl rfl)) rfl<|oy (nH (hS.rd 0 rfl) Tryz.underlying32 rfl rfl) rfl<|oy (aCW rfl rfl rfl) rfl<|om rfl rfl<|FP (s:=12) rfl (fun hc8=>?_) (fun hc8=>?_)
  ·replace hF:=I8 hc8 hF
   refine fI (bX rfl rfl rfl (by rw [hc8];rfl)) rfl rfl ?_
   refine fI (bX rfl rfl rfl (by rw [hc8];rfl)) rfl rfl ?_
   refine fI (bX rfl rfl rfl (by rw [hc8];rfl)) rfl rfl ?_
   refine fI (bX rfl rfl rfl (by rw [hc8];rfl)) rfl rfl ?_
   refine oy (tP rfl rfl hc8 rfl) rfl<|bE fun a hA=>?_
   exact⟨true,hF,hA.part ⟨rfl,rfl,trivial⟩,((hS).KC [0] rfl).tQ [0,1] rfl⟩
  ·replace hF:=I9 hc8 hF
   refine eX (xO (m:=0) Tryz.underlying34 rfl rfl Tryz.sizeOf32 rfl rfl) (bX rfl rfl rfl (by rw [hc8];rfl)) rfl rfl ?_
   refine eX (iO rfl rfl Tryz.isAgg32 (hS.cell 0 rfl rfl)) (bX rfl rfl rfl (by rw [hc8];rfl)) rfl rfl ?_
   refine eX (nH (hS.rd 1 rfl) Tryz.underlying32 rfl rfl) (bX rfl rfl rfl (by rw [hc8];rfl)) rfl rfl ?_
   refine eX (aCW rfl rfl rfl) (bX rfl rfl rfl (by rw [hc8];rfl)) rfl rfl ?_
   refine oy (yE rfl rfl hc8 rfl) rfl<|bE fun a hA=>?_
   exact⟨(l.Own.length:Int) != 9,hF,hA.part ⟨rfl,rfl,trivial⟩,((hS).KC [0] rfl).tQ [0,1] rfl⟩
 ·skip
  clear hA hS hF
  rintro a w ⟨x1,hF,hA,hS⟩
  unfold qH at hF
  refine kY hA rfl (fun hc1=>?_) (fun hc1=>?_)
  ·replace hF:=I8 hc1 hF
   refine bK<|cD hA ?_
   clear hA
   refine oa rfl rfl<|bE fun a hA=>xN ?_
   cases hF
   exact fy Tryz.results241 hA rfl hS
  ·replace hF:=I9 hc1 hF
   refine nG<|bK<|cD hA ?_
   clear hA
   refine oy (S4 (cells:=#[.bool (false),.bool (false),.bool (false),.bool (false),.bool (false),.bool (false),.bool (false),.bool (false),.bool (false),.bool (false),.bool (false),.bool (false),.bool (false),.bool (false),.bool (false),.bool (false),.bool (false),.bool (false),.bool (false),.bool (false),.bool (false),.bool (false),.bool (false),.bool (false)]) rfl Tryz.zeroValue217 Tryz.underlying217 Tryz.sizeOf4 rfl rfl) rfl<|HY (I7 (cs:=List.map (fun q:Bool=>Value.bool q) [false,false,false,false,false,false,false,false,false,false,false,false,false,false,false,false,false,false,false,false,false,false,false,false]) hS rfl Tryz.zeroValue217 rfl) (bQ rfl) rfl rfl ?_
   clear hS
   rintro _ w ⟨b2,rfl,hS⟩
   refine MW (QI (vs:=[.bool (false),.bool (false),.bool (false),.bool (false),.bool (false),.bool (false),.bool (false),.bool (false),.bool (false),.bool (false),.bool (false),.bool (false),.bool (false),.bool (false),.bool (false),.bool (false),.bool (false),.bool (false),.bool (false),.bool (false),.bool (false),.bool (false),.bool (false),.bool (false)]) hS (i:=1) rfl rfl rfl rfl rfl Tryz.sizeOf217 rfl rfl rfl) (bQ rfl) rfl ?_
   clear hS
   intro w hS
   refine bE fun a hA=>bK<|bK<|cD hA ?_
   clear hA
   refine oy (xO (m:=0) Tryz.underlying34 rfl rfl Tryz.sizeOf32 rfl rfl) rfl<|oy (iO rfl rfl Tryz.isAgg32 (hS.cell 0 rfl rfl)) rfl<|oy (xO (m:=0) Tryz.underlying34 rfl rfl Tryz.sizeOf32 rfl rfl) rfl<|oy (iO rfl rfl Tryz.isAgg32 (hS.cell 0 rfl rfl)) rfl<|HY (aG4 hS (hS.rd 1 rfl) (hS.rd 0 rfl) Tryz.underlying275 aHO rfl rfl rfl) (bQ rfl) rfl rfl ?_
   clear hS
   rintro s3 w hS
   obtain⟨hn1,hF⟩:=jV hF
   replace hS:=hS.aWQ 2 rfl
   obtain⟨u1,u2,hu1,hl1,hS⟩:=hS.aRG rfl 2 1 0 rfl rfl rfl
   refine UB (G9 Tryz.call300 rfl rfl) (bQ rfl) rfl rfl (MQ hu1 (JN hl1 hn1)) ?_
   rintro s4 w ⟨_,rfl,hk⟩
   replace hS:=hS.after hk;clear hk
   replace hS:=hS.aWQ 3 rfl
   replace hS:=hS.aWX rfl 4 3 rfl rfl
   refine oy (nH (hS.rd 5 rfl) Tryz.underlying32 rfl rfl) rfl<|om rfl rfl<|bE fun a hA=>?_
   obtain⟨o1,hl2,hF⟩:=rJ hF
   refine BN (J:=fun a' w'=>o1=Out.brk ()∧kH 61 [] a'∧St (cQ w0) w' [] []) ?_ ?_
   ·refine kT ?_
    refine G6 (body:=kL l) (r:=o1) (fun sg a' w'=>kH 61 [(1,.pointer (some ⟨b1,0,none⟩)),(3,.pointer (some ⟨b2,0,none⟩)),(24,s4),(25,.int .i64 (((l.Own++l.Global).length:Int))),(26,.int .i64 (sg.1))] a'∧St (cQ w0) w' [BE b1 [s1,s2],BE b2 (List.map (fun q:Bool=>Value.bool q) (sg.2:List Bool))] [yD [s4] (l.Own++l.Global:List aN),yD [s1] (l.Global:List aN),yD [s2] (l.Own:List aN)]) ?_ hl2 ⟨hA.part ⟨rfl,rfl,rfl,rfl,rfl,trivial⟩,((hS).KC [0,1] rfl).tQ [5,0,1] rfl⟩
    clear hA hS hl2
    rintro⟨x4,x5⟩ a w q2 ⟨hA,hS⟩ hG2 hr2
    try dsimp only at hA hS
    unfold kL at hG2
    refine bK<|cD hA ?_
    clear hA
    refine oy (DX rfl rfl rfl) rfl<|bE fun a hA=>bK<|kY hA rfl (fun hc2=>?_) (fun hc2=>?_)
    ·replace hG2:=I8 hc2 hG2
     refine nG<|bK<|kT<|bK<|cD hA ?_
     clear hA
     refine om rfl rfl ?_
     obtain⟨x6,hx6,hG2⟩:=rJ hG2
     refine oy (MY (m:=1) (hS.rd 0 rfl) rfl hx6 Tryz.underlying32 Tryz.sizeOf148 rfl rfl rfl) rfl ?_
     obtain⟨s5,hel,hS⟩:=hS.aOS 0 rfl (jU hx6).2.2
     refine oy (MX rfl rfl Tryz.isAgg148 Tryz.sizeOf148 rfl hel) rfl<|HY (I7 (cs:=[(.slice none 0 0)]) hS rfl Tryz.zeroValue148 rfl) (bQ rfl) rfl rfl ?_
     clear hS
     rintro _ w ⟨b3,rfl,hS⟩
     refine oa rfl rfl<|MW (QI (vs:=[s5]) hS (i:=2) rfl rfl rfl rfl rfl Tryz.sizeOf148 rfl rfl (aUM (XN (hS.rd 3 rfl)) rfl)) (bQ rfl) rfl ?_
     clear hS
     intro w hS
     refine bE fun a hA=>bK<|bK<|BN (J:=fun a' w'=>∃(x7:Bool),kK x4 x5 x6 x7=some q2∧kH 61 [(1,.pointer (some ⟨b1,0,none⟩)),(3,.pointer (some ⟨b2,0,none⟩)),(5,.pointer (some ⟨b3,0,none⟩)),(24,s4),(25,.int .i64 (((l.Own++l.Global).length:Int))),(26,.int .i64 (x4)),(41,.bool (x7))] a'∧St (cQ w0) w' [BE b1 [s1,s2],BE b2 (List.map (fun q:Bool=>Value.bool q) (x5:List Bool)),BE b3 [s5]] [yD [s4] (l.Own++l.Global:List aN),yD [s1] (l.Global:List aN),yD [s2] (l.Own:List aN),yD [s5] (x6.aQ:List Int)]) ?_ ?_
     ·skip
      refine cD hA ?_
      clear hA
      refine om rfl rfl<|oy (xO (m:=0) Tryz.underlying34 rfl rfl Tryz.sizeOf32 rfl rfl) rfl<|oy (iO rfl rfl Tryz.isAgg32 (hS.cell 0 rfl rfl)) rfl<|oy (nH (hS.rd 2 rfl) Tryz.underlying32 rfl rfl) rfl<|oy (DX rfl rfl rfl) rfl<|om rfl rfl<|FP (s:=36) rfl (fun hc7=>?_) (fun hc7=>?_)
      ·replace hG2:=I8 hc7 hG2
       refine eX (xO (m:=0) Tryz.underlying148 rfl rfl Tryz.sizeOf25 rfl rfl) (bX rfl rfl rfl (by rw [hc7];rfl)) rfl rfl ?_
       refine eX (iO rfl rfl Tryz.isAgg25 (hS.cell 2 rfl rfl)) (bX rfl rfl rfl (by rw [hc7];rfl)) rfl rfl ?_
       refine eX (nH (hS.rd 3 rfl) Tryz.underlying25 rfl rfl) (bX rfl rfl rfl (by rw [hc7];rfl)) rfl rfl ?_
       refine eX (aGX rfl rfl rfl) (bX rfl rfl rfl (by rw [hc7];rfl)) rfl rfl ?_
       refine oy (tP rfl rfl hc7 rfl) rfl<|bE fun a hA=>?_
       exact⟨decide (2 < (x6.aQ.length:Int)),hG2,hA.part ⟨rfl,rfl,rfl,rfl,rfl,rfl,rfl,trivial⟩,((hS).KC [0,1,2] rfl).tQ [0,1,2,3] rfl⟩
      ·replace hG2:=I9 hc7 hG2
       refine fI (bX rfl rfl rfl (by rw [hc7];rfl)) rfl rfl ?_
       refine fI (bX rfl rfl rfl (by rw [hc7];rfl)) rfl rfl ?_
       refine fI (bX rfl rfl rfl (by rw [hc7];rfl)) rfl rfl ?_
       refine fI (bX rfl rfl rfl (by rw [hc7];rfl)) rfl rfl ?_
       refine oy (yE rfl rfl hc7 rfl) rfl<|bE fun a hA=>?_
       exact⟨false,hG2,hA.part ⟨rfl,rfl,rfl,rfl,rfl,rfl,rfl,trivial⟩,((hS).KC [0,1,2] rfl).tQ [0,1,2,3] rfl⟩
     ·skip
      clear hA hS hG2
      rintro a w ⟨x7,hG2,hA,hS⟩
      unfold kK at hG2
      refine kY hA rfl (fun hc3=>?_) (fun hc3=>?_)
      ·replace hG2:=I8 hc3 hG2
       refine bK<|cD hA ?_
       clear hA
       refine oa rfl rfl<|bE fun a hA=>xN ?_
       cases hG2
       have ho:=hr2 _ rfl;subst ho
       replace hF:some false=some r:=hF
       cases hF
       exact fy Tryz.results241 hA rfl hS
      ·replace hG2:=I9 hc3 hG2
       refine nG<|bK<|cD hA ?_
       clear hA
       refine oy (xO (m:=0) Tryz.underlying148 rfl rfl Tryz.sizeOf25 rfl rfl) rfl<|oy (iO rfl rfl Tryz.isAgg25 (hS.cell 2 rfl rfl)) rfl<|oy (nH (hS.rd 3 rfl) Tryz.underlying25 rfl rfl) rfl<|om rfl rfl<|bE fun a hA=>?_
       obtain⟨o2,hl3,hG2⟩:=rJ hG2
       refine BN (J:=fun a' w'=>∃(x12:List Bool),o2=Out.brk x12∧kH 61 [(1,.pointer (some ⟨b1,0,none⟩)),(3,.pointer (some ⟨b2,0,none⟩)),(24,s4),(25,.int .i64 (((l.Own++l.Global).length:Int))),(26,.int .i64 (x4))] a'∧St (cQ w0) w' [BE b1 [s1,s2],BE b2 (List.map (fun q:Bool=>Value.bool q) (x12:List Bool))] [yD [s4] (l.Own++l.Global:List aN),yD [s1] (l.Global:List aN),yD [s2] (l.Own:List aN)]) ?_ ?_
       ·refine kT ?_
        refine G6 (body:=kJ x6) (r:=o2) (fun sg a' w'=>kH 61 [(1,.pointer (some ⟨b1,0,none⟩)),(3,.pointer (some ⟨b2,0,none⟩)),(24,s4),(25,.int .i64 (((l.Own++l.Global).length:Int))),(26,.int .i64 (x4)),(43,s5),(44,.int .i64 ((x6.aQ.length:Int))),(45,.int .i64 (sg.1))] a'∧St (cQ w0) w' [BE b1 [s1,s2],BE b2 (List.map (fun q:Bool=>Value.bool q) (sg.2:List Bool))] [yD [s4] (l.Own++l.Global:List aN),yD [s5] (x6.aQ:List Int),yD [s1] (l.Global:List aN),yD [s2] (l.Own:List aN)]) ?_ hl3 ⟨hA.part ⟨rfl,rfl,rfl,rfl,rfl,rfl,rfl,rfl,trivial⟩,((hS).KC [0,1] rfl).tQ [0,3,1,2] rfl⟩
        clear hA hS hl3
        rintro⟨x10,x11⟩ a w q4 ⟨hA,hS⟩ hG4 hr4
        try dsimp only at hA hS
        unfold kJ at hG4
        refine bK<|cD hA ?_
        clear hA
        refine oy (DX rfl rfl rfl) rfl<|bE fun a hA=>bK<|kY hA rfl (fun hc4=>?_) (fun hc4=>?_)
        ·replace hG4:=I8 hc4 hG4
         refine nG<|bK<|kT<|bK<|cD hA ?_
         clear hA
         obtain⟨x13,hx13,hG4⟩:=rJ hG4
         refine oy (MY (m:=1) (hS.rd 1 rfl) rfl hx13 Tryz.underlying25 Tryz.sizeOf3 rfl rfl rfl) rfl<|oy (iO rfl rfl Tryz.isAgg3 (aMD (aUJ (hS.rd 1 rfl) (jU hx13).2.2))) rfl<|oa rfl rfl<|bE fun a hA=>bK<|bK<|BN (J:=fun a' w'=>∃(x14:Bool),mG x10 x11 x13 x14=some q4∧kH 61 [(1,.pointer (some ⟨b1,0,none⟩)),(3,.pointer (some ⟨b2,0,none⟩)),(7,.int .i64 (x13)),(24,s4),(25,.int .i64 (((l.Own++l.Global).length:Int))),(26,.int .i64 (x4)),(43,s5),(44,.int .i64 ((x6.aQ.length:Int))),(45,.int .i64 (x10)),(56,.bool (x14))] a'∧St (cQ w0) w' [BE b1 [s1,s2],BE b2 (List.map (fun q:Bool=>Value.bool q) (x11:List Bool))] [yD [s4] (l.Own++l.Global:List aN),yD [s5] (x6.aQ:List Int),yD [s1] (l.Global:List aN),yD [s2] (l.Own:List aN)]) ?_ ?_
         ·skip
          refine cD hA ?_
          clear hA
          refine om rfl rfl ?_
          obtain⟨x16,hx16,hG4⟩:=rJ hG4
          refine UB (G9 Tryz.call143 rfl rfl) (bQ rfl) rfl rfl (aA9 (slot:=x13) hx16) ?_
          rintro _ w ⟨rfl,hk⟩
          replace hS:=hS.after hk;clear hk
          refine oy (XF rfl rfl) rfl<|om rfl rfl<|FP (s:=52) rfl (fun hc6=>?_) (fun hc6=>?_)
          ·replace hG4:=I8 hc6 hG4
           refine fI (bX rfl rfl rfl (by rw [hc6];rfl)) rfl rfl ?_
           refine fI (bX rfl rfl rfl (by rw [hc6];rfl)) rfl rfl ?_
           refine fI (bX rfl rfl rfl (by rw [hc6];rfl)) rfl rfl ?_
           refine oy (tP rfl rfl hc6 rfl) rfl<|bE fun a hA=>?_
           exact⟨true,hG4,hA.part ⟨rfl,rfl,rfl,rfl,rfl,rfl,rfl,rfl,rfl,rfl,trivial⟩,((hS).KC [0,1] rfl).tQ [0,1,2,3] rfl⟩
          ·replace hG4:=I9 hc6 hG4
           refine eX (mS rfl rfl) (bX rfl rfl rfl (by rw [hc6];rfl)) rfl rfl ?_
           obtain⟨hn3,hG4⟩:=jV hG4
           refine eX (WT Tryz.underlying217 Tryz.sizeOf4 hn3 rfl rfl rfl) (bX rfl rfl rfl (by rw [hc6];rfl)) rfl rfl ?_
           obtain⟨x17,hx17,hG4⟩:=rJ hG4
           refine eX (iO rfl rfl Tryz.isAgg4 (hS.aIW 1 rfl hx17)) (bX rfl rfl rfl (by rw [hc6];rfl)) rfl rfl ?_
           refine oy (yE rfl rfl hc6 rfl) rfl<|bE fun a hA=>?_
           exact⟨x17,hG4,hA.part ⟨rfl,rfl,rfl,rfl,rfl,rfl,rfl,rfl,rfl,rfl,trivial⟩,((hS).KC [0,1] rfl).tQ [0,1,2,3] rfl⟩
         ·skip
          clear hA hS hG4
          rintro a w ⟨x14,hG4,hA,hS⟩
          unfold mG at hG4
          refine kY hA rfl (fun hc5=>?_) (fun hc5=>?_)
          ·replace hG4:=I8 hc5 hG4
           refine bK<|cD hA ?_
           clear hA
           refine oa rfl rfl<|bE fun a hA=>xN ?_
           cases hG4
           have ho:=hr4 _ rfl;subst ho
           replace hG2:some (.stop (Out.ret false))=some q2:=hG2
           cases hG2
           have ho:=hr2 _ rfl;subst ho
           replace hF:some false=some r:=hF
           cases hF
           exact fy Tryz.results241 hA rfl hS
          ·replace hG4:=I9 hc5 hG4
           refine nG<|cD hA ?_
           clear hA
           refine om rfl rfl ?_
           obtain⟨hn2,hG4⟩:=jV hG4
           refine oy (WT Tryz.underlying217 Tryz.sizeOf4 hn2 rfl rfl rfl) rfl ?_
           obtain⟨x15,hx15,hG4⟩:=rJ hG4
           refine MW (aMU (xd:=true) hS (m:=1) rfl hx15 Tryz.sizeOf4 rfl rfl rfl rfl rfl rfl) (bQ rfl) rfl ?_
           clear hS
           intro w hS
           refine bE fun a hA=>cD hA ?_
           clear hA
           refine oy (HZ rfl rfl rfl) rfl<|om rfl rfl<|bE fun a hA=>?_
           cases hG4
           exact⟨_,rfl,⟨hA.part ⟨rfl,rfl,rfl,rfl,rfl,rfl,rfl,rfl,trivial⟩,((hS).KC [0,1] rfl).tQ [0,1,2,3] rfl⟩⟩
        ·replace hG4:=I9 hc4 hG4
         refine G5<|BL ?_
         cases hG4
         have ho:=hr4 _ rfl;subst ho
         exact⟨x11,rfl,hA.part ⟨rfl,rfl,rfl,rfl,rfl,trivial⟩,((hS).KC [0,1] rfl).tQ [0,2,3] rfl⟩
       ·skip
        clear hA hS hl3
        rintro a w ⟨x12,heq,hA,hS⟩
        replace hG2:wM x4 x12=some q2:=by rw [heq] at hG2;exact hG2
        clear heq
        unfold wM at hG2
        refine cD hA ?_
        clear hA
        refine oy (HZ rfl rfl rfl) rfl<|om rfl rfl<|bE fun a hA=>?_
        cases hG2
        exact⟨_,rfl,⟨hA.part ⟨rfl,rfl,rfl,rfl,rfl,trivial⟩,((hS).KC [0,1] rfl).tQ [0,1,2] rfl⟩⟩
    ·replace hG2:=I9 hc2 hG2
     refine G5<|BL ?_
     cases hG2
     have ho:=hr2 _ rfl;subst ho
     exact⟨rfl,hA.part trivial,((hS).KC [] rfl).tQ [] rfl⟩
   ·skip
    clear hA hS hl2
    rintro a w ⟨heq,hA,hS⟩
    replace hF:D1=some r:=by rw [heq] at hF;exact hF
    clear heq
    unfold D1 at hF
    refine bK<|cD hA ?_
    clear hA
    refine oa rfl rfl<|bE fun a hA=>xN ?_
    cases hF
    exact fy Tryz.results241 hA rfl hS
theorem VR{w0:World}{h:Int}{r:Bool}(hF:gJ h=some r) :
    Calls Tryz.prog 134 #[.int .i64 (h)] w0 (Ret fun v w'=>v=.bool (r)∧St (cQ w0) w' [] []):=by
 have hS:St (cQ w0) w0 [] []:=St.enter (by
   intro f hf;cases hf)
 refine yF (args:=[_]) Tryz.func134 rfl Tryz.ntmps134 rfl ?_
 unfold gJ at hF
 intro a hA
 refine bK<|cD hA ?_
 clear hA
 refine oa rfl rfl<|bE fun a hA=>bK<|BN (J:=fun a' w'=>∃(x1:Bool),lQ x1=some r∧kH 10 [(2,.bool (x1))] a'∧St (cQ w0) w' [] []) ?_ ?_
 ·skip
  refine cD hA ?_
  clear hA
  refine om rfl rfl ?_
  obtain⟨x2,hx2,hF⟩:=rJ hF
  refine UB (G9 Tryz.call58 rfl rfl) (bQ rfl) rfl rfl (IN (n:=h) (low:=32) (high:=223) hx2) ?_
  rintro _ w ⟨rfl,hk⟩
  replace hS:=hS.after hk;clear hk
  refine om rfl rfl<|FP (s:=5) rfl (fun hc1=>?_) (fun hc1=>?_)
  ·replace hF:=I8 hc1 hF
   refine eX (mS rfl rfl) (bX rfl rfl rfl (by rw [hc1];rfl)) rfl rfl ?_
   refine eX (S3 rfl rfl rfl (by decide)) (bX rfl rfl rfl (by rw [hc1];rfl)) rfl rfl ?_
   refine eX (DX rfl rfl rfl) (bX rfl rfl rfl (by rw [hc1];rfl)) rfl rfl ?_
   refine oy (tP rfl rfl hc1 rfl) rfl<|oa rfl rfl<|bE fun a hA=>?_
   exact⟨decide ((Int.tmod h 32) < 24),hF,hA.part ⟨rfl,trivial⟩,((hS).KC [] rfl).tQ [] rfl⟩
  ·replace hF:=I9 hc1 hF
   refine fI (bX rfl rfl rfl (by rw [hc1];rfl)) rfl rfl ?_
   refine fI (bX rfl rfl rfl (by rw [hc1];rfl)) rfl rfl ?_
   refine fI (bX rfl rfl rfl (by rw [hc1];rfl)) rfl rfl ?_
   refine oy (yE rfl rfl hc1 rfl) rfl<|oa rfl rfl<|bE fun a hA=>?_
   exact⟨false,hF,hA.part ⟨rfl,trivial⟩,((hS).KC [] rfl).tQ [] rfl⟩
 ·skip
  clear hA hS hF
  rintro a w ⟨x1,hF,hA,hS⟩
  unfold lQ at hF
  refine xN ?_
  cases hF
  exact fy Tryz.results134 hA rfl hS
theorem TN{w0:World}{l:List aY}{s1:Value}{r:Int}(h1:aK.rd (LR w0) w0 [s1] (l:List aY))(hF:sI l=some r) :
    Calls Tryz.prog 245 #[s1] w0 (Ret fun v w'=>v=.int .i64 (r)∧St (cQ w0) w' [] []):=by
 have hS:St (cQ w0) w0 [] [yD [s1] (l:List aY)]:=St.enter (by
   intro f hf
   simp only [List.mem_cons,List.not_mem_nil,or_false] at hf
   subst hf;exact h1)
 refine yF (args:=[_]) Tryz.func245 rfl Tryz.ntmps245 rfl ?_
 unfold sI at hF
 intro a hA
 refine bK<|cD hA ?_
 clear hA
 refine oa rfl rfl<|bE fun a hA=>bK<|cD hA ?_
 clear hA
 refine oa rfl rfl<|bE fun a hA=>bK<|bK<|cD hA ?_
 clear hA
 refine om rfl rfl<|oy (nH (hS.rd 0 rfl) Tryz.underlying40 rfl rfl) rfl<|om rfl rfl<|bE fun a hA=>?_
 obtain⟨o1,hl1,hF⟩:=rJ hF
 refine BN (J:=fun a' w'=>∃(x5:Int),o1=x5∧kH 19 [(3,.int .i64 (x5))] a'∧St (cQ w0) w' [] []) ?_ ?_
 ·refine kT ?_
  refine G6 (body:=iQ l) (r:=o1) (fun sg a' w'=>kH 19 [(3,.int .i64 (sg.1)),(6,s1),(7,.int .i64 ((l.length:Int))),(8,.int .i64 (sg.2))] a'∧St (cQ w0) w' [] [yD [s1] (l:List aY)]) ?_ hl1 ⟨hA.part ⟨rfl,rfl,rfl,rfl,trivial⟩,((hS).KC [] rfl).tQ [0] rfl⟩
  clear hA hS hl1
  rintro⟨x3,x4⟩ a w q1 ⟨hA,hS⟩ hG1 hr1
  try dsimp only at hA hS
  unfold iQ at hG1
  refine bK<|cD hA ?_
  clear hA
  refine oy (DX rfl rfl rfl) rfl<|bE fun a hA=>bK<|kY hA rfl (fun hc1=>?_) (fun hc1=>?_)
  ·replace hG1:=I8 hc1 hG1
   refine nG<|bK<|kT<|bK<|cD hA ?_
   clear hA
   obtain⟨x6,hx6,hG1⟩:=rJ hG1
   refine oy (MY (m:=1) (hS.rd 0 rfl) rfl hx6 Tryz.underlying40 Tryz.sizeOf152 rfl rfl rfl) rfl ?_
   obtain⟨s2,hel,hS⟩:=hS.aFM 0 rfl (jU hx6).2.2
   refine oy (MX rfl rfl Tryz.isAgg152 Tryz.sizeOf152 rfl hel) rfl<|HY (I7 (cs:=[(.slice none 0 0)]) hS rfl Tryz.zeroValue152 rfl) (bQ rfl) rfl rfl ?_
   clear hS
   rintro _ w ⟨b1,rfl,hS⟩
   refine MW (QI (vs:=[s2]) hS (i:=0) rfl rfl rfl rfl rfl Tryz.sizeOf152 rfl rfl (aUM (XN (hS.rd 1 rfl)) rfl)) (bQ rfl) rfl ?_
   clear hS
   intro w hS
   refine bE fun a hA=>cD hA ?_
   clear hA
   refine om rfl rfl<|oy (xO (m:=0) Tryz.underlying152 rfl rfl Tryz.sizeOf94 rfl rfl) rfl<|oy (iO rfl rfl Tryz.isAgg94 (hS.cell 0 rfl rfl)) rfl<|oy (nH (hS.rd 1 rfl) Tryz.underlying94 rfl rfl) rfl<|oy (HZ rfl rfl rfl) rfl<|oa rfl rfl<|bE fun a hA=>cD hA ?_
   clear hA
   refine oy (HZ rfl rfl rfl) rfl<|om rfl rfl<|bE fun a hA=>?_
   cases hG1
   exact⟨_,rfl,⟨hA.part ⟨rfl,rfl,rfl,rfl,trivial⟩,((hS).KC [] rfl).tQ [0] rfl⟩⟩
  ·replace hG1:=I9 hc1 hG1
   refine G5<|BL ?_
   cases hG1
   have ho:=hr1 _ rfl;subst ho
   exact⟨x3,rfl,hA.part ⟨rfl,trivial⟩,((hS).KC [] rfl).tQ [] rfl⟩
 ·skip
  clear hA hS hl1
  rintro a w ⟨x5,heq,hA,hS⟩
  replace hF:zI x5=some r:=by rw [heq] at hF;exact hF
  clear heq
  unfold zI at hF
  refine bK<|cD hA ?_
  clear hA
  refine om rfl rfl<|oa rfl rfl<|bE fun a hA=>xN ?_
  cases hF
  exact fy Tryz.results245 hA rfl hS
theorem YU{w0:World}{l:List aY}{s1:Value}{r:Bool}(h1:aK.rd (LR w0) w0 [s1] (l:List aY))(hF:lB l=some r) :
    Calls Tryz.prog 169 #[s1] w0 (Ret fun v w'=>v=.bool (r)∧St (cQ w0) w' [] []):=by
 have hS:St (cQ w0) w0 [] [yD [s1] (l:List aY)]:=St.enter (by
   intro f hf
   simp only [List.mem_cons,List.not_mem_nil,or_false] at hf
   subst hf;exact h1)
 refine yF (args:=[_]) Tryz.func169 rfl Tryz.ntmps169 rfl ?_
 unfold lB at hF
 intro a hA
 refine bK<|cD hA ?_
 clear hA
 refine oa rfl rfl<|bE fun a hA=>bK<|bK<|cD hA ?_
 clear hA
 refine om rfl rfl<|oy (nH (hS.rd 0 rfl) Tryz.underlying40 rfl rfl) rfl<|oy (aCW rfl rfl rfl) rfl<|bE fun a hA=>kY hA rfl (fun hc1=>?_) (fun hc1=>?_)
 ·replace hF:=I8 hc1 hF
  refine bK<|cD hA ?_
  clear hA
  refine oa rfl rfl<|bE fun a hA=>xN ?_
  cases hF
  exact fy Tryz.results169 hA rfl hS
 ·replace hF:=I9 hc1 hF
  refine nG<|bK<|cD hA ?_
  clear hA
  refine oy (S4 (cells:=#[.bool (false),.bool (false),.bool (false),.bool (false),.bool (false),.bool (false),.bool (false),.bool (false),.bool (false),.bool (false),.bool (false),.bool (false),.bool (false),.bool (false),.bool (false),.bool (false),.bool (false),.bool (false),.bool (false),.bool (false),.bool (false),.bool (false),.bool (false),.bool (false)]) rfl Tryz.zeroValue217 Tryz.underlying217 Tryz.sizeOf4 rfl rfl) rfl<|HY (I7 (cs:=List.map (fun q:Bool=>Value.bool q) [false,false,false,false,false,false,false,false,false,false,false,false,false,false,false,false,false,false,false,false,false,false,false,false]) hS rfl Tryz.zeroValue217 rfl) (bQ rfl) rfl rfl ?_
  clear hS
  rintro _ w ⟨b1,rfl,hS⟩
  refine MW (QI (vs:=[.bool (false),.bool (false),.bool (false),.bool (false),.bool (false),.bool (false),.bool (false),.bool (false),.bool (false),.bool (false),.bool (false),.bool (false),.bool (false),.bool (false),.bool (false),.bool (false),.bool (false),.bool (false),.bool (false),.bool (false),.bool (false),.bool (false),.bool (false),.bool (false)]) hS (i:=0) rfl rfl rfl rfl rfl Tryz.sizeOf217 rfl rfl rfl) (bQ rfl) rfl ?_
  clear hS
  intro w hS
  refine bE fun a hA=>bK<|bK<|cD hA ?_
  clear hA
  refine om rfl rfl<|oy (nH (hS.rd 0 rfl) Tryz.underlying40 rfl rfl) rfl<|om rfl rfl<|bE fun a hA=>?_
  obtain⟨o1,hl1,hF⟩:=rJ hF
  refine BN (J:=fun a' w'=>o1=Out.brk ()∧kH 51 [(0,s1)] a'∧St (cQ w0) w' [] [yD [s1] (l:List aY)]) ?_ ?_
  ·refine kT ?_
   refine G6 (body:=kO l) (r:=o1) (fun sg a' w'=>kH 51 [(0,s1),(3,.pointer (some ⟨b1,0,none⟩)),(12,s1),(13,.int .i64 ((l.length:Int))),(14,.int .i64 (sg.1))] a'∧St (cQ w0) w' [BE b1 (List.map (fun q:Bool=>Value.bool q) (sg.2:List Bool))] [yD [s1] (l:List aY)]) ?_ hl1 ⟨hA.part ⟨rfl,rfl,rfl,rfl,rfl,trivial⟩,((hS).KC [0] rfl).tQ [0] rfl⟩
   clear hA hS hl1
   rintro⟨x3,x4⟩ a w q1 ⟨hA,hS⟩ hG1 hr1
   try dsimp only at hA hS
   unfold kO at hG1
   refine bK<|cD hA ?_
   clear hA
   refine oy (DX rfl rfl rfl) rfl<|bE fun a hA=>bK<|kY hA rfl (fun hc2=>?_) (fun hc2=>?_)
   ·replace hG1:=I8 hc2 hG1
    refine nG<|bK<|kT<|bK<|cD hA ?_
    clear hA
    obtain⟨x6,hx6,hG1⟩:=rJ hG1
    refine oy (MY (m:=1) (hS.rd 0 rfl) rfl hx6 Tryz.underlying40 Tryz.sizeOf152 rfl rfl rfl) rfl ?_
    obtain⟨s2,hel,hS⟩:=hS.aFM 0 rfl (jU hx6).2.2
    refine oy (MX rfl rfl Tryz.isAgg152 Tryz.sizeOf152 rfl hel) rfl<|HY (I7 (cs:=[(.slice none 0 0)]) hS rfl Tryz.zeroValue152 rfl) (bQ rfl) rfl rfl ?_
    clear hS
    rintro _ w ⟨b2,rfl,hS⟩
    refine MW (QI (vs:=[s2]) hS (i:=1) rfl rfl rfl rfl rfl Tryz.sizeOf152 rfl rfl (aUM (XN (hS.rd 1 rfl)) rfl)) (bQ rfl) rfl ?_
    clear hS
    intro w hS
    refine bE fun a hA=>bK<|cD hA ?_
    clear hA
    refine oy (xO (m:=0) Tryz.underlying152 rfl rfl Tryz.sizeOf94 rfl rfl) rfl<|oy (iO rfl rfl Tryz.isAgg94 (hS.cell 1 rfl rfl)) rfl<|oy (nH (hS.rd 1 rfl) Tryz.underlying94 rfl rfl) rfl<|om rfl rfl<|bE fun a hA=>?_
    obtain⟨o2,hl2,hG1⟩:=rJ hG1
    refine BN (J:=fun a' w'=>∃(x11:List Bool),o2=Out.brk x11∧kH 51 [(0,s1),(3,.pointer (some ⟨b1,0,none⟩)),(12,s1),(13,.int .i64 ((l.length:Int))),(14,.int .i64 (x3))] a'∧St (cQ w0) w' [BE b1 (List.map (fun q:Bool=>Value.bool q) (x11:List Bool))] [yD [s1] (l:List aY)]) ?_ ?_
    ·refine kT ?_
     refine G6 (body:=kM x6) (r:=o2) (fun sg a' w'=>kH 51 [(0,s1),(3,.pointer (some ⟨b1,0,none⟩)),(12,s1),(13,.int .i64 ((l.length:Int))),(14,.int .i64 (x3)),(19,s2),(20,.int .i64 ((x6.Rows.length:Int))),(21,.int .i64 (sg.1))] a'∧St (cQ w0) w' [BE b1 (List.map (fun q:Bool=>Value.bool q) (sg.2:List Bool))] [yD [s1] (l:List aY),yD [s2] (x6.Rows:List dA)]) ?_ hl2 ⟨hA.part ⟨rfl,rfl,rfl,rfl,rfl,rfl,rfl,rfl,trivial⟩,((hS).KC [0] rfl).tQ [0,1] rfl⟩
     clear hA hS hl2
     rintro⟨x9,x10⟩ a w q2 ⟨hA,hS⟩ hG2 hr2
     try dsimp only at hA hS
     unfold kM at hG2
     refine bK<|cD hA ?_
     clear hA
     refine oy (DX rfl rfl rfl) rfl<|bE fun a hA=>bK<|kY hA rfl (fun hc3=>?_) (fun hc3=>?_)
     ·replace hG2:=I8 hc3 hG2
      refine nG<|bK<|kT<|bK<|cD hA ?_
      clear hA
      obtain⟨x12,hx12,hG2⟩:=rJ hG2
      refine oy (MY (m:=2) (hS.rd 1 rfl) rfl hx12 Tryz.underlying94 Tryz.sizeOf97 rfl rfl rfl) rfl<|oy (MX rfl rfl Tryz.isAgg97 Tryz.sizeOf97 rfl (aSB (hS.rd 1 rfl) (jU hx12).2.2)) rfl<|HY (I7 (cs:=[.int .i64 (0),.int .i64 (0)]) hS rfl Tryz.zeroValue97 rfl) (bQ rfl) rfl rfl ?_
      clear hS
      rintro _ w ⟨b3,rfl,hS⟩
      refine MW (QI (vs:=[.int .i64 (x12.Handle),.int .i64 (x12.aJ)]) hS (i:=1) rfl rfl rfl rfl rfl Tryz.sizeOf97 rfl rfl rfl) (bQ rfl) rfl ?_
      clear hS
      intro w hS
      refine bE fun a hA=>bK<|bK<|BN (J:=fun a' w'=>∃(x13:Bool),iY x9 x10 x12 x13=some q2∧kH 51 [(0,s1),(3,.pointer (some ⟨b1,0,none⟩)),(7,.pointer (some ⟨b3,0,none⟩)),(12,s1),(13,.int .i64 ((l.length:Int))),(14,.int .i64 (x3)),(19,s2),(20,.int .i64 ((x6.Rows.length:Int))),(21,.int .i64 (x9)),(41,.bool (x13))] a'∧St (cQ w0) w' [BE b1 (List.map (fun q:Bool=>Value.bool q) (x10:List Bool)),BE b3 [.int .i64 (x12.Handle),.int .i64 (x12.aJ)]] [yD [s1] (l:List aY),yD [s2] (x6.Rows:List dA)]) ?_ ?_
      ·skip
       refine cD hA ?_
       clear hA
       refine oy (xO (m:=0) Tryz.underlying97 rfl rfl Tryz.sizeOf3 rfl rfl) rfl<|oy (iO rfl rfl Tryz.isAgg3 (hS.cell 1 rfl rfl)) rfl ?_
       obtain⟨x15,hx15,hG2⟩:=rJ hG2
       refine UB (G9 Tryz.call134 rfl rfl) (bQ rfl) rfl rfl (VR (h:=x12.Handle) hx15) ?_
       rintro _ w ⟨rfl,hk⟩
       replace hS:=hS.after hk;clear hk
       refine oy (XF rfl rfl) rfl<|om rfl rfl<|FP (s:=29) rfl (fun hc5=>?_) (fun hc5=>?_)
       ·replace hG2:=I8 hc5 hG2
        refine fI (bX rfl rfl rfl (by rw [hc5];rfl)) rfl rfl ?_
        refine fI (bX rfl rfl rfl (by rw [hc5];rfl)) rfl rfl ?_
        refine fI (bX rfl rfl rfl (by rw [hc5];rfl)) rfl rfl ?_
        refine fI (bX rfl rfl rfl (by rw [hc5];rfl)) rfl rfl ?_
        refine oy (tP rfl rfl hc5 rfl) rfl<|om rfl rfl<|fI (bX rfl rfl rfl rfl) rfl rfl<|fI (bX rfl rfl rfl rfl) rfl rfl<|fI (bX rfl rfl rfl rfl) rfl rfl<|fI (bX rfl rfl rfl rfl) rfl rfl<|fI (bX rfl rfl rfl rfl) rfl rfl<|oy (tP rfl rfl rfl rfl) rfl<|bE fun a hA=>?_
        exact⟨true,hG2,hA.part ⟨rfl,rfl,rfl,rfl,rfl,rfl,rfl,rfl,rfl,rfl,trivial⟩,((hS).KC [0,1] rfl).tQ [0,1] rfl⟩
       ·replace hG2:=I9 hc5 hG2
        refine eX (xO (m:=0) Tryz.underlying97 rfl rfl Tryz.sizeOf3 rfl rfl) (bX rfl rfl rfl (by rw [hc5];rfl)) rfl rfl ?_
        refine eX (iO rfl rfl Tryz.isAgg3 (hS.cell 1 rfl rfl)) (bX rfl rfl rfl (by rw [hc5];rfl)) rfl rfl ?_
        obtain⟨x16,hx16,hG2⟩:=rJ hG2
        refine UB (G9 Tryz.call58 rfl rfl) (bX rfl rfl rfl (by rw [hc5];rfl)) rfl rfl (IN (n:=x12.aJ) (low:=0) (high:=100000) hx16) ?_
        rintro _ w ⟨rfl,hk⟩
        replace hS:=hS.after hk;clear hk
        refine eX (XF rfl rfl) (bX rfl rfl rfl (by rw [hc5];rfl)) rfl rfl ?_
        refine oy (yE rfl rfl hc5 rfl) rfl<|om rfl rfl<|FP (s:=35) rfl (fun hc6=>?_) (fun hc6=>?_)
        ·replace hG2:=I8 hc6 hG2
         refine fI (bX rfl rfl rfl (by rw [hc6];rfl)) rfl rfl ?_
         refine fI (bX rfl rfl rfl (by rw [hc6];rfl)) rfl rfl ?_
         refine fI (bX rfl rfl rfl (by rw [hc6];rfl)) rfl rfl ?_
         refine fI (bX rfl rfl rfl (by rw [hc6];rfl)) rfl rfl ?_
         refine fI (bX rfl rfl rfl (by rw [hc6];rfl)) rfl rfl ?_
         refine oy (tP rfl rfl hc6 rfl) rfl<|bE fun a hA=>?_
         exact⟨true,hG2,hA.part ⟨rfl,rfl,rfl,rfl,rfl,rfl,rfl,rfl,rfl,rfl,trivial⟩,((hS).KC [0,1] rfl).tQ [0,1] rfl⟩
        ·replace hG2:=I9 hc6 hG2
         refine eX (xO (m:=0) Tryz.underlying97 rfl rfl Tryz.sizeOf3 rfl rfl) (bX rfl rfl rfl (by rw [hc6];rfl)) rfl rfl ?_
         refine eX (iO rfl rfl Tryz.isAgg3 (hS.cell 1 rfl rfl)) (bX rfl rfl rfl (by rw [hc6];rfl)) rfl rfl ?_
         refine eX (S3 rfl rfl rfl (by decide)) (bX rfl rfl rfl (by rw [hc6];rfl)) rfl rfl ?_
         obtain⟨hn2,hG2⟩:=jV hG2
         refine eX (WT Tryz.underlying217 Tryz.sizeOf4 hn2 rfl rfl rfl) (bX rfl rfl rfl (by rw [hc6];rfl)) rfl rfl ?_
         obtain⟨x17,hx17,hG2⟩:=rJ hG2
         refine eX (iO rfl rfl Tryz.isAgg4 (hS.aIW 0 rfl hx17)) (bX rfl rfl rfl (by rw [hc6];rfl)) rfl rfl ?_
         refine oy (yE rfl rfl hc6 rfl) rfl<|bE fun a hA=>?_
         exact⟨x17,hG2,hA.part ⟨rfl,rfl,rfl,rfl,rfl,rfl,rfl,rfl,rfl,rfl,trivial⟩,((hS).KC [0,1] rfl).tQ [0,1] rfl⟩
      ·skip
       clear hA hS hG2
       rintro a w ⟨x13,hG2,hA,hS⟩
       unfold iY at hG2
       refine kY hA rfl (fun hc4=>?_) (fun hc4=>?_)
       ·replace hG2:=I8 hc4 hG2
        refine bK<|cD hA ?_
        clear hA
        refine oa rfl rfl<|bE fun a hA=>xN ?_
        cases hG2
        have ho:=hr2 _ rfl;subst ho
        replace hG1:some (.stop (Out.ret false))=some q1:=hG1
        cases hG1
        have ho:=hr1 _ rfl;subst ho
        replace hF:some false=some r:=hF
        cases hF
        exact fy Tryz.results169 hA rfl hS
       ·replace hG2:=I9 hc4 hG2
        refine nG<|cD hA ?_
        clear hA
        refine oy (xO (m:=0) Tryz.underlying97 rfl rfl Tryz.sizeOf3 rfl rfl) rfl<|oy (iO rfl rfl Tryz.isAgg3 (hS.cell 1 rfl rfl)) rfl<|oy (S3 rfl rfl rfl (by decide)) rfl ?_
        obtain⟨hn1,hG2⟩:=jV hG2
        refine oy (WT Tryz.underlying217 Tryz.sizeOf4 hn1 rfl rfl rfl) rfl ?_
        obtain⟨x14,hx14,hG2⟩:=rJ hG2
        refine MW (aMU (xd:=true) hS (m:=0) rfl hx14 Tryz.sizeOf4 rfl rfl rfl rfl rfl rfl) (bQ rfl) rfl ?_
        clear hS
        intro w hS
        refine bE fun a hA=>cD hA ?_
        clear hA
        refine oy (HZ rfl rfl rfl) rfl<|om rfl rfl<|bE fun a hA=>?_
        cases hG2
        exact⟨_,rfl,⟨hA.part ⟨rfl,rfl,rfl,rfl,rfl,rfl,rfl,rfl,trivial⟩,((hS).KC [0] rfl).tQ [0,1] rfl⟩⟩
     ·replace hG2:=I9 hc3 hG2
      refine G5<|BL ?_
      cases hG2
      have ho:=hr2 _ rfl;subst ho
      exact⟨x10,rfl,hA.part ⟨rfl,rfl,rfl,rfl,rfl,trivial⟩,((hS).KC [0] rfl).tQ [0] rfl⟩
    ·skip
     clear hA hS hl2
     rintro a w ⟨x11,heq,hA,hS⟩
     replace hG1:wP x3 x11=some q1:=by rw [heq] at hG1;exact hG1
     clear heq
     unfold wP at hG1
     refine cD hA ?_
     clear hA
     refine oy (HZ rfl rfl rfl) rfl<|om rfl rfl<|bE fun a hA=>?_
     cases hG1
     exact⟨_,rfl,⟨hA.part ⟨rfl,rfl,rfl,rfl,rfl,trivial⟩,((hS).KC [0] rfl).tQ [0] rfl⟩⟩
   ·replace hG1:=I9 hc2 hG1
    refine G5<|BL ?_
    cases hG1
    have ho:=hr1 _ rfl;subst ho
    exact⟨rfl,hA.part ⟨rfl,trivial⟩,((hS).KC [] rfl).tQ [0] rfl⟩
  ·skip
   clear hA hS hl1
   rintro a w ⟨heq,hA,hS⟩
   replace hF:wO l=some r:=by rw [heq] at hF;exact hF
   clear heq
   unfold wO at hF
   refine bK<|cD hA ?_
   clear hA
   refine om rfl rfl ?_
   obtain⟨x5,hx5,hF⟩:=rJ hF
   refine UB (G9 Tryz.call245 rfl rfl) (bQ rfl) rfl rfl (TN (l:=l) (hS.rd 0 rfl) hx5) ?_
   rintro _ w ⟨rfl,hk⟩
   replace hS:=hS.after hk;clear hk
   refine oy (aGW rfl rfl rfl) rfl<|oa rfl rfl<|bE fun a hA=>xN ?_
   cases hF
   exact fy Tryz.results169 hA rfl hS
noncomputable section
open Go.RowKit
attribute [local go_sem] Oper.semAt_some
def K8(e:Ev):List Value:=[.int .i64 e.Kind,.int .i64 e.VQ,.int .i64 e.aG,.int .i64 e.Cell,.int .i64 e.Handle,.int .i64 e.cV,.int .i64 e.Code]
def dn(f:Nat→Ev)(n k:Nat):List (Nat×Ev):=(List.range k).map fun j=>(n - 1 - j,f (n - 1 - j))
theorem aDK(f:Nat→Ev)(n k:Nat):dn f n (k+1)=dn f n k ++ [(n - 1 - k,f (n - 1 - k))]:=by simp [dn,List.range_succ]
theorem aKW(f:Nat→Ev)(n k:Nat):(dn f n k).length=k:=by simp [dn]
def aKX(W:World)(b o:Nat)(e:Ev):Prop:=W.cell? ⟨b,o,none⟩=some (.int .i64 e.Kind)∧W.cell? ⟨b,o+1,none⟩=some (.int .i64 e.VQ)∧W.cell? ⟨b,o+2,none⟩=some (.int .i64 e.aG)∧W.cell? ⟨b,o+3,none⟩=some (.int .i64 e.Cell)∧W.cell? ⟨b,o+4,none⟩=some (.int .i64 e.Handle)∧W.cell? ⟨b,o+5,none⟩=some (.int .i64 e.cV)∧W.cell? ⟨b,o+6,none⟩=some (.int .i64 e.Code)
theorem aKX.below{n₀:Nat}{A B:World}(h:Below n₀ A B){b o:Nat}{e:Ev}(hb:b < n₀)(k:aKX A b o e):aKX B b o e:=by
  have q:∀j,B.cell? ⟨b,j,none⟩=A.cell? ⟨b,j,none⟩:=fun j=>h.cell (p:=⟨b,j,none⟩) hb
  exact⟨(q _).trans k.1,(q _).trans k.2.1,(q _).trans k.2.2.1,(q _).trans k.2.2.2.1,(q _).trans k.2.2.2.2.1,(q _).trans k.2.2.2.2.2.1,(q _).trans k.2.2.2.2.2.2⟩
set_option maxRecDepth 100000 in
set_option maxHeartbeats 2000000 in
theorem aOX(F:Fence)(n:Nat)(h7:F.fn 117)(hro:F.round=none)(hn:1≤n)(l Bs n₀ b off len cap:Nat)(f:Nat→Ev)(hreach:len≤9223372036854775807)(hb:b < n₀)(hb2:Bs < n₀)(J Jx:List (Nat×Ev)→World→Prop)
    (hY:∀pre x W,J pre W→pre.length < len→YieldAt F (n - 1) Tryz.prog l #[.int .i64 (x.1:Int),.agg (K8 x.2).toArray] W fun e W'=>
      (e=.returned (.bool true)∧J (pre ++ [x]) W'∧Below n₀ W W')∨(e=.returned (.bool false)∧Jx (pre ++ [x]) W'))
    (W:World) (hBs:W.cell? ⟨Bs,0,none⟩=some (.slice (some ⟨b,off,none⟩) len cap)) (hc:∀j,j < len→aKX W b (off+j * 7) (f j)) (h0:J [] W) :
    CallsIn F n Tryz.prog 117 #[.func (.yield l) #[] #[],.pointer (some ⟨Bs,0,none⟩)] W fun e W'=>(∃v,e=.returned v) ∧
      ((∃ys,ys=dn f len len∧J ys W')∨(∃pre,(∃k,k≤len∧pre=dn f len k)∧Jx pre W')):=by
  refine callsIn_of_wp Tryz.func117 rfl h7 ?_ hro
  simp only [Tryz.ntmps117,List.size_toArray,List.length_cons,List.length_nil,Nat.reduceAdd,Nat.reduceSub,Array.replicate_succ,Array.replicate_zero,List.push_toArray,List.append_toArray,List.nil_append,List.cons_append]
  gi_wp2
  gi_loopw [3] (fun i wr=>∃k:Nat,k≤len∧i=.int .i64 ((len:Int) - 1 - k)∧J (dn f len k) wr∧Below n₀ W wr)
    (fun i _=>(intOf i+1).toNat)
  case atStart=>exact⟨0,Nat.zero_le _,by simp,h0,Below.refl _ _⟩
  case round=>
    obtain⟨k,hk,rfl,hJs,hnx⟩:=hrel
    have hBs':=(hnx.cell (p:=⟨Bs,0,none⟩) hb2).trans hBs
    by_cases hlt:k < len
    · obtain⟨fn,tmps,assign,body,hy,hR⟩:=hY _ (len - 1 - k,f (len - 1 - k)) wr hJs (by rw [aKW];exact hlt)
      obtain⟨c0,c1,c2,c3,c4,c5,c6⟩:=(hc (len - 1 - k) (by omega)).below hnx hb
      have e1:((len - 1 - k:Nat):Int)=(len:Int) - 1 - k:=by omega
      dsimp only at hy
      rw [e1] at hy
      simp only [K8] at hy
      gi_wp2
      refine hR.mono ?_
      rintro e W3 (⟨rfl,hJ3,hk3⟩ | ⟨rfl,hJx3⟩)
      · gi_wp2
        go_roundw
        case rel=>exact⟨k+1,by omega,by simp;omega,by rw [aDK];exact hJ3,hnx.trans hk3⟩
        case measure=>simp [intOf];omega
      · gi_wp2
        refine bodyPost_ret (results_none rfl _ _ _) rfl ?_
        exact⟨⟨_,rfl⟩,.inr ⟨_,⟨k+1,by omega,(aDK _ _ _).symm⟩,hJx3⟩⟩
    · obtain rfl:k=len:=by omega
      gi_wp2
      go_end0
      exact⟨⟨_,rfl⟩,.inl ⟨_,rfl,hJs⟩⟩
theorem aKY(F:Fence)(n:Nat)(h7:F.fn 117)(hro:F.round=none)(l Bs:Nat)(J:List (Nat×Ev)→World→Prop)(W:World)(a:Option Addr)(c:Nat)(hBs:W.cell? ⟨Bs,0,none⟩=some (.slice a 0 c))(h0:J [] W) :
    CallsIn F n Tryz.prog 117 #[.func (.yield l) #[] #[],.pointer (some ⟨Bs,0,none⟩)] W fun e W'=>(∃v,e=.returned v)∧J [] W':=by
  refine callsIn_of_wp Tryz.func117 rfl h7 ?_ hro
  simp only [Tryz.ntmps117,List.size_toArray,List.length_cons,List.length_nil,Nat.reduceAdd,Nat.reduceSub,Array.replicate_succ,Array.replicate_zero,List.push_toArray,List.append_toArray,List.nil_append,List.cons_append]
  gi_wp2
  gi_loopw [3] (fun i wr=>i=.int .i64 (-1)∧J [] wr) (fun _ _=>0)
  case atStart=>exact⟨by simp,h0⟩
  case round=>
    obtain⟨rfl,hJs⟩:=hrel
    gi_wp2
    go_end0
    exact⟨⟨_,rfl⟩,hJs⟩
theorem aSC(F:Fence)(n:Nat)(h5:F.fn 55)(hro:F.round=none)(a:Option Addr)(len cap:Nat)(w:World) :
    CallsIn F n Tryz.prog 55 #[.slice a len cap] w fun e w'=>e=.returned (.func (.func 117) #[] #[.pointer (some ⟨w.heap.size,0,none⟩)])∧w'=w.alloc (.cells #[.slice a len cap] 44):=by
  refine callsIn_of_wp Tryz.func55 rfl h5 ?_ hro
  simp only [Tryz.ntmps55,List.size_toArray,List.length_cons,List.length_nil,Nat.reduceAdd,Nat.reduceSub,Array.replicate_succ,Array.replicate_zero,List.push_toArray,List.append_toArray,List.nil_append,List.cons_append]
  gi_wp2
  go_ret
  exact⟨rfl,rfl⟩
def Evs(n₀:Nat)(W:World)(sv:Value)(zs:List Ev):Prop:=
  ((∃a c,sv=.slice a 0 c)∧zs=[])∨∃b off cap,sv=.slice (some ⟨b,off,none⟩) zs.length cap∧b < n₀∧∀j,j < zs.length→aKX W b (off+j * 7) (zs[j]?.getD default)
theorem Evs.below{n₀ m:Nat}{A B:World}(h:Below m A B)(hm:n₀≤m){sv:Value}{zs:List Ev}:Evs n₀ A sv zs→Evs m B sv zs
  | .inl e=>.inl e
  | .inr ⟨b,off,cap,e,hb,hc⟩=>.inr ⟨b,off,cap,e,by omega,fun j hj=>(hc j hj).below h (by omega)⟩
theorem aHT(F:Fence)(n:Nat)(h7:F.fn 117)(hro:F.round=none)(hn:1≤n)(Bs n₀:Nat)(sv:Value)(zs:List Ev)(hreach:zs.length≤9223372036854775807)(w:World)(hBs:Bs < n₀)(hn₀:n₀≤w.heap.size)
    (hc:w.cell? ⟨Bs,0,none⟩=some sv) (hI:Evs n₀ w sv zs) :
    SeqStopsK F n Tryz.prog 117 #[.pointer (some ⟨Bs,0,none⟩)] (fun x:Nat×Ev=>#[Value.int .i64 (x.1:Int),.agg (K8 x.2).toArray]) (Below n₀) (fun ys=>ys=dn (fun j=>zs[j]?.getD default) zs.length zs.length)
      (fun pre=>∃k,k≤zs.length∧pre=dn (fun j=>zs[j]?.getD default) zs.length k) zs.length w:=fun l J Jx W hW _ _ hY h0=>by
  have hc':=(hW.cell (p:=⟨Bs,0,none⟩) (show Bs < w.heap.size by omega)).trans hc
  rcases hI.below (hW.mono hn₀) (Nat.le_refl _) with ⟨⟨a,c,rfl⟩,rfl⟩ | ⟨b,off,cap,rfl,hb,hcs⟩
  · exact(aKY F n h7 hro l Bs J W a c hc' h0).mono fun e W' ⟨he,hj⟩=>⟨he,.inl ⟨_,rfl,hj⟩⟩
  · exact aOX F n h7 hro hn l Bs n₀ b off zs.length cap (fun j=>zs[j]?.getD default) hreach hb hBs J Jx hY W hc' hcs h0
theorem aOY{l:List Ev}{p:Ev→Bool}{d:Ev}{k:Nat}(hk:k < l.length)(h1:∀j,j < k→p (l[l.length - 1 - j]?.getD d)=false)(h2:p (l[l.length - 1 - k]?.getD d)=true):l.reverse.find? p=some (l[l.length - 1 - k]?.getD d):=by
  have g:∀j,j < l.length→(l[l.length - 1 - j]?.getD d)=l.reverse[j]?.getD d:=fun j hj=>by rw [List.getElem?_reverse hj]
  rw [g k hk] at h2 ⊢
  have e:l.reverse[k]?.getD d=l.reverse[k]'(by simpa using hk):=by rw [List.getElem?_eq_getElem (by simpa using hk)];rfl
  rw [List.find?_eq_some_iff_getElem]
  refine⟨h2,k,by simpa using hk,e.symm,fun j hj=>?_⟩
  have h3:=h1 j hj
  rw [g j (by omega),List.getElem?_eq_getElem (by simp;omega)] at h3
  simpa using h3
theorem aKZ{l:List Ev}{p:Ev→Bool}{d:Ev}(h1:∀j,j < l.length→p (l[l.length - 1 - j]?.getD d)=false):l.reverse.find? p=none:=by
  rw [List.find?_eq_none]
  intro x hx
  obtain⟨i,hi,rfl⟩:=List.getElem_of_mem (List.mem_reverse.1 hx)
  have:=h1 (l.length - 1 - i) (by omega)
  rw [show l.length - 1 - (l.length - 1 - i)=i from by omega,List.getElem?_eq_getElem hi] at this
  simpa using this
theorem aOZ{f:Nat→Ev}{n k j:Nat}(hj:j < k):(n - 1 - j,f (n - 1 - j))∈dn f n k:=by
  simp only [dn,List.mem_map,List.mem_range]
  exact⟨j,hj,rfl⟩
theorem aJY{W:World}{B:Nat}{e:Ev}(h:W.heap[B]?=some (.cells (K8 e).toArray 50 (0,0))):aKX W B 0 e:=by
  refine⟨?_,?_,?_,?_,?_,?_,?_⟩ <;> simp [World.cell?,h,K8]
theorem aFO{zs:List Ev}{len:Nat}(hl:zs.length=len)(i:Int):(zs.take (max (min i len) 0).toNat).length=(max (min i len) 0).toNat:=by
  rw [List.length_take];omega
set_option maxRecDepth 100000 in
set_option maxHeartbeats 2000000 in
theorem aK0(F:Fence)(n:Nat)(h3:F.fn 12)(h5:F.fn 55)(h11:F.fn 117)(hro:F.round=none)(hn:3≤n)(a:Option Addr)(len cap:Nat)(zs:List Ev)(i cell:Int)(hl:zs.length=len)(hlc:len≤cap)(hc:cap≤9223372036854775807)(w:World)(hz:Evs w.heap.size w (.slice a len cap) zs) :
    CallsIn F n Tryz.prog 12 #[.slice a len cap,.int .i64 i,.int .i64 cell] w fun e W'=>e=.returned (.agg (K8 (((zs.take (max (min i len) 0).toNat).reverse.find? (QX cell)).getD ⟨0,0,0,0,0,0,0⟩)).toArray)∧Below w.heap.size w W':=by
  have h1:1≤n:=by omega
  refine callsIn_of_wp_marks Tryz.func12 rfl h3 ?_ hro
  simp only [Tryz.ntmps12,List.size_toArray,List.length_cons,List.length_nil,Nat.reduceAdd,Nat.reduceSub,Array.replicate_succ,Array.replicate_zero,List.push_toArray,List.append_toArray,List.nil_append,List.cons_append]
  obtain⟨a',ha⟩:∃a',a'=a:=⟨_,rfl⟩
  rw [←ha] at hz
  rcases a with _ | p
  all_goals gi_wp2_with (gi_at_call 55;refine(aSC F (n - 1) h5 hro _ _ _ _).mono ?_;rintro e w' ⟨rfl,rfl⟩)
  all_goals
    refine aON hro h1 (gf:=117) (lb:=#[.pointer (some ⟨w.heap.size+1+1,0,none⟩)]) (n₀:=w.heap.size+3) rfl h11 Tryz.call117
      (aHT F (n - 1) h11 hro (by omega) (w.heap.size+2) (w.heap.size+3) (.slice a' (max (min i len) 0).toNat cap) (zs.take (max (min i len) 0).toNat) (by simp;omega) _ (by omega) (by simp) ?hc ?hI) (by simp) (Below.refl _ _) (fun _=>rfl)
      (fun pre W=>(∀p∈pre,QX cell p.2=false)∧W.heap[w.heap.size]?=some (.cells #[.int .i64 cell] 3 (0,0))∧W.heap[w.heap.size+1]?=some (.cells (K8 ⟨0,0,0,0,0,0,0⟩).toArray 50 (0,0))∧Below w.heap.size w W)
      (fun pre W=>∃ini last,pre=ini ++ [last]∧(∀p∈ini,QX cell p.2=false)∧QX cell last.2=true∧W.heap[w.heap.size+1]?=some (.cells (K8 last.2).toArray 50 (0,0))∧Below w.heap.size w W)
      (fun pre x a1 W=>(∀p∈pre,QX cell p.2=false)∧W.heap[w.heap.size]?=some (.cells #[.int .i64 cell] 3 (0,0))∧W.heap[w.heap.size+1]?=some (.cells (K8 ⟨0,0,0,0,0,0,0⟩).toArray 50 (0,0))∧Below w.heap.size w W∧∃B t0 t1 t2 t3 t4 t7 t9 t10 t11 t12 t13 t14 t15 t16 t17 t18 t19 t20 t21 t22 t23 t24 t25 t26 t27 t28 t29,w.heap.size+3≤B∧W.heap[B]?=some (.cells (K8 x.2).toArray 50 (0,0))∧a1={tmps:=#[t0,t1,t2,t3,t4,.pointer (some ⟨w.heap.size,0,none⟩),.pointer (some ⟨w.heap.size+1,0,none⟩),t7,.pointer (some ⟨B,0,none⟩),t9,t10,t11,t12,t13,t14,t15,t16,t17,t18,t19,t20,t21,t22,t23,t24,t25,t26,t27,t28,t29],defers:=[]})
      ?o1 ?o2 ?o3 ?h0 ?assign ?body ?done ?stop
    case hc=>
      have q:∀(X:World) (v:Value),X.heap.size=w.heap.size+2→(X.alloc (.cells #[v] 44)).cell? ⟨w.heap.size+2,0,none⟩=some v:=fun X v hX=>by
        have:=(Boxed.new X 44 v).cell
        rwa [hX] at this
      rw [q _ _ (by simp),ha]
      first
        | rw [show(max (min i (len:Int)) 0).toNat=len from by omega]
        | rw [show(max (min i (len:Int)) 0).toNat=0 from by omega]
        | rw [show(max (min i (len:Int)) 0).toNat=i.toNat from by omega]
    case hI=>
      have hw:∀x y z,Below w.heap.size w (((w.alloc x).alloc y).alloc z):=fun x y z=>((((Below.refl w.heap.size w).alloc (Nat.le_refl _) x).alloc (by simp) y).alloc (by simp;omega) z)
      rcases hz with ⟨_,hz⟩ | ⟨b,off,c,e,hb,hz⟩
      · exact .inl ⟨⟨_,_,by rw [show(max (min i (len:Int)) 0).toNat=0 from by rw [hz] at hl;simp at hl;omega]⟩,by rw [hz];simp⟩
      · injection e with e1 e2 e3
        refine .inr ⟨b,off,cap,by rw [aFO hl,e1],by omega,fun j hj=>?_⟩
        have hj':=hj
        rw [aFO hl] at hj'
        rw [List.getElem?_take,if_pos hj']
        exact(hz j (by omega)).below (hw _ _ _) hb
    case o1=>
      rintro pre X Y row ⟨hp,k1,k2,hB⟩ hg hr
      exact⟨hp,(hg.block _ (Array.getElem?_eq_some_iff.1 k1).1 (fun e=>by have:=(hr _ e.symm).1;simp at this;omega)).trans k1,(hg.block _ (Array.getElem?_eq_some_iff.1 k2).1 (fun e=>by have:=(hr _ e.symm).1;simp at this;omega)).trans k2,hB.grown hg hB.size (fun j e=>by have:=(hr j e).1;simp at this;omega)⟩
    case o2=>
      rintro pre X Y row ⟨ini,last,e1,e2,e3,k2,hB⟩ hg hr
      exact⟨ini,last,e1,e2,e3,(hg.block _ (Array.getElem?_eq_some_iff.1 k2).1 (fun e=>by have:=(hr _ e.symm).1;simp at this;omega)).trans k2,hB.grown hg hB.size (fun j e=>by have:=(hr j e).1;simp at this;omega)⟩
    case o3=>
      rintro x a1 pre X Y row ⟨hp,k1,k2,hB,B,t0,t1,t2,t3,t4,t7,t9,t10,t11,t12,t13,t14,t15,t16,t17,t18,t19,t20,t21,t22,t23,t24,t25,t26,t27,t28,t29,hBB,k3,ea⟩ hg hr
      refine⟨hp,(hg.block _ (Array.getElem?_eq_some_iff.1 k1).1 (fun e=>by have:=(hr _ e.symm).1;simp at this;omega)).trans k1,(hg.block _ (Array.getElem?_eq_some_iff.1 k2).1 (fun e=>by have:=(hr _ e.symm).1;simp at this;omega)).trans k2,hB.grown hg hB.size (fun j e=>by have:=(hr j e).1;simp at this;omega),B,t0,t1,t2,t3,t4,t7,t9,t10,t11,t12,t13,t14,t15,t16,t17,t18,t19,t20,t21,t22,t23,t24,t25,t26,t27,t28,t29,hBB,(hg.block _ (Array.getElem?_eq_some_iff.1 k3).1 (fun e=>?_)).trans k3,ea⟩
      obtain⟨_,o,ho,hoc⟩:=hr _ e.symm
      rw [k3] at ho
      cases ho
      cases hoc
    case h0=>
      have b0:=World.alloc_heap_new w (.cells #[.int .i64 cell] 3)
      have b1:=World.alloc_heap_new (w.alloc (.cells #[.int .i64 cell] 3)) (.cells #[.int .i64 0,.int .i64 0,.int .i64 0,.int .i64 0,.int .i64 0,.int .i64 0,.int .i64 0] 50)
      rw [World.size_alloc] at b1
      refine⟨by simp,?_,?_,(((Below.refl _ w).alloc (Nat.le_refl _) _).alloc (by simp) _).alloc (by simp;omega) _⟩
      · exact((Below.heap_alloc _ _ _ (by simp;omega)).trans (Below.heap_alloc _ _ _ (by simp))).trans b0
      · exact(Below.heap_alloc _ _ _ (by simp)).trans b1
    case assign=>
      rintro l pre x W hs ⟨hp,hc0,hr0,hB⟩ _
      have hs':w.heap.size+3≤W.heap.size:=by simpa using hs
      have hst:(storeCells ⟨W.heap.size,0,none⟩ (K8 x.2)).run Tryz.prog (W.alloc (.cells #[.int .i64 0,.int .i64 0,.int .i64 0,.int .i64 0,.int .i64 0,.int .i64 0,.int .i64 0] 50))=.ok () _:=aOO _ (K8 x.2) _ [] _ (World.alloc_heap_new W _) rfl (by simp [K8,Value.oneCell'])
      gi_wp2
      rw [aKU]
      exact⟨(KeepsOthers.alloc W _).from _,(Below.refl _ W).alloc hs' _,hp,(Below.heap_alloc _ _ _ (by omega)).trans hc0,(Below.heap_alloc _ _ _ (by omega)).trans hr0,hB.alloc (by omega) _,W.heap.size,_,_,_,_,_,_,_,_,_,_,_,_,_,_,_,_,_,_,_,_,_,_,_,_,_,_,_,hs',World.alloc_heap_new W _,rfl⟩
    case body=>
      rintro l pre x a1 W ⟨hp,hc0,hr0,hB,B,t0,t1,t2,t3,t4,t7,t9,t10,t11,t12,t13,t14,t15,t16,t17,t18,t19,t20,t21,t22,t23,t24,t25,t26,t27,t28,t29,hBB,hx,rfl⟩
      have hc0':W.cell? ⟨w.heap.size,0,none⟩=some (.int .i64 cell):=by simp [World.cell?,hc0]
      obtain⟨x1,x2⟩:=x
      have hx0:W.cell? ⟨B,0,none⟩=some (.int .i64 x2.Kind):=by simp [World.cell?,hx,K8]
      have hx1:W.cell? ⟨B,1,none⟩=some (.int .i64 x2.VQ):=by simp [World.cell?,hx,K8]
      have hx2:W.cell? ⟨B,2,none⟩=some (.int .i64 x2.aG):=by simp [World.cell?,hx,K8]
      have hx3:W.cell? ⟨B,3,none⟩=some (.int .i64 x2.Cell):=by simp [World.cell?,hx,K8]
      have hx4:W.cell? ⟨B,4,none⟩=some (.int .i64 x2.Handle):=by simp [World.cell?,hx,K8]
      have hx5:W.cell? ⟨B,5,none⟩=some (.int .i64 x2.cV):=by simp [World.cell?,hx,K8]
      have hx6:W.cell? ⟨B,6,none⟩=some (.int .i64 x2.Code):=by simp [World.cell?,hx,K8]
      have hlt:=(Array.getElem?_eq_some_iff.1 hr0).1
      have hy0:W.cell? ⟨w.heap.size+1,0,none⟩=some (.int .i64 0):=by simp [World.cell?,hr0,K8]
      have hy1:W.cell? ⟨w.heap.size+1,1,none⟩=some (.int .i64 0):=by simp [World.cell?,hr0,K8]
      have hy2:W.cell? ⟨w.heap.size+1,2,none⟩=some (.int .i64 0):=by simp [World.cell?,hr0,K8]
      have hy3:W.cell? ⟨w.heap.size+1,3,none⟩=some (.int .i64 0):=by simp [World.cell?,hr0,K8]
      have hy4:W.cell? ⟨w.heap.size+1,4,none⟩=some (.int .i64 0):=by simp [World.cell?,hr0,K8]
      have hy5:W.cell? ⟨w.heap.size+1,5,none⟩=some (.int .i64 0):=by simp [World.cell?,hr0,K8]
      have hy6:W.cell? ⟨w.heap.size+1,6,none⟩=some (.int .i64 0):=by simp [World.cell?,hr0,K8]
      have hf0:∀j,W.frozen? ⟨w.heap.size+1,j,none⟩=false:=fun j=>by simp [World.frozen?,hr0]
      gi_wp2
      · rw [aXK _ _ _ _ _ _ _ hr0]
        have h2:x2.Kind=2:=by assumption
        rw [←h2]
        exact⟨KeepsFrom.of_grownBy (grownBy_putObj' W _ _) (fun j e=>by cases e;omega),pre,x1,x2,rfl,fun a b h=>hp (a,b) h,by simp_all [QX],World.putObj_heap_same hlt,hB.grown (grownBy_putObj' W _ _) (by omega) (fun j e=>by cases e;omega)⟩
      · refine⟨KeepsFrom.refl _ _,Below.refl _ _,fun a b h=>?_,hc0,hr0,hB⟩
        rcases List.mem_append.1 h with h | h
        · exact hp (a,b) h
        · simp at h;obtain⟨rfl,rfl⟩:=h;simp_all [QX]
      · refine⟨KeepsFrom.refl _ _,Below.refl _ _,fun a b h=>?_,hc0,hr0,hB⟩
        rcases List.mem_append.1 h with h | h
        · exact hp (a,b) h
        · simp at h;obtain⟨rfl,rfl⟩:=h;simp_all [QX]
    case done=>
      rintro D ys W hD rfl ⟨hne,hc0,hr0,hB⟩ hK
      have hy0:W.cell? ⟨w.heap.size+1,0,none⟩=some (.int .i64 0):=by simp [World.cell?,hr0,K8]
      have hy1:W.cell? ⟨w.heap.size+1,1,none⟩=some (.int .i64 0):=by simp [World.cell?,hr0,K8]
      have hy2:W.cell? ⟨w.heap.size+1,2,none⟩=some (.int .i64 0):=by simp [World.cell?,hr0,K8]
      have hy3:W.cell? ⟨w.heap.size+1,3,none⟩=some (.int .i64 0):=by simp [World.cell?,hr0,K8]
      have hy4:W.cell? ⟨w.heap.size+1,4,none⟩=some (.int .i64 0):=by simp [World.cell?,hr0,K8]
      have hy5:W.cell? ⟨w.heap.size+1,5,none⟩=some (.int .i64 0):=by simp [World.cell?,hr0,K8]
      have hy6:W.cell? ⟨w.heap.size+1,6,none⟩=some (.int .i64 0):=by simp [World.cell?,hr0,K8]
      have hf0:∀j,W.frozen? ⟨w.heap.size+1,j,none⟩=false:=fun j=>by simp [World.frozen?,hr0]
      gi_wp2
      rw [aXK _ _ _ _ _ _ _ hr0]
      rw [show W.putObj (w.heap.size+1) (.cells #[.int .i64 0,.int .i64 0,.int .i64 0,.int .i64 0,.int .i64 0,.int .i64 0,.int .i64 0] 50 (0,0))=W from UH hr0]
      have hD':w.heap.size+3≤D:=by simpa using hD
      have hlt:=(Array.getElem?_eq_some_iff.1 hr0).1
      have hf:(W.putObj D (.deferred none)).heap[w.heap.size+1]?=_:=(World.putObj_heap_other (by omega)).trans hr0
      obtain⟨g0,g1,g2,g3,g4,g5,g6⟩:=aJY hf
      have hbl:=hB.trans (belowK_b (w:=w) (Nat.le_refl _) W D (.deferred (some [])) (.deferred none) (by omega) hK rfl rfl)
      refine⟨by simp,.inl ⟨_,_,rfl,run_takeDeferred hK,?_⟩⟩
      refine⟨.agg (K8 ⟨0,0,0,0,0,0,0⟩).toArray,?_,?_,hbl⟩
      · simp [results,Tryz.f12,go_sem,g0,g1,g2,g3,g4,g5,g6,K8]
      · rw [aKZ (d:=default) fun j hj=>hne _ (aOZ hj)]
        rfl
    case stop=>
      rintro D pre W hD ⟨k,hk,rfl⟩ ⟨ini,last,e1,e2,e3,hr0,hB⟩ hK
      gi_wp2
      have hD':w.heap.size+3≤D:=by simpa using hD
      have hlt:=(Array.getElem?_eq_some_iff.1 hr0).1
      have hf:(W.putObj D (.deferred none)).heap[w.heap.size+1]?=_:=(World.putObj_heap_other (by omega)).trans hr0
      obtain⟨g0,g1,g2,g3,g4,g5,g6⟩:=aJY hf
      have hbl:=hB.trans (belowK_b (w:=w) (Nat.le_refl _) W D (.deferred (some [])) (.deferred none) (by omega) hK rfl rfl)
      refine⟨by simp,.inl ⟨_,_,rfl,run_takeDeferred hK,?_⟩⟩
      refine⟨.agg (K8 last.2).toArray,?_,?_,hbl⟩
      · simp [results,Tryz.f12,go_sem,g0,g1,g2,g3,g4,g5,g6,K8]
      · obtain⟨k',rfl⟩:∃k',k=k'+1:=by
          cases k with
          | zero=>simp [dn] at e1
          | succ k'=>exact⟨k',rfl⟩
        rw [aDK] at e1
        obtain⟨rfl,e5⟩:=List.append_inj' e1 rfl
        simp only [List.cons.injEq,and_true] at e5
        subst e5
        rw [aOY (d:=default) (k:=k') (by omega) (fun j hj=>e2 _ (aOZ hj)) e3]
        rfl
theorem aBA{w0:World}{l:List Ev}{i:Int}{cell:Int}{s1:Value}{r:Ev}(h1:aK.rd (LR w0) w0 [s1] (l:List Ev))(hF:sS l i cell=some r) :
    Calls Tryz.prog 12 #[s1,.int .i64 (i),.int .i64 (cell)] w0 (Ret fun v w'=>v=.agg #[.int .i64 r.Kind,.int .i64 r.VQ,.int .i64 r.aG,.int .i64 r.Cell,.int .i64 r.Handle,.int .i64 r.cV,.int .i64 r.Code]∧St (cQ w0) w' [] []):=by
  cases hF
  obtain⟨a,c,e,hlc,hc,h4⟩:=(h1:pJ _ _ _ _)
  simp only [List.cons.injEq,and_true] at e
  subst e
  refine Calls.mono ((callsIn_wide (n:=3)).1 (?_:CallsIn Fence.wide 3 Tryz.prog 12 _ w0 fun e W'=>e=.returned (.agg (K8 (((l.take (max (min i (l.length:Int)) 0).toNat).reverse.find? (QX cell)).getD ⟨0,0,0,0,0,0,0⟩)).toArray)∧Below w0.heap.size w0 W')) ?_
  · refine aK0 Fence.wide 3 trivial trivial trivial rfl (Nat.le_refl _) a l.length c l i cell rfl hlc (by have:=hc;simpa [maxLen] using this) w0 ?_
    by_cases h0:l=[]
    · subst h0
      exact .inl ⟨⟨_,_,rfl⟩,rfl⟩
    · rcases h4 with h4 | ⟨b,off,rfl,h4⟩
      · exact(h0 h4).elim
      · refine .inr ⟨b,off,c,rfl,?_,fun j hj=>?_⟩
        · obtain⟨ec,k1,k2,k3⟩:=h4 0 (List.length_pos_iff.2 h0)
          have:=k2 (off+0) ⟨rfl,by omega,by rw [aOV k3];simp⟩
          exact this
        · obtain⟨ec,k1,k2,k3⟩:=h4 j hj
          rw [List.getElem?_eq_getElem hj]
          have hn:aK.n Ev=7:=rfl
          rw [aOV k3,hn] at k1
          exact⟨k1 0 _ rfl,k1 1 _ rfl,k1 2 _ rfl,k1 3 _ rfl,k1 4 _ rfl,k1 5 _ rfl,k1 6 _ rfl⟩
  · rintro e w' ⟨rfl,h⟩
    exact⟨_,rfl,rfl,aFJ h⟩
end
end Go.Proofs.YtabnjpbikjfhoaaGreat
end
