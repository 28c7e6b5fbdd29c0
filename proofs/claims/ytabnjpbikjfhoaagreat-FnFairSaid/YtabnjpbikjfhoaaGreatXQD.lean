import Derived.Test.YtabnjpbikjfhoaaGreatXQC
import Derived.Test.YtabnjpbikjfhoaaGreatProg
set_option linter.unusedVariables false
set_option linter.unusedSimpArgs false
set_option linter.unusedSectionVars false
set_option linter.constructorNameAsVariable false
set_option linter.unnecessarySimpa false
noncomputable section
set_option maxHeartbeats 4000000
set_option maxRecDepth 100000
namespace Go.Proofs.YtabnjpbikjfhoaaGreat
open Go.Gv Tryz
theorem aW:SS prog 3 1 (.int .i64 0):=D3 (b:=8) (by kernel_rfl) rfl
theorem qZ:SS prog 122 1 (.agg #[.slice none 0 0]):=D3 (b:=24) (by kernel_rfl) rfl
theorem jR:SS prog 87 4 (.agg #[.int .i64 0,.int .i64 0,.int .i64 0,.int .i64 0]):=D3 (b:=32) (by kernel_rfl) rfl
theorem dI:SS prog 148 1 (.agg #[.slice none 0 0]):=D3 (b:=24) (by kernel_rfl) rfl
theorem A9:SS prog 100 4 (.agg #[.bool false,.int .i64 0,.bool false,.int .i64 0]):=D3 (b:=32) (by kernel_rfl) rfl
theorem rA:SS prog 152 1 (.agg #[.slice none 0 0]):=D3 (b:=24) (by kernel_rfl) rfl
theorem bS:SS prog 91 21 (.agg #[.bool false,.int .i64 0,.int .i64 0,.int .i64 0,.int .i64 0,.int .i64 0,.int .i64 0,.int .i64 0,.int .i64 0,.int .i64 0,.int .i64 0,.int .i64 0,.int .i64 0,.int .i64 0,.int .i64 0,.int .i64 0,.bool false,.int .i64 0,.int .i64 0,.int .i64 0,.int .i64 0]):=D3 (b:=168) (by kernel_rfl) rfl
theorem jS:SS prog 97 2 (.agg #[.int .i64 0,.int .i64 0]):=D3 (b:=16) (by kernel_rfl) rfl
theorem bJ:SS prog 50 7 (.agg #[.int .i64 0,.int .i64 0,.int .i64 0,.int .i64 0,.int .i64 0,.int .i64 0,.int .i64 0]):=D3 (b:=56) (by kernel_rfl) rfl
theorem aMP:SS prog 32 1 (.slice none 0 0):=D3 (b:=24) (by kernel_rfl) rfl
theorem aG7:SS prog 5 1 (.int .u8 0):=D3 (b:=1) (by kernel_rfl) rfl
theorem vO:SS prog 46 13 (.agg #[.slice none 0 0,.slice none 0 0,.slice none 0 0,.slice none 0 0,.int .i64 0,.slice none 0 0,.slice none 0 0,.slice none 0 0,.slice none 0 0,.slice none 0 0,.slice none 0 0,.slice none 0 0,.int .i64 0]):=D3 (b:=280) (by kernel_rfl) rfl
theorem aPJ:SS prog 4 1 (.bool false):=D3 (b:=1) (by kernel_rfl) rfl
theorem aC:prog.follows .mixedOrders=true:=by kernel_rfl
theorem QZ(D:Nat)(d d':o5)(w:World):(Op.eqFields (D+2) #[.bool (d.On),.int .i64 (d.aL),.bool (d.eW),.int .i64 (d.Seen)] #[.bool (d'.On),.int .i64 (d'.aL),.bool (d'.eW),.int .i64 (d'.Seen)] (match prog.underlying 100 with | some (.struct fs)=>fs | _=>#[]).toList).run prog w=.ok (decide (d=d')) w:=by
  rw [underlying100]
  have h:(d.On == d'.On && (d.aL == d'.aL && (d.eW == d'.eW && (d.Seen == d'.Seen && true))))=decide (d=d'):=by
    cases d;cases d';rw [J1];simp
  rw [←h]
  exact dO _ _ _ _ _ rfl (dS isAgg4 rfl) (dS isAgg4 rfl) (aA5 underlying4)<|
    dO _ _ _ _ _ rfl (dS isAgg3 rfl) (dS isAgg3 rfl) (iV underlying3)<|
    dO _ _ _ _ _ rfl (dS isAgg4 rfl) (dS isAgg4 rfl) (aA5 underlying4)<|
    dO _ _ _ _ _ rfl (dS isAgg3 rfl) (dS isAgg3 rfl) (iV underlying3)<|
    RW _ _ _
theorem aC8(D:Nat)(d d':eU)(w:World):(Op.eqFields (D+2) #[.int .i64 (d.Kind),.int .i64 (d.Cell),.int .i64 (d.dU),.int .i64 (d.eH)] #[.int .i64 (d'.Kind),.int .i64 (d'.Cell),.int .i64 (d'.dU),.int .i64 (d'.eH)] (match prog.underlying 87 with | some (.struct fs)=>fs | _=>#[]).toList).run prog w=.ok (decide (d=d')) w:=by
  rw [underlying87]
  have h:(d.Kind == d'.Kind && (d.Cell == d'.Cell && (d.dU == d'.dU && (d.eH == d'.eH && true))))=decide (d=d'):=by
    cases d;cases d';rw [J1];simp
  rw [←h]
  exact dO _ _ _ _ _ rfl (dS isAgg3 rfl) (dS isAgg3 rfl) (iV underlying3)<|
    dO _ _ _ _ _ rfl (dS isAgg3 rfl) (dS isAgg3 rfl) (iV underlying3)<|
    dO _ _ _ _ _ rfl (dS isAgg3 rfl) (dS isAgg3 rfl) (iV underlying3)<|
    dO _ _ _ _ _ rfl (dS isAgg3 rfl) (dS isAgg3 rfl) (iV underlying3)<|
    RW _ _ _
theorem aMQ(D:Nat)(d d':Sub)(w:World):(Op.eqFields (D+2) #[.int .i64 (d.Kind),.int .i64 (d.A),.int .i64 (d.Pc),.int .i64 (d.E),.int .i64 (d.Row),.int .i64 (d.B),.int .i64 (d.H),.int .i64 (d.Out),.int .i64 (d.Code),.bool (d.cS)] #[.int .i64 (d'.Kind),.int .i64 (d'.A),.int .i64 (d'.Pc),.int .i64 (d'.E),.int .i64 (d'.Row),.int .i64 (d'.B),.int .i64 (d'.H),.int .i64 (d'.Out),.int .i64 (d'.Code),.bool (d'.cS)] (match prog.underlying 89 with | some (.struct fs)=>fs | _=>#[]).toList).run prog w=.ok (decide (d=d')) w:=by
  rw [underlying89]
  have h:(d.Kind == d'.Kind && (d.A == d'.A && (d.Pc == d'.Pc && (d.E == d'.E && (d.Row == d'.Row && (d.B == d'.B && (d.H == d'.H && (d.Out == d'.Out && (d.Code == d'.Code && (d.cS == d'.cS && true))))))))))=decide (d=d'):=by
    cases d;cases d';rw [J1];simp
  rw [←h]
  exact dO _ _ _ _ _ rfl (dS isAgg3 rfl) (dS isAgg3 rfl) (iV underlying3)<|
    dO _ _ _ _ _ rfl (dS isAgg3 rfl) (dS isAgg3 rfl) (iV underlying3)<|
    dO _ _ _ _ _ rfl (dS isAgg3 rfl) (dS isAgg3 rfl) (iV underlying3)<|
    dO _ _ _ _ _ rfl (dS isAgg3 rfl) (dS isAgg3 rfl) (iV underlying3)<|
    dO _ _ _ _ _ rfl (dS isAgg3 rfl) (dS isAgg3 rfl) (iV underlying3)<|
    dO _ _ _ _ _ rfl (dS isAgg3 rfl) (dS isAgg3 rfl) (iV underlying3)<|
    dO _ _ _ _ _ rfl (dS isAgg3 rfl) (dS isAgg3 rfl) (iV underlying3)<|
    dO _ _ _ _ _ rfl (dS isAgg3 rfl) (dS isAgg3 rfl) (iV underlying3)<|
    dO _ _ _ _ _ rfl (dS isAgg3 rfl) (dS isAgg3 rfl) (iV underlying3)<|
    dO _ _ _ _ _ rfl (dS isAgg4 rfl) (dS isAgg4 rfl) (aA5 underlying4)<|
    RW _ _ _
theorem T8(D:Nat)(d d':bR)(w:World):(Op.eqFields (D+3) #[.bool (d.fV),.int .i64 (d.Op.Kind),.int .i64 (d.Op.Cell),.int .i64 (d.Op.dU),.int .i64 (d.Op.eH),.int .i64 (d.aJ),.int .i64 (d.Pc),.int .i64 (d.Sub.Kind),.int .i64 (d.Sub.A),.int .i64 (d.Sub.Pc),.int .i64 (d.Sub.E),.int .i64 (d.Sub.Row),.int .i64 (d.Sub.B),.int .i64 (d.Sub.H),.int .i64 (d.Sub.Out),.int .i64 (d.Sub.Code),.bool (d.Sub.cS),.int .i64 (d.H),.int .i64 (d.Old),.int .i64 (d.eH),.int .i64 (d.Code)] #[.bool (d'.fV),.int .i64 (d'.Op.Kind),.int .i64 (d'.Op.Cell),.int .i64 (d'.Op.dU),.int .i64 (d'.Op.eH),.int .i64 (d'.aJ),.int .i64 (d'.Pc),.int .i64 (d'.Sub.Kind),.int .i64 (d'.Sub.A),.int .i64 (d'.Sub.Pc),.int .i64 (d'.Sub.E),.int .i64 (d'.Sub.Row),.int .i64 (d'.Sub.B),.int .i64 (d'.Sub.H),.int .i64 (d'.Sub.Out),.int .i64 (d'.Sub.Code),.bool (d'.Sub.cS),.int .i64 (d'.H),.int .i64 (d'.Old),.int .i64 (d'.eH),.int .i64 (d'.Code)] (match prog.underlying 91 with | some (.struct fs)=>fs | _=>#[]).toList).run prog w=.ok (decide (d=d')) w:=by
  rw [underlying91]
  have h:(d.fV == d'.fV && (decide (d.Op=d'.Op) && (d.aJ == d'.aJ && (d.Pc == d'.Pc && (decide (d.Sub=d'.Sub) && (d.H == d'.H && (d.Old == d'.Old && (d.eH == d'.eH && (d.Code == d'.Code && true)))))))))=decide (d=d'):=by
    cases d;cases d';rw [J1];simp
  rw [←h]
  exact dO _ _ _ _ _ rfl (dS isAgg4 rfl) (dS isAgg4 rfl) (aA5 underlying4)<|
    dO _ _ _ _ _ rfl (aNH (vs:=#[.int .i64 (d.Op.Kind),.int .i64 (d.Op.Cell),.int .i64 (d.Op.dU),.int .i64 (d.Op.eH)]) isAgg87 sizeOf87 rfl) (aNH (vs:=#[.int .i64 (d'.Op.Kind),.int .i64 (d'.Op.Cell),.int .i64 (d'.Op.dU),.int .i64 (d'.Op.eH)]) isAgg87 sizeOf87 rfl) (aGU stoodInHeld87 underlying87 (aC8 D _ _ w))<|
    dO _ _ _ _ _ rfl (dS isAgg3 rfl) (dS isAgg3 rfl) (iV underlying3)<|
    dO _ _ _ _ _ rfl (dS isAgg3 rfl) (dS isAgg3 rfl) (iV underlying3)<|
    dO _ _ _ _ _ rfl (aNH (vs:=#[.int .i64 (d.Sub.Kind),.int .i64 (d.Sub.A),.int .i64 (d.Sub.Pc),.int .i64 (d.Sub.E),.int .i64 (d.Sub.Row),.int .i64 (d.Sub.B),.int .i64 (d.Sub.H),.int .i64 (d.Sub.Out),.int .i64 (d.Sub.Code),.bool (d.Sub.cS)]) isAgg89 sizeOf89 rfl) (aNH (vs:=#[.int .i64 (d'.Sub.Kind),.int .i64 (d'.Sub.A),.int .i64 (d'.Sub.Pc),.int .i64 (d'.Sub.E),.int .i64 (d'.Sub.Row),.int .i64 (d'.Sub.B),.int .i64 (d'.Sub.H),.int .i64 (d'.Sub.Out),.int .i64 (d'.Sub.Code),.bool (d'.Sub.cS)]) isAgg89 sizeOf89 rfl) (aGU stoodInHeld89 underlying89 (aMQ D _ _ w))<|
    dO _ _ _ _ _ rfl (dS isAgg3 rfl) (dS isAgg3 rfl) (iV underlying3)<|
    dO _ _ _ _ _ rfl (dS isAgg3 rfl) (dS isAgg3 rfl) (iV underlying3)<|
    dO _ _ _ _ _ rfl (dS isAgg3 rfl) (dS isAgg3 rfl) (iV underlying3)<|
    dO _ _ _ _ _ rfl (dS isAgg3 rfl) (dS isAgg3 rfl) (iV underlying3)<|
    RW _ _ _
theorem aMR(D:Nat)(d d':Ev)(w:World):(Op.eqFields (D+2) #[.int .i64 (d.Kind),.int .i64 (d.Who),.int .i64 (d.aJ),.int .i64 (d.Cell),.int .i64 (d.Handle),.int .i64 (d.eH),.int .i64 (d.Code)] #[.int .i64 (d'.Kind),.int .i64 (d'.Who),.int .i64 (d'.aJ),.int .i64 (d'.Cell),.int .i64 (d'.Handle),.int .i64 (d'.eH),.int .i64 (d'.Code)] (match prog.underlying 50 with | some (.struct fs)=>fs | _=>#[]).toList).run prog w=.ok (decide (d=d')) w:=by
  rw [underlying50]
  have h:(d.Kind == d'.Kind && (d.Who == d'.Who && (d.aJ == d'.aJ && (d.Cell == d'.Cell && (d.Handle == d'.Handle && (d.eH == d'.eH && (d.Code == d'.Code && true)))))))=decide (d=d'):=by
    cases d;cases d';rw [J1];simp
  rw [←h]
  exact dO _ _ _ _ _ rfl (dS isAgg3 rfl) (dS isAgg3 rfl) (iV underlying3)<|
    dO _ _ _ _ _ rfl (dS isAgg3 rfl) (dS isAgg3 rfl) (iV underlying3)<|
    dO _ _ _ _ _ rfl (dS isAgg3 rfl) (dS isAgg3 rfl) (iV underlying3)<|
    dO _ _ _ _ _ rfl (dS isAgg3 rfl) (dS isAgg3 rfl) (iV underlying3)<|
    dO _ _ _ _ _ rfl (dS isAgg3 rfl) (dS isAgg3 rfl) (iV underlying3)<|
    dO _ _ _ _ _ rfl (dS isAgg3 rfl) (dS isAgg3 rfl) (iV underlying3)<|
    dO _ _ _ _ _ rfl (dS isAgg3 rfl) (dS isAgg3 rfl) (iV underlying3)<|
    RW _ _ _
theorem aMS(D:Nat)(d d':c9)(w:World):(Op.eqFields (D+2) #[.int .i64 (d.Handle),.int .i64 (d.aL)] #[.int .i64 (d'.Handle),.int .i64 (d'.aL)] (match prog.underlying 97 with | some (.struct fs)=>fs | _=>#[]).toList).run prog w=.ok (decide (d=d')) w:=by
  rw [underlying97]
  have h:(d.Handle == d'.Handle && (d.aL == d'.aL && true))=decide (d=d'):=by
    cases d;cases d';rw [J1];simp
  rw [←h]
  exact dO _ _ _ _ _ rfl (dS isAgg3 rfl) (dS isAgg3 rfl) (iV underlying3)<|
    dO _ _ _ _ _ rfl (dS isAgg3 rfl) (dS isAgg3 rfl) (iV underlying3)<|
    RW _ _ _
set_option maxRecDepth 100000 in
theorem M4{w0:World}{n:Int}(hn:0≤n∧n≤1073741824) :
    Calls prog 340 #[.slice none 0 0,.int .i64 n] w0 (Ret fun v w'=>∃s0_0:Value,v=s0_0∧St (cW w0) w' [cJ [s0_0] ([]:List Raw)] []):=by
  have hS:St (cW w0) w0 [] []:=St.enter (by intro f hf;cases hf)
  have hw:aV (n - aV (0 - 0))=n:=by
    rw [IZ (x:=0 - 0) (by omega),IZ (by omega)];omega
  refine aQN (args:=[_,_]) func340 rfl ntmps340 rfl ?_
  intro a hA
  refine bW ?_
  refine cM hA ?_
  clear hA
  refine fF (D1 rfl rfl) (cA rfl) rfl rfl ?_
  refine bL ?_
  intro a hA
  refine bW ?_
  refine bW ?_
  refine cM hA ?_
  clear hA
  refine fF (nL rfl rfl) (cA rfl) rfl rfl ?_
  refine fF (GM rfl rfl rfl) (cA rfl) rfl rfl ?_
  refine bL ?_
  intro a hA
  refine lQ hA rfl (fun hc=>?_) (fun hc=>?_)
  · exfalso;simp at hc;omega
  refine oX ?_
  refine bW ?_
  refine bW ?_
  refine cM hA ?_
  clear hA
  refine fF (nL rfl rfl) (cA rfl) rfl rfl ?_
  refine fF (nL rfl rfl) (cA rfl) rfl rfl ?_
  refine fF (aGZ underlying32 rfl rfl) (cA rfl) rfl rfl ?_
  refine fF (nL rfl rfl) (cA rfl) rfl rfl ?_
  refine fF (oY (aQR (α:=Raw) (S:=F0)) underlying32 rfl rfl) (cA rfl) rfl rfl ?_
  refine fF (aLT rfl rfl rfl) (cA rfl) rfl rfl ?_
  refine fF (aLT rfl rfl rfl) (cA rfl) rfl rfl ?_
  refine fF (D1 rfl rfl) (cA rfl) rfl rfl ?_
  refine bL ?_
  intro a hA
  refine bW ?_
  refine cM hA ?_
  clear hA
  refine fF (nL rfl rfl) (cA rfl) rfl rfl ?_
  refine fF (aLW rfl rfl rfl) (cA rfl) rfl rfl ?_
  refine bL ?_
  intro a hA
  refine lQ hA rfl (fun hc=>?_) (fun hc=>?_)
  · have hn1:0 < n:=by
      have h2:decide (0 < aV (n - aV (0 - 0)))=true:=hc
      rw [hw] at h2;simpa using h2
    refine cM hA ?_
    clear hA
    refine fF (nL rfl rfl) (cA rfl) rfl rfl ?_
    refine fF (nL rfl rfl) (cA rfl) rfl rfl ?_
    refine fF (aGZ underlying32 rfl rfl) (cA rfl) rfl rfl ?_
    refine fF (aNO (s:=.slice none 0 0) ⟨_,_,_,rfl⟩ underlying32 sizeOf148 rfl rfl rfl) (cA rfl) rfl rfl ?_
    refine fF (nL rfl rfl) (cA rfl) rfl rfl ?_
    refine LA (aU2 (i:=aV (n - aV (0 - 0))) hS underlying32 underlying3 dI rfl rfl (by rw [hw];omega) rfl rfl rfl) (cA rfl) rfl rfl ?_
    clear hS
    intro s w hS
    refine fF (nL rfl rfl) (cA rfl) rfl rfl ?_
    refine fF (oY (aQR (α:=Raw) (S:=F0)) underlying32 rfl rfl) (cA rfl) rfl rfl ?_
    refine fF (aNO (hS.aRA 0 rfl) underlying32 sizeOf148 rfl rfl rfl) (cA rfl) rfl rfl ?_
    refine fF (D1 rfl rfl) (cA rfl) rfl rfl ?_
    refine bL ?_
    intro a hA
    replace hS:=hS.aXX (α:=Raw) 0 rfl rfl
    refine bW ?_
    refine cM hA ?_
    clear hA
    refine fF (nL rfl rfl) (cA rfl) rfl rfl ?_
    refine fF (D1 rfl rfl) (cA rfl) rfl rfl ?_
    refine bL ?_
    intro a hA
    refine AD ?_
    exact aUQ results340 hA (aA4 rfl) ⟨_,rfl,(hS.NI [0] rfl).weaken (R':=[]) (fun _ h=>nomatch h)⟩
  · refine oX ?_
    replace hS:=hS.aXQ (α:=Raw)
    refine bW ?_
    refine cM hA ?_
    clear hA
    refine fF (nL rfl rfl) (cA rfl) rfl rfl ?_
    refine fF (D1 rfl rfl) (cA rfl) rfl rfl ?_
    refine bL ?_
    intro a hA
    refine AD ?_
    exact aUQ results340 hA (aA4 rfl) ⟨_,rfl,(hS.NI [0] rfl).weaken (R':=[]) (fun _ h=>nomatch h)⟩
theorem PW{w0:World}{slices:List (List Raw)}{s1:Value}{r:(List Raw)}(h1:aI.rd (NL w0) w0 [s1] (slices:List (List Raw)))(hF:o6 slices=some r) :
    Calls prog 300 #[s1] w0 (Ret fun v w'=>∃(s0_0:Value),v=s0_0∧St (cW w0) w' [cJ [s0_0] (r:List Raw)] []):=by
 have hS:St (cW w0) w0 [] [AS [s1] (slices:List (List Raw))]:=St.enter (by
   intro f hf
   simp only [iA,UN,or_false] at hf
   subst hf;exact h1)
 refine AU (args:=[_]) func300 rfl ntmps300 rfl ?_
 unfold o6 at hF
 intro a hA
 refine bW<|cM hA ?_
 clear hA
 refine oa rfl rfl<|bL fun a hA=>bW<|cM hA ?_
 clear hA
 refine oa rfl rfl<|bL fun a hA=>bW<|bW<|cM hA ?_
 clear hA
 refine om rfl rfl<|oy (oY (hS.rd 0 rfl) underlying275 rfl rfl) rfl<|om rfl rfl<|bL fun a hA=>?_
 obtain⟨o1,hl1,hF⟩:=tP hF
 refine D2 (J:=fun a' w'=>∃(x5:Int),o1=x5∧lL 36 [(0,s1),(3,.int .i64 (x5))] a'∧St (cW w0) w' [] [AS [s1] (slices:List (List Raw))]) ?_ ?_
 ·refine lM ?_
  refine KE (body:=fU slices) (r:=o1) (fun sg a' w'=>lL 36 [(0,s1),(3,.int .i64 (sg.1)),(9,s1),(10,.int .i64 ((slices.length:Int))),(11,.int .i64 (sg.2))] a'∧St (cW w0) w' [] [AS [s1] (slices:List (List Raw))]) ?_ hl1 ⟨hA.part ⟨rfl,rfl,rfl,rfl,rfl,trivial⟩,((hS).NI [] rfl).wE [0] rfl⟩
  clear hA hS hl1
  rintro⟨x3,x4⟩ a w q1 ⟨hA,hS⟩ hG1 hr1
  try dsimp only at hA hS
  unfold fU at hG1
  refine bW<|cM hA ?_
  clear hA
  refine oy (GM rfl rfl rfl) rfl<|bL fun a hA=>bW<|lQ hA rfl (fun hc2=>?_) (fun hc2=>?_)
  ·replace hG1:=ML hc2 hG1
   refine oX<|bW<|lM<|bW<|cM hA ?_
   clear hA
   obtain⟨x12,hx12,hG1⟩:=tP hG1
   refine oy (P7 (m:=1) (hS.rd 0 rfl) rfl hx12 underlying275 sizeOf32 rfl rfl rfl) rfl ?_
   obtain⟨s8,hel,hS⟩:=hS.aJT 0 rfl (j9 hx12).2.2
   refine oy (iY rfl rfl isAgg32 (aQQ hel)) rfl<|oa rfl rfl<|bL fun a hA=>bW<|cM hA ?_
   clear hA
   refine om rfl rfl<|om rfl rfl<|oy (oY (hS.rd 1 rfl) underlying32 rfl rfl) rfl<|oy (LB rfl rfl rfl) rfl<|oa rfl rfl<|bL fun a hA=>bW<|cM hA ?_
   clear hA
   refine om rfl rfl<|oy (GM rfl rfl rfl) rfl<|bL fun a hA=>lQ hA rfl (fun hc3=>?_) (fun hc3=>?_)
   ·replace hG1:=ML hc3 hG1
    refine cM hA ?_
    clear hA
    cases hG1
   ·replace hG1:=MM hc3 hG1
    refine oX<|cM hA ?_
    clear hA
    refine oy (LB rfl rfl rfl) rfl<|om rfl rfl<|bL fun a hA=>?_
    cases hG1
    exact⟨_,rfl,⟨hA.part ⟨rfl,rfl,rfl,rfl,rfl,trivial⟩,((hS).NI [] rfl).wE [0] rfl⟩⟩
  ·replace hG1:=MM hc2 hG1
   refine KD<|D0 ?_
   cases hG1
   have ho:=hr1 _ rfl;subst ho
   exact⟨x3,rfl,hA.part ⟨rfl,rfl,trivial⟩,((hS).NI [] rfl).wE [0] rfl⟩
 ·skip
  clear hA hS hl1
  rintro a w ⟨x5,heq,hA,hS⟩
  replace hF:lT slices x5=some r:=by rw [heq] at hF;exact hF
  clear heq
  unfold lT at hF
  refine bW<|cM hA ?_
  clear hA
  refine om rfl rfl ?_
  obtain⟨hn1,hF⟩:=jO hF
  refine YQ (KH call340 rfl rfl) (cA rfl) rfl rfl (M4 hn1) ?_
  rintro s2 w ⟨_,rfl,hk⟩
  replace hS:=hS.after hk;clear hk
  refine oa rfl rfl<|bL fun a hA=>bW<|bW<|cM hA ?_
  clear hA
  refine om rfl rfl<|oy (oY (hS.rd 0 rfl) underlying275 rfl rfl) rfl<|om rfl rfl<|bL fun a hA=>?_
  obtain⟨o2,hl2,hF⟩:=tP hF
  refine D2 (J:=fun a' w'=>∃(x10:List Raw) (s5:Value),o2=x10∧lL 36 [(6,s5)] a'∧St (cW w0) w' [cJ [s5] (x10:List Raw)] []) ?_ ?_
  ·refine lM ?_
   refine KE (body:=gZ slices) (r:=o2) (fun sg a' w'=>∃(s4:Value),lL 36 [(6,s4),(25,s1),(26,.int .i64 ((slices.length:Int))),(27,.int .i64 (sg.2))] a'∧St (cW w0) w' [cJ [s4] (sg.1:List Raw)] [AS [s1] (slices:List (List Raw))]) ?_ hl2 ⟨s2,hA.part ⟨rfl,rfl,rfl,rfl,trivial⟩,((hS).NI [0] rfl).wE [0] rfl⟩
   clear hA hS hl2
   rintro⟨x8,x9⟩ a w q2 ⟨s4,hA,hS⟩ hG2 hr2
   try dsimp only at hA hS
   unfold gZ at hG2
   refine bW<|cM hA ?_
   clear hA
   refine oy (GM rfl rfl rfl) rfl<|bL fun a hA=>bW<|lQ hA rfl (fun hc1=>?_) (fun hc1=>?_)
   ·replace hG2:=ML hc1 hG2
    refine oX<|bW<|lM<|bW<|cM hA ?_
    clear hA
    obtain⟨x11,hx11,hG2⟩:=tP hG2
    refine oy (P7 (m:=1) (hS.rd 0 rfl) rfl hx11 underlying275 sizeOf32 rfl rfl rfl) rfl ?_
    obtain⟨s6,hel,hS⟩:=hS.aJT 0 rfl (j9 hx11).2.2
    refine oy (iY rfl rfl isAgg32 (aQQ hel)) rfl<|oa rfl rfl<|bL fun a hA=>cM hA ?_
    clear hA
    refine om rfl rfl<|om rfl rfl ?_
    obtain⟨hn2,hG2⟩:=jO hG2
    refine LA (aGV (α:=Raw) 0 hS rfl (hS.rd 1 rfl) rfl underlying32 dI rfl hn2 rfl rfl rfl) (cA rfl) rfl rfl ?_
    clear hS
    rintro s7 w hS
    refine oa rfl rfl<|bL fun a hA=>cM hA ?_
    clear hA
    refine oy (LB rfl rfl rfl) rfl<|om rfl rfl<|bL fun a hA=>?_
    cases hG2
    exact⟨_,rfl,⟨s7,hA.part ⟨rfl,rfl,rfl,rfl,trivial⟩,((hS).NI [0] rfl).wE [0] rfl⟩⟩
   ·replace hG2:=MM hc1 hG2
    refine KD<|D0 ?_
    cases hG2
    have ho:=hr2 _ rfl;subst ho
    exact⟨x8,s4,rfl,hA.part ⟨rfl,trivial⟩,((hS).NI [0] rfl).wE [] rfl⟩
  ·skip
   clear hA hS hl2
   rintro a w ⟨x10,s5,heq,hA,hS⟩
   replace hF:rC x10=some r:=by rw [heq] at hF;exact hF
   clear heq
   unfold rC at hF
   refine bW<|cM hA ?_
   clear hA
   refine om rfl rfl<|oa rfl rfl<|bL fun a hA=>AD ?_
   cases hF
   exact aUQ results300 hA (aA4 rfl) ⟨s5,rfl,(hS.NI [0] rfl).weaken (R':=[]) (fun _ h=>nomatch h)⟩
theorem LS{w0:World}{n:Int}{low:Int}{high:Int}{r:Bool}(hF:cR n low high=some r) :
    Calls prog 58 #[.int .i64 (n),.int .i64 (low),.int .i64 (high)] w0 (Ret fun v w'=>v=.bool (r)∧St (cW w0) w' [] []):=by
 have hS:St (cW w0) w0 [] []:=St.enter (by
   intro f hf;cases hf)
 refine AU (args:=[_,_,_]) func58 rfl ntmps58 rfl ?_
 unfold cR at hF
 intro a hA
 refine bW<|cM hA ?_
 clear hA
 refine oa rfl rfl<|bL fun a hA=>bW<|D2 (J:=fun a' w'=>∃(x1:Bool),pM x1=some r∧lL 15 [(6,.bool (x1))] a'∧St (cW w0) w' [] []) ?_ ?_
 ·skip
  refine cM hA ?_
  clear hA
  refine om rfl rfl<|om rfl rfl<|oy (aQJ rfl rfl rfl) rfl<|om rfl rfl<|IW (s:=10) rfl (fun hc1=>?_) (fun hc1=>?_)
  ·replace hF:=ML hc1 hF
   refine fF (nL rfl rfl) (cG rfl rfl rfl (by rw [hc1];rfl)) rfl rfl ?_
   refine fF (nL rfl rfl) (cG rfl rfl rfl (by rw [hc1];rfl)) rfl rfl ?_
   refine fF (aLV rfl rfl rfl) (cG rfl rfl rfl (by rw [hc1];rfl)) rfl rfl ?_
   refine oy (wD rfl rfl hc1 rfl) rfl<|oa rfl rfl<|bL fun a hA=>?_
   exact⟨decide (n≤high),hF,hA.part ⟨rfl,trivial⟩,((hS).NI [] rfl).wE [] rfl⟩
  ·replace hF:=MM hc1 hF
   refine fO (cG rfl rfl rfl (by rw [hc1];rfl)) rfl rfl ?_
   refine fO (cG rfl rfl rfl (by rw [hc1];rfl)) rfl rfl ?_
   refine fO (cG rfl rfl rfl (by rw [hc1];rfl)) rfl rfl ?_
   refine oy (AT rfl rfl hc1 rfl) rfl<|oa rfl rfl<|bL fun a hA=>?_
   exact⟨false,hF,hA.part ⟨rfl,trivial⟩,((hS).NI [] rfl).wE [] rfl⟩
 ·skip
  clear hA hS hF
  rintro a w ⟨x1,hF,hA,hS⟩
  unfold pM at hF
  refine AD ?_
  cases hF
  exact fy results58 hA rfl hS
theorem aFT{w0:World}{slot:Int}{r:Bool}(hF:l8 slot=some r) :
    Calls prog 143 #[.int .i64 (slot)] w0 (Ret fun v w'=>v=.bool (r)∧St (cW w0) w' [] []):=by
 have hS:St (cW w0) w0 [] []:=St.enter (by
   intro f hf;cases hf)
 refine AU (args:=[_]) func143 rfl ntmps143 rfl ?_
 unfold l8 at hF
 intro a hA
 refine bW<|cM hA ?_
 clear hA
 refine oa rfl rfl<|bL fun a hA=>bW<|cM hA ?_
 clear hA
 refine om rfl rfl ?_
 obtain⟨x1,hx1,hF⟩:=tP hF
 refine YQ (KH call58 rfl rfl) (cA rfl) rfl rfl (LS (n:=slot) (low:=0) (high:=23) hx1) ?_
 rintro _ w ⟨rfl,hk⟩
 replace hS:=hS.after hk;clear hk
 refine oa rfl rfl<|bL fun a hA=>AD ?_
 cases hF
 exact fy results143 hA rfl hS
theorem aC9{w0:World}{l:aB}{s1:Value}{s2:Value}{r:Bool}(h1:aI.rd (NL w0) w0 [s1] (l.Global:List aK))(h2:aI.rd (NL w0) w0 [s2] (l.Own:List aK))(hF:jY l=some r) :
    Calls prog 241 #[.agg #[s1,s2]] w0 (Ret fun v w'=>v=.bool (r)∧St (cW w0) w' [] []):=by
 have hS:St (cW w0) w0 [] [AS [s1] (l.Global:List aK),AS [s2] (l.Own:List aK)]:=St.enter (by
   intro f hf
   simp only [iA,UN,or_false] at hf
   rcases hf with rfl | rfl
   · exact h1
   · exact h2)
 refine AU (args:=[_]) func241 rfl ntmps241 rfl ?_
 unfold jY at hF
 intro a hA
 refine bW<|cM hA ?_
 clear hA
 refine LA (aXM (cs:=[s1,s2]) hS rfl rfl rfl) (cA rfl) rfl rfl ?_
 clear hS
 rintro _ w ⟨b1,rfl,hS⟩
 refine oa rfl rfl<|bL fun a hA=>bW<|bW<|D2 (J:=fun a' w'=>∃(x1:Bool),sA l x1=some r∧lL 61 [(1,.pointer (some ⟨b1,0,none⟩)),(17,.bool (x1))] a'∧St (cW w0) w' [DT b1 [s1,s2]] [AS [s1] (l.Global:List aK),AS [s2] (l.Own:List aK)]) ?_ ?_
 ·skip
  refine cM hA ?_
  clear hA
  refine oy (AE (m:=0) underlying34 rfl rfl sizeOf32 rfl rfl) rfl<|oy (iY rfl rfl isAgg32 (hS.cell 0 rfl rfl)) rfl<|oy (oY (hS.rd 0 rfl) underlying32 rfl rfl) rfl<|oy (aHS rfl rfl rfl) rfl<|om rfl rfl<|IW (s:=12) rfl (fun hc8=>?_) (fun hc8=>?_)
  ·replace hF:=ML hc8 hF
   refine fO (cG rfl rfl rfl (by rw [hc8];rfl)) rfl rfl ?_
   refine fO (cG rfl rfl rfl (by rw [hc8];rfl)) rfl rfl ?_
   refine fO (cG rfl rfl rfl (by rw [hc8];rfl)) rfl rfl ?_
   refine fO (cG rfl rfl rfl (by rw [hc8];rfl)) rfl rfl ?_
   refine oy (wD rfl rfl hc8 rfl) rfl<|bL fun a hA=>?_
   exact⟨true,hF,hA.part ⟨rfl,rfl,trivial⟩,((hS).NI [0] rfl).wE [0,1] rfl⟩
  ·replace hF:=MM hc8 hF
   refine fF (AE (m:=0) underlying34 rfl rfl sizeOf32 rfl rfl) (cG rfl rfl rfl (by rw [hc8];rfl)) rfl rfl ?_
   refine fF (iY rfl rfl isAgg32 (hS.cell 0 rfl rfl)) (cG rfl rfl rfl (by rw [hc8];rfl)) rfl rfl ?_
   refine fF (oY (hS.rd 1 rfl) underlying32 rfl rfl) (cG rfl rfl rfl (by rw [hc8];rfl)) rfl rfl ?_
   refine fF (aHS rfl rfl rfl) (cG rfl rfl rfl (by rw [hc8];rfl)) rfl rfl ?_
   refine oy (AT rfl rfl hc8 rfl) rfl<|bL fun a hA=>?_
   exact⟨(l.Own.length:Int) != 9,hF,hA.part ⟨rfl,rfl,trivial⟩,((hS).NI [0] rfl).wE [0,1] rfl⟩
 ·skip
  clear hA hS hF
  rintro a w ⟨x1,hF,hA,hS⟩
  unfold sA at hF
  refine lQ hA rfl (fun hc1=>?_) (fun hc1=>?_)
  ·replace hF:=ML hc1 hF
   refine bW<|cM hA ?_
   clear hA
   refine oa rfl rfl<|bL fun a hA=>AD ?_
   cases hF
   exact fy results241 hA rfl hS
  ·replace hF:=MM hc1 hF
   refine oX<|bW<|cM hA ?_
   clear hA
   refine oy (W2 (cells:=#[.bool (false),.bool (false),.bool (false),.bool (false),.bool (false),.bool (false),.bool (false),.bool (false),.bool (false),.bool (false),.bool (false),.bool (false),.bool (false),.bool (false),.bool (false),.bool (false),.bool (false),.bool (false),.bool (false),.bool (false),.bool (false),.bool (false),.bool (false),.bool (false)]) rfl zeroValue217 underlying217 sizeOf4 rfl rfl) rfl<|LA (MK (cs:=List.map (fun q:Bool=>Value.bool q) [false,false,false,false,false,false,false,false,false,false,false,false,false,false,false,false,false,false,false,false,false,false,false,false]) hS rfl zeroValue217 rfl) (cA rfl) rfl rfl ?_
   clear hS
   rintro _ w ⟨b2,rfl,hS⟩
   refine P5 (TX (vs:=[.bool (false),.bool (false),.bool (false),.bool (false),.bool (false),.bool (false),.bool (false),.bool (false),.bool (false),.bool (false),.bool (false),.bool (false),.bool (false),.bool (false),.bool (false),.bool (false),.bool (false),.bool (false),.bool (false),.bool (false),.bool (false),.bool (false),.bool (false),.bool (false)]) hS (i:=1) rfl rfl rfl rfl rfl sizeOf217 rfl rfl rfl) (cA rfl) rfl ?_
   clear hS
   intro w hS
   refine bL fun a hA=>bW<|bW<|cM hA ?_
   clear hA
   refine oy (AE (m:=0) underlying34 rfl rfl sizeOf32 rfl rfl) rfl<|oy (iY rfl rfl isAgg32 (hS.cell 0 rfl rfl)) rfl<|oy (AE (m:=0) underlying34 rfl rfl sizeOf32 rfl rfl) rfl<|oy (iY rfl rfl isAgg32 (hS.cell 0 rfl rfl)) rfl<|LA (aL2 hS (hS.rd 1 rfl) (hS.rd 0 rfl) underlying275 aMP rfl rfl rfl) (cA rfl) rfl rfl ?_
   clear hS
   rintro s3 w hS
   obtain⟨hn1,hF⟩:=jO hF
   replace hS:=hS.aZI 2 rfl
   obtain⟨u1,u2,hu1,hl1,hS⟩:=hS.aU3 rfl 2 1 0 rfl rfl rfl
   refine YQ (KH call300 rfl rfl) (cA rfl) rfl rfl (PW hu1 (MW hl1 hn1)) ?_
   rintro s4 w ⟨_,rfl,hk⟩
   replace hS:=hS.after hk;clear hk
   replace hS:=hS.aZI 3 rfl
   replace hS:=hS.aZO rfl 4 3 rfl rfl
   refine oy (oY (hS.rd 5 rfl) underlying32 rfl rfl) rfl<|om rfl rfl<|bL fun a hA=>?_
   obtain⟨o1,hl2,hF⟩:=tP hF
   refine D2 (J:=fun a' w'=>o1=Out.brk ()∧lL 61 [] a'∧St (cW w0) w' [] []) ?_ ?_
   ·refine lM ?_
    refine KE (body:=lB l) (r:=o1) (fun sg a' w'=>lL 61 [(1,.pointer (some ⟨b1,0,none⟩)),(3,.pointer (some ⟨b2,0,none⟩)),(24,s4),(25,.int .i64 (((l.Own++l.Global).length:Int))),(26,.int .i64 (sg.1))] a'∧St (cW w0) w' [DT b1 [s1,s2],DT b2 (List.map (fun q:Bool=>Value.bool q) (sg.2:List Bool))] [AS [s4] (l.Own++l.Global:List aK),AS [s1] (l.Global:List aK),AS [s2] (l.Own:List aK)]) ?_ hl2 ⟨hA.part ⟨rfl,rfl,rfl,rfl,rfl,trivial⟩,((hS).NI [0,1] rfl).wE [5,0,1] rfl⟩
    clear hA hS hl2
    rintro⟨x4,x5⟩ a w q2 ⟨hA,hS⟩ hG2 hr2
    try dsimp only at hA hS
    unfold lB at hG2
    refine bW<|cM hA ?_
    clear hA
    refine oy (GM rfl rfl rfl) rfl<|bL fun a hA=>bW<|lQ hA rfl (fun hc2=>?_) (fun hc2=>?_)
    ·replace hG2:=ML hc2 hG2
     refine oX<|bW<|lM<|bW<|cM hA ?_
     clear hA
     refine om rfl rfl ?_
     obtain⟨x6,hx6,hG2⟩:=tP hG2
     refine oy (P7 (m:=1) (hS.rd 0 rfl) rfl hx6 underlying32 sizeOf148 rfl rfl rfl) rfl ?_
     obtain⟨s5,hel,hS⟩:=hS.aS3 0 rfl (j9 hx6).2.2
     refine oy (P6 rfl rfl isAgg148 sizeOf148 rfl hel) rfl<|LA (MK (cs:=[(.slice none 0 0)]) hS rfl zeroValue148 rfl) (cA rfl) rfl rfl ?_
     clear hS
     rintro _ w ⟨b3,rfl,hS⟩
     refine oa rfl rfl<|P5 (TX (vs:=[s5]) hS (i:=2) rfl rfl rfl rfl rfl sizeOf148 rfl rfl (aXR (aB1 (hS.rd 3 rfl)) rfl)) (cA rfl) rfl ?_
     clear hS
     intro w hS
     refine bL fun a hA=>bW<|bW<|D2 (J:=fun a' w'=>∃(x7:Bool),lA x4 x5 x6 x7=some q2∧lL 61 [(1,.pointer (some ⟨b1,0,none⟩)),(3,.pointer (some ⟨b2,0,none⟩)),(5,.pointer (some ⟨b3,0,none⟩)),(24,s4),(25,.int .i64 (((l.Own++l.Global).length:Int))),(26,.int .i64 (x4)),(41,.bool (x7))] a'∧St (cW w0) w' [DT b1 [s1,s2],DT b2 (List.map (fun q:Bool=>Value.bool q) (x5:List Bool)),DT b3 [s5]] [AS [s4] (l.Own++l.Global:List aK),AS [s1] (l.Global:List aK),AS [s2] (l.Own:List aK),AS [s5] (x6.aM:List Int)]) ?_ ?_
     ·skip
      refine cM hA ?_
      clear hA
      refine om rfl rfl<|oy (AE (m:=0) underlying34 rfl rfl sizeOf32 rfl rfl) rfl<|oy (iY rfl rfl isAgg32 (hS.cell 0 rfl rfl)) rfl<|oy (oY (hS.rd 2 rfl) underlying32 rfl rfl) rfl<|oy (GM rfl rfl rfl) rfl<|om rfl rfl<|IW (s:=36) rfl (fun hc7=>?_) (fun hc7=>?_)
      ·replace hG2:=ML hc7 hG2
       refine fF (AE (m:=0) underlying148 rfl rfl sizeOf25 rfl rfl) (cG rfl rfl rfl (by rw [hc7];rfl)) rfl rfl ?_
       refine fF (iY rfl rfl isAgg25 (hS.cell 2 rfl rfl)) (cG rfl rfl rfl (by rw [hc7];rfl)) rfl rfl ?_
       refine fF (oY (hS.rd 3 rfl) underlying25 rfl rfl) (cG rfl rfl rfl (by rw [hc7];rfl)) rfl rfl ?_
       refine fF (aLW rfl rfl rfl) (cG rfl rfl rfl (by rw [hc7];rfl)) rfl rfl ?_
       refine oy (wD rfl rfl hc7 rfl) rfl<|bL fun a hA=>?_
       exact⟨decide (2 < (x6.aM.length:Int)),hG2,hA.part ⟨rfl,rfl,rfl,rfl,rfl,rfl,rfl,trivial⟩,((hS).NI [0,1,2] rfl).wE [0,1,2,3] rfl⟩
      ·replace hG2:=MM hc7 hG2
       refine fO (cG rfl rfl rfl (by rw [hc7];rfl)) rfl rfl ?_
       refine fO (cG rfl rfl rfl (by rw [hc7];rfl)) rfl rfl ?_
       refine fO (cG rfl rfl rfl (by rw [hc7];rfl)) rfl rfl ?_
       refine fO (cG rfl rfl rfl (by rw [hc7];rfl)) rfl rfl ?_
       refine oy (AT rfl rfl hc7 rfl) rfl<|bL fun a hA=>?_
       exact⟨false,hG2,hA.part ⟨rfl,rfl,rfl,rfl,rfl,rfl,rfl,trivial⟩,((hS).NI [0,1,2] rfl).wE [0,1,2,3] rfl⟩
     ·skip
      clear hA hS hG2
      rintro a w ⟨x7,hG2,hA,hS⟩
      unfold lA at hG2
      refine lQ hA rfl (fun hc3=>?_) (fun hc3=>?_)
      ·replace hG2:=ML hc3 hG2
       refine bW<|cM hA ?_
       clear hA
       refine oa rfl rfl<|bL fun a hA=>AD ?_
       cases hG2
       have ho:=hr2 _ rfl;subst ho
       replace hF:some false=some r:=hF
       cases hF
       exact fy results241 hA rfl hS
      ·replace hG2:=MM hc3 hG2
       refine oX<|bW<|cM hA ?_
       clear hA
       refine oy (AE (m:=0) underlying148 rfl rfl sizeOf25 rfl rfl) rfl<|oy (iY rfl rfl isAgg25 (hS.cell 2 rfl rfl)) rfl<|oy (oY (hS.rd 3 rfl) underlying25 rfl rfl) rfl<|om rfl rfl<|bL fun a hA=>?_
       obtain⟨o2,hl3,hG2⟩:=tP hG2
       refine D2 (J:=fun a' w'=>∃(x12:List Bool),o2=Out.brk x12∧lL 61 [(1,.pointer (some ⟨b1,0,none⟩)),(3,.pointer (some ⟨b2,0,none⟩)),(24,s4),(25,.int .i64 (((l.Own++l.Global).length:Int))),(26,.int .i64 (x4))] a'∧St (cW w0) w' [DT b1 [s1,s2],DT b2 (List.map (fun q:Bool=>Value.bool q) (x12:List Bool))] [AS [s4] (l.Own++l.Global:List aK),AS [s1] (l.Global:List aK),AS [s2] (l.Own:List aK)]) ?_ ?_
       ·refine lM ?_
        refine KE (body:=k9 x6) (r:=o2) (fun sg a' w'=>lL 61 [(1,.pointer (some ⟨b1,0,none⟩)),(3,.pointer (some ⟨b2,0,none⟩)),(24,s4),(25,.int .i64 (((l.Own++l.Global).length:Int))),(26,.int .i64 (x4)),(43,s5),(44,.int .i64 ((x6.aM.length:Int))),(45,.int .i64 (sg.1))] a'∧St (cW w0) w' [DT b1 [s1,s2],DT b2 (List.map (fun q:Bool=>Value.bool q) (sg.2:List Bool))] [AS [s4] (l.Own++l.Global:List aK),AS [s5] (x6.aM:List Int),AS [s1] (l.Global:List aK),AS [s2] (l.Own:List aK)]) ?_ hl3 ⟨hA.part ⟨rfl,rfl,rfl,rfl,rfl,rfl,rfl,rfl,trivial⟩,((hS).NI [0,1] rfl).wE [0,3,1,2] rfl⟩
        clear hA hS hl3
        rintro⟨x10,x11⟩ a w q4 ⟨hA,hS⟩ hG4 hr4
        try dsimp only at hA hS
        unfold k9 at hG4
        refine bW<|cM hA ?_
        clear hA
        refine oy (GM rfl rfl rfl) rfl<|bL fun a hA=>bW<|lQ hA rfl (fun hc4=>?_) (fun hc4=>?_)
        ·replace hG4:=ML hc4 hG4
         refine oX<|bW<|lM<|bW<|cM hA ?_
         clear hA
         obtain⟨x13,hx13,hG4⟩:=tP hG4
         refine oy (P7 (m:=1) (hS.rd 1 rfl) rfl hx13 underlying25 sizeOf3 rfl rfl rfl) rfl<|oy (iY rfl rfl isAgg3 (aQQ (aXO (hS.rd 1 rfl) (j9 hx13).2.2))) rfl<|oa rfl rfl<|bL fun a hA=>bW<|bW<|D2 (J:=fun a' w'=>∃(x14:Bool),m7 x10 x11 x13 x14=some q4∧lL 61 [(1,.pointer (some ⟨b1,0,none⟩)),(3,.pointer (some ⟨b2,0,none⟩)),(7,.int .i64 (x13)),(24,s4),(25,.int .i64 (((l.Own++l.Global).length:Int))),(26,.int .i64 (x4)),(43,s5),(44,.int .i64 ((x6.aM.length:Int))),(45,.int .i64 (x10)),(56,.bool (x14))] a'∧St (cW w0) w' [DT b1 [s1,s2],DT b2 (List.map (fun q:Bool=>Value.bool q) (x11:List Bool))] [AS [s4] (l.Own++l.Global:List aK),AS [s5] (x6.aM:List Int),AS [s1] (l.Global:List aK),AS [s2] (l.Own:List aK)]) ?_ ?_
         ·skip
          refine cM hA ?_
          clear hA
          refine om rfl rfl ?_
          obtain⟨x16,hx16,hG4⟩:=tP hG4
          refine YQ (KH call143 rfl rfl) (cA rfl) rfl rfl (aFT (slot:=x13) hx16) ?_
          rintro _ w ⟨rfl,hk⟩
          replace hS:=hS.after hk;clear hk
          refine oy (aBU rfl rfl) rfl<|om rfl rfl<|IW (s:=52) rfl (fun hc6=>?_) (fun hc6=>?_)
          ·replace hG4:=ML hc6 hG4
           refine fO (cG rfl rfl rfl (by rw [hc6];rfl)) rfl rfl ?_
           refine fO (cG rfl rfl rfl (by rw [hc6];rfl)) rfl rfl ?_
           refine fO (cG rfl rfl rfl (by rw [hc6];rfl)) rfl rfl ?_
           refine oy (wD rfl rfl hc6 rfl) rfl<|bL fun a hA=>?_
           exact⟨true,hG4,hA.part ⟨rfl,rfl,rfl,rfl,rfl,rfl,rfl,rfl,rfl,rfl,trivial⟩,((hS).NI [0,1] rfl).wE [0,1,2,3] rfl⟩
          ·replace hG4:=MM hc6 hG4
           refine fF (nL rfl rfl) (cG rfl rfl rfl (by rw [hc6];rfl)) rfl rfl ?_
           obtain⟨hn3,hG4⟩:=jO hG4
           refine fF (aA7 underlying217 sizeOf4 hn3 rfl rfl rfl) (cG rfl rfl rfl (by rw [hc6];rfl)) rfl rfl ?_
           obtain⟨x17,hx17,hG4⟩:=tP hG4
           refine fF (iY rfl rfl isAgg4 (hS.aNN 1 rfl hx17)) (cG rfl rfl rfl (by rw [hc6];rfl)) rfl rfl ?_
           refine oy (AT rfl rfl hc6 rfl) rfl<|bL fun a hA=>?_
           exact⟨x17,hG4,hA.part ⟨rfl,rfl,rfl,rfl,rfl,rfl,rfl,rfl,rfl,rfl,trivial⟩,((hS).NI [0,1] rfl).wE [0,1,2,3] rfl⟩
         ·skip
          clear hA hS hG4
          rintro a w ⟨x14,hG4,hA,hS⟩
          unfold m7 at hG4
          refine lQ hA rfl (fun hc5=>?_) (fun hc5=>?_)
          ·replace hG4:=ML hc5 hG4
           refine bW<|cM hA ?_
           clear hA
           refine oa rfl rfl<|bL fun a hA=>AD ?_
           cases hG4
           have ho:=hr4 _ rfl;subst ho
           replace hG2:some (.stop (Out.ret false))=some q2:=hG2
           cases hG2
           have ho:=hr2 _ rfl;subst ho
           replace hF:some false=some r:=hF
           cases hF
           exact fy results241 hA rfl hS
          ·replace hG4:=MM hc5 hG4
           refine oX<|cM hA ?_
           clear hA
           refine om rfl rfl ?_
           obtain⟨hn2,hG4⟩:=jO hG4
           refine oy (aA7 underlying217 sizeOf4 hn2 rfl rfl rfl) rfl ?_
           obtain⟨x15,hx15,hG4⟩:=tP hG4
           refine P5 (aQ6 (xd:=true) hS (m:=1) rfl hx15 sizeOf4 rfl rfl rfl rfl rfl rfl) (cA rfl) rfl ?_
           clear hS
           intro w hS
           refine bL fun a hA=>cM hA ?_
           clear hA
           refine oy (LB rfl rfl rfl) rfl<|om rfl rfl<|bL fun a hA=>?_
           cases hG4
           exact⟨_,rfl,⟨hA.part ⟨rfl,rfl,rfl,rfl,rfl,rfl,rfl,rfl,trivial⟩,((hS).NI [0,1] rfl).wE [0,1,2,3] rfl⟩⟩
        ·replace hG4:=MM hc4 hG4
         refine KD<|D0 ?_
         cases hG4
         have ho:=hr4 _ rfl;subst ho
         exact⟨x11,rfl,hA.part ⟨rfl,rfl,rfl,rfl,rfl,trivial⟩,((hS).NI [0,1] rfl).wE [0,2,3] rfl⟩
       ·skip
        clear hA hS hl3
        rintro a w ⟨x12,heq,hA,hS⟩
        replace hG2:zG x4 x12=some q2:=by rw [heq] at hG2;exact hG2
        clear heq
        unfold zG at hG2
        refine cM hA ?_
        clear hA
        refine oy (LB rfl rfl rfl) rfl<|om rfl rfl<|bL fun a hA=>?_
        cases hG2
        exact⟨_,rfl,⟨hA.part ⟨rfl,rfl,rfl,rfl,rfl,trivial⟩,((hS).NI [0,1] rfl).wE [0,1,2] rfl⟩⟩
    ·replace hG2:=MM hc2 hG2
     refine KD<|D0 ?_
     cases hG2
     have ho:=hr2 _ rfl;subst ho
     exact⟨rfl,hA.part trivial,((hS).NI [] rfl).wE [] rfl⟩
   ·skip
    clear hA hS hl2
    rintro a w ⟨heq,hA,hS⟩
    replace hF:GQ=some r:=by rw [heq] at hF;exact hF
    clear heq
    unfold GQ at hF
    refine bW<|cM hA ?_
    clear hA
    refine oa rfl rfl<|bL fun a hA=>AD ?_
    cases hF
    exact fy results241 hA rfl hS
theorem Z0{w0:World}{h:Int}{r:Bool}(hF:gR h=some r) :
    Calls prog 134 #[.int .i64 (h)] w0 (Ret fun v w'=>v=.bool (r)∧St (cW w0) w' [] []):=by
 have hS:St (cW w0) w0 [] []:=St.enter (by
   intro f hf;cases hf)
 refine AU (args:=[_]) func134 rfl ntmps134 rfl ?_
 unfold gR at hF
 intro a hA
 refine bW<|cM hA ?_
 clear hA
 refine oa rfl rfl<|bL fun a hA=>bW<|D2 (J:=fun a' w'=>∃(x1:Bool),mF x1=some r∧lL 10 [(2,.bool (x1))] a'∧St (cW w0) w' [] []) ?_ ?_
 ·skip
  refine cM hA ?_
  clear hA
  refine om rfl rfl ?_
  obtain⟨x2,hx2,hF⟩:=tP hF
  refine YQ (KH call58 rfl rfl) (cA rfl) rfl rfl (LS (n:=h) (low:=32) (high:=223) hx2) ?_
  rintro _ w ⟨rfl,hk⟩
  replace hS:=hS.after hk;clear hk
  refine om rfl rfl<|IW (s:=5) rfl (fun hc1=>?_) (fun hc1=>?_)
  ·replace hF:=ML hc1 hF
   refine fF (nL rfl rfl) (cG rfl rfl rfl (by rw [hc1];rfl)) rfl rfl ?_
   refine fF (W1 rfl rfl rfl (by decide)) (cG rfl rfl rfl (by rw [hc1];rfl)) rfl rfl ?_
   refine fF (GM rfl rfl rfl) (cG rfl rfl rfl (by rw [hc1];rfl)) rfl rfl ?_
   refine oy (wD rfl rfl hc1 rfl) rfl<|oa rfl rfl<|bL fun a hA=>?_
   exact⟨decide ((Int.tmod h 32) < 24),hF,hA.part ⟨rfl,trivial⟩,((hS).NI [] rfl).wE [] rfl⟩
  ·replace hF:=MM hc1 hF
   refine fO (cG rfl rfl rfl (by rw [hc1];rfl)) rfl rfl ?_
   refine fO (cG rfl rfl rfl (by rw [hc1];rfl)) rfl rfl ?_
   refine fO (cG rfl rfl rfl (by rw [hc1];rfl)) rfl rfl ?_
   refine oy (AT rfl rfl hc1 rfl) rfl<|oa rfl rfl<|bL fun a hA=>?_
   exact⟨false,hF,hA.part ⟨rfl,trivial⟩,((hS).NI [] rfl).wE [] rfl⟩
 ·skip
  clear hA hS hF
  rintro a w ⟨x1,hF,hA,hS⟩
  unfold mF at hF
  refine AD ?_
  cases hF
  exact fy results134 hA rfl hS
theorem XP{w0:World}{l:List aS}{s1:Value}{r:Int}(h1:aI.rd (NL w0) w0 [s1] (l:List aS))(hF:uP l=some r) :
    Calls prog 245 #[s1] w0 (Ret fun v w'=>v=.int .i64 (r)∧St (cW w0) w' [] []):=by
 have hS:St (cW w0) w0 [] [AS [s1] (l:List aS)]:=St.enter (by
   intro f hf
   simp only [iA,UN,or_false] at hf
   subst hf;exact h1)
 refine AU (args:=[_]) func245 rfl ntmps245 rfl ?_
 unfold uP at hF
 intro a hA
 refine bW<|cM hA ?_
 clear hA
 refine oa rfl rfl<|bL fun a hA=>bW<|cM hA ?_
 clear hA
 refine oa rfl rfl<|bL fun a hA=>bW<|bW<|cM hA ?_
 clear hA
 refine om rfl rfl<|oy (oY (hS.rd 0 rfl) underlying40 rfl rfl) rfl<|om rfl rfl<|bL fun a hA=>?_
 obtain⟨o1,hl1,hF⟩:=tP hF
 refine D2 (J:=fun a' w'=>∃(x5:Int),o1=x5∧lL 19 [(3,.int .i64 (x5))] a'∧St (cW w0) w' [] []) ?_ ?_
 ·refine lM ?_
  refine KE (body:=i5 l) (r:=o1) (fun sg a' w'=>lL 19 [(3,.int .i64 (sg.1)),(6,s1),(7,.int .i64 ((l.length:Int))),(8,.int .i64 (sg.2))] a'∧St (cW w0) w' [] [AS [s1] (l:List aS)]) ?_ hl1 ⟨hA.part ⟨rfl,rfl,rfl,rfl,trivial⟩,((hS).NI [] rfl).wE [0] rfl⟩
  clear hA hS hl1
  rintro⟨x3,x4⟩ a w q1 ⟨hA,hS⟩ hG1 hr1
  try dsimp only at hA hS
  unfold i5 at hG1
  refine bW<|cM hA ?_
  clear hA
  refine oy (GM rfl rfl rfl) rfl<|bL fun a hA=>bW<|lQ hA rfl (fun hc1=>?_) (fun hc1=>?_)
  ·replace hG1:=ML hc1 hG1
   refine oX<|bW<|lM<|bW<|cM hA ?_
   clear hA
   obtain⟨x6,hx6,hG1⟩:=tP hG1
   refine oy (P7 (m:=1) (hS.rd 0 rfl) rfl hx6 underlying40 sizeOf152 rfl rfl rfl) rfl ?_
   obtain⟨s2,hel,hS⟩:=hS.aKN 0 rfl (j9 hx6).2.2
   refine oy (P6 rfl rfl isAgg152 sizeOf152 rfl hel) rfl<|LA (MK (cs:=[(.slice none 0 0)]) hS rfl zeroValue152 rfl) (cA rfl) rfl rfl ?_
   clear hS
   rintro _ w ⟨b1,rfl,hS⟩
   refine P5 (TX (vs:=[s2]) hS (i:=0) rfl rfl rfl rfl rfl sizeOf152 rfl rfl (aXR (aB1 (hS.rd 1 rfl)) rfl)) (cA rfl) rfl ?_
   clear hS
   intro w hS
   refine bL fun a hA=>cM hA ?_
   clear hA
   refine om rfl rfl<|oy (AE (m:=0) underlying152 rfl rfl sizeOf94 rfl rfl) rfl<|oy (iY rfl rfl isAgg94 (hS.cell 0 rfl rfl)) rfl<|oy (oY (hS.rd 1 rfl) underlying94 rfl rfl) rfl<|oy (LB rfl rfl rfl) rfl<|oa rfl rfl<|bL fun a hA=>cM hA ?_
   clear hA
   refine oy (LB rfl rfl rfl) rfl<|om rfl rfl<|bL fun a hA=>?_
   cases hG1
   exact⟨_,rfl,⟨hA.part ⟨rfl,rfl,rfl,rfl,trivial⟩,((hS).NI [] rfl).wE [0] rfl⟩⟩
  ·replace hG1:=MM hc1 hG1
   refine KD<|D0 ?_
   cases hG1
   have ho:=hr1 _ rfl;subst ho
   exact⟨x3,rfl,hA.part ⟨rfl,trivial⟩,((hS).NI [] rfl).wE [] rfl⟩
 ·skip
  clear hA hS hl1
  rintro a w ⟨x5,heq,hA,hS⟩
  replace hF:B4 x5=some r:=by rw [heq] at hF;exact hF
  clear heq
  unfold B4 at hF
  refine bW<|cM hA ?_
  clear hA
  refine om rfl rfl<|oa rfl rfl<|bL fun a hA=>AD ?_
  cases hF
  exact fy results245 hA rfl hS
theorem aDA{w0:World}{l:List aS}{s1:Value}{r:Bool}(h1:aI.rd (NL w0) w0 [s1] (l:List aS))(hF:lU l=some r) :
    Calls prog 169 #[s1] w0 (Ret fun v w'=>v=.bool (r)∧St (cW w0) w' [] []):=by
 have hS:St (cW w0) w0 [] [AS [s1] (l:List aS)]:=St.enter (by
   intro f hf
   simp only [iA,UN,or_false] at hf
   subst hf;exact h1)
 refine AU (args:=[_]) func169 rfl ntmps169 rfl ?_
 unfold lU at hF
 intro a hA
 refine bW<|cM hA ?_
 clear hA
 refine oa rfl rfl<|bL fun a hA=>bW<|bW<|cM hA ?_
 clear hA
 refine om rfl rfl<|oy (oY (hS.rd 0 rfl) underlying40 rfl rfl) rfl<|oy (aHS rfl rfl rfl) rfl<|bL fun a hA=>lQ hA rfl (fun hc1=>?_) (fun hc1=>?_)
 ·replace hF:=ML hc1 hF
  refine bW<|cM hA ?_
  clear hA
  refine oa rfl rfl<|bL fun a hA=>AD ?_
  cases hF
  exact fy results169 hA rfl hS
 ·replace hF:=MM hc1 hF
  refine oX<|bW<|cM hA ?_
  clear hA
  refine oy (W2 (cells:=#[.bool (false),.bool (false),.bool (false),.bool (false),.bool (false),.bool (false),.bool (false),.bool (false),.bool (false),.bool (false),.bool (false),.bool (false),.bool (false),.bool (false),.bool (false),.bool (false),.bool (false),.bool (false),.bool (false),.bool (false),.bool (false),.bool (false),.bool (false),.bool (false)]) rfl zeroValue217 underlying217 sizeOf4 rfl rfl) rfl<|LA (MK (cs:=List.map (fun q:Bool=>Value.bool q) [false,false,false,false,false,false,false,false,false,false,false,false,false,false,false,false,false,false,false,false,false,false,false,false]) hS rfl zeroValue217 rfl) (cA rfl) rfl rfl ?_
  clear hS
  rintro _ w ⟨b1,rfl,hS⟩
  refine P5 (TX (vs:=[.bool (false),.bool (false),.bool (false),.bool (false),.bool (false),.bool (false),.bool (false),.bool (false),.bool (false),.bool (false),.bool (false),.bool (false),.bool (false),.bool (false),.bool (false),.bool (false),.bool (false),.bool (false),.bool (false),.bool (false),.bool (false),.bool (false),.bool (false),.bool (false)]) hS (i:=0) rfl rfl rfl rfl rfl sizeOf217 rfl rfl rfl) (cA rfl) rfl ?_
  clear hS
  intro w hS
  refine bL fun a hA=>bW<|bW<|cM hA ?_
  clear hA
  refine om rfl rfl<|oy (oY (hS.rd 0 rfl) underlying40 rfl rfl) rfl<|om rfl rfl<|bL fun a hA=>?_
  obtain⟨o1,hl1,hF⟩:=tP hF
  refine D2 (J:=fun a' w'=>o1=Out.brk ()∧lL 51 [(0,s1)] a'∧St (cW w0) w' [] [AS [s1] (l:List aS)]) ?_ ?_
  ·refine lM ?_
   refine KE (body:=lD l) (r:=o1) (fun sg a' w'=>lL 51 [(0,s1),(3,.pointer (some ⟨b1,0,none⟩)),(12,s1),(13,.int .i64 ((l.length:Int))),(14,.int .i64 (sg.1))] a'∧St (cW w0) w' [DT b1 (List.map (fun q:Bool=>Value.bool q) (sg.2:List Bool))] [AS [s1] (l:List aS)]) ?_ hl1 ⟨hA.part ⟨rfl,rfl,rfl,rfl,rfl,trivial⟩,((hS).NI [0] rfl).wE [0] rfl⟩
   clear hA hS hl1
   rintro⟨x3,x4⟩ a w q1 ⟨hA,hS⟩ hG1 hr1
   try dsimp only at hA hS
   unfold lD at hG1
   refine bW<|cM hA ?_
   clear hA
   refine oy (GM rfl rfl rfl) rfl<|bL fun a hA=>bW<|lQ hA rfl (fun hc2=>?_) (fun hc2=>?_)
   ·replace hG1:=ML hc2 hG1
    refine oX<|bW<|lM<|bW<|cM hA ?_
    clear hA
    obtain⟨x6,hx6,hG1⟩:=tP hG1
    refine oy (P7 (m:=1) (hS.rd 0 rfl) rfl hx6 underlying40 sizeOf152 rfl rfl rfl) rfl ?_
    obtain⟨s2,hel,hS⟩:=hS.aKN 0 rfl (j9 hx6).2.2
    refine oy (P6 rfl rfl isAgg152 sizeOf152 rfl hel) rfl<|LA (MK (cs:=[(.slice none 0 0)]) hS rfl zeroValue152 rfl) (cA rfl) rfl rfl ?_
    clear hS
    rintro _ w ⟨b2,rfl,hS⟩
    refine P5 (TX (vs:=[s2]) hS (i:=1) rfl rfl rfl rfl rfl sizeOf152 rfl rfl (aXR (aB1 (hS.rd 1 rfl)) rfl)) (cA rfl) rfl ?_
    clear hS
    intro w hS
    refine bL fun a hA=>bW<|cM hA ?_
    clear hA
    refine oy (AE (m:=0) underlying152 rfl rfl sizeOf94 rfl rfl) rfl<|oy (iY rfl rfl isAgg94 (hS.cell 1 rfl rfl)) rfl<|oy (oY (hS.rd 1 rfl) underlying94 rfl rfl) rfl<|om rfl rfl<|bL fun a hA=>?_
    obtain⟨o2,hl2,hG1⟩:=tP hG1
    refine D2 (J:=fun a' w'=>∃(x11:List Bool),o2=Out.brk x11∧lL 51 [(0,s1),(3,.pointer (some ⟨b1,0,none⟩)),(12,s1),(13,.int .i64 ((l.length:Int))),(14,.int .i64 (x3))] a'∧St (cW w0) w' [DT b1 (List.map (fun q:Bool=>Value.bool q) (x11:List Bool))] [AS [s1] (l:List aS)]) ?_ ?_
    ·refine lM ?_
     refine KE (body:=lC x6) (r:=o2) (fun sg a' w'=>lL 51 [(0,s1),(3,.pointer (some ⟨b1,0,none⟩)),(12,s1),(13,.int .i64 ((l.length:Int))),(14,.int .i64 (x3)),(19,s2),(20,.int .i64 ((x6.Rows.length:Int))),(21,.int .i64 (sg.1))] a'∧St (cW w0) w' [DT b1 (List.map (fun q:Bool=>Value.bool q) (sg.2:List Bool))] [AS [s1] (l:List aS),AS [s2] (x6.Rows:List c9)]) ?_ hl2 ⟨hA.part ⟨rfl,rfl,rfl,rfl,rfl,rfl,rfl,rfl,trivial⟩,((hS).NI [0] rfl).wE [0,1] rfl⟩
     clear hA hS hl2
     rintro⟨x9,x10⟩ a w q2 ⟨hA,hS⟩ hG2 hr2
     try dsimp only at hA hS
     unfold lC at hG2
     refine bW<|cM hA ?_
     clear hA
     refine oy (GM rfl rfl rfl) rfl<|bL fun a hA=>bW<|lQ hA rfl (fun hc3=>?_) (fun hc3=>?_)
     ·replace hG2:=ML hc3 hG2
      refine oX<|bW<|lM<|bW<|cM hA ?_
      clear hA
      obtain⟨x12,hx12,hG2⟩:=tP hG2
      refine oy (P7 (m:=2) (hS.rd 1 rfl) rfl hx12 underlying94 sizeOf97 rfl rfl rfl) rfl<|oy (P6 rfl rfl isAgg97 sizeOf97 rfl (aVX (hS.rd 1 rfl) (j9 hx12).2.2)) rfl<|LA (MK (cs:=[.int .i64 (0),.int .i64 (0)]) hS rfl zeroValue97 rfl) (cA rfl) rfl rfl ?_
      clear hS
      rintro _ w ⟨b3,rfl,hS⟩
      refine P5 (TX (vs:=[.int .i64 (x12.Handle),.int .i64 (x12.aL)]) hS (i:=1) rfl rfl rfl rfl rfl sizeOf97 rfl rfl rfl) (cA rfl) rfl ?_
      clear hS
      intro w hS
      refine bL fun a hA=>bW<|bW<|D2 (J:=fun a' w'=>∃(x13:Bool),jC x9 x10 x12 x13=some q2∧lL 51 [(0,s1),(3,.pointer (some ⟨b1,0,none⟩)),(7,.pointer (some ⟨b3,0,none⟩)),(12,s1),(13,.int .i64 ((l.length:Int))),(14,.int .i64 (x3)),(19,s2),(20,.int .i64 ((x6.Rows.length:Int))),(21,.int .i64 (x9)),(41,.bool (x13))] a'∧St (cW w0) w' [DT b1 (List.map (fun q:Bool=>Value.bool q) (x10:List Bool)),DT b3 [.int .i64 (x12.Handle),.int .i64 (x12.aL)]] [AS [s1] (l:List aS),AS [s2] (x6.Rows:List c9)]) ?_ ?_
      ·skip
       refine cM hA ?_
       clear hA
       refine oy (AE (m:=0) underlying97 rfl rfl sizeOf3 rfl rfl) rfl<|oy (iY rfl rfl isAgg3 (hS.cell 1 rfl rfl)) rfl ?_
       obtain⟨x15,hx15,hG2⟩:=tP hG2
       refine YQ (KH call134 rfl rfl) (cA rfl) rfl rfl (Z0 (h:=x12.Handle) hx15) ?_
       rintro _ w ⟨rfl,hk⟩
       replace hS:=hS.after hk;clear hk
       refine oy (aBU rfl rfl) rfl<|om rfl rfl<|IW (s:=29) rfl (fun hc5=>?_) (fun hc5=>?_)
       ·replace hG2:=ML hc5 hG2
        refine fO (cG rfl rfl rfl (by rw [hc5];rfl)) rfl rfl ?_
        refine fO (cG rfl rfl rfl (by rw [hc5];rfl)) rfl rfl ?_
        refine fO (cG rfl rfl rfl (by rw [hc5];rfl)) rfl rfl ?_
        refine fO (cG rfl rfl rfl (by rw [hc5];rfl)) rfl rfl ?_
        refine oy (wD rfl rfl hc5 rfl) rfl<|om rfl rfl<|fO (cG rfl rfl rfl rfl) rfl rfl<|fO (cG rfl rfl rfl rfl) rfl rfl<|fO (cG rfl rfl rfl rfl) rfl rfl<|fO (cG rfl rfl rfl rfl) rfl rfl<|fO (cG rfl rfl rfl rfl) rfl rfl<|oy (wD rfl rfl rfl rfl) rfl<|bL fun a hA=>?_
        exact⟨true,hG2,hA.part ⟨rfl,rfl,rfl,rfl,rfl,rfl,rfl,rfl,rfl,rfl,trivial⟩,((hS).NI [0,1] rfl).wE [0,1] rfl⟩
       ·replace hG2:=MM hc5 hG2
        refine fF (AE (m:=0) underlying97 rfl rfl sizeOf3 rfl rfl) (cG rfl rfl rfl (by rw [hc5];rfl)) rfl rfl ?_
        refine fF (iY rfl rfl isAgg3 (hS.cell 1 rfl rfl)) (cG rfl rfl rfl (by rw [hc5];rfl)) rfl rfl ?_
        obtain⟨x16,hx16,hG2⟩:=tP hG2
        refine YQ (KH call58 rfl rfl) (cG rfl rfl rfl (by rw [hc5];rfl)) rfl rfl (LS (n:=x12.aL) (low:=0) (high:=100000) hx16) ?_
        rintro _ w ⟨rfl,hk⟩
        replace hS:=hS.after hk;clear hk
        refine fF (aBU rfl rfl) (cG rfl rfl rfl (by rw [hc5];rfl)) rfl rfl ?_
        refine oy (AT rfl rfl hc5 rfl) rfl<|om rfl rfl<|IW (s:=35) rfl (fun hc6=>?_) (fun hc6=>?_)
        ·replace hG2:=ML hc6 hG2
         refine fO (cG rfl rfl rfl (by rw [hc6];rfl)) rfl rfl ?_
         refine fO (cG rfl rfl rfl (by rw [hc6];rfl)) rfl rfl ?_
         refine fO (cG rfl rfl rfl (by rw [hc6];rfl)) rfl rfl ?_
         refine fO (cG rfl rfl rfl (by rw [hc6];rfl)) rfl rfl ?_
         refine fO (cG rfl rfl rfl (by rw [hc6];rfl)) rfl rfl ?_
         refine oy (wD rfl rfl hc6 rfl) rfl<|bL fun a hA=>?_
         exact⟨true,hG2,hA.part ⟨rfl,rfl,rfl,rfl,rfl,rfl,rfl,rfl,rfl,rfl,trivial⟩,((hS).NI [0,1] rfl).wE [0,1] rfl⟩
        ·replace hG2:=MM hc6 hG2
         refine fF (AE (m:=0) underlying97 rfl rfl sizeOf3 rfl rfl) (cG rfl rfl rfl (by rw [hc6];rfl)) rfl rfl ?_
         refine fF (iY rfl rfl isAgg3 (hS.cell 1 rfl rfl)) (cG rfl rfl rfl (by rw [hc6];rfl)) rfl rfl ?_
         refine fF (W1 rfl rfl rfl (by decide)) (cG rfl rfl rfl (by rw [hc6];rfl)) rfl rfl ?_
         obtain⟨hn2,hG2⟩:=jO hG2
         refine fF (aA7 underlying217 sizeOf4 hn2 rfl rfl rfl) (cG rfl rfl rfl (by rw [hc6];rfl)) rfl rfl ?_
         obtain⟨x17,hx17,hG2⟩:=tP hG2
         refine fF (iY rfl rfl isAgg4 (hS.aNN 0 rfl hx17)) (cG rfl rfl rfl (by rw [hc6];rfl)) rfl rfl ?_
         refine oy (AT rfl rfl hc6 rfl) rfl<|bL fun a hA=>?_
         exact⟨x17,hG2,hA.part ⟨rfl,rfl,rfl,rfl,rfl,rfl,rfl,rfl,rfl,rfl,trivial⟩,((hS).NI [0,1] rfl).wE [0,1] rfl⟩
      ·skip
       clear hA hS hG2
       rintro a w ⟨x13,hG2,hA,hS⟩
       unfold jC at hG2
       refine lQ hA rfl (fun hc4=>?_) (fun hc4=>?_)
       ·replace hG2:=ML hc4 hG2
        refine bW<|cM hA ?_
        clear hA
        refine oa rfl rfl<|bL fun a hA=>AD ?_
        cases hG2
        have ho:=hr2 _ rfl;subst ho
        replace hG1:some (.stop (Out.ret false))=some q1:=hG1
        cases hG1
        have ho:=hr1 _ rfl;subst ho
        replace hF:some false=some r:=hF
        cases hF
        exact fy results169 hA rfl hS
       ·replace hG2:=MM hc4 hG2
        refine oX<|cM hA ?_
        clear hA
        refine oy (AE (m:=0) underlying97 rfl rfl sizeOf3 rfl rfl) rfl<|oy (iY rfl rfl isAgg3 (hS.cell 1 rfl rfl)) rfl<|oy (W1 rfl rfl rfl (by decide)) rfl ?_
        obtain⟨hn1,hG2⟩:=jO hG2
        refine oy (aA7 underlying217 sizeOf4 hn1 rfl rfl rfl) rfl ?_
        obtain⟨x14,hx14,hG2⟩:=tP hG2
        refine P5 (aQ6 (xd:=true) hS (m:=0) rfl hx14 sizeOf4 rfl rfl rfl rfl rfl rfl) (cA rfl) rfl ?_
        clear hS
        intro w hS
        refine bL fun a hA=>cM hA ?_
        clear hA
        refine oy (LB rfl rfl rfl) rfl<|om rfl rfl<|bL fun a hA=>?_
        cases hG2
        exact⟨_,rfl,⟨hA.part ⟨rfl,rfl,rfl,rfl,rfl,rfl,rfl,rfl,trivial⟩,((hS).NI [0] rfl).wE [0,1] rfl⟩⟩
     ·replace hG2:=MM hc3 hG2
      refine KD<|D0 ?_
      cases hG2
      have ho:=hr2 _ rfl;subst ho
      exact⟨x10,rfl,hA.part ⟨rfl,rfl,rfl,rfl,rfl,trivial⟩,((hS).NI [0] rfl).wE [0] rfl⟩
    ·skip
     clear hA hS hl2
     rintro a w ⟨x11,heq,hA,hS⟩
     replace hG1:zJ x3 x11=some q1:=by rw [heq] at hG1;exact hG1
     clear heq
     unfold zJ at hG1
     refine cM hA ?_
     clear hA
     refine oy (LB rfl rfl rfl) rfl<|om rfl rfl<|bL fun a hA=>?_
     cases hG1
     exact⟨_,rfl,⟨hA.part ⟨rfl,rfl,rfl,rfl,rfl,trivial⟩,((hS).NI [0] rfl).wE [0] rfl⟩⟩
   ·replace hG1:=MM hc2 hG1
    refine KD<|D0 ?_
    cases hG1
    have ho:=hr1 _ rfl;subst ho
    exact⟨rfl,hA.part ⟨rfl,trivial⟩,((hS).NI [] rfl).wE [0] rfl⟩
  ·skip
   clear hA hS hl1
   rintro a w ⟨heq,hA,hS⟩
   replace hF:zI l=some r:=by rw [heq] at hF;exact hF
   clear heq
   unfold zI at hF
   refine bW<|cM hA ?_
   clear hA
   refine om rfl rfl ?_
   obtain⟨x5,hx5,hF⟩:=tP hF
   refine YQ (KH call245 rfl rfl) (cA rfl) rfl rfl (XP (l:=l) (hS.rd 0 rfl) hx5) ?_
   rintro _ w ⟨rfl,hk⟩
   replace hS:=hS.after hk;clear hk
   refine oy (aLV rfl rfl rfl) rfl<|oa rfl rfl<|bL fun a hA=>AD ?_
   cases hF
   exact fy results169 hA rfl hS
noncomputable section
open Go.RowKit
attribute [local go_sem] Oper.semAt_some
def aV0(W:World)(b o:Nat)(e:Ev):Prop:=W.cell? ⟨b,o,none⟩=some (.int .i64 e.Kind)∧W.cell? ⟨b,o+1,none⟩=some (.int .i64 e.Who)∧W.cell? ⟨b,o+2,none⟩=some (.int .i64 e.aJ)∧W.cell? ⟨b,o+3,none⟩=some (.int .i64 e.Cell)∧W.cell? ⟨b,o+4,none⟩=some (.int .i64 e.Handle)∧W.cell? ⟨b,o+5,none⟩=some (.int .i64 e.eH)∧W.cell? ⟨b,o+6,none⟩=some (.int .i64 e.Code)
theorem aV0.below{n₀:Nat}{A B:World}(h:Below n₀ A B){b o:Nat}{e:Ev}(hb:b < n₀)(k:aV0 A b o e):aV0 B b o e:=by
  have q:∀j,B.cell? ⟨b,j,none⟩=A.cell? ⟨b,j,none⟩:=fun j=>h.cell (p:=⟨b,j,none⟩) hb
  exact⟨(q _).trans k.1,(q _).trans k.2.1,(q _).trans k.2.2.1,(q _).trans k.2.2.2.1,(q _).trans k.2.2.2.2.1,(q _).trans k.2.2.2.2.2.1,(q _).trans k.2.2.2.2.2.2⟩
def Evs(n₀:Nat)(W:World)(sv:Value)(zs:List Ev):Prop:=
  ((∃a c,sv=.slice a 0 c)∧zs=[])∨∃b off cap,sv=.slice (some ⟨b,off,none⟩) zs.length cap∧b < n₀∧∀j,j < zs.length→aV0 W b (off+j * 7) (zs[j]?.getD default)
theorem Evs.below{n₀ m:Nat}{A B:World}(h:Below m A B)(hm:n₀≤m){sv:Value}{zs:List Ev}:Evs n₀ A sv zs→Evs m B sv zs
  | .inl e=>.inl e
  | .inr ⟨b,off,cap,e,hb,hc⟩=>.inr ⟨b,off,cap,e,by omega,fun j hj=>(hc j hj).below h (by omega)⟩
end
end Go.Proofs.YtabnjpbikjfhoaaGreat
end
