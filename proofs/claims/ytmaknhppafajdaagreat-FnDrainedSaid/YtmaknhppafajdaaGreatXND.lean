import Derived.Test.YtmaknhppafajdaaGreatXNC
import Derived.Test.YtmaknhppafajdaaGreatProg
set_option linter.unusedVariables false
set_option linter.unusedSimpArgs false
set_option linter.unusedSectionVars false
set_option linter.constructorNameAsVariable false
set_option linter.unnecessarySimpa false
noncomputable section
set_option maxHeartbeats 4000000
set_option maxRecDepth 100000
namespace Go.Proofs.YtmaknhppafajdaaGreat
open Go.Gv
theorem EC:UN Tryz.prog 53 7 (.agg #[.int .i64 0,.int .i64 0,.int .i64 0,.int .i64 0,.int .i64 0,.int .i64 0,.int .i64 0]):=IP (b:=56) (by kernel_rfl) rfl
theorem dJ:UN Tryz.prog 27 4 (.agg #[.int .i64 0,.int .i64 0,.int .i64 0,.int .i64 0]):=IP (b:=32) (by kernel_rfl) rfl
theorem rV:UN Tryz.prog 30 1 (.agg #[.slice none 0 0]):=IP (b:=24) (by kernel_rfl) rfl
theorem aX:UN Tryz.prog 3 1 (.int .i64 0):=IP (b:=8) (by kernel_rfl) rfl
theorem dX:UN Tryz.prog 121 1 (.agg #[.slice none 0 0]):=IP (b:=24) (by kernel_rfl) rfl
theorem N7:UN Tryz.prog 59 4 (.agg #[.bool false,.int .i64 0,.bool false,.int .i64 0]):=IP (b:=32) (by kernel_rfl) rfl
theorem vS:UN Tryz.prog 108 2 (.agg #[.int .i64 0,.int .i64 0]):=IP (b:=16) (by kernel_rfl) rfl
theorem GB:UN Tryz.prog 106 1 (.agg #[.slice none 0 0]):=IP (b:=24) (by kernel_rfl) rfl
theorem fS:UN Tryz.prog 63 21 (.agg #[.bool false,.int .i64 0,.int .i64 0,.int .i64 0,.int .i64 0,.int .i64 0,.int .i64 0,.int .i64 0,.int .i64 0,.int .i64 0,.int .i64 0,.int .i64 0,.int .i64 0,.int .i64 0,.int .i64 0,.int .i64 0,.bool false,.int .i64 0,.int .i64 0,.int .i64 0,.int .i64 0]):=IP (b:=168) (by kernel_rfl) rfl
theorem aLV:UN Tryz.prog 36 1 (.slice none 0 0):=IP (b:=24) (by kernel_rfl) rfl
theorem aO5:UN Tryz.prog 5 1 (.int .u8 0):=IP (b:=1) (by kernel_rfl) rfl
theorem aR:Tryz.prog.follows .mixedOrders=true:=by kernel_rfl
theorem aCK(D:Nat)(d d':oV)(w:World):(Op.eqFields (D+2) #[.bool (d.On),.int .i64 (d.aG),.bool (d.dC),.int .i64 (d.Seen)] #[.bool (d'.On),.int .i64 (d'.aG),.bool (d'.dC),.int .i64 (d'.Seen)] (match Tryz.prog.underlying 59 with | some (.struct fs)=>fs | _=>#[]).toList).run Tryz.prog w=.ok (decide (d=d')) w:=by
 rw [Tryz.underlying59]
 have h:(d.On == d'.On && (d.aG == d'.aG && (d.dC == d'.dC && (d.Seen == d'.Seen && true))))=decide (d=d'):=by
  cases d;cases d';rw [Bool.eq_iff_iff];simp
 rw [<-h]
 exact fN _ _ _ _ _ rfl (gJ Tryz.isAgg4 rfl) (gJ Tryz.isAgg4 rfl) (aAL Tryz.underlying4)<|
  fN _ _ _ _ _ rfl (gJ Tryz.isAgg3 rfl) (gJ Tryz.isAgg3 rfl) (oT Tryz.underlying3)<|
  fN _ _ _ _ _ rfl (gJ Tryz.isAgg4 rfl) (gJ Tryz.isAgg4 rfl) (aAL Tryz.underlying4)<|
  fN _ _ _ _ _ rfl (gJ Tryz.isAgg3 rfl) (gJ Tryz.isAgg3 rfl) (oT Tryz.underlying3)<|
  aAK _ _ _
theorem aLW(D:Nat)(d d':dB)(w:World):(Op.eqFields (D+2) #[.int .i64 (d.Kind),.int .i64 (d.Cell),.int .i64 (d.gX),.int .i64 (d.dV)] #[.int .i64 (d'.Kind),.int .i64 (d'.Cell),.int .i64 (d'.gX),.int .i64 (d'.dV)] (match Tryz.prog.underlying 27 with | some (.struct fs)=>fs | _=>#[]).toList).run Tryz.prog w=.ok (decide (d=d')) w:=by
 rw [Tryz.underlying27]
 have h:(d.Kind == d'.Kind && (d.Cell == d'.Cell && (d.gX == d'.gX && (d.dV == d'.dV && true))))=decide (d=d'):=by
  cases d;cases d';rw [Bool.eq_iff_iff];simp
 rw [<-h]
 exact fN _ _ _ _ _ rfl (gJ Tryz.isAgg3 rfl) (gJ Tryz.isAgg3 rfl) (oT Tryz.underlying3)<|
  fN _ _ _ _ _ rfl (gJ Tryz.isAgg3 rfl) (gJ Tryz.isAgg3 rfl) (oT Tryz.underlying3)<|
  fN _ _ _ _ _ rfl (gJ Tryz.isAgg3 rfl) (gJ Tryz.isAgg3 rfl) (oT Tryz.underlying3)<|
  fN _ _ _ _ _ rfl (gJ Tryz.isAgg3 rfl) (gJ Tryz.isAgg3 rfl) (oT Tryz.underlying3)<|
  aAK _ _ _
theorem aLX(D:Nat)(d d':Sub)(w:World):(Op.eqFields (D+2) #[.int .i64 (d.Kind),.int .i64 (d.A),.int .i64 (d.Pc),.int .i64 (d.E),.int .i64 (d.Row),.int .i64 (d.B),.int .i64 (d.H),.int .i64 (d.Out),.int .i64 (d.Code),.bool (d.cO)] #[.int .i64 (d'.Kind),.int .i64 (d'.A),.int .i64 (d'.Pc),.int .i64 (d'.E),.int .i64 (d'.Row),.int .i64 (d'.B),.int .i64 (d'.H),.int .i64 (d'.Out),.int .i64 (d'.Code),.bool (d'.cO)] (match Tryz.prog.underlying 61 with | some (.struct fs)=>fs | _=>#[]).toList).run Tryz.prog w=.ok (decide (d=d')) w:=by
 rw [Tryz.underlying61]
 have h:(d.Kind == d'.Kind && (d.A == d'.A && (d.Pc == d'.Pc && (d.E == d'.E && (d.Row == d'.Row && (d.B == d'.B && (d.H == d'.H && (d.Out == d'.Out && (d.Code == d'.Code && (d.cO == d'.cO && true))))))))))=decide (d=d'):=by
  cases d;cases d';rw [Bool.eq_iff_iff];simp
 rw [<-h]
 exact fN _ _ _ _ _ rfl (gJ Tryz.isAgg3 rfl) (gJ Tryz.isAgg3 rfl) (oT Tryz.underlying3)<|
  fN _ _ _ _ _ rfl (gJ Tryz.isAgg3 rfl) (gJ Tryz.isAgg3 rfl) (oT Tryz.underlying3)<|
  fN _ _ _ _ _ rfl (gJ Tryz.isAgg3 rfl) (gJ Tryz.isAgg3 rfl) (oT Tryz.underlying3)<|
  fN _ _ _ _ _ rfl (gJ Tryz.isAgg3 rfl) (gJ Tryz.isAgg3 rfl) (oT Tryz.underlying3)<|
  fN _ _ _ _ _ rfl (gJ Tryz.isAgg3 rfl) (gJ Tryz.isAgg3 rfl) (oT Tryz.underlying3)<|
  fN _ _ _ _ _ rfl (gJ Tryz.isAgg3 rfl) (gJ Tryz.isAgg3 rfl) (oT Tryz.underlying3)<|
  fN _ _ _ _ _ rfl (gJ Tryz.isAgg3 rfl) (gJ Tryz.isAgg3 rfl) (oT Tryz.underlying3)<|
  fN _ _ _ _ _ rfl (gJ Tryz.isAgg3 rfl) (gJ Tryz.isAgg3 rfl) (oT Tryz.underlying3)<|
  fN _ _ _ _ _ rfl (gJ Tryz.isAgg3 rfl) (gJ Tryz.isAgg3 rfl) (oT Tryz.underlying3)<|
  fN _ _ _ _ _ rfl (gJ Tryz.isAgg4 rfl) (gJ Tryz.isAgg4 rfl) (aAL Tryz.underlying4)<|
  aAK _ _ _
theorem aCL(D:Nat)(d d':bA)(w:World):(Op.eqFields (D+3) #[.bool (d.cN),.int .i64 (d.Op.Kind),.int .i64 (d.Op.Cell),.int .i64 (d.Op.gX),.int .i64 (d.Op.dV),.int .i64 (d.aI),.int .i64 (d.Pc),.int .i64 (d.Sub.Kind),.int .i64 (d.Sub.A),.int .i64 (d.Sub.Pc),.int .i64 (d.Sub.E),.int .i64 (d.Sub.Row),.int .i64 (d.Sub.B),.int .i64 (d.Sub.H),.int .i64 (d.Sub.Out),.int .i64 (d.Sub.Code),.bool (d.Sub.cO),.int .i64 (d.H),.int .i64 (d.Old),.int .i64 (d.dV),.int .i64 (d.Code)] #[.bool (d'.cN),.int .i64 (d'.Op.Kind),.int .i64 (d'.Op.Cell),.int .i64 (d'.Op.gX),.int .i64 (d'.Op.dV),.int .i64 (d'.aI),.int .i64 (d'.Pc),.int .i64 (d'.Sub.Kind),.int .i64 (d'.Sub.A),.int .i64 (d'.Sub.Pc),.int .i64 (d'.Sub.E),.int .i64 (d'.Sub.Row),.int .i64 (d'.Sub.B),.int .i64 (d'.Sub.H),.int .i64 (d'.Sub.Out),.int .i64 (d'.Sub.Code),.bool (d'.Sub.cO),.int .i64 (d'.H),.int .i64 (d'.Old),.int .i64 (d'.dV),.int .i64 (d'.Code)] (match Tryz.prog.underlying 63 with | some (.struct fs)=>fs | _=>#[]).toList).run Tryz.prog w=.ok (decide (d=d')) w:=by
 rw [Tryz.underlying63]
 have h:(d.cN == d'.cN && (decide (d.Op=d'.Op) && (d.aI == d'.aI && (d.Pc == d'.Pc && (decide (d.Sub=d'.Sub) && (d.H == d'.H && (d.Old == d'.Old && (d.dV == d'.dV && (d.Code == d'.Code && true)))))))))=decide (d=d'):=by
  cases d;cases d';rw [Bool.eq_iff_iff];simp
 rw [<-h]
 exact fN _ _ _ _ _ rfl (gJ Tryz.isAgg4 rfl) (gJ Tryz.isAgg4 rfl) (aAL Tryz.underlying4)<|
  fN _ _ _ _ _ rfl (aMX (vs:=#[.int .i64 (d.Op.Kind),.int .i64 (d.Op.Cell),.int .i64 (d.Op.gX),.int .i64 (d.Op.dV)]) Tryz.isAgg27 Tryz.sizeOf27 rfl) (aMX (vs:=#[.int .i64 (d'.Op.Kind),.int .i64 (d'.Op.Cell),.int .i64 (d'.Op.gX),.int .i64 (d'.Op.dV)]) Tryz.isAgg27 Tryz.sizeOf27 rfl) (aGA Tryz.stoodInHeld27 Tryz.underlying27 (aLW D _ _ w))<|
  fN _ _ _ _ _ rfl (gJ Tryz.isAgg3 rfl) (gJ Tryz.isAgg3 rfl) (oT Tryz.underlying3)<|
  fN _ _ _ _ _ rfl (gJ Tryz.isAgg3 rfl) (gJ Tryz.isAgg3 rfl) (oT Tryz.underlying3)<|
  fN _ _ _ _ _ rfl (aMX (vs:=#[.int .i64 (d.Sub.Kind),.int .i64 (d.Sub.A),.int .i64 (d.Sub.Pc),.int .i64 (d.Sub.E),.int .i64 (d.Sub.Row),.int .i64 (d.Sub.B),.int .i64 (d.Sub.H),.int .i64 (d.Sub.Out),.int .i64 (d.Sub.Code),.bool (d.Sub.cO)]) Tryz.isAgg61 Tryz.sizeOf61 rfl) (aMX (vs:=#[.int .i64 (d'.Sub.Kind),.int .i64 (d'.Sub.A),.int .i64 (d'.Sub.Pc),.int .i64 (d'.Sub.E),.int .i64 (d'.Sub.Row),.int .i64 (d'.Sub.B),.int .i64 (d'.Sub.H),.int .i64 (d'.Sub.Out),.int .i64 (d'.Sub.Code),.bool (d'.Sub.cO)]) Tryz.isAgg61 Tryz.sizeOf61 rfl) (aGA Tryz.stoodInHeld61 Tryz.underlying61 (aLX D _ _ w))<|
  fN _ _ _ _ _ rfl (gJ Tryz.isAgg3 rfl) (gJ Tryz.isAgg3 rfl) (oT Tryz.underlying3)<|
  fN _ _ _ _ _ rfl (gJ Tryz.isAgg3 rfl) (gJ Tryz.isAgg3 rfl) (oT Tryz.underlying3)<|
  fN _ _ _ _ _ rfl (gJ Tryz.isAgg3 rfl) (gJ Tryz.isAgg3 rfl) (oT Tryz.underlying3)<|
  fN _ _ _ _ _ rfl (gJ Tryz.isAgg3 rfl) (gJ Tryz.isAgg3 rfl) (oT Tryz.underlying3)<|
  aAK _ _ _
set_option maxRecDepth 100000 in
theorem MV{w0:World}{n:Int}(hn:0<=n/\n<=1073741824) :
  Calls Tryz.prog 322 #[.slice none 0 0,.int .i64 n] w0 (Ret fun v w'=>∃s0_0:Value,v=s0_0/\St (dA w0) w' [gN [s0_0] ([]:List Raw)] []):=by
 have hS:St (dA w0) w0 [] []:=St.enter (by intro f hf;cases hf)
 have hw:bG (n - bG (0 - 0))=n:=by
  rw [IS (x:=0 - 0) (by omega),IS (by omega)];omega
 refine aQM (args:=[_,_]) Tryz.func322 rfl Tryz.ntmps322 rfl ?_
 intro a hA
 refine bT ?_
 refine cJ hA ?_
 clear hA
 refine fM (D2 rfl rfl) (bZ rfl) rfl rfl ?_
 refine bM ?_
 intro a hA
 refine bT ?_
 refine bT ?_
 refine cJ hA ?_
 clear hA
 refine fM (nW rfl rfl) (bZ rfl) rfl rfl ?_
 refine fM (GI rfl rfl rfl) (bZ rfl) rfl rfl ?_
 refine bM ?_
 intro a hA
 refine l4 hA rfl (fun hc=>?_) (fun hc=>?_)
 ·exfalso;simp at hc;omega
 refine pB ?_
 refine bT ?_
 refine bT ?_
 refine cJ hA ?_
 clear hA
 refine fM (nW rfl rfl) (bZ rfl) rfl rfl ?_
 refine fM (nW rfl rfl) (bZ rfl) rfl rfl ?_
 refine fM (aGF Tryz.underlying36 rfl rfl) (bZ rfl) rfl rfl ?_
 refine fM (nW rfl rfl) (bZ rfl) rfl rfl ?_
 refine fM (pC (aQQ (α:=Raw) (S:=F0)) Tryz.underlying36 rfl rfl) (bZ rfl) rfl rfl ?_
 refine fM (aK5 rfl rfl rfl) (bZ rfl) rfl rfl ?_
 refine fM (aK5 rfl rfl rfl) (bZ rfl) rfl rfl ?_
 refine fM (D2 rfl rfl) (bZ rfl) rfl rfl ?_
 refine bM ?_
 intro a hA
 refine bT ?_
 refine cJ hA ?_
 clear hA
 refine fM (nW rfl rfl) (bZ rfl) rfl rfl ?_
 refine fM (aK8 rfl rfl rfl) (bZ rfl) rfl rfl ?_
 refine bM ?_
 intro a hA
 refine l4 hA rfl (fun hc=>?_) (fun hc=>?_)
 ·have hn1:0 < n:=by
   have h2:decide (0 < bG (n - bG (0 - 0)))=true:=hc
   rw [hw] at h2;simpa using h2
  refine cJ hA ?_
  clear hA
  refine fM (nW rfl rfl) (bZ rfl) rfl rfl ?_
  refine fM (nW rfl rfl) (bZ rfl) rfl rfl ?_
  refine fM (aGF Tryz.underlying36 rfl rfl) (bZ rfl) rfl rfl ?_
  refine fM (aM4 (s:=.slice none 0 0) ⟨_,_,_,rfl⟩ Tryz.underlying36 Tryz.sizeOf121 rfl rfl rfl) (bZ rfl) rfl rfl ?_
  refine fM (nW rfl rfl) (bZ rfl) rfl rfl ?_
  refine KX (aVM (i:=bG (n - bG (0 - 0))) hS Tryz.underlying36 Tryz.underlying3 dX rfl rfl (by rw [hw];omega) rfl rfl rfl) (bZ rfl) rfl rfl ?_
  clear hS
  intro s w hS
  refine fM (nW rfl rfl) (bZ rfl) rfl rfl ?_
  refine fM (pC (aQQ (α:=Raw) (S:=F0)) Tryz.underlying36 rfl rfl) (bZ rfl) rfl rfl ?_
  refine fM (aM4 (hS.aRA 0 rfl) Tryz.underlying36 Tryz.sizeOf121 rfl rfl rfl) (bZ rfl) rfl rfl ?_
  refine fM (D2 rfl rfl) (bZ rfl) rfl rfl ?_
  refine bM ?_
  intro a hA
  replace hS:=hS.aYP (α:=Raw) 0 rfl rfl
  refine bT ?_
  refine cJ hA ?_
  clear hA
  refine fM (nW rfl rfl) (bZ rfl) rfl rfl ?_
  refine fM (D2 rfl rfl) (bZ rfl) rfl rfl ?_
  refine bM ?_
  intro a hA
  refine AO ?_
  exact aU9 Tryz.results322 hA (aAJ rfl) ⟨_,rfl,(hS.NH [0] rfl).weaken (R':=[]) (fun _ h=>nomatch h)⟩
 ·refine pB ?_
  replace hS:=hS.aYI (α:=Raw)
  refine bT ?_
  refine cJ hA ?_
  clear hA
  refine fM (nW rfl rfl) (bZ rfl) rfl rfl ?_
  refine fM (D2 rfl rfl) (bZ rfl) rfl rfl ?_
  refine bM ?_
  intro a hA
  refine AO ?_
  exact aU9 Tryz.results322 hA (aAJ rfl) ⟨_,rfl,(hS.NH [0] rfl).weaken (R':=[]) (fun _ h=>nomatch h)⟩
theorem PO{w0:World}{slices:List (List Raw)}{s1:Value}{r:(List Raw)}(h1:aM.rd (PL w0) w0 [s1] (slices:List (List Raw)))(hF:pE slices=some r) :
    Calls Tryz.prog 246 #[s1] w0 (Ret fun v w'=>∃(s0_0:Value),v=s0_0/\St (dA w0) w' [gN [s0_0] (r:List Raw)] []):=by
 have hS:St (dA w0) w0 [] [BG [s1] (slices:List (List Raw))]:=St.enter (by
   intro f hf
   simp only [List.mem_cons,List.not_mem_nil,or_false] at hf
   subst hf;exact h1)
 refine A3 (args:=[_]) Tryz.func246 rfl Tryz.ntmps246 rfl ?_
 unfold pE at hF
 intro a hA
 refine bT<|cJ hA ?_
 clear hA
 refine oa rfl rfl<|bM fun a hA=>bT<|cJ hA ?_
 clear hA
 refine oa rfl rfl<|bM fun a hA=>bT<|bT<|cJ hA ?_
 clear hA
 refine om rfl rfl<|oy (pC (hS.rd 0 rfl) Tryz.underlying272 rfl rfl) rfl<|om rfl rfl<|bM fun a hA=>?_
 obtain⟨o1,hl1,hF⟩:=tW hF
 refine D3 (J:=fun a' w'=>∃(x5:Int),o1=x5/\lJ 36 [(0,s1),(3,.int .i64 (x5))] a'/\St (dA w0) w' [] [BG [s1] (slices:List (List Raw))]) ?_ ?_
 ·refine lU ?_
  refine J2 (body:=gA slices) (r:=o1) (fun sg a' w'=>lJ 36 [(0,s1),(3,.int .i64 (sg.1)),(9,s1),(10,.int .i64 ((slices.length:Int))),(11,.int .i64 (sg.2))] a'/\St (dA w0) w' [] [BG [s1] (slices:List (List Raw))]) ?_ hl1 ⟨hA.part ⟨rfl,rfl,rfl,rfl,rfl,trivial⟩,((hS).NH [] rfl).wD [0] rfl⟩
  clear hA hS hl1
  rintro⟨x3,x4⟩ a w q1 ⟨hA,hS⟩ hG1 hr1
  try dsimp only at hA hS
  unfold gA at hG1
  refine bT<|cJ hA ?_
  clear hA
  refine oy (GI rfl rfl rfl) rfl<|bM fun a hA=>bT<|l4 hA rfl (fun hc2=>?_) (fun hc2=>?_)
  ·replace hG1:=L9 hc2 hG1
   refine pB<|bT<|lU<|bT<|cJ hA ?_
   clear hA
   obtain⟨x12,hx12,hG1⟩:=tW hG1
   refine oy (P1 (m:=1) (hS.rd 0 rfl) rfl hx12 Tryz.underlying272 Tryz.sizeOf36 rfl rfl rfl) rfl ?_
   obtain⟨s8,hel,hS⟩:=hS.aI6 0 rfl (kL hx12).2.2
   refine oy (jJ rfl rfl Tryz.isAgg36 (aQP hel)) rfl<|oa rfl rfl<|bM fun a hA=>bT<|cJ hA ?_
   clear hA
   refine om rfl rfl<|om rfl rfl<|oy (pC (hS.rd 1 rfl) Tryz.underlying36 rfl rfl) rfl<|oy (KY rfl rfl rfl) rfl<|oa rfl rfl<|bM fun a hA=>bT<|cJ hA ?_
   clear hA
   refine om rfl rfl<|oy (GI rfl rfl rfl) rfl<|bM fun a hA=>l4 hA rfl (fun hc3=>?_) (fun hc3=>?_)
   ·replace hG1:=L9 hc3 hG1
    refine cJ hA ?_
    clear hA
    cases hG1
   ·replace hG1:=MA hc3 hG1
    refine pB<|cJ hA ?_
    clear hA
    refine oy (KY rfl rfl rfl) rfl<|om rfl rfl<|bM fun a hA=>?_
    cases hG1
    exact⟨_,rfl,⟨hA.part ⟨rfl,rfl,rfl,rfl,rfl,trivial⟩,((hS).NH [] rfl).wD [0] rfl⟩⟩
  ·replace hG1:=MA hc2 hG1
   refine J1<|D1 ?_
   cases hG1
   have ho:=hr1 _ rfl;subst ho
   exact⟨x3,rfl,hA.part ⟨rfl,rfl,trivial⟩,((hS).NH [] rfl).wD [0] rfl⟩
 ·skip
  clear hA hS hl1
  rintro a w ⟨x5,heq,hA,hS⟩
  replace hF:l8 slices x5=some r:=by rw [heq] at hF;exact hF
  clear heq
  unfold l8 at hF
  refine bT<|cJ hA ?_
  clear hA
  refine om rfl rfl ?_
  obtain⟨hn1,hF⟩:=kM hF
  refine X9 (J5 Tryz.call322 rfl rfl) (bZ rfl) rfl rfl (MV hn1) ?_
  rintro s2 w ⟨_,rfl,hk⟩
  replace hS:=hS.after hk;clear hk
  refine oa rfl rfl<|bM fun a hA=>bT<|bT<|cJ hA ?_
  clear hA
  refine om rfl rfl<|oy (pC (hS.rd 0 rfl) Tryz.underlying272 rfl rfl) rfl<|om rfl rfl<|bM fun a hA=>?_
  obtain⟨o2,hl2,hF⟩:=tW hF
  refine D3 (J:=fun a' w'=>∃(x10:List Raw) (s5:Value),o2=x10/\lJ 36 [(6,s5)] a'/\St (dA w0) w' [gN [s5] (x10:List Raw)] []) ?_ ?_
  ·refine lU ?_
   refine J2 (body:=iE slices) (r:=o2) (fun sg a' w'=>∃(s4:Value),lJ 36 [(6,s4),(25,s1),(26,.int .i64 ((slices.length:Int))),(27,.int .i64 (sg.2))] a'/\St (dA w0) w' [gN [s4] (sg.1:List Raw)] [BG [s1] (slices:List (List Raw))]) ?_ hl2 ⟨s2,hA.part ⟨rfl,rfl,rfl,rfl,trivial⟩,((hS).NH [0] rfl).wD [0] rfl⟩
   clear hA hS hl2
   rintro⟨x8,x9⟩ a w q2 ⟨s4,hA,hS⟩ hG2 hr2
   try dsimp only at hA hS
   unfold iE at hG2
   refine bT<|cJ hA ?_
   clear hA
   refine oy (GI rfl rfl rfl) rfl<|bM fun a hA=>bT<|l4 hA rfl (fun hc1=>?_) (fun hc1=>?_)
   ·replace hG2:=L9 hc1 hG2
    refine pB<|bT<|lU<|bT<|cJ hA ?_
    clear hA
    obtain⟨x11,hx11,hG2⟩:=tW hG2
    refine oy (P1 (m:=1) (hS.rd 0 rfl) rfl hx11 Tryz.underlying272 Tryz.sizeOf36 rfl rfl rfl) rfl ?_
    obtain⟨s6,hel,hS⟩:=hS.aI6 0 rfl (kL hx11).2.2
    refine oy (jJ rfl rfl Tryz.isAgg36 (aQP hel)) rfl<|oa rfl rfl<|bM fun a hA=>cJ hA ?_
    clear hA
    refine om rfl rfl<|om rfl rfl ?_
    obtain⟨hn2,hG2⟩:=kM hG2
    refine KX (aGB (α:=Raw) 0 hS rfl (hS.rd 1 rfl) rfl Tryz.underlying36 dX rfl hn2 rfl rfl rfl) (bZ rfl) rfl rfl ?_
    clear hS
    rintro s7 w hS
    refine oa rfl rfl<|bM fun a hA=>cJ hA ?_
    clear hA
    refine oy (KY rfl rfl rfl) rfl<|om rfl rfl<|bM fun a hA=>?_
    cases hG2
    exact⟨_,rfl,⟨s7,hA.part ⟨rfl,rfl,rfl,rfl,trivial⟩,((hS).NH [0] rfl).wD [0] rfl⟩⟩
   ·replace hG2:=MA hc1 hG2
    refine J1<|D1 ?_
    cases hG2
    have ho:=hr2 _ rfl;subst ho
    exact⟨x8,s4,rfl,hA.part ⟨rfl,trivial⟩,((hS).NH [0] rfl).wD [] rfl⟩
  ·skip
   clear hA hS hl2
   rintro a w ⟨x10,s5,heq,hA,hS⟩
   replace hF:rD x10=some r:=by rw [heq] at hF;exact hF
   clear heq
   unfold rD at hF
   refine bT<|cJ hA ?_
   clear hA
   refine om rfl rfl<|oa rfl rfl<|bM fun a hA=>AO ?_
   cases hF
   exact aU9 Tryz.results246 hA (aAJ rfl) ⟨s5,rfl,(hS.NH [0] rfl).weaken (R':=[]) (fun _ h=>nomatch h)⟩
theorem LH{w0:World}{n:Int}{low:Int}{high:Int}{r:Bool}(hF:cK n low high=some r) :
    Calls Tryz.prog 108 #[.int .i64 (n),.int .i64 (low),.int .i64 (high)] w0 (Ret fun v w'=>v=.bool (r)/\St (dA w0) w' [] []):=by
 have hS:St (dA w0) w0 [] []:=St.enter (by
   intro f hf;cases hf)
 refine A3 (args:=[_,_,_]) Tryz.func108 rfl Tryz.ntmps108 rfl ?_
 unfold cK at hF
 intro a hA
 refine bT<|cJ hA ?_
 clear hA
 refine oa rfl rfl<|bM fun a hA=>bT<|D3 (J:=fun a' w'=>∃(x1:Bool),pU x1=some r/\lJ 15 [(6,.bool (x1))] a'/\St (dA w0) w' [] []) ?_ ?_
 ·skip
  refine cJ hA ?_
  clear hA
  refine om rfl rfl<|om rfl rfl<|oy (aQI rfl rfl rfl) rfl<|om rfl rfl<|IM (s:=10) rfl (fun hc1=>?_) (fun hc1=>?_)
  ·replace hF:=L9 hc1 hF
   refine fM (nW rfl rfl) (cC rfl rfl rfl (by rw [hc1];rfl)) rfl rfl ?_
   refine fM (nW rfl rfl) (cC rfl rfl rfl (by rw [hc1];rfl)) rfl rfl ?_
   refine fM (aK7 rfl rfl rfl) (cC rfl rfl rfl (by rw [hc1];rfl)) rfl rfl ?_
   refine oy (wC rfl rfl hc1 rfl) rfl<|oa rfl rfl<|bM fun a hA=>?_
   exact⟨decide (n<=high),hF,hA.part ⟨rfl,trivial⟩,((hS).NH [] rfl).wD [] rfl⟩
  ·replace hF:=MA hc1 hF
   refine fY (cC rfl rfl rfl (by rw [hc1];rfl)) rfl rfl ?_
   refine fY (cC rfl rfl rfl (by rw [hc1];rfl)) rfl rfl ?_
   refine fY (cC rfl rfl rfl (by rw [hc1];rfl)) rfl rfl ?_
   refine oy (A2 rfl rfl hc1 rfl) rfl<|oa rfl rfl<|bM fun a hA=>?_
   exact⟨false,hF,hA.part ⟨rfl,trivial⟩,((hS).NH [] rfl).wD [] rfl⟩
 ·skip
  clear hA hS hF
  rintro a w ⟨x1,hF,hA,hS⟩
  unfold pU at hF
  refine AO ?_
  cases hF
  exact fy Tryz.results108 hA rfl hS
theorem aE7{w0:World}{slot:Int}{r:Bool}(hF:mG slot=some r) :
    Calls Tryz.prog 247 #[.int .i64 (slot)] w0 (Ret fun v w'=>v=.bool (r)/\St (dA w0) w' [] []):=by
 have hS:St (dA w0) w0 [] []:=St.enter (by
   intro f hf;cases hf)
 refine A3 (args:=[_]) Tryz.func247 rfl Tryz.ntmps247 rfl ?_
 unfold mG at hF
 intro a hA
 refine bT<|cJ hA ?_
 clear hA
 refine oa rfl rfl<|bM fun a hA=>bT<|cJ hA ?_
 clear hA
 refine om rfl rfl ?_
 obtain⟨x1,hx1,hF⟩:=tW hF
 refine X9 (J5 Tryz.call108 rfl rfl) (bZ rfl) rfl rfl (LH (n:=slot) (low:=0) (high:=23) hx1) ?_
 rintro _ w ⟨rfl,hk⟩
 replace hS:=hS.after hk;clear hk
 refine oa rfl rfl<|bM fun a hA=>AO ?_
 cases hF
 exact fy Tryz.results247 hA rfl hS
theorem aCM{w0:World}{l:aC}{s1:Value}{s2:Value}{r:Bool}(h1:aM.rd (PL w0) w0 [s1] (l.Global:List aP))(h2:aM.rd (PL w0) w0 [s2] (l.cL:List aP))(hF:kG l=some r) :
    Calls Tryz.prog 163 #[.agg #[s1,s2]] w0 (Ret fun v w'=>v=.bool (r)/\St (dA w0) w' [] []):=by
 have hS:St (dA w0) w0 [] [BG [s1] (l.Global:List aP),BG [s2] (l.cL:List aP)]:=St.enter (by
   intro f hf
   simp only [List.mem_cons,List.not_mem_nil,or_false] at hf
   rcases hf with rfl | rfl
   · exact h1
   · exact h2)
 refine A3 (args:=[_]) Tryz.func163 rfl Tryz.ntmps163 rfl ?_
 unfold kG at hF
 intro a hA
 refine bT<|cJ hA ?_
 clear hA
 refine KX (aYE (cs:=[s1,s2]) hS rfl rfl rfl) (bZ rfl) rfl rfl ?_
 clear hS
 rintro _ w ⟨b1,rfl,hS⟩
 refine oa rfl rfl<|bM fun a hA=>bT<|bT<|D3 (J:=fun a' w'=>∃(x1:Bool),sD l x1=some r/\lJ 61 [(1,.pointer (some ⟨b1,0,none⟩)),(17,.bool (x1))] a'/\St (dA w0) w' [DU b1 [s1,s2]] [BG [s1] (l.Global:List aP),BG [s2] (l.cL:List aP)]) ?_ ?_
 ·skip
  refine cJ hA ?_
  clear hA
  refine oy (AP (m:=0) Tryz.underlying38 rfl rfl Tryz.sizeOf36 rfl rfl) rfl<|oy (jJ rfl rfl Tryz.isAgg36 (hS.cell 0 rfl rfl)) rfl<|oy (pC (hS.rd 0 rfl) Tryz.underlying36 rfl rfl) rfl<|oy (aG8 rfl rfl rfl) rfl<|om rfl rfl<|IM (s:=12) rfl (fun hc8=>?_) (fun hc8=>?_)
  ·replace hF:=L9 hc8 hF
   refine fY (cC rfl rfl rfl (by rw [hc8];rfl)) rfl rfl ?_
   refine fY (cC rfl rfl rfl (by rw [hc8];rfl)) rfl rfl ?_
   refine fY (cC rfl rfl rfl (by rw [hc8];rfl)) rfl rfl ?_
   refine fY (cC rfl rfl rfl (by rw [hc8];rfl)) rfl rfl ?_
   refine oy (wC rfl rfl hc8 rfl) rfl<|bM fun a hA=>?_
   exact⟨true,hF,hA.part ⟨rfl,rfl,trivial⟩,((hS).NH [0] rfl).wD [0,1] rfl⟩
  ·replace hF:=MA hc8 hF
   refine fM (AP (m:=0) Tryz.underlying38 rfl rfl Tryz.sizeOf36 rfl rfl) (cC rfl rfl rfl (by rw [hc8];rfl)) rfl rfl ?_
   refine fM (jJ rfl rfl Tryz.isAgg36 (hS.cell 0 rfl rfl)) (cC rfl rfl rfl (by rw [hc8];rfl)) rfl rfl ?_
   refine fM (pC (hS.rd 1 rfl) Tryz.underlying36 rfl rfl) (cC rfl rfl rfl (by rw [hc8];rfl)) rfl rfl ?_
   refine fM (aG8 rfl rfl rfl) (cC rfl rfl rfl (by rw [hc8];rfl)) rfl rfl ?_
   refine oy (A2 rfl rfl hc8 rfl) rfl<|bM fun a hA=>?_
   exact⟨(l.cL.length:Int) != 9,hF,hA.part ⟨rfl,rfl,trivial⟩,((hS).NH [0] rfl).wD [0,1] rfl⟩
 ·skip
  clear hA hS hF
  rintro a w ⟨x1,hF,hA,hS⟩
  unfold sD at hF
  refine l4 hA rfl (fun hc1=>?_) (fun hc1=>?_)
  ·replace hF:=L9 hc1 hF
   refine bT<|cJ hA ?_
   clear hA
   refine oa rfl rfl<|bM fun a hA=>AO ?_
   cases hF
   exact fy Tryz.results163 hA rfl hS
  ·replace hF:=MA hc1 hF
   refine pB<|bT<|cJ hA ?_
   clear hA
   refine oy (WS (cells:=#[.bool (false),.bool (false),.bool (false),.bool (false),.bool (false),.bool (false),.bool (false),.bool (false),.bool (false),.bool (false),.bool (false),.bool (false),.bool (false),.bool (false),.bool (false),.bool (false),.bool (false),.bool (false),.bool (false),.bool (false),.bool (false),.bool (false),.bool (false),.bool (false)]) rfl Tryz.zeroValue223 Tryz.underlying223 Tryz.sizeOf4 rfl rfl) rfl<|KX (L8 (cs:=List.map (fun q:Bool=>Value.bool q) [false,false,false,false,false,false,false,false,false,false,false,false,false,false,false,false,false,false,false,false,false,false,false,false]) hS rfl Tryz.zeroValue223 rfl) (bZ rfl) rfl rfl ?_
   clear hS
   rintro _ w ⟨b2,rfl,hS⟩
   refine PZ (TW (vs:=[.bool (false),.bool (false),.bool (false),.bool (false),.bool (false),.bool (false),.bool (false),.bool (false),.bool (false),.bool (false),.bool (false),.bool (false),.bool (false),.bool (false),.bool (false),.bool (false),.bool (false),.bool (false),.bool (false),.bool (false),.bool (false),.bool (false),.bool (false),.bool (false)]) hS (i:=1) rfl rfl rfl rfl rfl Tryz.sizeOf223 rfl rfl rfl) (bZ rfl) rfl ?_
   clear hS
   intro w hS
   refine bM fun a hA=>bT<|bT<|cJ hA ?_
   clear hA
   refine oy (AP (m:=0) Tryz.underlying38 rfl rfl Tryz.sizeOf36 rfl rfl) rfl<|oy (jJ rfl rfl Tryz.isAgg36 (hS.cell 0 rfl rfl)) rfl<|oy (AP (m:=0) Tryz.underlying38 rfl rfl Tryz.sizeOf36 rfl rfl) rfl<|oy (jJ rfl rfl Tryz.isAgg36 (hS.cell 0 rfl rfl)) rfl<|KX (aLF hS (hS.rd 1 rfl) (hS.rd 0 rfl) Tryz.underlying272 aLV rfl rfl rfl) (bZ rfl) rfl rfl ?_
   clear hS
   rintro s3 w hS
   obtain⟨hn1,hF⟩:=kM hF
   replace hS:=hS.a0N 2 rfl
   obtain⟨u1,u2,hu1,hl1,hS⟩:=hS.aVN rfl 2 1 0 rfl rfl rfl
   refine X9 (J5 Tryz.call246 rfl rfl) (bZ rfl) rfl rfl (PO hu1 (MI hl1 hn1)) ?_
   rintro s4 w ⟨_,rfl,hk⟩
   replace hS:=hS.after hk;clear hk
   replace hS:=hS.a0N 3 rfl
   replace hS:=hS.a0U rfl 4 3 rfl rfl
   refine oy (pC (hS.rd 5 rfl) Tryz.underlying36 rfl rfl) rfl<|om rfl rfl<|bM fun a hA=>?_
   obtain⟨o1,hl2,hF⟩:=tW hF
   refine D3 (J:=fun a' w'=>o1=Out.brk ()/\lJ 61 [] a'/\St (dA w0) w' [] []) ?_ ?_
   ·refine lU ?_
    refine J2 (body:=lN l) (r:=o1) (fun sg a' w'=>lJ 61 [(1,.pointer (some ⟨b1,0,none⟩)),(3,.pointer (some ⟨b2,0,none⟩)),(24,s4),(25,.int .i64 (((l.cL++l.Global).length:Int))),(26,.int .i64 (sg.1))] a'/\St (dA w0) w' [DU b1 [s1,s2],DU b2 (List.map (fun q:Bool=>Value.bool q) (sg.2:List Bool))] [BG [s4] (l.cL++l.Global:List aP),BG [s1] (l.Global:List aP),BG [s2] (l.cL:List aP)]) ?_ hl2 ⟨hA.part ⟨rfl,rfl,rfl,rfl,rfl,trivial⟩,((hS).NH [0,1] rfl).wD [5,0,1] rfl⟩
    clear hA hS hl2
    rintro⟨x4,x5⟩ a w q2 ⟨hA,hS⟩ hG2 hr2
    try dsimp only at hA hS
    unfold lN at hG2
    refine bT<|cJ hA ?_
    clear hA
    refine oy (GI rfl rfl rfl) rfl<|bM fun a hA=>bT<|l4 hA rfl (fun hc2=>?_) (fun hc2=>?_)
    ·replace hG2:=L9 hc2 hG2
     refine pB<|bT<|lU<|bT<|cJ hA ?_
     clear hA
     refine om rfl rfl ?_
     obtain⟨x6,hx6,hG2⟩:=tW hG2
     refine oy (P1 (m:=1) (hS.rd 0 rfl) rfl hx6 Tryz.underlying36 Tryz.sizeOf121 rfl rfl rfl) rfl ?_
     obtain⟨s5,hel,hS⟩:=hS.aS0 0 rfl (kL hx6).2.2
     refine oy (P0 rfl rfl Tryz.isAgg121 Tryz.sizeOf121 rfl hel) rfl<|KX (L8 (cs:=[(.slice none 0 0)]) hS rfl Tryz.zeroValue121 rfl) (bZ rfl) rfl rfl ?_
     clear hS
     rintro _ w ⟨b3,rfl,hS⟩
     refine oa rfl rfl<|PZ (TW (vs:=[s5]) hS (i:=2) rfl rfl rfl rfl rfl Tryz.sizeOf121 rfl rfl (aYJ (aBE (hS.rd 3 rfl)) rfl)) (bZ rfl) rfl ?_
     clear hS
     intro w hS
     refine bM fun a hA=>bT<|bT<|D3 (J:=fun a' w'=>∃(x7:Bool),lM x4 x5 x6 x7=some q2/\lJ 61 [(1,.pointer (some ⟨b1,0,none⟩)),(3,.pointer (some ⟨b2,0,none⟩)),(5,.pointer (some ⟨b3,0,none⟩)),(24,s4),(25,.int .i64 (((l.cL++l.Global).length:Int))),(26,.int .i64 (x4)),(41,.bool (x7))] a'/\St (dA w0) w' [DU b1 [s1,s2],DU b2 (List.map (fun q:Bool=>Value.bool q) (x5:List Bool)),DU b3 [s5]] [BG [s4] (l.cL++l.Global:List aP),BG [s1] (l.Global:List aP),BG [s2] (l.cL:List aP),BG [s5] (x6.aS:List Int)]) ?_ ?_
     ·skip
      refine cJ hA ?_
      clear hA
      refine om rfl rfl<|oy (AP (m:=0) Tryz.underlying38 rfl rfl Tryz.sizeOf36 rfl rfl) rfl<|oy (jJ rfl rfl Tryz.isAgg36 (hS.cell 0 rfl rfl)) rfl<|oy (pC (hS.rd 2 rfl) Tryz.underlying36 rfl rfl) rfl<|oy (GI rfl rfl rfl) rfl<|om rfl rfl<|IM (s:=36) rfl (fun hc7=>?_) (fun hc7=>?_)
      ·replace hG2:=L9 hc7 hG2
       refine fM (AP (m:=0) Tryz.underlying121 rfl rfl Tryz.sizeOf33 rfl rfl) (cC rfl rfl rfl (by rw [hc7];rfl)) rfl rfl ?_
       refine fM (jJ rfl rfl Tryz.isAgg33 (hS.cell 2 rfl rfl)) (cC rfl rfl rfl (by rw [hc7];rfl)) rfl rfl ?_
       refine fM (pC (hS.rd 3 rfl) Tryz.underlying33 rfl rfl) (cC rfl rfl rfl (by rw [hc7];rfl)) rfl rfl ?_
       refine fM (aK8 rfl rfl rfl) (cC rfl rfl rfl (by rw [hc7];rfl)) rfl rfl ?_
       refine oy (wC rfl rfl hc7 rfl) rfl<|bM fun a hA=>?_
       exact⟨decide (2 < (x6.aS.length:Int)),hG2,hA.part ⟨rfl,rfl,rfl,rfl,rfl,rfl,rfl,trivial⟩,((hS).NH [0,1,2] rfl).wD [0,1,2,3] rfl⟩
      ·replace hG2:=MA hc7 hG2
       refine fY (cC rfl rfl rfl (by rw [hc7];rfl)) rfl rfl ?_
       refine fY (cC rfl rfl rfl (by rw [hc7];rfl)) rfl rfl ?_
       refine fY (cC rfl rfl rfl (by rw [hc7];rfl)) rfl rfl ?_
       refine fY (cC rfl rfl rfl (by rw [hc7];rfl)) rfl rfl ?_
       refine oy (A2 rfl rfl hc7 rfl) rfl<|bM fun a hA=>?_
       exact⟨false,hG2,hA.part ⟨rfl,rfl,rfl,rfl,rfl,rfl,rfl,trivial⟩,((hS).NH [0,1,2] rfl).wD [0,1,2,3] rfl⟩
     ·skip
      clear hA hS hG2
      rintro a w ⟨x7,hG2,hA,hS⟩
      unfold lM at hG2
      refine l4 hA rfl (fun hc3=>?_) (fun hc3=>?_)
      ·replace hG2:=L9 hc3 hG2
       refine bT<|cJ hA ?_
       clear hA
       refine oa rfl rfl<|bM fun a hA=>AO ?_
       cases hG2
       have ho:=hr2 _ rfl;subst ho
       replace hF:some false=some r:=hF
       cases hF
       exact fy Tryz.results163 hA rfl hS
      ·replace hG2:=MA hc3 hG2
       refine pB<|bT<|cJ hA ?_
       clear hA
       refine oy (AP (m:=0) Tryz.underlying121 rfl rfl Tryz.sizeOf33 rfl rfl) rfl<|oy (jJ rfl rfl Tryz.isAgg33 (hS.cell 2 rfl rfl)) rfl<|oy (pC (hS.rd 3 rfl) Tryz.underlying33 rfl rfl) rfl<|om rfl rfl<|bM fun a hA=>?_
       obtain⟨o2,hl3,hG2⟩:=tW hG2
       refine D3 (J:=fun a' w'=>∃(x12:List Bool),o2=Out.brk x12/\lJ 61 [(1,.pointer (some ⟨b1,0,none⟩)),(3,.pointer (some ⟨b2,0,none⟩)),(24,s4),(25,.int .i64 (((l.cL++l.Global).length:Int))),(26,.int .i64 (x4))] a'/\St (dA w0) w' [DU b1 [s1,s2],DU b2 (List.map (fun q:Bool=>Value.bool q) (x12:List Bool))] [BG [s4] (l.cL++l.Global:List aP),BG [s1] (l.Global:List aP),BG [s2] (l.cL:List aP)]) ?_ ?_
       ·refine lU ?_
        refine J2 (body:=lL x6) (r:=o2) (fun sg a' w'=>lJ 61 [(1,.pointer (some ⟨b1,0,none⟩)),(3,.pointer (some ⟨b2,0,none⟩)),(24,s4),(25,.int .i64 (((l.cL++l.Global).length:Int))),(26,.int .i64 (x4)),(43,s5),(44,.int .i64 ((x6.aS.length:Int))),(45,.int .i64 (sg.1))] a'/\St (dA w0) w' [DU b1 [s1,s2],DU b2 (List.map (fun q:Bool=>Value.bool q) (sg.2:List Bool))] [BG [s4] (l.cL++l.Global:List aP),BG [s5] (x6.aS:List Int),BG [s1] (l.Global:List aP),BG [s2] (l.cL:List aP)]) ?_ hl3 ⟨hA.part ⟨rfl,rfl,rfl,rfl,rfl,rfl,rfl,rfl,trivial⟩,((hS).NH [0,1] rfl).wD [0,3,1,2] rfl⟩
        clear hA hS hl3
        rintro⟨x10,x11⟩ a w q4 ⟨hA,hS⟩ hG4 hr4
        try dsimp only at hA hS
        unfold lL at hG4
        refine bT<|cJ hA ?_
        clear hA
        refine oy (GI rfl rfl rfl) rfl<|bM fun a hA=>bT<|l4 hA rfl (fun hc4=>?_) (fun hc4=>?_)
        ·replace hG4:=L9 hc4 hG4
         refine pB<|bT<|lU<|bT<|cJ hA ?_
         clear hA
         obtain⟨x13,hx13,hG4⟩:=tW hG4
         refine oy (P1 (m:=1) (hS.rd 1 rfl) rfl hx13 Tryz.underlying33 Tryz.sizeOf3 rfl rfl rfl) rfl<|oy (jJ rfl rfl Tryz.isAgg3 (aQP (aYG (hS.rd 1 rfl) (kL hx13).2.2))) rfl<|oa rfl rfl<|bM fun a hA=>bT<|bT<|D3 (J:=fun a' w'=>∃(x14:Bool),nF x10 x11 x13 x14=some q4/\lJ 61 [(1,.pointer (some ⟨b1,0,none⟩)),(3,.pointer (some ⟨b2,0,none⟩)),(7,.int .i64 (x13)),(24,s4),(25,.int .i64 (((l.cL++l.Global).length:Int))),(26,.int .i64 (x4)),(43,s5),(44,.int .i64 ((x6.aS.length:Int))),(45,.int .i64 (x10)),(56,.bool (x14))] a'/\St (dA w0) w' [DU b1 [s1,s2],DU b2 (List.map (fun q:Bool=>Value.bool q) (x11:List Bool))] [BG [s4] (l.cL++l.Global:List aP),BG [s5] (x6.aS:List Int),BG [s1] (l.Global:List aP),BG [s2] (l.cL:List aP)]) ?_ ?_
         ·skip
          refine cJ hA ?_
          clear hA
          refine om rfl rfl ?_
          obtain⟨x16,hx16,hG4⟩:=tW hG4
          refine X9 (J5 Tryz.call247 rfl rfl) (bZ rfl) rfl rfl (aE7 (slot:=x13) hx16) ?_
          rintro _ w ⟨rfl,hk⟩
          replace hS:=hS.after hk;clear hk
          refine oy (aA7 rfl rfl) rfl<|om rfl rfl<|IM (s:=52) rfl (fun hc6=>?_) (fun hc6=>?_)
          ·replace hG4:=L9 hc6 hG4
           refine fY (cC rfl rfl rfl (by rw [hc6];rfl)) rfl rfl ?_
           refine fY (cC rfl rfl rfl (by rw [hc6];rfl)) rfl rfl ?_
           refine fY (cC rfl rfl rfl (by rw [hc6];rfl)) rfl rfl ?_
           refine oy (wC rfl rfl hc6 rfl) rfl<|bM fun a hA=>?_
           exact⟨true,hG4,hA.part ⟨rfl,rfl,rfl,rfl,rfl,rfl,rfl,rfl,rfl,rfl,trivial⟩,((hS).NH [0,1] rfl).wD [0,1,2,3] rfl⟩
          ·replace hG4:=MA hc6 hG4
           refine fM (nW rfl rfl) (cC rfl rfl rfl (by rw [hc6];rfl)) rfl rfl ?_
           obtain⟨hn3,hG4⟩:=kM hG4
           refine fM (aAN Tryz.underlying223 Tryz.sizeOf4 hn3 rfl rfl rfl) (cC rfl rfl rfl (by rw [hc6];rfl)) rfl rfl ?_
           obtain⟨x17,hx17,hG4⟩:=tW hG4
           refine fM (jJ rfl rfl Tryz.isAgg4 (hS.aM3 1 rfl hx17)) (cC rfl rfl rfl (by rw [hc6];rfl)) rfl rfl ?_
           refine oy (A2 rfl rfl hc6 rfl) rfl<|bM fun a hA=>?_
           exact⟨x17,hG4,hA.part ⟨rfl,rfl,rfl,rfl,rfl,rfl,rfl,rfl,rfl,rfl,trivial⟩,((hS).NH [0,1] rfl).wD [0,1,2,3] rfl⟩
         ·skip
          clear hA hS hG4
          rintro a w ⟨x14,hG4,hA,hS⟩
          unfold nF at hG4
          refine l4 hA rfl (fun hc5=>?_) (fun hc5=>?_)
          ·replace hG4:=L9 hc5 hG4
           refine bT<|cJ hA ?_
           clear hA
           refine oa rfl rfl<|bM fun a hA=>AO ?_
           cases hG4
           have ho:=hr4 _ rfl;subst ho
           replace hG2:some (.stop (Out.ret false))=some q2:=hG2
           cases hG2
           have ho:=hr2 _ rfl;subst ho
           replace hF:some false=some r:=hF
           cases hF
           exact fy Tryz.results163 hA rfl hS
          ·replace hG4:=MA hc5 hG4
           refine pB<|cJ hA ?_
           clear hA
           refine om rfl rfl ?_
           obtain⟨hn2,hG4⟩:=kM hG4
           refine oy (aAN Tryz.underlying223 Tryz.sizeOf4 hn2 rfl rfl rfl) rfl ?_
           obtain⟨x15,hx15,hG4⟩:=tW hG4
           refine PZ (aQ6 (xd:=true) hS (m:=1) rfl hx15 Tryz.sizeOf4 rfl rfl rfl rfl rfl rfl) (bZ rfl) rfl ?_
           clear hS
           intro w hS
           refine bM fun a hA=>cJ hA ?_
           clear hA
           refine oy (KY rfl rfl rfl) rfl<|om rfl rfl<|bM fun a hA=>?_
           cases hG4
           exact⟨_,rfl,⟨hA.part ⟨rfl,rfl,rfl,rfl,rfl,rfl,rfl,rfl,trivial⟩,((hS).NH [0,1] rfl).wD [0,1,2,3] rfl⟩⟩
        ·replace hG4:=MA hc4 hG4
         refine J1<|D1 ?_
         cases hG4
         have ho:=hr4 _ rfl;subst ho
         exact⟨x11,rfl,hA.part ⟨rfl,rfl,rfl,rfl,rfl,trivial⟩,((hS).NH [0,1] rfl).wD [0,2,3] rfl⟩
       ·skip
        clear hA hS hl3
        rintro a w ⟨x12,heq,hA,hS⟩
        replace hG2:zT x4 x12=some q2:=by rw [heq] at hG2;exact hG2
        clear heq
        unfold zT at hG2
        refine cJ hA ?_
        clear hA
        refine oy (KY rfl rfl rfl) rfl<|om rfl rfl<|bM fun a hA=>?_
        cases hG2
        exact⟨_,rfl,⟨hA.part ⟨rfl,rfl,rfl,rfl,rfl,trivial⟩,((hS).NH [0,1] rfl).wD [0,1,2] rfl⟩⟩
    ·replace hG2:=MA hc2 hG2
     refine J1<|D1 ?_
     cases hG2
     have ho:=hr2 _ rfl;subst ho
     exact⟨rfl,hA.part trivial,((hS).NH [] rfl).wD [] rfl⟩
   ·skip
    clear hA hS hl2
    rintro a w ⟨heq,hA,hS⟩
    replace hF:GN=some r:=by rw [heq] at hF;exact hF
    clear heq
    unfold GN at hF
    refine bT<|cJ hA ?_
    clear hA
    refine oa rfl rfl<|bM fun a hA=>AO ?_
    cases hF
    exact fy Tryz.results163 hA rfl hS
theorem ZK{w0:World}{h:Int}{r:Bool}(hF:hQ h=some r) :
    Calls Tryz.prog 206 #[.int .i64 (h)] w0 (Ret fun v w'=>v=.bool (r)/\St (dA w0) w' [] []):=by
 have hS:St (dA w0) w0 [] []:=St.enter (by
   intro f hf;cases hf)
 refine A3 (args:=[_]) Tryz.func206 rfl Tryz.ntmps206 rfl ?_
 unfold hQ at hF
 intro a hA
 refine bT<|cJ hA ?_
 clear hA
 refine oa rfl rfl<|bM fun a hA=>bT<|D3 (J:=fun a' w'=>∃(x1:Bool),mM x1=some r/\lJ 10 [(2,.bool (x1))] a'/\St (dA w0) w' [] []) ?_ ?_
 ·skip
  refine cJ hA ?_
  clear hA
  refine om rfl rfl ?_
  obtain⟨x2,hx2,hF⟩:=tW hF
  refine X9 (J5 Tryz.call108 rfl rfl) (bZ rfl) rfl rfl (LH (n:=h) (low:=32) (high:=223) hx2) ?_
  rintro _ w ⟨rfl,hk⟩
  replace hS:=hS.after hk;clear hk
  refine om rfl rfl<|IM (s:=5) rfl (fun hc1=>?_) (fun hc1=>?_)
  ·replace hF:=L9 hc1 hF
   refine fM (nW rfl rfl) (cC rfl rfl rfl (by rw [hc1];rfl)) rfl rfl ?_
   refine fM (WR rfl rfl rfl (by decide)) (cC rfl rfl rfl (by rw [hc1];rfl)) rfl rfl ?_
   refine fM (GI rfl rfl rfl) (cC rfl rfl rfl (by rw [hc1];rfl)) rfl rfl ?_
   refine oy (wC rfl rfl hc1 rfl) rfl<|oa rfl rfl<|bM fun a hA=>?_
   exact⟨decide ((Int.tmod h 32) < 24),hF,hA.part ⟨rfl,trivial⟩,((hS).NH [] rfl).wD [] rfl⟩
  ·replace hF:=MA hc1 hF
   refine fY (cC rfl rfl rfl (by rw [hc1];rfl)) rfl rfl ?_
   refine fY (cC rfl rfl rfl (by rw [hc1];rfl)) rfl rfl ?_
   refine fY (cC rfl rfl rfl (by rw [hc1];rfl)) rfl rfl ?_
   refine oy (A2 rfl rfl hc1 rfl) rfl<|oa rfl rfl<|bM fun a hA=>?_
   exact⟨false,hF,hA.part ⟨rfl,trivial⟩,((hS).NH [] rfl).wD [] rfl⟩
 ·skip
  clear hA hS hF
  rintro a w ⟨x1,hF,hA,hS⟩
  unfold mM at hF
  refine AO ?_
  cases hF
  exact fy Tryz.results206 hA rfl hS
theorem XB{w0:World}{l:List aY}{s1:Value}{r:Int}(h1:aM.rd (PL w0) w0 [s1] (l:List aY))(hF:uQ l=some r) :
    Calls Tryz.prog 233 #[s1] w0 (Ret fun v w'=>v=.int .i64 (r)/\St (dA w0) w' [] []):=by
 have hS:St (dA w0) w0 [] [BG [s1] (l:List aY)]:=St.enter (by
   intro f hf
   simp only [List.mem_cons,List.not_mem_nil,or_false] at hf
   subst hf;exact h1)
 refine A3 (args:=[_]) Tryz.func233 rfl Tryz.ntmps233 rfl ?_
 unfold uQ at hF
 intro a hA
 refine bT<|cJ hA ?_
 clear hA
 refine oa rfl rfl<|bM fun a hA=>bT<|cJ hA ?_
 clear hA
 refine oa rfl rfl<|bM fun a hA=>bT<|bT<|cJ hA ?_
 clear hA
 refine om rfl rfl<|oy (pC (hS.rd 0 rfl) Tryz.underlying44 rfl rfl) rfl<|om rfl rfl<|bM fun a hA=>?_
 obtain⟨o1,hl1,hF⟩:=tW hF
 refine D3 (J:=fun a' w'=>∃(x5:Int),o1=x5/\lJ 19 [(3,.int .i64 (x5))] a'/\St (dA w0) w' [] []) ?_ ?_
 ·refine lU ?_
  refine J2 (body:=jM l) (r:=o1) (fun sg a' w'=>lJ 19 [(3,.int .i64 (sg.1)),(6,s1),(7,.int .i64 ((l.length:Int))),(8,.int .i64 (sg.2))] a'/\St (dA w0) w' [] [BG [s1] (l:List aY)]) ?_ hl1 ⟨hA.part ⟨rfl,rfl,rfl,rfl,trivial⟩,((hS).NH [] rfl).wD [0] rfl⟩
  clear hA hS hl1
  rintro⟨x3,x4⟩ a w q1 ⟨hA,hS⟩ hG1 hr1
  try dsimp only at hA hS
  unfold jM at hG1
  refine bT<|cJ hA ?_
  clear hA
  refine oy (GI rfl rfl rfl) rfl<|bM fun a hA=>bT<|l4 hA rfl (fun hc1=>?_) (fun hc1=>?_)
  ·replace hG1:=L9 hc1 hG1
   refine pB<|bT<|lU<|bT<|cJ hA ?_
   clear hA
   obtain⟨x6,hx6,hG1⟩:=tW hG1
   refine oy (P1 (m:=1) (hS.rd 0 rfl) rfl hx6 Tryz.underlying44 Tryz.sizeOf106 rfl rfl rfl) rfl ?_
   obtain⟨s2,hel,hS⟩:=hS.aJ0 0 rfl (kL hx6).2.2
   refine oy (P0 rfl rfl Tryz.isAgg106 Tryz.sizeOf106 rfl hel) rfl<|KX (L8 (cs:=[(.slice none 0 0)]) hS rfl Tryz.zeroValue106 rfl) (bZ rfl) rfl rfl ?_
   clear hS
   rintro _ w ⟨b1,rfl,hS⟩
   refine PZ (TW (vs:=[s2]) hS (i:=0) rfl rfl rfl rfl rfl Tryz.sizeOf106 rfl rfl (aYJ (aBE (hS.rd 1 rfl)) rfl)) (bZ rfl) rfl ?_
   clear hS
   intro w hS
   refine bM fun a hA=>cJ hA ?_
   clear hA
   refine om rfl rfl<|oy (AP (m:=0) Tryz.underlying106 rfl rfl Tryz.sizeOf94 rfl rfl) rfl<|oy (jJ rfl rfl Tryz.isAgg94 (hS.cell 0 rfl rfl)) rfl<|oy (pC (hS.rd 1 rfl) Tryz.underlying94 rfl rfl) rfl<|oy (KY rfl rfl rfl) rfl<|oa rfl rfl<|bM fun a hA=>cJ hA ?_
   clear hA
   refine oy (KY rfl rfl rfl) rfl<|om rfl rfl<|bM fun a hA=>?_
   cases hG1
   exact⟨_,rfl,⟨hA.part ⟨rfl,rfl,rfl,rfl,trivial⟩,((hS).NH [] rfl).wD [0] rfl⟩⟩
  ·replace hG1:=MA hc1 hG1
   refine J1<|D1 ?_
   cases hG1
   have ho:=hr1 _ rfl;subst ho
   exact⟨x3,rfl,hA.part ⟨rfl,trivial⟩,((hS).NH [] rfl).wD [] rfl⟩
 ·skip
  clear hA hS hl1
  rintro a w ⟨x5,heq,hA,hS⟩
  replace hF:BX x5=some r:=by rw [heq] at hF;exact hF
  clear heq
  unfold BX at hF
  refine bT<|cJ hA ?_
  clear hA
  refine om rfl rfl<|oa rfl rfl<|bM fun a hA=>AO ?_
  cases hF
  exact fy Tryz.results233 hA rfl hS
theorem aCN{w0:World}{l:List aY}{s1:Value}{r:Bool}(h1:aM.rd (PL w0) w0 [s1] (l:List aY))(hF:l9 l=some r) :
    Calls Tryz.prog 146 #[s1] w0 (Ret fun v w'=>v=.bool (r)/\St (dA w0) w' [] []):=by
 have hS:St (dA w0) w0 [] [BG [s1] (l:List aY)]:=St.enter (by
   intro f hf
   simp only [List.mem_cons,List.not_mem_nil,or_false] at hf
   subst hf;exact h1)
 refine A3 (args:=[_]) Tryz.func146 rfl Tryz.ntmps146 rfl ?_
 unfold l9 at hF
 intro a hA
 refine bT<|cJ hA ?_
 clear hA
 refine oa rfl rfl<|bM fun a hA=>bT<|bT<|cJ hA ?_
 clear hA
 refine om rfl rfl<|oy (pC (hS.rd 0 rfl) Tryz.underlying44 rfl rfl) rfl<|oy (aG8 rfl rfl rfl) rfl<|bM fun a hA=>l4 hA rfl (fun hc1=>?_) (fun hc1=>?_)
 ·replace hF:=L9 hc1 hF
  refine bT<|cJ hA ?_
  clear hA
  refine oa rfl rfl<|bM fun a hA=>AO ?_
  cases hF
  exact fy Tryz.results146 hA rfl hS
 ·replace hF:=MA hc1 hF
  refine pB<|bT<|cJ hA ?_
  clear hA
  refine oy (WS (cells:=#[.bool (false),.bool (false),.bool (false),.bool (false),.bool (false),.bool (false),.bool (false),.bool (false),.bool (false),.bool (false),.bool (false),.bool (false),.bool (false),.bool (false),.bool (false),.bool (false),.bool (false),.bool (false),.bool (false),.bool (false),.bool (false),.bool (false),.bool (false),.bool (false)]) rfl Tryz.zeroValue223 Tryz.underlying223 Tryz.sizeOf4 rfl rfl) rfl<|KX (L8 (cs:=List.map (fun q:Bool=>Value.bool q) [false,false,false,false,false,false,false,false,false,false,false,false,false,false,false,false,false,false,false,false,false,false,false,false]) hS rfl Tryz.zeroValue223 rfl) (bZ rfl) rfl rfl ?_
  clear hS
  rintro _ w ⟨b1,rfl,hS⟩
  refine PZ (TW (vs:=[.bool (false),.bool (false),.bool (false),.bool (false),.bool (false),.bool (false),.bool (false),.bool (false),.bool (false),.bool (false),.bool (false),.bool (false),.bool (false),.bool (false),.bool (false),.bool (false),.bool (false),.bool (false),.bool (false),.bool (false),.bool (false),.bool (false),.bool (false),.bool (false)]) hS (i:=0) rfl rfl rfl rfl rfl Tryz.sizeOf223 rfl rfl rfl) (bZ rfl) rfl ?_
  clear hS
  intro w hS
  refine bM fun a hA=>bT<|bT<|cJ hA ?_
  clear hA
  refine om rfl rfl<|oy (pC (hS.rd 0 rfl) Tryz.underlying44 rfl rfl) rfl<|om rfl rfl<|bM fun a hA=>?_
  obtain⟨o1,hl1,hF⟩:=tW hF
  refine D3 (J:=fun a' w'=>o1=Out.brk ()/\lJ 51 [(0,s1)] a'/\St (dA w0) w' [] [BG [s1] (l:List aY)]) ?_ ?_
  ·refine lU ?_
   refine J2 (body:=lP l) (r:=o1) (fun sg a' w'=>lJ 51 [(0,s1),(3,.pointer (some ⟨b1,0,none⟩)),(12,s1),(13,.int .i64 ((l.length:Int))),(14,.int .i64 (sg.1))] a'/\St (dA w0) w' [DU b1 (List.map (fun q:Bool=>Value.bool q) (sg.2:List Bool))] [BG [s1] (l:List aY)]) ?_ hl1 ⟨hA.part ⟨rfl,rfl,rfl,rfl,rfl,trivial⟩,((hS).NH [0] rfl).wD [0] rfl⟩
   clear hA hS hl1
   rintro⟨x3,x4⟩ a w q1 ⟨hA,hS⟩ hG1 hr1
   try dsimp only at hA hS
   unfold lP at hG1
   refine bT<|cJ hA ?_
   clear hA
   refine oy (GI rfl rfl rfl) rfl<|bM fun a hA=>bT<|l4 hA rfl (fun hc2=>?_) (fun hc2=>?_)
   ·replace hG1:=L9 hc2 hG1
    refine pB<|bT<|lU<|bT<|cJ hA ?_
    clear hA
    obtain⟨x6,hx6,hG1⟩:=tW hG1
    refine oy (P1 (m:=1) (hS.rd 0 rfl) rfl hx6 Tryz.underlying44 Tryz.sizeOf106 rfl rfl rfl) rfl ?_
    obtain⟨s2,hel,hS⟩:=hS.aJ0 0 rfl (kL hx6).2.2
    refine oy (P0 rfl rfl Tryz.isAgg106 Tryz.sizeOf106 rfl hel) rfl<|KX (L8 (cs:=[(.slice none 0 0)]) hS rfl Tryz.zeroValue106 rfl) (bZ rfl) rfl rfl ?_
    clear hS
    rintro _ w ⟨b2,rfl,hS⟩
    refine PZ (TW (vs:=[s2]) hS (i:=1) rfl rfl rfl rfl rfl Tryz.sizeOf106 rfl rfl (aYJ (aBE (hS.rd 1 rfl)) rfl)) (bZ rfl) rfl ?_
    clear hS
    intro w hS
    refine bM fun a hA=>bT<|cJ hA ?_
    clear hA
    refine oy (AP (m:=0) Tryz.underlying106 rfl rfl Tryz.sizeOf94 rfl rfl) rfl<|oy (jJ rfl rfl Tryz.isAgg94 (hS.cell 1 rfl rfl)) rfl<|oy (pC (hS.rd 1 rfl) Tryz.underlying94 rfl rfl) rfl<|om rfl rfl<|bM fun a hA=>?_
    obtain⟨o2,hl2,hG1⟩:=tW hG1
    refine D3 (J:=fun a' w'=>∃(x11:List Bool),o2=Out.brk x11/\lJ 51 [(0,s1),(3,.pointer (some ⟨b1,0,none⟩)),(12,s1),(13,.int .i64 ((l.length:Int))),(14,.int .i64 (x3))] a'/\St (dA w0) w' [DU b1 (List.map (fun q:Bool=>Value.bool q) (x11:List Bool))] [BG [s1] (l:List aY)]) ?_ ?_
    ·refine lU ?_
     refine J2 (body:=lO x6) (r:=o2) (fun sg a' w'=>lJ 51 [(0,s1),(3,.pointer (some ⟨b1,0,none⟩)),(12,s1),(13,.int .i64 ((l.length:Int))),(14,.int .i64 (x3)),(19,s2),(20,.int .i64 ((x6.Rows.length:Int))),(21,.int .i64 (sg.1))] a'/\St (dA w0) w' [DU b1 (List.map (fun q:Bool=>Value.bool q) (sg.2:List Bool))] [BG [s1] (l:List aY),BG [s2] (x6.Rows:List cZ)]) ?_ hl2 ⟨hA.part ⟨rfl,rfl,rfl,rfl,rfl,rfl,rfl,rfl,trivial⟩,((hS).NH [0] rfl).wD [0,1] rfl⟩
     clear hA hS hl2
     rintro⟨x9,x10⟩ a w q2 ⟨hA,hS⟩ hG2 hr2
     try dsimp only at hA hS
     unfold lO at hG2
     refine bT<|cJ hA ?_
     clear hA
     refine oy (GI rfl rfl rfl) rfl<|bM fun a hA=>bT<|l4 hA rfl (fun hc3=>?_) (fun hc3=>?_)
     ·replace hG2:=L9 hc3 hG2
      refine pB<|bT<|lU<|bT<|cJ hA ?_
      clear hA
      obtain⟨x12,hx12,hG2⟩:=tW hG2
      refine oy (P1 (m:=2) (hS.rd 1 rfl) rfl hx12 Tryz.underlying94 Tryz.sizeOf108 rfl rfl rfl) rfl<|oy (P0 rfl rfl Tryz.isAgg108 Tryz.sizeOf108 rfl (aWH (hS.rd 1 rfl) (kL hx12).2.2)) rfl<|KX (L8 (cs:=[.int .i64 (0),.int .i64 (0)]) hS rfl Tryz.zeroValue108 rfl) (bZ rfl) rfl rfl ?_
      clear hS
      rintro _ w ⟨b3,rfl,hS⟩
      refine PZ (TW (vs:=[.int .i64 (x12.Handle),.int .i64 (x12.aG)]) hS (i:=1) rfl rfl rfl rfl rfl Tryz.sizeOf108 rfl rfl rfl) (bZ rfl) rfl ?_
      clear hS
      intro w hS
      refine bM fun a hA=>bT<|bT<|D3 (J:=fun a' w'=>∃(x13:Bool),jW x9 x10 x12 x13=some q2/\lJ 51 [(0,s1),(3,.pointer (some ⟨b1,0,none⟩)),(7,.pointer (some ⟨b3,0,none⟩)),(12,s1),(13,.int .i64 ((l.length:Int))),(14,.int .i64 (x3)),(19,s2),(20,.int .i64 ((x6.Rows.length:Int))),(21,.int .i64 (x9)),(41,.bool (x13))] a'/\St (dA w0) w' [DU b1 (List.map (fun q:Bool=>Value.bool q) (x10:List Bool)),DU b3 [.int .i64 (x12.Handle),.int .i64 (x12.aG)]] [BG [s1] (l:List aY),BG [s2] (x6.Rows:List cZ)]) ?_ ?_
      ·skip
       refine cJ hA ?_
       clear hA
       refine oy (AP (m:=0) Tryz.underlying108 rfl rfl Tryz.sizeOf3 rfl rfl) rfl<|oy (jJ rfl rfl Tryz.isAgg3 (hS.cell 1 rfl rfl)) rfl ?_
       obtain⟨x15,hx15,hG2⟩:=tW hG2
       refine X9 (J5 Tryz.call206 rfl rfl) (bZ rfl) rfl rfl (ZK (h:=x12.Handle) hx15) ?_
       rintro _ w ⟨rfl,hk⟩
       replace hS:=hS.after hk;clear hk
       refine oy (aA7 rfl rfl) rfl<|om rfl rfl<|IM (s:=29) rfl (fun hc5=>?_) (fun hc5=>?_)
       ·replace hG2:=L9 hc5 hG2
        refine fY (cC rfl rfl rfl (by rw [hc5];rfl)) rfl rfl ?_
        refine fY (cC rfl rfl rfl (by rw [hc5];rfl)) rfl rfl ?_
        refine fY (cC rfl rfl rfl (by rw [hc5];rfl)) rfl rfl ?_
        refine fY (cC rfl rfl rfl (by rw [hc5];rfl)) rfl rfl ?_
        refine oy (wC rfl rfl hc5 rfl) rfl<|om rfl rfl<|fY (cC rfl rfl rfl rfl) rfl rfl<|fY (cC rfl rfl rfl rfl) rfl rfl<|fY (cC rfl rfl rfl rfl) rfl rfl<|fY (cC rfl rfl rfl rfl) rfl rfl<|fY (cC rfl rfl rfl rfl) rfl rfl<|oy (wC rfl rfl rfl rfl) rfl<|bM fun a hA=>?_
        exact⟨true,hG2,hA.part ⟨rfl,rfl,rfl,rfl,rfl,rfl,rfl,rfl,rfl,rfl,trivial⟩,((hS).NH [0,1] rfl).wD [0,1] rfl⟩
       ·replace hG2:=MA hc5 hG2
        refine fM (AP (m:=0) Tryz.underlying108 rfl rfl Tryz.sizeOf3 rfl rfl) (cC rfl rfl rfl (by rw [hc5];rfl)) rfl rfl ?_
        refine fM (jJ rfl rfl Tryz.isAgg3 (hS.cell 1 rfl rfl)) (cC rfl rfl rfl (by rw [hc5];rfl)) rfl rfl ?_
        obtain⟨x16,hx16,hG2⟩:=tW hG2
        refine X9 (J5 Tryz.call108 rfl rfl) (cC rfl rfl rfl (by rw [hc5];rfl)) rfl rfl (LH (n:=x12.aG) (low:=0) (high:=100000) hx16) ?_
        rintro _ w ⟨rfl,hk⟩
        replace hS:=hS.after hk;clear hk
        refine fM (aA7 rfl rfl) (cC rfl rfl rfl (by rw [hc5];rfl)) rfl rfl ?_
        refine oy (A2 rfl rfl hc5 rfl) rfl<|om rfl rfl<|IM (s:=35) rfl (fun hc6=>?_) (fun hc6=>?_)
        ·replace hG2:=L9 hc6 hG2
         refine fY (cC rfl rfl rfl (by rw [hc6];rfl)) rfl rfl ?_
         refine fY (cC rfl rfl rfl (by rw [hc6];rfl)) rfl rfl ?_
         refine fY (cC rfl rfl rfl (by rw [hc6];rfl)) rfl rfl ?_
         refine fY (cC rfl rfl rfl (by rw [hc6];rfl)) rfl rfl ?_
         refine fY (cC rfl rfl rfl (by rw [hc6];rfl)) rfl rfl ?_
         refine oy (wC rfl rfl hc6 rfl) rfl<|bM fun a hA=>?_
         exact⟨true,hG2,hA.part ⟨rfl,rfl,rfl,rfl,rfl,rfl,rfl,rfl,rfl,rfl,trivial⟩,((hS).NH [0,1] rfl).wD [0,1] rfl⟩
        ·replace hG2:=MA hc6 hG2
         refine fM (AP (m:=0) Tryz.underlying108 rfl rfl Tryz.sizeOf3 rfl rfl) (cC rfl rfl rfl (by rw [hc6];rfl)) rfl rfl ?_
         refine fM (jJ rfl rfl Tryz.isAgg3 (hS.cell 1 rfl rfl)) (cC rfl rfl rfl (by rw [hc6];rfl)) rfl rfl ?_
         refine fM (WR rfl rfl rfl (by decide)) (cC rfl rfl rfl (by rw [hc6];rfl)) rfl rfl ?_
         obtain⟨hn2,hG2⟩:=kM hG2
         refine fM (aAN Tryz.underlying223 Tryz.sizeOf4 hn2 rfl rfl rfl) (cC rfl rfl rfl (by rw [hc6];rfl)) rfl rfl ?_
         obtain⟨x17,hx17,hG2⟩:=tW hG2
         refine fM (jJ rfl rfl Tryz.isAgg4 (hS.aM3 0 rfl hx17)) (cC rfl rfl rfl (by rw [hc6];rfl)) rfl rfl ?_
         refine oy (A2 rfl rfl hc6 rfl) rfl<|bM fun a hA=>?_
         exact⟨x17,hG2,hA.part ⟨rfl,rfl,rfl,rfl,rfl,rfl,rfl,rfl,rfl,rfl,trivial⟩,((hS).NH [0,1] rfl).wD [0,1] rfl⟩
      ·skip
       clear hA hS hG2
       rintro a w ⟨x13,hG2,hA,hS⟩
       unfold jW at hG2
       refine l4 hA rfl (fun hc4=>?_) (fun hc4=>?_)
       ·replace hG2:=L9 hc4 hG2
        refine bT<|cJ hA ?_
        clear hA
        refine oa rfl rfl<|bM fun a hA=>AO ?_
        cases hG2
        have ho:=hr2 _ rfl;subst ho
        replace hG1:some (.stop (Out.ret false))=some q1:=hG1
        cases hG1
        have ho:=hr1 _ rfl;subst ho
        replace hF:some false=some r:=hF
        cases hF
        exact fy Tryz.results146 hA rfl hS
       ·replace hG2:=MA hc4 hG2
        refine pB<|cJ hA ?_
        clear hA
        refine oy (AP (m:=0) Tryz.underlying108 rfl rfl Tryz.sizeOf3 rfl rfl) rfl<|oy (jJ rfl rfl Tryz.isAgg3 (hS.cell 1 rfl rfl)) rfl<|oy (WR rfl rfl rfl (by decide)) rfl ?_
        obtain⟨hn1,hG2⟩:=kM hG2
        refine oy (aAN Tryz.underlying223 Tryz.sizeOf4 hn1 rfl rfl rfl) rfl ?_
        obtain⟨x14,hx14,hG2⟩:=tW hG2
        refine PZ (aQ6 (xd:=true) hS (m:=0) rfl hx14 Tryz.sizeOf4 rfl rfl rfl rfl rfl rfl) (bZ rfl) rfl ?_
        clear hS
        intro w hS
        refine bM fun a hA=>cJ hA ?_
        clear hA
        refine oy (KY rfl rfl rfl) rfl<|om rfl rfl<|bM fun a hA=>?_
        cases hG2
        exact⟨_,rfl,⟨hA.part ⟨rfl,rfl,rfl,rfl,rfl,rfl,rfl,rfl,trivial⟩,((hS).NH [0] rfl).wD [0,1] rfl⟩⟩
     ·replace hG2:=MA hc3 hG2
      refine J1<|D1 ?_
      cases hG2
      have ho:=hr2 _ rfl;subst ho
      exact⟨x10,rfl,hA.part ⟨rfl,rfl,rfl,rfl,rfl,trivial⟩,((hS).NH [0] rfl).wD [0] rfl⟩
    ·skip
     clear hA hS hl2
     rintro a w ⟨x11,heq,hA,hS⟩
     replace hG1:zW x3 x11=some q1:=by rw [heq] at hG1;exact hG1
     clear heq
     unfold zW at hG1
     refine cJ hA ?_
     clear hA
     refine oy (KY rfl rfl rfl) rfl<|om rfl rfl<|bM fun a hA=>?_
     cases hG1
     exact⟨_,rfl,⟨hA.part ⟨rfl,rfl,rfl,rfl,rfl,trivial⟩,((hS).NH [0] rfl).wD [0] rfl⟩⟩
   ·replace hG1:=MA hc2 hG1
    refine J1<|D1 ?_
    cases hG1
    have ho:=hr1 _ rfl;subst ho
    exact⟨rfl,hA.part ⟨rfl,trivial⟩,((hS).NH [] rfl).wD [0] rfl⟩
  ·skip
   clear hA hS hl1
   rintro a w ⟨heq,hA,hS⟩
   replace hF:zV l=some r:=by rw [heq] at hF;exact hF
   clear heq
   unfold zV at hF
   refine bT<|cJ hA ?_
   clear hA
   refine om rfl rfl ?_
   obtain⟨x5,hx5,hF⟩:=tW hF
   refine X9 (J5 Tryz.call233 rfl rfl) (bZ rfl) rfl rfl (XB (l:=l) (hS.rd 0 rfl) hx5) ?_
   rintro _ w ⟨rfl,hk⟩
   replace hS:=hS.after hk;clear hk
   refine oy (aK7 rfl rfl rfl) rfl<|oa rfl rfl<|bM fun a hA=>AO ?_
   cases hF
   exact fy Tryz.results146 hA rfl hS
end Go.Proofs.YtmaknhppafajdaaGreat
end
