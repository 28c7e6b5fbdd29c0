import Derived.Test.YtgijbgopcmohhaaGreatXWC
import Derived.Test.YtgijbgopcmohhaaGreatProg
set_option linter.unusedVariables false
set_option linter.unusedSimpArgs false
set_option linter.unusedSectionVars false
set_option linter.constructorNameAsVariable false
set_option linter.unnecessarySimpa false
noncomputable section
set_option maxHeartbeats 4000000
set_option maxRecDepth 100000
namespace Go.Proofs.YtgijbgopcmohhaaGreat
open Go.Gv Tryz
theorem bW:UD prog 3 1 (.int .i64 0):=yR (b:=8) (by kernel_rfl) rfl
theorem oB:UD prog 87 3 (.agg #[.int .i64 0,.int .i64 0,.int .i64 0]):=yR (b:=24) (by kernel_rfl) rfl
theorem tI:UD prog 53 1 (.agg #[.slice none 0 0]):=yR (b:=24) (by kernel_rfl) rfl
theorem eP:UD prog 73 2 (.agg #[.bool false,.slice none 0 0]):=yR (b:=32) (by kernel_rfl) rfl
theorem fV:UD prog 192 1 (.agg #[.slice none 0 0]):=yR (b:=24) (by kernel_rfl) rfl
theorem N5:UD prog 166 4 (.agg #[.bool false,.int .i64 0,.bool false,.int .i64 0]):=yR (b:=32) (by kernel_rfl) rfl
theorem IG:UD prog 135 1 (.agg #[.slice none 0 0]):=yR (b:=24) (by kernel_rfl) rfl
theorem gG:UD prog 95 3 (.agg #[.int .i64 0,.int .i64 0,.int .i64 0]):=yR (b:=24) (by kernel_rfl) rfl
theorem fA:UD prog 81 32 (.agg #[.bool false,.bool false,.slice none 0 0,.int .i64 0,.int .i64 0,.int .i64 0,.int .i64 0,.int .i64 0,.int .i64 0,.int .i64 0,.int .i64 0,.int .i64 0,.int .i64 0,.int .i64 0,.bool false,.int .i64 0,.int .i64 0,.int .i64 0,.int .i64 0,.int .i64 0,.int .i64 0,.int .i64 0,.int .i64 0,.int .i64 0,.int .i64 0,.bool false,.slice none 0 0,.slice none 0 0,.slice none 0 0,.slice none 0 0,.slice none 0 0,.slice none 0 0]):=yR (b:=368) (by kernel_rfl) rfl
theorem CU:UD prog 108 2 (.agg #[.bool false,.int .i64 0]):=yR (b:=16) (by kernel_rfl) rfl
theorem IH:UD prog 138 2 (.agg #[.int .i64 0,.int .i64 0]):=yR (b:=16) (by kernel_rfl) rfl
theorem N6:UD prog 124 2 (.agg #[.int .i64 0,.int .i64 0]):=yR (b:=16) (by kernel_rfl) rfl
theorem wT:UD prog 127 3 (.agg #[.int .i64 0,.bool false,.int .i64 0]):=yR (b:=24) (by kernel_rfl) rfl
theorem gU:UD prog 58 6 (.agg #[.int .i64 0,.int .i64 0,.int .i64 0,.int .i64 0,.slice none 0 0,.slice none 0 0]):=yR (b:=80) (by kernel_rfl) rfl
theorem aSM:UD prog 32 1 (.slice none 0 0):=yR (b:=24) (by kernel_rfl) rfl
theorem aXD:UD prog 5 1 (.int .u8 0):=yR (b:=1) (by kernel_rfl) rfl
theorem aH:prog.follows .mixedOrders=true:=by kernel_rfl
theorem aP2(D:Nat)(d d':vR)(w:World):(Op.eqFields (D+2) #[.bool (d.On),.int .i64 (d.aG),.bool (d.fU),.int .i64 (d.Seen)] #[.bool (d'.On),.int .i64 (d'.aG),.bool (d'.fU),.int .i64 (d'.Seen)] (match prog.underlying 166 with | some (.struct fs)=>fs | _=>#[]).toList).run prog w=.ok (decide (d=d')) w:=by
 rw[underlying166];have h:(d.On == d'.On && (d.aG == d'.aG && (d.fU == d'.fU && (d.Seen == d'.Seen && true))))=decide (d=d'):=by cases d;cases d';rw[IS];simp
 rw[<-h];exact gA _ _ _ _ _ rfl (gK isAgg4 rfl) (gK isAgg4 rfl) (Z8 underlying4)<|
  gA _ _ _ _ _ rfl (gK isAgg3 rfl) (gK isAgg3 rfl) (oL underlying3)<|
  gA _ _ _ _ _ rfl (gK isAgg4 rfl) (gK isAgg4 rfl) (Z8 underlying4)<|
  gA _ _ _ _ _ rfl (gK isAgg3 rfl) (gK isAgg3 rfl) (oL underlying3)<|
  RG _ _ _
theorem aSN(D:Nat)(d d':iT)(w:World):(Op.eqFields (D+2) #[.int .i64 (d.Kind),.int .i64 (d.Key),.int .i64 (d.dO)] #[.int .i64 (d'.Kind),.int .i64 (d'.Key),.int .i64 (d'.dO)] (match prog.underlying 87 with | some (.struct fs)=>fs | _=>#[]).toList).run prog w=.ok (decide (d=d')) w:=by
 rw[underlying87];have h:(d.Kind == d'.Kind && (d.Key == d'.Key && (d.dO == d'.dO && true)))=decide (d=d'):=by cases d;cases d';rw[IS];simp
 rw[<-h];exact gA _ _ _ _ _ rfl (gK isAgg3 rfl) (gK isAgg3 rfl) (oL underlying3)<|
  gA _ _ _ _ _ rfl (gK isAgg3 rfl) (gK isAgg3 rfl) (oL underlying3)<|
  gA _ _ _ _ _ rfl (gK isAgg3 rfl) (gK isAgg3 rfl) (oL underlying3)<|
  RG _ _ _
theorem aP3(D:Nat)(d d':Seen)(w:World):(Op.eqFields (D+2) #[.int .i64 (d.bY),.int .i64 (d.fX)] #[.int .i64 (d'.bY),.int .i64 (d'.fX)] (match prog.underlying 124 with | some (.struct fs)=>fs | _=>#[]).toList).run prog w=.ok (decide (d=d')) w:=by
 rw[underlying124];have h:(d.bY == d'.bY && (d.fX == d'.fX && true))=decide (d=d'):=by cases d;cases d';rw[IS];simp
 rw[<-h];exact gA _ _ _ _ _ rfl (gK isAgg3 rfl) (gK isAgg3 rfl) (oL underlying3)<|
  gA _ _ _ _ _ rfl (gK isAgg3 rfl) (gK isAgg3 rfl) (oL underlying3)<|
  RG _ _ _
theorem aP4(D:Nat)(d d':aS)(w:World):(Op.eqFields (D+2) #[.int .i64 (d.Key),.bool (d.FR),.int .i64 (d.dO)] #[.int .i64 (d'.Key),.bool (d'.FR),.int .i64 (d'.dO)] (match prog.underlying 127 with | some (.struct fs)=>fs | _=>#[]).toList).run prog w=.ok (decide (d=d')) w:=by
 rw[underlying127];have h:(d.Key == d'.Key && (d.FR == d'.FR && (d.dO == d'.dO && true)))=decide (d=d'):=by cases d;cases d';rw[IS];simp
 rw[<-h];exact gA _ _ _ _ _ rfl (gK isAgg3 rfl) (gK isAgg3 rfl) (oL underlying3)<|
  gA _ _ _ _ _ rfl (gK isAgg4 rfl) (gK isAgg4 rfl) (Z8 underlying4)<|
  gA _ _ _ _ _ rfl (gK isAgg3 rfl) (gK isAgg3 rfl) (oL underlying3)<|
  RG _ _ _
theorem aP5(D:Nat)(d d':dJ)(w:World):(Op.eqFields (D+2) #[.bool (d.Is),.int .i64 (d.dO)] #[.bool (d'.Is),.int .i64 (d'.dO)] (match prog.underlying 108 with | some (.struct fs)=>fs | _=>#[]).toList).run prog w=.ok (decide (d=d')) w:=by
 rw[underlying108];have h:(d.Is == d'.Is && (d.dO == d'.dO && true))=decide (d=d'):=by cases d;cases d';rw[IS];simp
 rw[<-h];exact gA _ _ _ _ _ rfl (gK isAgg4 rfl) (gK isAgg4 rfl) (Z8 underlying4)<|
  gA _ _ _ _ _ rfl (gK isAgg3 rfl) (gK isAgg3 rfl) (oL underlying3)<|
  RG _ _ _
theorem aSO(D:Nat)(d d':gW)(w:World):(Op.eqFields (D+2) #[.int .i64 (d.Key),.int .i64 (d.dO),.int .i64 (d.Next)] #[.int .i64 (d'.Key),.int .i64 (d'.dO),.int .i64 (d'.Next)] (match prog.underlying 75 with | some (.struct fs)=>fs | _=>#[]).toList).run prog w=.ok (decide (d=d')) w:=by
 rw[underlying75];have h:(d.Key == d'.Key && (d.dO == d'.dO && (d.Next == d'.Next && true)))=decide (d=d'):=by cases d;cases d';rw[IS];simp
 rw[<-h];exact gA _ _ _ _ _ rfl (gK isAgg3 rfl) (gK isAgg3 rfl) (oL underlying3)<|
  gA _ _ _ _ _ rfl (gK isAgg3 rfl) (gK isAgg3 rfl) (oL underlying3)<|
  gA _ _ _ _ _ rfl (gK isAgg3 rfl) (gK isAgg3 rfl) (oL underlying3)<|
  RG _ _ _
theorem aSP(D:Nat)(d d':Sub)(w:World):(Op.eqFields (D+2) #[.int .i64 (d.Kind),.int .i64 (d.A),.int .i64 (d.Pc),.int .i64 (d.E),.int .i64 (d.Row),.int .i64 (d.B),.int .i64 (d.H),.int .i64 (d.Out),.int .i64 (d.Code),.bool (d.cJ)] #[.int .i64 (d'.Kind),.int .i64 (d'.A),.int .i64 (d'.Pc),.int .i64 (d'.E),.int .i64 (d'.Row),.int .i64 (d'.B),.int .i64 (d'.H),.int .i64 (d'.Out),.int .i64 (d'.Code),.bool (d'.cJ)] (match prog.underlying 77 with | some (.struct fs)=>fs | _=>#[]).toList).run prog w=.ok (decide (d=d')) w:=by
 rw[underlying77];have h:(d.Kind == d'.Kind && (d.A == d'.A && (d.Pc == d'.Pc && (d.E == d'.E && (d.Row == d'.Row && (d.B == d'.B && (d.H == d'.H && (d.Out == d'.Out && (d.Code == d'.Code && (d.cJ == d'.cJ && true))))))))))=decide (d=d'):=by cases d;cases d';rw[IS];simp
 rw[<-h];exact gA _ _ _ _ _ rfl (gK isAgg3 rfl) (gK isAgg3 rfl) (oL underlying3)<|
  gA _ _ _ _ _ rfl (gK isAgg3 rfl) (gK isAgg3 rfl) (oL underlying3)<|
  gA _ _ _ _ _ rfl (gK isAgg3 rfl) (gK isAgg3 rfl) (oL underlying3)<|
  gA _ _ _ _ _ rfl (gK isAgg3 rfl) (gK isAgg3 rfl) (oL underlying3)<|
  gA _ _ _ _ _ rfl (gK isAgg3 rfl) (gK isAgg3 rfl) (oL underlying3)<|
  gA _ _ _ _ _ rfl (gK isAgg3 rfl) (gK isAgg3 rfl) (oL underlying3)<|
  gA _ _ _ _ _ rfl (gK isAgg3 rfl) (gK isAgg3 rfl) (oL underlying3)<|
  gA _ _ _ _ _ rfl (gK isAgg3 rfl) (gK isAgg3 rfl) (oL underlying3)<|
  gA _ _ _ _ _ rfl (gK isAgg3 rfl) (gK isAgg3 rfl) (oL underlying3)<|
  gA _ _ _ _ _ rfl (gK isAgg4 rfl) (gK isAgg4 rfl) (Z8 underlying4)<|
  RG _ _ _
set_option maxRecDepth 100000 in
theorem QX{w0:World}{n:Int}(hn:0<=n/\n<=1073741824) :
  Calls prog 237 #[.slice none 0 0,.int .i64 n] w0 (Ret fun v w'=>∃s0_0:Value,v=s0_0/\St (b9 w0) w' [bH [s0_0] ([]:List Raw)] []):=by
 have hS:St (b9 w0) w0 [] []:=St.enter (by intro f hf;cases hf);have hw:bE (n - bE (0 - 0))=n:=by rw[LF (x:=0 - 0) (by omega),LF (by omega)];omega
 refine aY2 (args:=[_,_]) func237 rfl ntmps237 rfl ?_;intro a hA;refine bV ?_;refine cE hA ?_;clear hA;refine fZ (FX rfl rfl) (bZ rfl) rfl rfl ?_;refine bO ?_;intro a hA;refine bV ?_;refine bV ?_;refine cE hA ?_;clear hA;refine fZ (o8 rfl rfl) (bZ rfl) rfl rfl ?_;refine fZ (IT rfl rfl rfl) (bZ rfl) rfl rfl ?_;refine bO ?_;intro a hA;refine oF hA rfl (fun hc=>?_) (fun hc=>?_)
 ·exfalso;simp at hc;omega
 refine qJ ?_;refine bV ?_;refine bV ?_;refine cE hA ?_;clear hA;refine fZ (o8 rfl rfl) (bZ rfl) rfl rfl ?_;refine fZ (o8 rfl rfl) (bZ rfl) rfl rfl ?_;refine fZ (aLN underlying32 rfl rfl) (bZ rfl) rfl rfl ?_;refine fZ (o8 rfl rfl) (bZ rfl) rfl rfl ?_;refine fZ (qK (aRW (α:=Raw) (S:=F0)) underlying32 rfl rfl) (bZ rfl) rfl rfl ?_;refine fZ (aRR rfl rfl rfl) (bZ rfl) rfl rfl ?_;refine fZ (aRR rfl rfl rfl) (bZ rfl) rfl rfl ?_;refine fZ (FX rfl rfl) (bZ rfl) rfl rfl ?_;refine bO ?_;intro a hA;refine bV ?_;refine cE hA ?_;clear hA;refine fZ (o8 rfl rfl) (bZ rfl) rfl rfl ?_;refine fZ (aRU rfl rfl rfl) (bZ rfl) rfl rfl ?_;refine bO ?_;intro a hA;refine oF hA rfl (fun hc=>?_) (fun hc=>?_)
 ·have hn1:0<n:=by have h2:decide (0<bE (n - bE (0 - 0)))=true:=hc;rw[hw] at h2;simpa using h2
  refine cE hA ?_;clear hA;refine fZ (o8 rfl rfl) (bZ rfl) rfl rfl ?_;refine fZ (o8 rfl rfl) (bZ rfl) rfl rfl ?_;refine fZ (aLN underlying32 rfl rfl) (bZ rfl) rfl rfl ?_;refine fZ (aUF (s:=.slice none 0 0) ⟨_,_,_,rfl⟩ underlying32 sizeOf192 rfl rfl rfl) (bZ rfl) rfl rfl ?_;refine fZ (o8 rfl rfl) (bZ rfl) rfl rfl ?_;refine OI (a47 (i:=bE (n - bE (0 - 0))) hS underlying32 underlying3 fV rfl rfl (by rw[hw];omega) rfl rfl rfl) (bZ rfl) rfl rfl ?_;clear hS;intro s w hS;refine fZ (o8 rfl rfl) (bZ rfl) rfl rfl ?_;refine fZ (qK (aRW (α:=Raw) (S:=F0)) underlying32 rfl rfl) (bZ rfl) rfl rfl ?_;refine fZ (aUF (hS.aZQ 0 rfl) underlying32 sizeOf192 rfl rfl rfl) (bZ rfl) rfl rfl ?_;refine fZ (FX rfl rfl) (bZ rfl) rfl rfl ?_;refine bO ?_;intro a hA;replace hS:=hS.a9G (α:=Raw) 0 rfl rfl;refine bV ?_;refine cE hA ?_;clear hA;refine fZ (o8 rfl rfl) (bZ rfl) rfl rfl ?_;refine fZ (FX rfl rfl) (bZ rfl) rfl rfl ?_;refine bO ?_;intro a hA;refine BP ?_;exact a4U results237 hA (aF6 rfl) ⟨_,rfl,(hS.P2 [0] rfl).weaken (R':=[]) (fun _ h=>nomatch h)⟩
 ·refine qJ ?_;replace hS:=hS.a89 (α:=Raw);refine bV ?_;refine cE hA ?_;clear hA;refine fZ (o8 rfl rfl) (bZ rfl) rfl rfl ?_;refine fZ (FX rfl rfl) (bZ rfl) rfl rfl ?_;refine bO ?_;intro a hA;refine BP ?_;exact a4U results237 hA (aF6 rfl) ⟨_,rfl,(hS.P2 [0] rfl).weaken (R':=[]) (fun _ h=>nomatch h)⟩
theorem T6{w0:World}{slices:List (List Raw)}{s1:Value}{r:(List Raw)}(h1:aJ.rd (PW w0) w0 [s1] (slices:List (List Raw)))(hF:qL slices=some r) :
    Calls prog 196 #[s1] w0 (Ret fun v w'=>∃(s0_0:Value),v=s0_0/\St (b9 w0) w' [bH [s0_0] (r:List Raw)] []):=by
 have hS:St (b9 w0) w0 [] [BO [s1] (slices:List (List Raw))]:=St.enter (by
   intro f hf;simp only[jA,PT,or_false] at hf;subst hf;exact h1)
 refine CK (args:=[_]) func196 rfl ntmps196 rfl ?_;unfold qL at hF;intro a hA;refine bV<|cE hA ?_
 clear hA;refine oa rfl rfl<|bO fun a hA=>bV<|cE hA ?_
 clear hA;refine oa rfl rfl<|bO fun a hA=>bV<|bV<|cE hA ?_
 clear hA;refine om rfl rfl<|oy (qK (hS.rd 0 rfl) underlying252 rfl rfl) rfl<|om rfl rfl<|bO fun a hA=>?_
 obtain⟨o1,hl1,hF⟩:=vA hF;refine FY (J:=fun a' w'=>∃(x5:Int),o1=x5/\mQ 36 [(0,s1),(3,.int .i64 (x5))] a'/\St (b9 w0) w' [] [BO [s1] (slices:List (List Raw))]) ?_ ?_
 ·refine mR ?_;refine M7 (body:=gT slices) (r:=o1) (fun sg a' w'=>mQ 36 [(0,s1),(3,.int .i64 (sg.1)),(9,s1),(10,.int .i64 ((slices.length:Int))),(11,.int .i64 (sg.2))] a'/\St (b9 w0) w' [] [BO [s1] (slices:List (List Raw))]) ?_ hl1 ⟨hA.part ⟨rfl,rfl,rfl,rfl,rfl,trivial⟩,((hS).P2 [] rfl).xG [0] rfl⟩;clear hA hS hl1;rintro⟨x3,x4⟩ a w q1 ⟨hA,hS⟩ hG1 hr1
  try dsimp only at hA hS
  unfold gT at hG1;refine bV<|cE hA ?_
  clear hA;refine oy (IT rfl rfl rfl) rfl<|bO fun a hA=>bV<|oF hA rfl (fun hc2=>?_) (fun hc2=>?_)
  ·replace hG1:=P0 hc2 hG1;refine qJ<|bV<|mR<|bV<|cE hA ?_
   clear hA;obtain⟨x12,hx12,hG1⟩:=vA hG1;refine oy (UL (m:=1) (hS.rd 0 rfl) rfl hx12 underlying252 sizeOf32 rfl rfl rfl) rfl ?_;obtain⟨s8,hel,hS⟩:=hS.aO1 0 rfl (lK hx12).2.2;refine oy (jV rfl rfl isAgg32 (aY5 hel)) rfl<|oa rfl rfl<|bO fun a hA=>bV<|cE hA ?_
   clear hA;refine om rfl rfl<|om rfl rfl<|oy (qK (hS.rd 1 rfl) underlying32 rfl rfl) rfl<|oy (OJ rfl rfl rfl) rfl<|oa rfl rfl<|bO fun a hA=>bV<|cE hA ?_
   clear hA;refine om rfl rfl<|oy (IT rfl rfl rfl) rfl<|bO fun a hA=>oF hA rfl (fun hc3=>?_) (fun hc3=>?_)
   ·replace hG1:=P0 hc3 hG1;refine cE hA ?_;clear hA;cases hG1
   ·replace hG1:=P1 hc3 hG1;refine qJ<|cE hA ?_
    clear hA;refine oy (OJ rfl rfl rfl) rfl<|om rfl rfl<|bO fun a hA=>?_
    cases hG1;exact⟨_,rfl,⟨hA.part ⟨rfl,rfl,rfl,rfl,rfl,trivial⟩,((hS).P2 [] rfl).xG [0] rfl⟩⟩
  ·replace hG1:=P1 hc2 hG1;refine M6<|FW ?_
   cases hG1;have ho:=hr1 _ rfl;subst ho;exact⟨x3,rfl,hA.part ⟨rfl,rfl,trivial⟩,((hS).P2 [] rfl).xG [0] rfl⟩
 ·skip
  clear hA hS hl1;rintro a w ⟨x5,heq,hA,hS⟩;replace hF:m8 slices x5=some r:=by rw[heq] at hF;exact hF
  clear heq;unfold m8 at hF;refine bV<|cE hA ?_
  clear hA;refine om rfl rfl ?_;obtain⟨hn1,hF⟩:=jW hF;refine aD0 (NA call237 rfl rfl) (bZ rfl) rfl rfl (QX hn1) ?_;rintro s2 w ⟨_,rfl,hk⟩;replace hS:=hS.after hk;clear hk;refine oa rfl rfl<|bO fun a hA=>bV<|bV<|cE hA ?_
  clear hA;refine om rfl rfl<|oy (qK (hS.rd 0 rfl) underlying252 rfl rfl) rfl<|om rfl rfl<|bO fun a hA=>?_
  obtain⟨o2,hl2,hF⟩:=vA hF;refine FY (J:=fun a' w'=>∃(x10:List Raw) (s5:Value),o2=x10/\mQ 36 [(6,s5)] a'/\St (b9 w0) w' [bH [s5] (x10:List Raw)] []) ?_ ?_
  ·refine mR ?_;refine M7 (body:=iU slices) (r:=o2) (fun sg a' w'=>∃(s4:Value),mQ 36 [(6,s4),(25,s1),(26,.int .i64 ((slices.length:Int))),(27,.int .i64 (sg.2))] a'/\St (b9 w0) w' [bH [s4] (sg.1:List Raw)] [BO [s1] (slices:List (List Raw))]) ?_ hl2 ⟨s2,hA.part ⟨rfl,rfl,rfl,rfl,trivial⟩,((hS).P2 [0] rfl).xG [0] rfl⟩;clear hA hS hl2;rintro⟨x8,x9⟩ a w q2 ⟨s4,hA,hS⟩ hG2 hr2
   try dsimp only at hA hS
   unfold iU at hG2;refine bV<|cE hA ?_
   clear hA;refine oy (IT rfl rfl rfl) rfl<|bO fun a hA=>bV<|oF hA rfl (fun hc1=>?_) (fun hc1=>?_)
   ·replace hG2:=P0 hc1 hG2;refine qJ<|bV<|mR<|bV<|cE hA ?_
    clear hA;obtain⟨x11,hx11,hG2⟩:=vA hG2;refine oy (UL (m:=1) (hS.rd 0 rfl) rfl hx11 underlying252 sizeOf32 rfl rfl rfl) rfl ?_;obtain⟨s6,hel,hS⟩:=hS.aO1 0 rfl (lK hx11).2.2;refine oy (jV rfl rfl isAgg32 (aY5 hel)) rfl<|oa rfl rfl<|bO fun a hA=>cE hA ?_
    clear hA;refine om rfl rfl<|om rfl rfl ?_
    obtain⟨hn2,hG2⟩:=jW hG2;refine OI (aLL (α:=Raw) 0 hS rfl (hS.rd 1 rfl) rfl underlying32 fV rfl hn2 rfl rfl rfl) (bZ rfl) rfl rfl ?_;clear hS;rintro s7 w hS;refine oa rfl rfl<|bO fun a hA=>cE hA ?_
    clear hA;refine oy (OJ rfl rfl rfl) rfl<|om rfl rfl<|bO fun a hA=>?_
    cases hG2;exact⟨_,rfl,⟨s7,hA.part ⟨rfl,rfl,rfl,rfl,trivial⟩,((hS).P2 [0] rfl).xG [0] rfl⟩⟩
   ·replace hG2:=P1 hc1 hG2;refine M6<|FW ?_
    cases hG2;have ho:=hr2 _ rfl;subst ho;exact⟨x8,s4,rfl,hA.part ⟨rfl,trivial⟩,((hS).P2 [0] rfl).xG [] rfl⟩
  ·skip
   clear hA hS hl2;rintro a w ⟨x10,s5,heq,hA,hS⟩;replace hF:sI x10=some r:=by rw[heq] at hF;exact hF
   clear heq;unfold sI at hF;refine bV<|cE hA ?_
   clear hA;refine om rfl rfl<|oa rfl rfl<|bO fun a hA=>BP ?_
   cases hF;exact a4U results196 hA (aF6 rfl) ⟨s5,rfl,(hS.P2 [0] rfl).weaken (R':=[]) (fun _ h=>nomatch h)⟩
theorem O5{w0:World}{n:Int}{low:Int}{high:Int}{r:Bool}(hF:bP n low high=some r) :
    Calls prog 44 #[.int .i64 (n),.int .i64 (low),.int .i64 (high)] w0 (Ret fun v w'=>v=.bool (r)/\St (b9 w0) w' [] []):=by
 have hS:St (b9 w0) w0 [] []:=St.enter (by
   intro f hf;cases hf)
 refine CK (args:=[_,_,_]) func44 rfl ntmps44 rfl ?_;unfold bP at hF;intro a hA;refine bV<|cE hA ?_
 clear hA;refine oa rfl rfl<|bO fun a hA=>bV<|FY (J:=fun a' w'=>∃(x1:Bool),qZ x1=some r/\mQ 15 [(6,.bool (x1))] a'/\St (b9 w0) w' [] []) ?_ ?_
 ·skip
  refine cE hA ?_;clear hA;refine om rfl rfl<|om rfl rfl<|oy (aYY rfl rfl rfl) rfl<|om rfl rfl<|LB (s:=10) rfl (fun hc1=>?_) (fun hc1=>?_)
  ·replace hF:=P0 hc1 hF;refine fZ (o8 rfl rfl) (cC rfl rfl rfl (by rw[hc1];rfl)) rfl rfl ?_;refine fZ (o8 rfl rfl) (cC rfl rfl rfl (by rw[hc1];rfl)) rfl rfl ?_;refine fZ (aRT rfl rfl rfl) (cC rfl rfl rfl (by rw[hc1];rfl)) rfl rfl ?_;refine oy (xF rfl rfl hc1 rfl) rfl<|oa rfl rfl<|bO fun a hA=>?_
   exact⟨decide (n<=high),hF,hA.part ⟨rfl,trivial⟩,((hS).P2 [] rfl).xG [] rfl⟩
  ·replace hF:=P1 hc1 hF;refine gJ (cC rfl rfl rfl (by rw[hc1];rfl)) rfl rfl ?_;refine gJ (cC rfl rfl rfl (by rw[hc1];rfl)) rfl rfl ?_;refine gJ (cC rfl rfl rfl (by rw[hc1];rfl)) rfl rfl ?_;refine oy (CJ rfl rfl hc1 rfl) rfl<|oa rfl rfl<|bO fun a hA=>?_
   exact⟨false,hF,hA.part ⟨rfl,trivial⟩,((hS).P2 [] rfl).xG [] rfl⟩
 ·skip
  clear hA hS hF;rintro a w ⟨x1,hF,hA,hS⟩;unfold qZ at hF;refine BP ?_;cases hF;exact fy results44 hA rfl hS
theorem aKT{w0:World}{slot:Int}{r:Bool}(hF:nD slot=some r) :
    Calls prog 197 #[.int .i64 (slot)] w0 (Ret fun v w'=>v=.bool (r)/\St (b9 w0) w' [] []):=by
 have hS:St (b9 w0) w0 [] []:=St.enter (by
   intro f hf;cases hf)
 refine CK (args:=[_]) func197 rfl ntmps197 rfl ?_;unfold nD at hF;intro a hA;refine bV<|cE hA ?_
 clear hA;refine oa rfl rfl<|bO fun a hA=>bV<|cE hA ?_
 clear hA;refine om rfl rfl ?_;obtain⟨x1,hx1,hF⟩:=vA hF;refine aD0 (NA call44 rfl rfl) (bZ rfl) rfl rfl (O5 (n:=slot) (low:=0) (high:=23) hx1) ?_;rintro _ w ⟨rfl,hk⟩;replace hS:=hS.after hk;clear hk;refine oa rfl rfl<|bO fun a hA=>BP ?_
 cases hF;exact fy results197 hA rfl hS
theorem aH4{w0:World}{l:aD}{s1:Value}{s2:Value}{r:Bool}(h1:aJ.rd (PW w0) w0 [s1] (l.Global:List aW))(h2:aJ.rd (PW w0) w0 [s2] (l.Own:List aW))(hF:lF l=some r) :
    Calls prog 144 #[.agg #[s1,s2]] w0 (Ret fun v w'=>v=.bool (r)/\St (b9 w0) w' [] []):=by
 have hS:St (b9 w0) w0 [] [BO [s1] (l.Global:List aW),BO [s2] (l.Own:List aW)]:=St.enter (by
   intro f hf;simp only[jA,PT,or_false] at hf;rcases hf with rfl | rfl
   · exact h1
   · exact h2)
 refine CK (args:=[_]) func144 rfl ntmps144 rfl ?_;unfold lF at hF;intro a hA;refine bV<|cE hA ?_
 clear hA;refine OI (a85 (cs:=[s1,s2]) hS rfl rfl rfl) (bZ rfl) rfl rfl ?_;clear hS;rintro _ w ⟨b1,rfl,hS⟩;refine oa rfl rfl<|bO fun a hA=>bV<|bV<|FY (J:=fun a' w'=>∃(x1:Bool),tR l x1=some r/\mQ 61 [(1,.pointer (some ⟨b1,0,none⟩)),(17,.bool (x1))] a'/\St (b9 w0) w' [FF b1 [s1,s2]] [BO [s1] (l.Global:List aW),BO [s2] (l.Own:List aW)]) ?_ ?_
 ·skip
  refine cE hA ?_;clear hA;refine oy (BQ (m:=0) underlying34 rfl rfl sizeOf32 rfl rfl) rfl<|oy (jV rfl rfl isAgg32 (hS.cell 0 rfl rfl)) rfl<|oy (qK (hS.rd 0 rfl) underlying32 rfl rfl) rfl<|oy (aMV rfl rfl rfl) rfl<|om rfl rfl<|LB (s:=12) rfl (fun hc8=>?_) (fun hc8=>?_)
  ·replace hF:=P0 hc8 hF;refine gJ (cC rfl rfl rfl (by rw[hc8];rfl)) rfl rfl ?_;refine gJ (cC rfl rfl rfl (by rw[hc8];rfl)) rfl rfl ?_;refine gJ (cC rfl rfl rfl (by rw[hc8];rfl)) rfl rfl ?_;refine gJ (cC rfl rfl rfl (by rw[hc8];rfl)) rfl rfl ?_;refine oy (xF rfl rfl hc8 rfl) rfl<|bO fun a hA=>?_
   exact⟨true,hF,hA.part ⟨rfl,rfl,trivial⟩,((hS).P2 [0] rfl).xG [0,1] rfl⟩
  ·replace hF:=P1 hc8 hF;refine fZ (BQ (m:=0) underlying34 rfl rfl sizeOf32 rfl rfl) (cC rfl rfl rfl (by rw[hc8];rfl)) rfl rfl ?_;refine fZ (jV rfl rfl isAgg32 (hS.cell 0 rfl rfl)) (cC rfl rfl rfl (by rw[hc8];rfl)) rfl rfl ?_;refine fZ (qK (hS.rd 1 rfl) underlying32 rfl rfl) (cC rfl rfl rfl (by rw[hc8];rfl)) rfl rfl ?_;refine fZ (aMV rfl rfl rfl) (cC rfl rfl rfl (by rw[hc8];rfl)) rfl rfl ?_;refine oy (CJ rfl rfl hc8 rfl) rfl<|bO fun a hA=>?_
   exact⟨(l.Own.length:Int) != 9,hF,hA.part ⟨rfl,rfl,trivial⟩,((hS).P2 [0] rfl).xG [0,1] rfl⟩
 ·skip
  clear hA hS hF;rintro a w ⟨x1,hF,hA,hS⟩;unfold tR at hF;refine oF hA rfl (fun hc1=>?_) (fun hc1=>?_)
  ·replace hF:=P0 hc1 hF;refine bV<|cE hA ?_
   clear hA;refine oa rfl rfl<|bO fun a hA=>BP ?_
   cases hF;exact fy results144 hA rfl hS
  ·replace hF:=P1 hc1 hF;refine qJ<|bV<|cE hA ?_
   clear hA;refine oy (aCK (cells:=(Array.replicate 24 (.bool false))) rfl zeroValue196 underlying196 sizeOf4 rfl rfl) rfl<|OI (PY (cs:=List.map (fun q:Bool=>Value.bool q) (List.replicate 24 false)) hS rfl zeroValue196 rfl) (bZ rfl) rfl rfl ?_
   clear hS;rintro _ w ⟨b2,rfl,hS⟩;refine UJ (YV (vs:=(List.replicate 24 (.bool false))) hS (i:=1) rfl rfl rfl rfl rfl sizeOf196 rfl rfl rfl) (bZ rfl) rfl ?_;clear hS;intro w hS;refine bO fun a hA=>bV<|bV<|cE hA ?_
   clear hA;refine oy (BQ (m:=0) underlying34 rfl rfl sizeOf32 rfl rfl) rfl<|oy (jV rfl rfl isAgg32 (hS.cell 0 rfl rfl)) rfl<|oy (BQ (m:=0) underlying34 rfl rfl sizeOf32 rfl rfl) rfl<|oy (jV rfl rfl isAgg32 (hS.cell 0 rfl rfl)) rfl<|OI (aR1 hS (hS.rd 1 rfl) (hS.rd 0 rfl) underlying252 aSM rfl rfl rfl) (bZ rfl) rfl rfl ?_
   clear hS;rintro s3 w hS;obtain⟨hn1,hF⟩:=jW hF;replace hS:=hS.bBL 2 rfl;obtain⟨u1,u2,hu1,hl1,hS⟩:=hS.a48 rfl 2 1 0 rfl rfl rfl;refine aD0 (NA call196 rfl rfl) (bZ rfl) rfl rfl (T6 hu1 (QL hl1 hn1)) ?_;rintro s4 w ⟨_,rfl,hk⟩;replace hS:=hS.after hk;clear hk;replace hS:=hS.bBL 3 rfl;replace hS:=hS.bBQ rfl 4 3 rfl rfl;refine oy (qK (hS.rd 5 rfl) underlying32 rfl rfl) rfl<|om rfl rfl<|bO fun a hA=>?_
   obtain⟨o1,hl2,hF⟩:=vA hF;refine FY (J:=fun a' w'=>o1=Out.brk ()/\mQ 61 [] a'/\St (b9 w0) w' [] []) ?_ ?_
   ·refine mR ?_;refine M7 (body:=mI l) (r:=o1) (fun sg a' w'=>mQ 61 [(1,.pointer (some ⟨b1,0,none⟩)),(3,.pointer (some ⟨b2,0,none⟩)),(24,s4),(25,.int .i64 (((l.Own++l.Global).length:Int))),(26,.int .i64 (sg.1))] a'/\St (b9 w0) w' [FF b1 [s1,s2],FF b2 (List.map (fun q:Bool=>Value.bool q) (sg.2:List Bool))] [BO [s4] (l.Own++l.Global:List aW),BO [s1] (l.Global:List aW),BO [s2] (l.Own:List aW)]) ?_ hl2 ⟨hA.part ⟨rfl,rfl,rfl,rfl,rfl,trivial⟩,((hS).P2 [0,1] rfl).xG [5,0,1] rfl⟩;clear hA hS hl2;rintro⟨x4,x5⟩ a w q2 ⟨hA,hS⟩ hG2 hr2
    try dsimp only at hA hS
    unfold mI at hG2;refine bV<|cE hA ?_
    clear hA;refine oy (IT rfl rfl rfl) rfl<|bO fun a hA=>bV<|oF hA rfl (fun hc2=>?_) (fun hc2=>?_)
    ·replace hG2:=P0 hc2 hG2;refine qJ<|bV<|mR<|bV<|cE hA ?_
     clear hA;refine om rfl rfl ?_;obtain⟨x6,hx6,hG2⟩:=vA hG2;refine oy (UL (m:=1) (hS.rd 0 rfl) rfl hx6 underlying32 sizeOf192 rfl rfl rfl) rfl ?_;obtain⟨s5,hel,hS⟩:=hS.a1R 0 rfl (lK hx6).2.2;refine oy (UK rfl rfl isAgg192 sizeOf192 rfl hel) rfl<|OI (PY (cs:=[(.slice none 0 0)]) hS rfl zeroValue192 rfl) (bZ rfl) rfl rfl ?_
     clear hS;rintro _ w ⟨b3,rfl,hS⟩;refine oa rfl rfl<|UJ (YV (vs:=[s5]) hS (i:=2) rfl rfl rfl rfl rfl sizeOf192 rfl rfl (a9A (aHE (hS.rd 3 rfl)) rfl)) (bZ rfl) rfl ?_
     clear hS;intro w hS;refine bO fun a hA=>bV<|bV<|FY (J:=fun a' w'=>∃(x7:Bool),mH x4 x5 x6 x7=some q2/\mQ 61 [(1,.pointer (some ⟨b1,0,none⟩)),(3,.pointer (some ⟨b2,0,none⟩)),(5,.pointer (some ⟨b3,0,none⟩)),(24,s4),(25,.int .i64 (((l.Own++l.Global).length:Int))),(26,.int .i64 (x4)),(41,.bool (x7))] a'/\St (b9 w0) w' [FF b1 [s1,s2],FF b2 (List.map (fun q:Bool=>Value.bool q) (x5:List Bool)),FF b3 [s5]] [BO [s4] (l.Own++l.Global:List aW),BO [s1] (l.Global:List aW),BO [s2] (l.Own:List aW),BO [s5] (x6.aT:List Int)]) ?_ ?_
     ·skip
      refine cE hA ?_;clear hA;refine om rfl rfl<|oy (BQ (m:=0) underlying34 rfl rfl sizeOf32 rfl rfl) rfl<|oy (jV rfl rfl isAgg32 (hS.cell 0 rfl rfl)) rfl<|oy (qK (hS.rd 2 rfl) underlying32 rfl rfl) rfl<|oy (IT rfl rfl rfl) rfl<|om rfl rfl<|LB (s:=36) rfl (fun hc7=>?_) (fun hc7=>?_)
      ·replace hG2:=P0 hc7 hG2;refine fZ (BQ (m:=0) underlying192 rfl rfl sizeOf25 rfl rfl) (cC rfl rfl rfl (by rw[hc7];rfl)) rfl rfl ?_;refine fZ (jV rfl rfl isAgg25 (hS.cell 2 rfl rfl)) (cC rfl rfl rfl (by rw[hc7];rfl)) rfl rfl ?_;refine fZ (qK (hS.rd 3 rfl) underlying25 rfl rfl) (cC rfl rfl rfl (by rw[hc7];rfl)) rfl rfl ?_;refine fZ (aRU rfl rfl rfl) (cC rfl rfl rfl (by rw[hc7];rfl)) rfl rfl ?_;refine oy (xF rfl rfl hc7 rfl) rfl<|bO fun a hA=>?_
       exact⟨decide (2<(x6.aT.length:Int)),hG2,hA.part ⟨rfl,rfl,rfl,rfl,rfl,rfl,rfl,trivial⟩,((hS).P2 [0,1,2] rfl).xG [0,1,2,3] rfl⟩
      ·replace hG2:=P1 hc7 hG2;refine gJ (cC rfl rfl rfl (by rw[hc7];rfl)) rfl rfl ?_;refine gJ (cC rfl rfl rfl (by rw[hc7];rfl)) rfl rfl ?_;refine gJ (cC rfl rfl rfl (by rw[hc7];rfl)) rfl rfl ?_;refine gJ (cC rfl rfl rfl (by rw[hc7];rfl)) rfl rfl ?_;refine oy (CJ rfl rfl hc7 rfl) rfl<|bO fun a hA=>?_
       exact⟨false,hG2,hA.part ⟨rfl,rfl,rfl,rfl,rfl,rfl,rfl,trivial⟩,((hS).P2 [0,1,2] rfl).xG [0,1,2,3] rfl⟩
     ·skip
      clear hA hS hG2;rintro a w ⟨x7,hG2,hA,hS⟩;unfold mH at hG2;refine oF hA rfl (fun hc3=>?_) (fun hc3=>?_)
      ·replace hG2:=P0 hc3 hG2;refine bV<|cE hA ?_
       clear hA;refine oa rfl rfl<|bO fun a hA=>BP ?_
       cases hG2;have ho:=hr2 _ rfl;subst ho;replace hF:some false=some r:=hF;cases hF;exact fy results144 hA rfl hS
      ·replace hG2:=P1 hc3 hG2;refine qJ<|bV<|cE hA ?_
       clear hA;refine oy (BQ (m:=0) underlying192 rfl rfl sizeOf25 rfl rfl) rfl<|oy (jV rfl rfl isAgg25 (hS.cell 2 rfl rfl)) rfl<|oy (qK (hS.rd 3 rfl) underlying25 rfl rfl) rfl<|om rfl rfl<|bO fun a hA=>?_
       obtain⟨o2,hl3,hG2⟩:=vA hG2;refine FY (J:=fun a' w'=>∃(x12:List Bool),o2=Out.brk x12/\mQ 61 [(1,.pointer (some ⟨b1,0,none⟩)),(3,.pointer (some ⟨b2,0,none⟩)),(24,s4),(25,.int .i64 (((l.Own++l.Global).length:Int))),(26,.int .i64 (x4))] a'/\St (b9 w0) w' [FF b1 [s1,s2],FF b2 (List.map (fun q:Bool=>Value.bool q) (x12:List Bool))] [BO [s4] (l.Own++l.Global:List aW),BO [s1] (l.Global:List aW),BO [s2] (l.Own:List aW)]) ?_ ?_
       ·refine mR ?_;refine M7 (body:=mG x6) (r:=o2) (fun sg a' w'=>mQ 61 [(1,.pointer (some ⟨b1,0,none⟩)),(3,.pointer (some ⟨b2,0,none⟩)),(24,s4),(25,.int .i64 (((l.Own++l.Global).length:Int))),(26,.int .i64 (x4)),(43,s5),(44,.int .i64 ((x6.aT.length:Int))),(45,.int .i64 (sg.1))] a'/\St (b9 w0) w' [FF b1 [s1,s2],FF b2 (List.map (fun q:Bool=>Value.bool q) (sg.2:List Bool))] [BO [s4] (l.Own++l.Global:List aW),BO [s5] (x6.aT:List Int),BO [s1] (l.Global:List aW),BO [s2] (l.Own:List aW)]) ?_ hl3 ⟨hA.part ⟨rfl,rfl,rfl,rfl,rfl,rfl,rfl,rfl,trivial⟩,((hS).P2 [0,1] rfl).xG [0,3,1,2] rfl⟩;clear hA hS hl3;rintro⟨x10,x11⟩ a w q4 ⟨hA,hS⟩ hG4 hr4
        try dsimp only at hA hS
        unfold mG at hG4;refine bV<|cE hA ?_
        clear hA;refine oy (IT rfl rfl rfl) rfl<|bO fun a hA=>bV<|oF hA rfl (fun hc4=>?_) (fun hc4=>?_)
        ·replace hG4:=P0 hc4 hG4;refine qJ<|bV<|mR<|bV<|cE hA ?_
         clear hA;obtain⟨x13,hx13,hG4⟩:=vA hG4;refine oy (UL (m:=1) (hS.rd 1 rfl) rfl hx13 underlying25 sizeOf3 rfl rfl rfl) rfl<|oy (jV rfl rfl isAgg3 (aY5 (a87 (hS.rd 1 rfl) (lK hx13).2.2))) rfl<|oa rfl rfl<|bO fun a hA=>bV<|bV<|FY (J:=fun a' w'=>∃(x14:Bool),oX x10 x11 x13 x14=some q4/\mQ 61 [(1,.pointer (some ⟨b1,0,none⟩)),(3,.pointer (some ⟨b2,0,none⟩)),(7,.int .i64 (x13)),(24,s4),(25,.int .i64 (((l.Own++l.Global).length:Int))),(26,.int .i64 (x4)),(43,s5),(44,.int .i64 ((x6.aT.length:Int))),(45,.int .i64 (x10)),(56,.bool (x14))] a'/\St (b9 w0) w' [FF b1 [s1,s2],FF b2 (List.map (fun q:Bool=>Value.bool q) (x11:List Bool))] [BO [s4] (l.Own++l.Global:List aW),BO [s5] (x6.aT:List Int),BO [s1] (l.Global:List aW),BO [s2] (l.Own:List aW)]) ?_ ?_
         ·skip
          refine cE hA ?_;clear hA;refine om rfl rfl ?_;obtain⟨x16,hx16,hG4⟩:=vA hG4;refine aD0 (NA call197 rfl rfl) (bZ rfl) rfl rfl (aKT (slot:=x13) hx16) ?_;rintro _ w ⟨rfl,hk⟩;replace hS:=hS.after hk;clear hk;refine oy (aG6 rfl rfl) rfl<|om rfl rfl<|LB (s:=52) rfl (fun hc6=>?_) (fun hc6=>?_)
          ·replace hG4:=P0 hc6 hG4;refine gJ (cC rfl rfl rfl (by rw[hc6];rfl)) rfl rfl ?_;refine gJ (cC rfl rfl rfl (by rw[hc6];rfl)) rfl rfl ?_;refine gJ (cC rfl rfl rfl (by rw[hc6];rfl)) rfl rfl ?_;refine oy (xF rfl rfl hc6 rfl) rfl<|bO fun a hA=>?_
           exact⟨true,hG4,hA.part ⟨rfl,rfl,rfl,rfl,rfl,rfl,rfl,rfl,rfl,rfl,trivial⟩,((hS).P2 [0,1] rfl).xG [0,1,2,3] rfl⟩
          ·replace hG4:=P1 hc6 hG4;refine fZ (o8 rfl rfl) (cC rfl rfl rfl (by rw[hc6];rfl)) rfl rfl ?_;obtain⟨hn3,hG4⟩:=jW hG4;refine fZ (aF8 underlying196 sizeOf4 hn3 rfl rfl rfl) (cC rfl rfl rfl (by rw[hc6];rfl)) rfl rfl ?_;obtain⟨x17,hx17,hG4⟩:=vA hG4;refine fZ (jV rfl rfl isAgg4 (hS.aUE 1 rfl hx17)) (cC rfl rfl rfl (by rw[hc6];rfl)) rfl rfl ?_;refine oy (CJ rfl rfl hc6 rfl) rfl<|bO fun a hA=>?_
           exact⟨x17,hG4,hA.part ⟨rfl,rfl,rfl,rfl,rfl,rfl,rfl,rfl,rfl,rfl,trivial⟩,((hS).P2 [0,1] rfl).xG [0,1,2,3] rfl⟩
         ·skip
          clear hA hS hG4;rintro a w ⟨x14,hG4,hA,hS⟩;unfold oX at hG4;refine oF hA rfl (fun hc5=>?_) (fun hc5=>?_)
          ·replace hG4:=P0 hc5 hG4;refine bV<|cE hA ?_
           clear hA;refine oa rfl rfl<|bO fun a hA=>BP ?_
           cases hG4;have ho:=hr4 _ rfl;subst ho;replace hG2:some (.stop (Out.ret false))=some q2:=hG2;cases hG2;have ho:=hr2 _ rfl;subst ho;replace hF:some false=some r:=hF;cases hF;exact fy results144 hA rfl hS
          ·replace hG4:=P1 hc5 hG4;refine qJ<|cE hA ?_
           clear hA;refine om rfl rfl ?_;obtain⟨hn2,hG4⟩:=jW hG4;refine oy (aF8 underlying196 sizeOf4 hn2 rfl rfl rfl) rfl ?_;obtain⟨x15,hx15,hG4⟩:=vA hG4;refine UJ (aZM (xd:=true) hS (m:=1) rfl hx15 sizeOf4 rfl rfl rfl rfl rfl rfl) (bZ rfl) rfl ?_;clear hS;intro w hS;refine bO fun a hA=>cE hA ?_;clear hA;refine oy (OJ rfl rfl rfl) rfl<|om rfl rfl<|bO fun a hA=>?_
           cases hG4;exact⟨_,rfl,⟨hA.part ⟨rfl,rfl,rfl,rfl,rfl,rfl,rfl,rfl,trivial⟩,((hS).P2 [0,1] rfl).xG [0,1,2,3] rfl⟩⟩
        ·replace hG4:=P1 hc4 hG4;refine M6<|FW ?_
         cases hG4;have ho:=hr4 _ rfl;subst ho;exact⟨x11,rfl,hA.part ⟨rfl,rfl,rfl,rfl,rfl,trivial⟩,((hS).P2 [0,1] rfl).xG [0,2,3] rfl⟩
       ·skip
        clear hA hS hl3;rintro a w ⟨x12,heq,hA,hS⟩;replace hG2:AQ x4 x12=some q2:=by rw[heq] at hG2;exact hG2
        clear heq;unfold AQ at hG2;refine cE hA ?_;clear hA;refine oy (OJ rfl rfl rfl) rfl<|om rfl rfl<|bO fun a hA=>?_
        cases hG2;exact⟨_,rfl,⟨hA.part ⟨rfl,rfl,rfl,rfl,rfl,trivial⟩,((hS).P2 [0,1] rfl).xG [0,1,2] rfl⟩⟩
    ·replace hG2:=P1 hc2 hG2;refine M6<|FW ?_
     cases hG2;have ho:=hr2 _ rfl;subst ho;exact⟨rfl,hA.part trivial,((hS).P2 [] rfl).xG [] rfl⟩
   ·skip
    clear hA hS hl2;rintro a w ⟨heq,hA,hS⟩;replace hF:I0=some r:=by rw[heq] at hF;exact hF
    clear heq;unfold I0 at hF;refine bV<|cE hA ?_
    clear hA;refine oa rfl rfl<|bO fun a hA=>BP ?_
    cases hF;exact fy results144 hA rfl hS
theorem aE5{w0:World}{h:Int}{r:Bool}(hF:gN h=some r) :
    Calls prog 123 #[.int .i64 (h)] w0 (Ret fun v w'=>v=.bool (r)/\St (b9 w0) w' [] []):=by
 have hS:St (b9 w0) w0 [] []:=St.enter (by
   intro f hf;cases hf)
 refine CK (args:=[_]) func123 rfl ntmps123 rfl ?_;unfold gN at hF;intro a hA;refine bV<|cE hA ?_
 clear hA;refine oa rfl rfl<|bO fun a hA=>bV<|FY (J:=fun a' w'=>∃(x1:Bool),nM x1=some r/\mQ 10 [(2,.bool (x1))] a'/\St (b9 w0) w' [] []) ?_ ?_
 ·skip
  refine cE hA ?_;clear hA;refine om rfl rfl ?_;obtain⟨x2,hx2,hF⟩:=vA hF;refine aD0 (NA call44 rfl rfl) (bZ rfl) rfl rfl (O5 (n:=h) (low:=32) (high:=223) hx2) ?_;rintro _ w ⟨rfl,hk⟩;replace hS:=hS.after hk;clear hk;refine om rfl rfl<|LB (s:=5) rfl (fun hc1=>?_) (fun hc1=>?_)
  ·replace hF:=P0 hc1 hF;refine fZ (o8 rfl rfl) (cC rfl rfl rfl (by rw[hc1];rfl)) rfl rfl ?_;refine fZ (aCI rfl rfl rfl (by decide)) (cC rfl rfl rfl (by rw[hc1];rfl)) rfl rfl ?_;refine fZ (IT rfl rfl rfl) (cC rfl rfl rfl (by rw[hc1];rfl)) rfl rfl ?_;refine oy (xF rfl rfl hc1 rfl) rfl<|oa rfl rfl<|bO fun a hA=>?_
   exact⟨decide ((Int.tmod h 32)<24),hF,hA.part ⟨rfl,trivial⟩,((hS).P2 [] rfl).xG [] rfl⟩
  ·replace hF:=P1 hc1 hF;refine gJ (cC rfl rfl rfl (by rw[hc1];rfl)) rfl rfl ?_;refine gJ (cC rfl rfl rfl (by rw[hc1];rfl)) rfl rfl ?_;refine gJ (cC rfl rfl rfl (by rw[hc1];rfl)) rfl rfl ?_;refine oy (CJ rfl rfl hc1 rfl) rfl<|oa rfl rfl<|bO fun a hA=>?_
   exact⟨false,hF,hA.part ⟨rfl,trivial⟩,((hS).P2 [] rfl).xG [] rfl⟩
 ·skip
  clear hA hS hF;rintro a w ⟨x1,hF,hA,hS⟩;unfold nM at hF;refine BP ?_;cases hF;exact fy results123 hA rfl hS
theorem aCZ{w0:World}{l:List bI}{s1:Value}{r:Int}(h1:aJ.rd (PW w0) w0 [s1] (l:List bI))(hF:wE l=some r) :
    Calls prog 148 #[s1] w0 (Ret fun v w'=>v=.int .i64 (r)/\St (b9 w0) w' [] []):=by
 have hS:St (b9 w0) w0 [] [BO [s1] (l:List bI)]:=St.enter (by
   intro f hf;simp only[jA,PT,or_false] at hf;subst hf;exact h1)
 refine CK (args:=[_]) func148 rfl ntmps148 rfl ?_;unfold wE at hF;intro a hA;refine bV<|cE hA ?_
 clear hA;refine oa rfl rfl<|bO fun a hA=>bV<|cE hA ?_
 clear hA;refine oa rfl rfl<|bO fun a hA=>bV<|bV<|cE hA ?_
 clear hA;refine om rfl rfl<|oy (qK (hS.rd 0 rfl) underlying40 rfl rfl) rfl<|om rfl rfl<|bO fun a hA=>?_
 obtain⟨o1,hl1,hF⟩:=vA hF;refine FY (J:=fun a' w'=>∃(x5:Int),o1=x5/\mQ 19 [(3,.int .i64 (x5))] a'/\St (b9 w0) w' [] []) ?_ ?_
 ·refine mR ?_;refine M7 (body:=j3 l) (r:=o1) (fun sg a' w'=>mQ 19 [(3,.int .i64 (sg.1)),(6,s1),(7,.int .i64 ((l.length:Int))),(8,.int .i64 (sg.2))] a'/\St (b9 w0) w' [] [BO [s1] (l:List bI)]) ?_ hl1 ⟨hA.part ⟨rfl,rfl,rfl,rfl,trivial⟩,((hS).P2 [] rfl).xG [0] rfl⟩;clear hA hS hl1;rintro⟨x3,x4⟩ a w q1 ⟨hA,hS⟩ hG1 hr1
  try dsimp only at hA hS
  unfold j3 at hG1;refine bV<|cE hA ?_
  clear hA;refine oy (IT rfl rfl rfl) rfl<|bO fun a hA=>bV<|oF hA rfl (fun hc1=>?_) (fun hc1=>?_)
  ·replace hG1:=P0 hc1 hG1;refine qJ<|bV<|mR<|bV<|cE hA ?_
   clear hA;obtain⟨x6,hx6,hG1⟩:=vA hG1;refine oy (UL (m:=1) (hS.rd 0 rfl) rfl hx6 underlying40 sizeOf135 rfl rfl rfl) rfl ?_;obtain⟨s2,hel,hS⟩:=hS.aP0 0 rfl (lK hx6).2.2;refine oy (UK rfl rfl isAgg135 sizeOf135 rfl hel) rfl<|OI (PY (cs:=[(.slice none 0 0)]) hS rfl zeroValue135 rfl) (bZ rfl) rfl rfl ?_
   clear hS;rintro _ w ⟨b1,rfl,hS⟩;refine UJ (YV (vs:=[s2]) hS (i:=0) rfl rfl rfl rfl rfl sizeOf135 rfl rfl (a9A (aHE (hS.rd 1 rfl)) rfl)) (bZ rfl) rfl ?_;clear hS;intro w hS;refine bO fun a hA=>cE hA ?_;clear hA;refine om rfl rfl<|oy (BQ (m:=0) underlying135 rfl rfl sizeOf133 rfl rfl) rfl<|oy (jV rfl rfl isAgg133 (hS.cell 0 rfl rfl)) rfl<|oy (qK (hS.rd 1 rfl) underlying133 rfl rfl) rfl<|oy (OJ rfl rfl rfl) rfl<|oa rfl rfl<|bO fun a hA=>cE hA ?_
   clear hA;refine oy (OJ rfl rfl rfl) rfl<|om rfl rfl<|bO fun a hA=>?_
   cases hG1;exact⟨_,rfl,⟨hA.part ⟨rfl,rfl,rfl,rfl,trivial⟩,((hS).P2 [] rfl).xG [0] rfl⟩⟩
  ·replace hG1:=P1 hc1 hG1;refine M6<|FW ?_
   cases hG1;have ho:=hr1 _ rfl;subst ho;exact⟨x3,rfl,hA.part ⟨rfl,trivial⟩,((hS).P2 [] rfl).xG [] rfl⟩
 ·skip
  clear hA hS hl1;rintro a w ⟨x5,heq,hA,hS⟩;replace hF:DT x5=some r:=by rw[heq] at hF;exact hF
  clear heq;unfold DT at hF;refine bV<|cE hA ?_
  clear hA;refine om rfl rfl<|oa rfl rfl<|bO fun a hA=>BP ?_
  cases hF;exact fy results148 hA rfl hS
theorem aH5{w0:World}{l:List bI}{s1:Value}{r:Bool}(h1:aJ.rd (PW w0) w0 [s1] (l:List bI))(hF:m9 l=some r) :
    Calls prog 82 #[s1] w0 (Ret fun v w'=>v=.bool (r)/\St (b9 w0) w' [] []):=by
 have hS:St (b9 w0) w0 [] [BO [s1] (l:List bI)]:=St.enter (by
   intro f hf;simp only[jA,PT,or_false] at hf;subst hf;exact h1)
 refine CK (args:=[_]) func82 rfl ntmps82 rfl ?_;unfold m9 at hF;intro a hA;refine bV<|cE hA ?_
 clear hA;refine oa rfl rfl<|bO fun a hA=>bV<|bV<|cE hA ?_
 clear hA;refine om rfl rfl<|oy (qK (hS.rd 0 rfl) underlying40 rfl rfl) rfl<|oy (aMV rfl rfl rfl) rfl<|bO fun a hA=>oF hA rfl (fun hc1=>?_) (fun hc1=>?_)
 ·replace hF:=P0 hc1 hF;refine bV<|cE hA ?_
  clear hA;refine oa rfl rfl<|bO fun a hA=>BP ?_
  cases hF;exact fy results82 hA rfl hS
 ·replace hF:=P1 hc1 hF;refine qJ<|bV<|cE hA ?_
  clear hA;refine oy (aCK (cells:=(Array.replicate 24 (.bool false))) rfl zeroValue196 underlying196 sizeOf4 rfl rfl) rfl<|OI (PY (cs:=List.map (fun q:Bool=>Value.bool q) (List.replicate 24 false)) hS rfl zeroValue196 rfl) (bZ rfl) rfl rfl ?_
  clear hS;rintro _ w ⟨b1,rfl,hS⟩;refine UJ (YV (vs:=(List.replicate 24 (.bool false))) hS (i:=0) rfl rfl rfl rfl rfl sizeOf196 rfl rfl rfl) (bZ rfl) rfl ?_;clear hS;intro w hS;refine bO fun a hA=>bV<|bV<|cE hA ?_
  clear hA;refine om rfl rfl<|oy (qK (hS.rd 0 rfl) underlying40 rfl rfl) rfl<|om rfl rfl<|bO fun a hA=>?_
  obtain⟨o1,hl1,hF⟩:=vA hF;refine FY (J:=fun a' w'=>o1=Out.brk ()/\mQ 51 [(0,s1)] a'/\St (b9 w0) w' [] [BO [s1] (l:List bI)]) ?_ ?_
  ·refine mR ?_;refine M7 (body:=mK l) (r:=o1) (fun sg a' w'=>mQ 51 [(0,s1),(3,.pointer (some ⟨b1,0,none⟩)),(12,s1),(13,.int .i64 ((l.length:Int))),(14,.int .i64 (sg.1))] a'/\St (b9 w0) w' [FF b1 (List.map (fun q:Bool=>Value.bool q) (sg.2:List Bool))] [BO [s1] (l:List bI)]) ?_ hl1 ⟨hA.part ⟨rfl,rfl,rfl,rfl,rfl,trivial⟩,((hS).P2 [0] rfl).xG [0] rfl⟩;clear hA hS hl1;rintro⟨x3,x4⟩ a w q1 ⟨hA,hS⟩ hG1 hr1
   try dsimp only at hA hS
   unfold mK at hG1;refine bV<|cE hA ?_
   clear hA;refine oy (IT rfl rfl rfl) rfl<|bO fun a hA=>bV<|oF hA rfl (fun hc2=>?_) (fun hc2=>?_)
   ·replace hG1:=P0 hc2 hG1;refine qJ<|bV<|mR<|bV<|cE hA ?_
    clear hA;obtain⟨x6,hx6,hG1⟩:=vA hG1;refine oy (UL (m:=1) (hS.rd 0 rfl) rfl hx6 underlying40 sizeOf135 rfl rfl rfl) rfl ?_;obtain⟨s2,hel,hS⟩:=hS.aP0 0 rfl (lK hx6).2.2;refine oy (UK rfl rfl isAgg135 sizeOf135 rfl hel) rfl<|OI (PY (cs:=[(.slice none 0 0)]) hS rfl zeroValue135 rfl) (bZ rfl) rfl rfl ?_
    clear hS;rintro _ w ⟨b2,rfl,hS⟩;refine UJ (YV (vs:=[s2]) hS (i:=1) rfl rfl rfl rfl rfl sizeOf135 rfl rfl (a9A (aHE (hS.rd 1 rfl)) rfl)) (bZ rfl) rfl ?_;clear hS;intro w hS;refine bO fun a hA=>bV<|cE hA ?_
    clear hA;refine oy (BQ (m:=0) underlying135 rfl rfl sizeOf133 rfl rfl) rfl<|oy (jV rfl rfl isAgg133 (hS.cell 1 rfl rfl)) rfl<|oy (qK (hS.rd 1 rfl) underlying133 rfl rfl) rfl<|om rfl rfl<|bO fun a hA=>?_
    obtain⟨o2,hl2,hG1⟩:=vA hG1;refine FY (J:=fun a' w'=>∃(x11:List Bool),o2=Out.brk x11/\mQ 51 [(0,s1),(3,.pointer (some ⟨b1,0,none⟩)),(12,s1),(13,.int .i64 ((l.length:Int))),(14,.int .i64 (x3))] a'/\St (b9 w0) w' [FF b1 (List.map (fun q:Bool=>Value.bool q) (x11:List Bool))] [BO [s1] (l:List bI)]) ?_ ?_
    ·refine mR ?_;refine M7 (body:=mJ x6) (r:=o2) (fun sg a' w'=>mQ 51 [(0,s1),(3,.pointer (some ⟨b1,0,none⟩)),(12,s1),(13,.int .i64 ((l.length:Int))),(14,.int .i64 (x3)),(19,s2),(20,.int .i64 ((x6.Rows.length:Int))),(21,.int .i64 (sg.1))] a'/\St (b9 w0) w' [FF b1 (List.map (fun q:Bool=>Value.bool q) (sg.2:List Bool))] [BO [s1] (l:List bI),BO [s2] (x6.Rows:List eE)]) ?_ hl2 ⟨hA.part ⟨rfl,rfl,rfl,rfl,rfl,rfl,rfl,rfl,trivial⟩,((hS).P2 [0] rfl).xG [0,1] rfl⟩;clear hA hS hl2;rintro⟨x9,x10⟩ a w q2 ⟨hA,hS⟩ hG2 hr2
     try dsimp only at hA hS
     unfold mJ at hG2;refine bV<|cE hA ?_
     clear hA;refine oy (IT rfl rfl rfl) rfl<|bO fun a hA=>bV<|oF hA rfl (fun hc3=>?_) (fun hc3=>?_)
     ·replace hG2:=P0 hc3 hG2;refine qJ<|bV<|mR<|bV<|cE hA ?_
      clear hA;obtain⟨x12,hx12,hG2⟩:=vA hG2;refine oy (UL (m:=2) (hS.rd 1 rfl) rfl hx12 underlying133 sizeOf138 rfl rfl rfl) rfl<|oy (UK rfl rfl isAgg138 sizeOf138 rfl (a6A (hS.rd 1 rfl) (lK hx12).2.2)) rfl<|OI (PY (cs:=[.int .i64 (0),.int .i64 (0)]) hS rfl zeroValue138 rfl) (bZ rfl) rfl rfl ?_
      clear hS;rintro _ w ⟨b3,rfl,hS⟩;refine UJ (YV (vs:=[.int .i64 (x12.Handle),.int .i64 (x12.aG)]) hS (i:=1) rfl rfl rfl rfl rfl sizeOf138 rfl rfl rfl) (bZ rfl) rfl ?_;clear hS;intro w hS;refine bO fun a hA=>bV<|bV<|FY (J:=fun a' w'=>∃(x13:Bool),kH x9 x10 x12 x13=some q2/\mQ 51 [(0,s1),(3,.pointer (some ⟨b1,0,none⟩)),(7,.pointer (some ⟨b3,0,none⟩)),(12,s1),(13,.int .i64 ((l.length:Int))),(14,.int .i64 (x3)),(19,s2),(20,.int .i64 ((x6.Rows.length:Int))),(21,.int .i64 (x9)),(41,.bool (x13))] a'/\St (b9 w0) w' [FF b1 (List.map (fun q:Bool=>Value.bool q) (x10:List Bool)),FF b3 [.int .i64 (x12.Handle),.int .i64 (x12.aG)]] [BO [s1] (l:List bI),BO [s2] (x6.Rows:List eE)]) ?_ ?_
      ·skip
       refine cE hA ?_;clear hA;refine oy (BQ (m:=0) underlying138 rfl rfl sizeOf3 rfl rfl) rfl<|oy (jV rfl rfl isAgg3 (hS.cell 1 rfl rfl)) rfl ?_
       obtain⟨x15,hx15,hG2⟩:=vA hG2;refine aD0 (NA call123 rfl rfl) (bZ rfl) rfl rfl (aE5 (h:=x12.Handle) hx15) ?_;rintro _ w ⟨rfl,hk⟩;replace hS:=hS.after hk;clear hk;refine oy (aG6 rfl rfl) rfl<|om rfl rfl<|LB (s:=29) rfl (fun hc5=>?_) (fun hc5=>?_)
       ·replace hG2:=P0 hc5 hG2;refine gJ (cC rfl rfl rfl (by rw[hc5];rfl)) rfl rfl ?_;refine gJ (cC rfl rfl rfl (by rw[hc5];rfl)) rfl rfl ?_;refine gJ (cC rfl rfl rfl (by rw[hc5];rfl)) rfl rfl ?_;refine gJ (cC rfl rfl rfl (by rw[hc5];rfl)) rfl rfl ?_;refine oy (xF rfl rfl hc5 rfl) rfl<|om rfl rfl<|gJ (cC rfl rfl rfl rfl) rfl rfl<|gJ (cC rfl rfl rfl rfl) rfl rfl<|gJ (cC rfl rfl rfl rfl) rfl rfl<|gJ (cC rfl rfl rfl rfl) rfl rfl<|gJ (cC rfl rfl rfl rfl) rfl rfl<|oy (xF rfl rfl rfl rfl) rfl<|bO fun a hA=>?_
        exact⟨true,hG2,hA.part ⟨rfl,rfl,rfl,rfl,rfl,rfl,rfl,rfl,rfl,rfl,trivial⟩,((hS).P2 [0,1] rfl).xG [0,1] rfl⟩
       ·replace hG2:=P1 hc5 hG2;refine fZ (BQ (m:=0) underlying138 rfl rfl sizeOf3 rfl rfl) (cC rfl rfl rfl (by rw[hc5];rfl)) rfl rfl ?_;refine fZ (jV rfl rfl isAgg3 (hS.cell 1 rfl rfl)) (cC rfl rfl rfl (by rw[hc5];rfl)) rfl rfl ?_;obtain⟨x16,hx16,hG2⟩:=vA hG2;refine aD0 (NA call44 rfl rfl) (cC rfl rfl rfl (by rw[hc5];rfl)) rfl rfl (O5 (n:=x12.aG) (low:=0) (high:=100000) hx16) ?_;rintro _ w ⟨rfl,hk⟩;replace hS:=hS.after hk;clear hk;refine fZ (aG6 rfl rfl) (cC rfl rfl rfl (by rw[hc5];rfl)) rfl rfl ?_;refine oy (CJ rfl rfl hc5 rfl) rfl<|om rfl rfl<|LB (s:=35) rfl (fun hc6=>?_) (fun hc6=>?_)
        ·replace hG2:=P0 hc6 hG2;refine gJ (cC rfl rfl rfl (by rw[hc6];rfl)) rfl rfl ?_;refine gJ (cC rfl rfl rfl (by rw[hc6];rfl)) rfl rfl ?_;refine gJ (cC rfl rfl rfl (by rw[hc6];rfl)) rfl rfl ?_;refine gJ (cC rfl rfl rfl (by rw[hc6];rfl)) rfl rfl ?_;refine gJ (cC rfl rfl rfl (by rw[hc6];rfl)) rfl rfl ?_;refine oy (xF rfl rfl hc6 rfl) rfl<|bO fun a hA=>?_
         exact⟨true,hG2,hA.part ⟨rfl,rfl,rfl,rfl,rfl,rfl,rfl,rfl,rfl,rfl,trivial⟩,((hS).P2 [0,1] rfl).xG [0,1] rfl⟩
        ·replace hG2:=P1 hc6 hG2;refine fZ (BQ (m:=0) underlying138 rfl rfl sizeOf3 rfl rfl) (cC rfl rfl rfl (by rw[hc6];rfl)) rfl rfl ?_;refine fZ (jV rfl rfl isAgg3 (hS.cell 1 rfl rfl)) (cC rfl rfl rfl (by rw[hc6];rfl)) rfl rfl ?_;refine fZ (aCI rfl rfl rfl (by decide)) (cC rfl rfl rfl (by rw[hc6];rfl)) rfl rfl ?_;obtain⟨hn2,hG2⟩:=jW hG2;refine fZ (aF8 underlying196 sizeOf4 hn2 rfl rfl rfl) (cC rfl rfl rfl (by rw[hc6];rfl)) rfl rfl ?_;obtain⟨x17,hx17,hG2⟩:=vA hG2;refine fZ (jV rfl rfl isAgg4 (hS.aUE 0 rfl hx17)) (cC rfl rfl rfl (by rw[hc6];rfl)) rfl rfl ?_;refine oy (CJ rfl rfl hc6 rfl) rfl<|bO fun a hA=>?_
         exact⟨x17,hG2,hA.part ⟨rfl,rfl,rfl,rfl,rfl,rfl,rfl,rfl,rfl,rfl,trivial⟩,((hS).P2 [0,1] rfl).xG [0,1] rfl⟩
      ·skip
       clear hA hS hG2;rintro a w ⟨x13,hG2,hA,hS⟩;unfold kH at hG2;refine oF hA rfl (fun hc4=>?_) (fun hc4=>?_)
       ·replace hG2:=P0 hc4 hG2;refine bV<|cE hA ?_
        clear hA;refine oa rfl rfl<|bO fun a hA=>BP ?_
        cases hG2;have ho:=hr2 _ rfl;subst ho;replace hG1:some (.stop (Out.ret false))=some q1:=hG1;cases hG1;have ho:=hr1 _ rfl;subst ho;replace hF:some false=some r:=hF;cases hF;exact fy results82 hA rfl hS
       ·replace hG2:=P1 hc4 hG2;refine qJ<|cE hA ?_
        clear hA;refine oy (BQ (m:=0) underlying138 rfl rfl sizeOf3 rfl rfl) rfl<|oy (jV rfl rfl isAgg3 (hS.cell 1 rfl rfl)) rfl<|oy (aCI rfl rfl rfl (by decide)) rfl ?_
        obtain⟨hn1,hG2⟩:=jW hG2;refine oy (aF8 underlying196 sizeOf4 hn1 rfl rfl rfl) rfl ?_;obtain⟨x14,hx14,hG2⟩:=vA hG2;refine UJ (aZM (xd:=true) hS (m:=0) rfl hx14 sizeOf4 rfl rfl rfl rfl rfl rfl) (bZ rfl) rfl ?_;clear hS;intro w hS;refine bO fun a hA=>cE hA ?_;clear hA;refine oy (OJ rfl rfl rfl) rfl<|om rfl rfl<|bO fun a hA=>?_
        cases hG2;exact⟨_,rfl,⟨hA.part ⟨rfl,rfl,rfl,rfl,rfl,rfl,rfl,rfl,trivial⟩,((hS).P2 [0] rfl).xG [0,1] rfl⟩⟩
     ·replace hG2:=P1 hc3 hG2;refine M6<|FW ?_
      cases hG2;have ho:=hr2 _ rfl;subst ho;exact⟨x10,rfl,hA.part ⟨rfl,rfl,rfl,rfl,rfl,trivial⟩,((hS).P2 [0] rfl).xG [0] rfl⟩
    ·skip
     clear hA hS hl2;rintro a w ⟨x11,heq,hA,hS⟩;replace hG1:AT x3 x11=some q1:=by rw[heq] at hG1;exact hG1
     clear heq;unfold AT at hG1;refine cE hA ?_;clear hA;refine oy (OJ rfl rfl rfl) rfl<|om rfl rfl<|bO fun a hA=>?_
     cases hG1;exact⟨_,rfl,⟨hA.part ⟨rfl,rfl,rfl,rfl,rfl,trivial⟩,((hS).P2 [0] rfl).xG [0] rfl⟩⟩
   ·replace hG1:=P1 hc2 hG1;refine M6<|FW ?_
    cases hG1;have ho:=hr1 _ rfl;subst ho;exact⟨rfl,hA.part ⟨rfl,trivial⟩,((hS).P2 [] rfl).xG [0] rfl⟩
  ·skip
   clear hA hS hl1;rintro a w ⟨heq,hA,hS⟩;replace hF:AS l=some r:=by rw[heq] at hF;exact hF
   clear heq;unfold AS at hF;refine bV<|cE hA ?_
   clear hA;refine om rfl rfl ?_;obtain⟨x5,hx5,hF⟩:=vA hF;refine aD0 (NA call148 rfl rfl) (bZ rfl) rfl rfl (aCZ (l:=l) (hS.rd 0 rfl) hx5) ?_;rintro _ w ⟨rfl,hk⟩;replace hS:=hS.after hk;clear hk;refine oy (aRT rfl rfl rfl) rfl<|oa rfl rfl<|bO fun a hA=>BP ?_
   cases hF;exact fy results82 hA rfl hS
noncomputable section
open Go.RowKit Go.Shelf Go.Lib Go.Gv
set_option maxRecDepth 100000
set_option maxHeartbeats 4000000
theorem aP6(b off n c i vb:Nat)(cs vs:List Value)(w:World)(hi:i<n)(hroom:n+1<=c)(hc63:c<=9223372036854775807)(hvb:vb≠b)(hcl:cs.length=n*3)(hvl:vs.length=3)
  (hcs:bB w b off cs) (hsp:∀j,j<c*3->(w.cell? ⟨b,off+j,none⟩).isSome=true) (hfz:∀j,j<c*3->w.frozen? ⟨b,off+j,none⟩=false)
  (hvs:bB w vb 0 vs) (h1c:∀v∈cs,v.oneCell'=true) (h1v:∀v∈vs,v.oneCell'=true)
  (tA tB:TypeId) (kA kB:Nat) (hsa:w.shape? vb=some (tA,kA)) (hsb:w.shape? b=some (tB,kB)) (hkB:kB≠0) (hfa:w.frozen? ⟨vb,0,none⟩=false) (hfe:w.frozen? ⟨vb,kA,none⟩=false) :
  Calls prog 223 #[.slice (some ⟨b,off,none⟩) n c,.int .i64 i,.slice (some ⟨vb,0,none⟩) 1 1] w fun e w'=>
   e=.returned (.slice (some ⟨b,off,none⟩) (n+1) c)/\w'=(w.drew.setCells b (off+(i+1)*3) (cs.drop (i*3))).setCells b (off+i*3) vs:=by
 have u0:=run_underlying underlying79;have hz2:¬((i:Int)=(n:Int)):=by omega
 have hsz:(prog.info? 127).map (·.size)=some 3:=by kernel_rfl
 have hov:∀lb cb,(callFunc 247 #[.slice (some ⟨vb,0,none⟩) 1 1,.slice (some ⟨b,off+(i+1)*3,none⟩) lb cb]).run prog w=.ok (.value (.bool false)) w:=fun lb cb=>by
  rw[run_callFunc_extern func247 (by kernel_rfl) (by kernel_rfl) (by kernel_rfl) (e:=Extern.SlicesOverlaps.overlaps #[79,79] #[4]) (by kernel_rfl),
   Lib.run_overlaps_apart w 79 4 127 underlying79 3 sizeOf127 ⟨vb,0,none⟩ ⟨b,off+(i+1)*3,none⟩ 1 1 lb cb hvb tA tB kA kB hsa hsb hkB hfa hfe]
  rfl
 have hdl:(cs.drop (i*3)).length=(n - i)*3:=by rw[X8,hcl];omega
 have mixed:=aH;have hw1:IntKind.i64.wrap ((i:Int)+1)=(i:Int)+1:=by rw[IntKind.wrap_i64];omega
 have hw2:IntKind.i64.wrap ((n:Int)+1)=(n:Int)+1:=by rw[IntKind.wrap_i64];omega
 have hb1:(0:Int)<=(i:Int)+1:=by omega
 have hin:i<=n:=by omega
 have htn:((i:Int)+1).toNat=i+1:=by omega
 have htm:((n:Int)+1).toNat=n+1:=by omega
 have hb2:¬(c=i+1):=by omega
 have hb3:(i:Int)<=(n:Int)+1:=by omega
 have hb4:¬(c=i):=by omega
 have hcp1:∀ty dc sc,(Builtin.copy_ #[79,79] ty #[.slice (some ⟨b,off+(i+1)*3,none⟩) (n - i) dc,.slice (some ⟨b,off+i*3,none⟩) (n+1 - i) sc]).run prog w.drew=.ok (goInt (n - i:Nat)) (w.drew.setCells b (off+(i+1)*3) (cs.drop (i*3))):=fun ty dc sc=>
  RQ w.drew _ _ ty 127 3 b (off+(i+1)*3) (n - i) dc ⟨b,off+i*3,none⟩ (n+1 - i) sc (n - i) (cs.drop (i*3)) underlying79 hsz (by simp only[Nat.min_def];split<;>omega) hdl
   (fun j v hj=>by rw[Addr.add_lit,X9];exact hcs (i*3+j) v (by rwa [List.getElem?_drop] at hj))
   (fun j hj=>by rw[X9];exact hsp _ (by omega)) (fun j hj=>by rw[X9];exact hfz _ (by omega)) (fun v hv=>h1c v (Z6 hv))
 obtain⟨W1,hW1⟩:∃W1,W1=w.drew.setCells b (off+(i+1)*3) (cs.drop (i*3)):=⟨_,rfl⟩;have hsp1:∀k,k<c*3->(W1.cell? ⟨b,off+k,none⟩).isSome=true:=fun k hk=>by rw[hW1];exact isSome_setCells b _ _ _ (fun j hj=>by rw[X9];exact hsp _ (by omega)) _ (hsp k hk)
 have hcp2:∀(W:World),(∀x,W.cell? x=W1.cell? x)->(∀x,W.frozen? x=W1.frozen? x)->∀ty dc,(Builtin.copy_ #[79,79] ty #[.slice (some ⟨b,off+i*3,none⟩) (n+1 - i) dc,.slice (some ⟨vb,0,none⟩) 1 1]).run prog W=.ok (goInt 1) (W.setCells b (off+i*3) vs):=fun W hWc hWf ty dc=>
  RQ W _ _ ty 127 3 b (off+i*3) (n+1 - i) dc ⟨vb,0,none⟩ 1 1 1 vs underlying79 hsz (by simp only[Nat.min_def];split<;>omega) (by rw[hvl])
   (fun j v hj=>by
    rw[Addr.add_lit,hWc,hW1,World.cell?_setCells_out b _ _ _ _ (fun h _=>absurd h hvb)];exact hvs j v hj)
   (fun j hj=>by rw[hWc,X9];exact hsp1 _ (by omega)) (fun j hj=>by rw[hWf,hW1,World.frozen?_setCells,X9];exact hfz _ (by omega)) h1v
 rw[<-hW1] at hcp1
 go_enter func223,ntmps223
 go_wp2_with (simp only[hov])
 go_region_law_o (refine step_copy_runI rfl _ _ 79 79 rfl _ _ (by simp[Act.eval,Act.put]) (by simp[Act.eval,Act.put]) (hcp1 _ _ _) ?_)
 go_wp2_with (at_builtin;refine wpList_copy_runI _ rfl _ _ 79 79 rfl _ _ rfl rfl (hcp2 _ (fun _=>rfl) (fun _=>rfl) _ _) ?_)
 go_ret
 first | exact⟨rfl,rfl⟩ | exact⟨rfl,by rw[hW1]⟩
end
noncomputable section
open Go.RowKit Go.Shelf Go.Lib Go.Gv
set_option maxRecDepth 100000
set_option maxHeartbeats 4000000
theorem aSQ(b off n c vb:Nat)(vs:List Value)(w:World)(hroom:n+1<=c)(hc63:c<=9223372036854775807)(hvl:vs.length=3)
  (hsp:∀j,j<c*3->(w.cell? ⟨b,off+j,none⟩).isSome=true) (hfz:∀j,j<c*3->w.frozen? ⟨b,off+j,none⟩=false) (hvs:bB w vb 0 vs) (h1v:∀v∈vs,v.oneCell'=true) :
  Calls prog 223 #[.slice (some ⟨b,off,none⟩) n c,.int .i64 n,.slice (some ⟨vb,0,none⟩) 1 1] w fun e w'=>
   e=.returned (.slice (some ⟨b,off,none⟩) (n+1) c)/\w'=w.setCells b (off+n*3) vs:=by
 have u0:=run_underlying underlying79;have mixed:=aH;obtain⟨i0,hi0,hz0,hzs,hzb⟩:=wT;have hsrc:Src prog i0.size 79 (.slice (some ⟨vb,0,none⟩) 1 1) 1 vs w:=by rw[hzs];exact Src.ofSlice w underlying79 ⟨vb,0,none⟩ 1 1 vs (by omega) (fun j u hj=>by rw[Addr.add_lit];exact hvs j u hj) h1v
 have hrun:=run_append_room_src w 79 79 79 127 i0 underlying79 hi0 b off n c (.slice (some ⟨vb,0,none⟩) 1 1) 1 vs hsrc hroom (by rw[hzs,hvl];exact fun j hj=>by rw[X9];exact hsp _ (by omega)) (by rw[hzs,hvl];exact fun j hj=>by rw[X9];exact hfz _ (by omega));rw[hzs] at hrun
 go_enter func223,ntmps223
 go_wp2_with (at_builtin;refine Lib.wpList_append_run _ rfl _ _ _ _ rfl _ _ rfl rfl _ _ hrun ?_)
 go_ret
 exact⟨rfl,rfl⟩
theorem aXE(base:Option Addr)(n c vb:Nat)(cs vs:List Value)(w:World)(hnc:n<=c)(hroom:c<n+1)(hbig:n+1<=1073741824)(hcl:cs.length=n*3)(hvl:vs.length=3)(hnil:base=none->n=0)
  (hcs:∀a,base=some a->∀j v,cs[j]?=some v->w.cell? (a.add j)=some v) (hvs:bB w vb 0 vs) (h1v:∀v∈vs,v.oneCell'=true) :
  Calls prog 223 #[.slice base n c,.int .i64 n,.slice (some ⟨vb,0,none⟩) 1 1] w fun e w'=>
   e=.returned (.slice (some ⟨w.heap.size,0,none⟩) (n+1) (grownCap w (n+1) c 127)) /\
   w'=w.drew.alloc (.cells ((cs++vs).toArray++Builtin.zeroCells (.agg #[.int .i64 0,.bool false,.int .i64 0]:Value).cells (grownCap w (n+1) c 127 - (n+1))) 127):=by
 have u0:=run_underlying underlying79;have mixed:=aH;obtain⟨i0,hi0,hz0,hzs,hzb⟩:=wT;have hsrc:Src prog i0.size 79 (.slice (some ⟨vb,0,none⟩) 1 1) 1 vs w:=by rw[hzs];exact Src.ofSlice w underlying79 ⟨vb,0,none⟩ 1 1 vs (by omega) (fun j u hj=>by rw[Addr.add_lit];exact hvs j u hj) h1v
 have hold:(Builtin.firstCells i0.size n (.slice base n c)).run prog w.drew=.ok cs.toArray w.drew:=by
  rw[hzs];cases base with
  | none =>
   have h0:=hnil rfl;subst h0;rw[List.length_eq_zero_iff.1 (by omega:cs.length=0)];exact run_firstCells_none w.drew 3 0 0 c
  | some a=>exact run_firstCells_some w.drew 3 n a n c cs hcl (fun j v hj=>hcs a rfl j v hj)
 have hfit:Builtin.nextslicecap (n+1) c*i0.bytes<=281474976710656:=growslice_fits hroom (tN (Nat.mul_le_mul hbig hzb) (by decide));have hrun:=run_append_grow_src w 79 79 79 127 i0 _ underlying79 hi0 hz0 base n c cs hold _ 1 vs hsrc hroom (by omega) hfit
 go_enter func223,ntmps223
 cases base with
 | none =>
  have h0:=hnil rfl;subst h0
  go_wp2_with (at_builtin;refine Lib.wpList_append_run _ rfl _ _ _ _ rfl _ _ rfl rfl _ _ hrun ?_)
  go_ret
  exact⟨rfl,rfl⟩
 | some a =>
  obtain⟨ab,ao,asp⟩:=a
  go_wp2_with (at_builtin;refine Lib.wpList_append_run _ rfl _ _ _ _ rfl _ _ rfl rfl _ _ hrun ?_)
  all_goals (go_ret;exact⟨rfl,rfl⟩)
theorem aSR(b off n c i vb:Nat)(cs vs:List Value)(w:World)(hi:i<n)(hnc:n<=c)(hroom:c<n+1)(hbig:n+1<=1073741824)(hcl:cs.length=n*3)(hvl:vs.length=3)
  (hcs:bB w b off cs) (hvs:bB w vb 0 vs) (h1c:∀v∈cs,v.oneCell'=true) (h1v:∀v∈vs,v.oneCell'=true) :
  Calls prog 223 #[.slice (some ⟨b,off,none⟩) n c,.int .i64 i,.slice (some ⟨vb,0,none⟩) 1 1] w fun e w'=>
   e=.returned (.slice (some ⟨w.heap.size,0,none⟩) (n+1) (grownCap w (n+1) c 127)) /\
   w'=(((w.alloc (.cells ((cs.take (i*3)).toArray++Builtin.zeroCells (.agg #[.int .i64 0,.bool false,.int .i64 0]:Value).cells (n+1 - i)++Builtin.zeroCells (.agg #[.int .i64 0,.bool false,.int .i64 0]:Value).cells (grownCap w (n+1) c 127 - (n+1))) 127)).drew.setCells w.heap.size (i*3) vs).drew).setCells w.heap.size ((i+1)*3) (cs.drop (i*3)):=by
 have u0:=run_underlying underlying79;have u3:=run_underlying underlying3;have mixed:=aH;obtain⟨i0,hi0,hz0,hzs,hzb⟩:=wT;have hz2:¬((i:Int)=(n:Int)):=by omega
 have hz3:(c:Int)<(n:Int)+1:=by omega
 have hsz:(prog.info? 127).map (·.size)=some 3:=by rw[hi0];simp[hzs]
 have hbw:b<w.heap.size:=block_lt_of_cell (hcs 0 _ (kG (by omega)));have hvw:vb<w.heap.size:=block_lt_of_cell (hvs 0 _ (kG (by omega)));have hkk:(n:Int)+1 - (i:Int)=((n+1 - i:Nat):Int):=by omega
 have hik:i+(n+1 - i)=n+1:=by omega
 have htl:(cs.take (i*3)).length=i*3:=by rw[Z5];omega
 have hold:(Builtin.firstCells i0.size i (.slice (some ⟨b,off,none⟩) i c)).run prog w.drew=.ok (cs.take (i*3)).toArray w.drew:=by
  rw[hzs];exact run_firstCells_some w.drew 3 i ⟨b,off,none⟩ i c (cs.take (i*3)) htl (fun j v hj=>by
   rw[Addr.add_lit];rw[aDU] at hj;split at hj
   ·exact hcs j v hj
   ·cases hj)
 have hfit:Builtin.nextslicecap (n+1) c*i0.bytes<=281474976710656:=growslice_fits hroom (tN (Nat.mul_le_mul hbig hzb) (by decide));have hrz:∀ty,(Builtin.append_ #[79,3] ty #[.slice (some ⟨b,off,none⟩) i c,.int .i64 ((n:Int)+1 - (i:Int))]).run prog w =
   .ok (.slice (some ⟨w.heap.size,0,none⟩) (n+1) (grownCap w (n+1) c 127)) (w.drew.alloc (.cells ((cs.take (i*3)).toArray++Builtin.zeroCells (.agg #[.int .i64 0,.bool false,.int .i64 0]:Value).cells (n+1 - i)++Builtin.zeroCells (.agg #[.int .i64 0,.bool false,.int .i64 0]:Value).cells (grownCap w (n+1) c 127 - (n+1))) 127)):=fun ty=>by
  have h:=Lib.run_append_grow_zeros w 79 3 ty 127 i0 _ .i64 .i64 underlying79 underlying3 hi0 hz0 (some ⟨b,off,none⟩) i c (cs.take (i*3)) hold (n+1 - i) (by omega) (by omega) (by omega) (by omega) (tN (Nat.mul_le_mul (show n+1 - i<=1073741824 by omega) hzb) (by decide)) (by rw[hik];exact hfit);rw[hik] at h;rw[hkk];exact h
 obtain⟨G,hG⟩:∃G,G=grownCap w (n+1) c 127:=⟨_,rfl⟩;obtain⟨ROW,hROW⟩:∃ROW:Array Value,ROW=(cs.take (i*3)).toArray++Builtin.zeroCells (.agg #[.int .i64 0,.bool false,.int .i64 0]:Value).cells (n+1 - i)++Builtin.zeroCells (.agg #[.int .i64 0,.bool false,.int .i64 0]:Value).cells (G - (n+1)):=⟨_,rfl⟩;rw[<-hG] at hrz ⊢;rw[<-hROW] at hrz ⊢;have hRl:(n+1)*3<=ROW.size:=by rw[hROW];simp only[Array.size_append,List.size_toArray,htl,size_zeroCells];have:(.agg #[.int .i64 0,.bool false,.int .i64 0]:Value).cells.size=3:=rfl;rw[this];omega
 obtain⟨W1,hW1⟩:∃W1,W1=w.drew.alloc (.cells ROW 127):=⟨_,rfl⟩;rw[<-hW1] at hrz;have hN:∀j,j<(n+1)*3->(W1.cell? ⟨w.heap.size,j,none⟩).isSome=true:=fun j hj=>by rw[hW1,World.cell?_alloc_at (w:=w.drew) ROW _ w.heap.size j rfl,Array.getElem?_eq_getElem (by omega)];rfl
 have hNf:∀j,W1.frozen? ⟨w.heap.size,j,none⟩=false:=fun j=>by rw[hW1];exact World.frozen?_alloc_at (w:=w.drew) ROW _ w.heap.size j rfl
 have hOb:∀j v,w.cell? ⟨b,j,none⟩=some v->W1.cell? ⟨b,j,none⟩=some v:=fun j v h=>by rw[hW1,World.cell?_alloc_past (w:=w.drew) _ b j hbw];exact h
 have hOv:∀j v,w.cell? ⟨vb,j,none⟩=some v->W1.cell? ⟨vb,j,none⟩=some v:=fun j v h=>by rw[hW1,World.cell?_alloc_past (w:=w.drew) _ vb j hvw];exact h
 have hcpA:∀(W:World),(∀x,W.cell? x=W1.cell? x)->(∀x,W.frozen? x=W1.frozen? x)->∀ty dc,(Builtin.copy_ #[79,79] ty #[.slice (some ⟨w.heap.size,i*3,none⟩) (n+1 - i) dc,.slice (some ⟨vb,0,none⟩) 1 1]).run prog W=.ok (goInt 1) (W.setCells w.heap.size (i*3) vs):=fun W hWc hWf ty dc=>
  RQ W _ _ ty 127 3 w.heap.size (i*3) (n+1 - i) dc ⟨vb,0,none⟩ 1 1 1 vs underlying79 hsz (by simp only[Nat.min_def];split<;>omega) (by rw[hvl])
   (fun j v hj=>by rw[Addr.add_lit,hWc];exact hOv _ v (hvs j v hj))
   (fun j hj=>by rw[hWc];exact hN _ (by omega)) (fun j hj=>by rw[hWf];exact hNf _) h1v
 have hGn:n+1<=G:=by rw[hG];exact grownCap_ge w _ _ _
 have hG63:G<=9223372036854775807:=by have:=grownCap_le_maxLen w (n+1) c 127 (by unfold maxLen;omega);rw[<-hG] at this;unfold maxLen at this;omega
 have hGi:¬(G=i):=by omega
 have hGim:¬(G=i+1):=by omega
 have hci:¬(c=i):=by omega
 have hbN:b≠w.heap.size:=by omega
 have hdl:(cs.drop (i*3)).length=(n - i)*3:=by rw[X8,hcl];omega
 have hcpB:∀(W:World),(∀x,W.cell? x=(W1.setCells w.heap.size (i*3) vs).cell? x)->(∀x,W.frozen? x=(W1.setCells w.heap.size (i*3) vs).frozen? x)->∀ty dc sc,(Builtin.copy_ #[79,79] ty #[.slice (some ⟨w.heap.size,(i+1)*3,none⟩) (n - i) dc,.slice (some ⟨b,off+i*3,none⟩) (n - i) sc]).run prog W=.ok (goInt (n - i:Nat)) (W.setCells w.heap.size ((i+1)*3) (cs.drop (i*3))):=fun W hWc hWf ty dc sc=>
  RQ W _ _ ty 127 3 w.heap.size ((i+1)*3) (n - i) dc ⟨b,off+i*3,none⟩ (n - i) sc (n - i) (cs.drop (i*3)) underlying79 hsz (by simp only[Nat.min_def];split<;>omega) hdl
   (fun j v hj=>by
    rw[Addr.add_lit,hWc,World.cell?_setCells_out _ _ _ _ _ (fun h _=>absurd h hbN),X9];exact hOb _ v (hcs (i*3+j) v (by rwa [List.getElem?_drop] at hj)))
   (fun j hj=>by rw[hWc];exact isSome_setCells _ _ _ _ (fun t ht=>hN _ (by omega)) _ (hN _ (by omega)))
   (fun j hj=>by rw[hWf,World.frozen?_setCells];exact hNf _) (fun v hv=>h1c v (Z6 hv))
 subst hW1;have hE1:∀x,((w.alloc (.cells ROW 127)).drew).cell? x=(w.drew.alloc (.cells ROW 127)).cell? x:=fun x=>rfl;have hE2:∀x,((w.alloc (.cells ROW 127)).drew).frozen? x=(w.drew.alloc (.cells ROW 127)).frozen? x:=fun x=>rfl;have hF1:∀x,(((w.alloc (.cells ROW 127)).drew.setCells w.heap.size (i*3) vs).drew).cell? x=((w.drew.alloc (.cells ROW 127)).setCells w.heap.size (i*3) vs).cell? x:=fun x=>rfl;have hF2:∀x,(((w.alloc (.cells ROW 127)).drew.setCells w.heap.size (i*3) vs).drew).frozen? x=((w.drew.alloc (.cells ROW 127)).setCells w.heap.size (i*3) vs).frozen? x:=fun x=>rfl;have hw1:IntKind.i64.wrap ((i:Int)+1)=(i:Int)+1:=by rw[IntKind.wrap_i64];omega
 have hw2:IntKind.i64.wrap ((n:Int)+1)=(n:Int)+1:=by rw[IntKind.wrap_i64];omega
 have hw3:IntKind.i64.wrap ((n:Int)+1 - (i:Int))=(n:Int)+1 - (i:Int):=by rw[IntKind.wrap_i64];omega
 have hb1:(0:Int)<=(i:Int)+1:=by omega
 have hin:i<=n:=by omega
 have htn:((i:Int)+1).toNat=i+1:=by omega
 have hb3:(i:Int)<=(n:Int):=by omega
 clear hkk hik hold hROW hG hRl htl
 go_enter func223,ntmps223
 go_wp2_with (first
  | (at_builtin;refine Lib.wpList_append_run _ rfl _ _ _ _ rfl _ _ rfl rfl _ _ (hrz _) ?_)
  | (at_builtin;refine wpList_copy_runI _ rfl _ _ 79 79 rfl _ _ rfl rfl (hcpA _ hE1 hE2 _ _) ?_)
  | (at_builtin;refine wpList_copy_runI _ rfl _ _ 79 79 rfl _ _ rfl rfl (hcpB _ (fun _=>rfl) (fun _=>rfl) _ _ _) ?_))
 go_region_law_o (refine step_copy_runI rfl _ _ 79 79 rfl (.slice (some ⟨w.heap.size,(i+1)*3,none⟩) (n - i) (G - (i+1))) (.slice (some ⟨b,off+i*3,none⟩) (n - i) (c - i)) (by simp[Act.eval,Act.put]) (by simp[Act.eval,Act.put]) (hcpB _ hF1 hF2 3 (G - (i+1)) (c - i)) ?_)
 go_wp2
 go_ret
 exact⟨rfl,rfl⟩
end
end Go.Proofs.YtgijbgopcmohhaaGreat
end
