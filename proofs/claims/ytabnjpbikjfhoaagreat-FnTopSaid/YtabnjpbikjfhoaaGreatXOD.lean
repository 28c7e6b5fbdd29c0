import Derived.Test.YtabnjpbikjfhoaaGreatXOC
import Derived.Test.YtabnjpbikjfhoaaGreatProg
set_option linter.unusedVariables false
set_option linter.unusedSimpArgs false
set_option linter.unusedSectionVars false
set_option linter.constructorNameAsVariable false
set_option linter.unnecessarySimpa false
noncomputable section
set_option maxHeartbeats 4000000
set_option maxRecDepth 100000
namespace Go.Proofs.YtabnjpbikjfhoaaGreat
open Go.Gv Tryz
theorem aV:XH prog 3 1 (.int .i64 0):=IU (b:=8) (by kernel_rfl) rfl
theorem pC:XH prog 122 1 (.agg #[.slice none 0 0]):=IU (b:=24) (by kernel_rfl) rfl
theorem eU:XH prog 87 4 (.agg #[.int .i64 0,.int .i64 0,.int .i64 0,.int .i64 0]):=IU (b:=32) (by kernel_rfl) rfl
theorem dZ:XH prog 148 1 (.agg #[.slice none 0 0]):=IU (b:=24) (by kernel_rfl) rfl
theorem NG:XH prog 100 4 (.agg #[.bool false,.int .i64 0,.bool false,.int .i64 0]):=IU (b:=32) (by kernel_rfl) rfl
theorem IK:XH prog 152 1 (.agg #[.slice none 0 0]):=IU (b:=24) (by kernel_rfl) rfl
theorem hO:XH prog 91 21 (.agg #[.bool false,.int .i64 0,.int .i64 0,.int .i64 0,.int .i64 0,.int .i64 0,.int .i64 0,.int .i64 0,.int .i64 0,.int .i64 0,.int .i64 0,.int .i64 0,.int .i64 0,.int .i64 0,.int .i64 0,.int .i64 0,.bool false,.int .i64 0,.int .i64 0,.int .i64 0,.int .i64 0]):=IU (b:=168) (by kernel_rfl) rfl
theorem CJ:XH prog 97 2 (.agg #[.int .i64 0,.int .i64 0]):=IU (b:=16) (by kernel_rfl) rfl
theorem Q3:XH prog 50 7 (.agg #[.int .i64 0,.int .i64 0,.int .i64 0,.int .i64 0,.int .i64 0,.int .i64 0,.int .i64 0]):=IU (b:=56) (by kernel_rfl) rfl
theorem aPZ:XH prog 32 1 (.slice none 0 0):=IU (b:=24) (by kernel_rfl) rfl
theorem aTD:XH prog 5 1 (.int .u8 0):=IU (b:=1) (by kernel_rfl) rfl
theorem UB:XH prog 108 2 (.agg #[.int .i64 0,.int .i64 0]):=IU (b:=16) (by kernel_rfl) rfl
theorem aP:prog.follows .mixedOrders=true:=by kernel_rfl
theorem aBW(D:Nat)(d d':pQ)(w:World):(Op.eqFields (D+2) #[.bool (d.On),.int .i64 (d.aJ),.bool (d.dB),.int .i64 (d.Seen)] #[.bool (d'.On),.int .i64 (d'.aJ),.bool (d'.dB),.int .i64 (d'.Seen)] (match prog.underlying 100 with | some (.struct fs)=>fs | _=>#[]).toList).run prog w=.ok (decide (d=d')) w:=by
 rw [underlying100]
 have h:(d.On == d'.On && (d.aJ == d'.aJ && (d.dB == d'.dB && (d.Seen == d'.Seen && true))))=decide (d=d'):=by
  cases d;cases d';rw [OR];simp
 rw [<-h]
 exact fZ _ _ _ _ _ rfl (gY isAgg4 rfl) (gY isAgg4 rfl) (aD5 underlying4)<|
  fZ _ _ _ _ _ rfl (gY isAgg3 rfl) (gY isAgg3 rfl) (pH underlying3)<|
  fZ _ _ _ _ _ rfl (gY isAgg4 rfl) (gY isAgg4 rfl) (aD5 underlying4)<|
  fZ _ _ _ _ _ rfl (gY isAgg3 rfl) (gY isAgg3 rfl) (pH underlying3)<|
  aD4 _ _ _
theorem aP0(D:Nat)(d d':dY)(w:World):(Op.eqFields (D+2) #[.int .i64 (d.Kind),.int .i64 (d.Cell),.int .i64 (d.iI),.int .i64 (d.dQ)] #[.int .i64 (d'.Kind),.int .i64 (d'.Cell),.int .i64 (d'.iI),.int .i64 (d'.dQ)] (match prog.underlying 87 with | some (.struct fs)=>fs | _=>#[]).toList).run prog w=.ok (decide (d=d')) w:=by
 rw [underlying87]
 have h:(d.Kind == d'.Kind && (d.Cell == d'.Cell && (d.iI == d'.iI && (d.dQ == d'.dQ && true))))=decide (d=d'):=by
  cases d;cases d';rw [OR];simp
 rw [<-h]
 exact fZ _ _ _ _ _ rfl (gY isAgg3 rfl) (gY isAgg3 rfl) (pH underlying3)<|
  fZ _ _ _ _ _ rfl (gY isAgg3 rfl) (gY isAgg3 rfl) (pH underlying3)<|
  fZ _ _ _ _ _ rfl (gY isAgg3 rfl) (gY isAgg3 rfl) (pH underlying3)<|
  fZ _ _ _ _ _ rfl (gY isAgg3 rfl) (gY isAgg3 rfl) (pH underlying3)<|
  aD4 _ _ _
theorem aP1(D:Nat)(d d':Sub)(w:World):(Op.eqFields (D+2) #[.int .i64 (d.Kind),.int .i64 (d.A),.int .i64 (d.Pc),.int .i64 (d.E),.int .i64 (d.Row),.int .i64 (d.B),.int .i64 (d.H),.int .i64 (d.Out),.int .i64 (d.Code),.bool (d.cZ)] #[.int .i64 (d'.Kind),.int .i64 (d'.A),.int .i64 (d'.Pc),.int .i64 (d'.E),.int .i64 (d'.Row),.int .i64 (d'.B),.int .i64 (d'.H),.int .i64 (d'.Out),.int .i64 (d'.Code),.bool (d'.cZ)] (match prog.underlying 89 with | some (.struct fs)=>fs | _=>#[]).toList).run prog w=.ok (decide (d=d')) w:=by
 rw [underlying89]
 have h:(d.Kind == d'.Kind && (d.A == d'.A && (d.Pc == d'.Pc && (d.E == d'.E && (d.Row == d'.Row && (d.B == d'.B && (d.H == d'.H && (d.Out == d'.Out && (d.Code == d'.Code && (d.cZ == d'.cZ && true))))))))))=decide (d=d'):=by
  cases d;cases d';rw [OR];simp
 rw [<-h]
 exact fZ _ _ _ _ _ rfl (gY isAgg3 rfl) (gY isAgg3 rfl) (pH underlying3)<|
  fZ _ _ _ _ _ rfl (gY isAgg3 rfl) (gY isAgg3 rfl) (pH underlying3)<|
  fZ _ _ _ _ _ rfl (gY isAgg3 rfl) (gY isAgg3 rfl) (pH underlying3)<|
  fZ _ _ _ _ _ rfl (gY isAgg3 rfl) (gY isAgg3 rfl) (pH underlying3)<|
  fZ _ _ _ _ _ rfl (gY isAgg3 rfl) (gY isAgg3 rfl) (pH underlying3)<|
  fZ _ _ _ _ _ rfl (gY isAgg3 rfl) (gY isAgg3 rfl) (pH underlying3)<|
  fZ _ _ _ _ _ rfl (gY isAgg3 rfl) (gY isAgg3 rfl) (pH underlying3)<|
  fZ _ _ _ _ _ rfl (gY isAgg3 rfl) (gY isAgg3 rfl) (pH underlying3)<|
  fZ _ _ _ _ _ rfl (gY isAgg3 rfl) (gY isAgg3 rfl) (pH underlying3)<|
  fZ _ _ _ _ _ rfl (gY isAgg4 rfl) (gY isAgg4 rfl) (aD5 underlying4)<|
  aD4 _ _ _
theorem aGA(D:Nat)(d d':bE)(w:World):(Op.eqFields (D+3) #[.bool (d.eT),.int .i64 (d.Op.Kind),.int .i64 (d.Op.Cell),.int .i64 (d.Op.iI),.int .i64 (d.Op.dQ),.int .i64 (d.aI),.int .i64 (d.Pc),.int .i64 (d.Sub.Kind),.int .i64 (d.Sub.A),.int .i64 (d.Sub.Pc),.int .i64 (d.Sub.E),.int .i64 (d.Sub.Row),.int .i64 (d.Sub.B),.int .i64 (d.Sub.H),.int .i64 (d.Sub.Out),.int .i64 (d.Sub.Code),.bool (d.Sub.cZ),.int .i64 (d.H),.int .i64 (d.Old),.int .i64 (d.dQ),.int .i64 (d.Code)] #[.bool (d'.eT),.int .i64 (d'.Op.Kind),.int .i64 (d'.Op.Cell),.int .i64 (d'.Op.iI),.int .i64 (d'.Op.dQ),.int .i64 (d'.aI),.int .i64 (d'.Pc),.int .i64 (d'.Sub.Kind),.int .i64 (d'.Sub.A),.int .i64 (d'.Sub.Pc),.int .i64 (d'.Sub.E),.int .i64 (d'.Sub.Row),.int .i64 (d'.Sub.B),.int .i64 (d'.Sub.H),.int .i64 (d'.Sub.Out),.int .i64 (d'.Sub.Code),.bool (d'.Sub.cZ),.int .i64 (d'.H),.int .i64 (d'.Old),.int .i64 (d'.dQ),.int .i64 (d'.Code)] (match prog.underlying 91 with | some (.struct fs)=>fs | _=>#[]).toList).run prog w=.ok (decide (d=d')) w:=by
 rw [underlying91]
 have h:(d.eT == d'.eT && (decide (d.Op=d'.Op) && (d.aI == d'.aI && (d.Pc == d'.Pc && (decide (d.Sub=d'.Sub) && (d.H == d'.H && (d.Old == d'.Old && (d.dQ == d'.dQ && (d.Code == d'.Code && true)))))))))=decide (d=d'):=by
  cases d;cases d';rw [OR];simp
 rw [<-h]
 exact fZ _ _ _ _ _ rfl (gY isAgg4 rfl) (gY isAgg4 rfl) (aD5 underlying4)<|
  fZ _ _ _ _ _ rfl (aQ6 (vs:=#[.int .i64 (d.Op.Kind),.int .i64 (d.Op.Cell),.int .i64 (d.Op.iI),.int .i64 (d.Op.dQ)]) isAgg87 sizeOf87 rfl) (aQ6 (vs:=#[.int .i64 (d'.Op.Kind),.int .i64 (d'.Op.Cell),.int .i64 (d'.Op.iI),.int .i64 (d'.Op.dQ)]) isAgg87 sizeOf87 rfl) (aJO stoodInHeld87 underlying87 (aP0 D _ _ w))<|
  fZ _ _ _ _ _ rfl (gY isAgg3 rfl) (gY isAgg3 rfl) (pH underlying3)<|
  fZ _ _ _ _ _ rfl (gY isAgg3 rfl) (gY isAgg3 rfl) (pH underlying3)<|
  fZ _ _ _ _ _ rfl (aQ6 (vs:=#[.int .i64 (d.Sub.Kind),.int .i64 (d.Sub.A),.int .i64 (d.Sub.Pc),.int .i64 (d.Sub.E),.int .i64 (d.Sub.Row),.int .i64 (d.Sub.B),.int .i64 (d.Sub.H),.int .i64 (d.Sub.Out),.int .i64 (d.Sub.Code),.bool (d.Sub.cZ)]) isAgg89 sizeOf89 rfl) (aQ6 (vs:=#[.int .i64 (d'.Sub.Kind),.int .i64 (d'.Sub.A),.int .i64 (d'.Sub.Pc),.int .i64 (d'.Sub.E),.int .i64 (d'.Sub.Row),.int .i64 (d'.Sub.B),.int .i64 (d'.Sub.H),.int .i64 (d'.Sub.Out),.int .i64 (d'.Sub.Code),.bool (d'.Sub.cZ)]) isAgg89 sizeOf89 rfl) (aJO stoodInHeld89 underlying89 (aP1 D _ _ w))<|
  fZ _ _ _ _ _ rfl (gY isAgg3 rfl) (gY isAgg3 rfl) (pH underlying3)<|
  fZ _ _ _ _ _ rfl (gY isAgg3 rfl) (gY isAgg3 rfl) (pH underlying3)<|
  fZ _ _ _ _ _ rfl (gY isAgg3 rfl) (gY isAgg3 rfl) (pH underlying3)<|
  fZ _ _ _ _ _ rfl (gY isAgg3 rfl) (gY isAgg3 rfl) (pH underlying3)<|
  aD4 _ _ _
set_option maxRecDepth 100000 in
theorem PI{w0:World}{n:Int}(hn:0<=n/\n<=1073741824) :
  Calls prog 340 #[.slice none 0 0,.int .i64 n] w0 (Ret fun v w'=>∃s0_0:Value,v=s0_0/\St (cL w0) w' [gI [s0_0] ([]:List Raw)] []):=by
 have hS:St (cL w0) w0 [] []:=St.enter (by intro f hf;cases hf)
 have hw:aY (n - aY (0 - 0))=n:=by
  rw [K2 (x:=0 - 0) (by omega),K2 (by omega)];omega
 refine aVA (args:=[_,_]) func340 rfl ntmps340 rfl ?_
 intro a hA
 refine bV ?_
 refine cH hA ?_
 clear hA
 refine fY (F9 rfl rfl) (bY rfl) rfl rfl ?_
 refine bI ?_
 intro a hA
 refine bV ?_
 refine bV ?_
 refine cH hA ?_
 clear hA
 refine fY (oJ rfl rfl) (bY rfl) rfl rfl ?_
 refine fY (IT rfl rfl rfl) (bY rfl) rfl rfl ?_
 refine bI ?_
 intro a hA
 refine mE hA rfl (fun hc=>?_) (fun hc=>?_)
 ·exfalso;simp at hc;omega
 refine pU ?_
 refine bV ?_
 refine bV ?_
 refine cH hA ?_
 clear hA
 refine fY (oJ rfl rfl) (bY rfl) rfl rfl ?_
 refine fY (oJ rfl rfl) (bY rfl) rfl rfl ?_
 refine fY (aJT underlying32 rfl rfl) (bY rfl) rfl rfl ?_
 refine fY (oJ rfl rfl) (bY rfl) rfl rfl ?_
 refine fY (pW (aVE (α:=Raw) (S:=F0)) underlying32 rfl rfl) (bY rfl) rfl rfl ?_
 refine fY (aO9 rfl rfl rfl) (bY rfl) rfl rfl ?_
 refine fY (aO9 rfl rfl rfl) (bY rfl) rfl rfl ?_
 refine fY (F9 rfl rfl) (bY rfl) rfl rfl ?_
 refine bI ?_
 intro a hA
 refine bV ?_
 refine cH hA ?_
 clear hA
 refine fY (oJ rfl rfl) (bY rfl) rfl rfl ?_
 refine fY (aPC rfl rfl rfl) (bY rfl) rfl rfl ?_
 refine bI ?_
 intro a hA
 refine mE hA rfl (fun hc=>?_) (fun hc=>?_)
 ·have hn1:0 < n:=by
   have h2:decide (0 < aY (n - aY (0 - 0)))=true:=hc
   rw [hw] at h2;simpa using h2
  refine cH hA ?_
  clear hA
  refine fY (oJ rfl rfl) (bY rfl) rfl rfl ?_
  refine fY (oJ rfl rfl) (bY rfl) rfl rfl ?_
  refine fY (aJT underlying32 rfl rfl) (bY rfl) rfl rfl ?_
  refine fY (aRD (s:=.slice none 0 0) ⟨_,_,_,rfl⟩ underlying32 sizeOf148 rfl rfl rfl) (bY rfl) rfl rfl ?_
  refine fY (oJ rfl rfl) (bY rfl) rfl rfl ?_
  refine NM (a0A (i:=aY (n - aY (0 - 0))) hS underlying32 underlying3 dZ rfl rfl (by rw [hw];omega) rfl rfl rfl) (bY rfl) rfl rfl ?_
  clear hS
  intro s w hS
  refine fY (oJ rfl rfl) (bY rfl) rfl rfl ?_
  refine fY (pW (aVE (α:=Raw) (S:=F0)) underlying32 rfl rfl) (bY rfl) rfl rfl ?_
  refine fY (aRD (hS.aVY 0 rfl) underlying32 sizeOf148 rfl rfl rfl) (bY rfl) rfl rfl ?_
  refine fY (F9 rfl rfl) (bY rfl) rfl rfl ?_
  refine bI ?_
  intro a hA
  replace hS:=hS.a3Q (α:=Raw) 0 rfl rfl
  refine bV ?_
  refine cH hA ?_
  clear hA
  refine fY (oJ rfl rfl) (bY rfl) rfl rfl ?_
  refine fY (F9 rfl rfl) (bY rfl) rfl rfl ?_
  refine bI ?_
  intro a hA
  refine B5 ?_
  exact aZX results340 hA (aD3 rfl) ⟨_,rfl,(hS.P6 [0] rfl).weaken (R':=[]) (fun _ h=>nomatch h)⟩
 ·refine pU ?_
  replace hS:=hS.a3J (α:=Raw)
  refine bV ?_
  refine cH hA ?_
  clear hA
  refine fY (oJ rfl rfl) (bY rfl) rfl rfl ?_
  refine fY (F9 rfl rfl) (bY rfl) rfl rfl ?_
  refine bI ?_
  intro a hA
  refine B5 ?_
  exact aZX results340 hA (aD3 rfl) ⟨_,rfl,(hS.P6 [0] rfl).weaken (R':=[]) (fun _ h=>nomatch h)⟩
theorem SY{w0:World}{slices:List (List Raw)}{s1:Value}{r:(List Raw)}(h1:aK.rd (RR w0) w0 [s1] (slices:List (List Raw)))(hF:pY slices=some r) :
    Calls prog 300 #[s1] w0 (Ret fun v w'=>∃(s0_0:Value),v=s0_0/\St (cL w0) w' [gI [s0_0] (r:List Raw)] []):=by
 have hS:St (cL w0) w0 [] [CS [s1] (slices:List (List Raw))]:=St.enter (by
   intro f hf
   simp only [fA,YK,or_false] at hf
   subst hf;exact h1)
 refine CU (args:=[_]) func300 rfl ntmps300 rfl ?_
 unfold pY at hF
 intro a hA
 refine bV<|cH hA ?_
 clear hA
 refine oa rfl rfl<|bI fun a hA=>bV<|cH hA ?_
 clear hA
 refine oa rfl rfl<|bI fun a hA=>bV<|bV<|cH hA ?_
 clear hA
 refine om rfl rfl<|oy (pW (hS.rd 0 rfl) underlying275 rfl rfl) rfl<|om rfl rfl<|bI fun a hA=>?_
 obtain⟨o1,hl1,hF⟩:=uW hF
 refine GA (J:=fun a' w'=>∃(x5:Int),o1=x5/\lS 36 [(0,s1),(3,.int .i64 (x5))] a'/\St (cL w0) w' [] [CS [s1] (slices:List (List Raw))]) ?_ ?_
 ·refine l9 ?_
  refine MP (body:=gO slices) (r:=o1) (fun sg a' w'=>lS 36 [(0,s1),(3,.int .i64 (sg.1)),(9,s1),(10,.int .i64 ((slices.length:Int))),(11,.int .i64 (sg.2))] a'/\St (cL w0) w' [] [CS [s1] (slices:List (List Raw))]) ?_ hl1 ⟨hA.part ⟨rfl,rfl,rfl,rfl,rfl,trivial⟩,((hS).P6 [] rfl).xD [0] rfl⟩
  clear hA hS hl1
  rintro⟨x3,x4⟩ a w q1 ⟨hA,hS⟩ hG1 hr1
  try dsimp only at hA hS
  unfold gO at hG1
  refine bV<|cH hA ?_
  clear hA
  refine oy (IT rfl rfl rfl) rfl<|bI fun a hA=>bV<|mE hA rfl (fun hc2=>?_) (fun hc2=>?_)
  ·replace hG1:=OX hc2 hG1
   refine pU<|bV<|l9<|bV<|cH hA ?_
   clear hA
   obtain⟨x12,hx12,hG1⟩:=uW hG1
   refine oy (TF (m:=1) (hS.rd 0 rfl) rfl hx12 underlying275 sizeOf32 rfl rfl rfl) rfl ?_
   obtain⟨s8,hel,hS⟩:=hS.aM0 0 rfl (lC hx12).2.2
   refine oy (jR rfl rfl isAgg32 (aVD hel)) rfl<|oa rfl rfl<|bI fun a hA=>bV<|cH hA ?_
   clear hA
   refine om rfl rfl<|om rfl rfl<|oy (pW (hS.rd 1 rfl) underlying32 rfl rfl) rfl<|oy (NN rfl rfl rfl) rfl<|oa rfl rfl<|bI fun a hA=>bV<|cH hA ?_
   clear hA
   refine om rfl rfl<|oy (IT rfl rfl rfl) rfl<|bI fun a hA=>mE hA rfl (fun hc3=>?_) (fun hc3=>?_)
   ·replace hG1:=OX hc3 hG1
    refine cH hA ?_
    clear hA
    cases hG1
   ·replace hG1:=OY hc3 hG1
    refine pU<|cH hA ?_
    clear hA
    refine oy (NN rfl rfl rfl) rfl<|om rfl rfl<|bI fun a hA=>?_
    cases hG1
    exact⟨_,rfl,⟨hA.part ⟨rfl,rfl,rfl,rfl,rfl,trivial⟩,((hS).P6 [] rfl).xD [0] rfl⟩⟩
  ·replace hG1:=OY hc2 hG1
   refine MO<|F8 ?_
   cases hG1
   have ho:=hr1 _ rfl;subst ho
   exact⟨x3,rfl,hA.part ⟨rfl,rfl,trivial⟩,((hS).P6 [] rfl).xD [0] rfl⟩
 ·skip
  clear hA hS hl1
  rintro a w ⟨x5,heq,hA,hS⟩
  replace hF:mG slices x5=some r:=by rw [heq] at hF;exact hF
  clear heq
  unfold mG at hF
  refine bV<|cH hA ?_
  clear hA
  refine om rfl rfl ?_
  obtain⟨hn1,hF⟩:=kU hF
  refine aBQ (MS call340 rfl rfl) (bY rfl) rfl rfl (PI hn1) ?_
  rintro s2 w ⟨_,rfl,hk⟩
  replace hS:=hS.after hk;clear hk
  refine oa rfl rfl<|bI fun a hA=>bV<|bV<|cH hA ?_
  clear hA
  refine om rfl rfl<|oy (pW (hS.rd 0 rfl) underlying275 rfl rfl) rfl<|om rfl rfl<|bI fun a hA=>?_
  obtain⟨o2,hl2,hF⟩:=uW hF
  refine GA (J:=fun a' w'=>∃(x10:List Raw) (s5:Value),o2=x10/\lS 36 [(6,s5)] a'/\St (cL w0) w' [gI [s5] (x10:List Raw)] []) ?_ ?_
  ·refine l9 ?_
   refine MP (body:=iN slices) (r:=o2) (fun sg a' w'=>∃(s4:Value),lS 36 [(6,s4),(25,s1),(26,.int .i64 ((slices.length:Int))),(27,.int .i64 (sg.2))] a'/\St (cL w0) w' [gI [s4] (sg.1:List Raw)] [CS [s1] (slices:List (List Raw))]) ?_ hl2 ⟨s2,hA.part ⟨rfl,rfl,rfl,rfl,trivial⟩,((hS).P6 [0] rfl).xD [0] rfl⟩
   clear hA hS hl2
   rintro⟨x8,x9⟩ a w q2 ⟨s4,hA,hS⟩ hG2 hr2
   try dsimp only at hA hS
   unfold iN at hG2
   refine bV<|cH hA ?_
   clear hA
   refine oy (IT rfl rfl rfl) rfl<|bI fun a hA=>bV<|mE hA rfl (fun hc1=>?_) (fun hc1=>?_)
   ·replace hG2:=OX hc1 hG2
    refine pU<|bV<|l9<|bV<|cH hA ?_
    clear hA
    obtain⟨x11,hx11,hG2⟩:=uW hG2
    refine oy (TF (m:=1) (hS.rd 0 rfl) rfl hx11 underlying275 sizeOf32 rfl rfl rfl) rfl ?_
    obtain⟨s6,hel,hS⟩:=hS.aM0 0 rfl (lC hx11).2.2
    refine oy (jR rfl rfl isAgg32 (aVD hel)) rfl<|oa rfl rfl<|bI fun a hA=>cH hA ?_
    clear hA
    refine om rfl rfl<|om rfl rfl ?_
    obtain⟨hn2,hG2⟩:=kU hG2
    refine NM (aJP (α:=Raw) 0 hS rfl (hS.rd 1 rfl) rfl underlying32 dZ rfl hn2 rfl rfl rfl) (bY rfl) rfl rfl ?_
    clear hS
    rintro s7 w hS
    refine oa rfl rfl<|bI fun a hA=>cH hA ?_
    clear hA
    refine oy (NN rfl rfl rfl) rfl<|om rfl rfl<|bI fun a hA=>?_
    cases hG2
    exact⟨_,rfl,⟨s7,hA.part ⟨rfl,rfl,rfl,rfl,trivial⟩,((hS).P6 [0] rfl).xD [0] rfl⟩⟩
   ·replace hG2:=OY hc1 hG2
    refine MO<|F8 ?_
    cases hG2
    have ho:=hr2 _ rfl;subst ho
    exact⟨x8,s4,rfl,hA.part ⟨rfl,trivial⟩,((hS).P6 [0] rfl).xD [] rfl⟩
  ·skip
   clear hA hS hl2
   rintro a w ⟨x10,s5,heq,hA,hS⟩
   replace hF:rZ x10=some r:=by rw [heq] at hF;exact hF
   clear heq
   unfold rZ at hF
   refine bV<|cH hA ?_
   clear hA
   refine om rfl rfl<|oa rfl rfl<|bI fun a hA=>B5 ?_
   cases hF
   exact aZX results300 hA (aD3 rfl) ⟨s5,rfl,(hS.P6 [0] rfl).weaken (R':=[]) (fun _ h=>nomatch h)⟩
theorem N8{w0:World}{n:Int}{low:Int}{high:Int}{r:Bool}(hF:cC n low high=some r) :
    Calls prog 58 #[.int .i64 (n),.int .i64 (low),.int .i64 (high)] w0 (Ret fun v w'=>v=.bool (r)/\St (cL w0) w' [] []):=by
 have hS:St (cL w0) w0 [] []:=St.enter (by
   intro f hf;cases hf)
 refine CU (args:=[_,_,_]) func58 rfl ntmps58 rfl ?_
 unfold cC at hF
 intro a hA
 refine bV<|cH hA ?_
 clear hA
 refine oa rfl rfl<|bI fun a hA=>bV<|GA (J:=fun a' w'=>∃(x1:Bool),qM x1=some r/\lS 15 [(6,.bool (x1))] a'/\St (cL w0) w' [] []) ?_ ?_
 ·skip
  refine cH hA ?_
  clear hA
  refine om rfl rfl<|om rfl rfl<|oy (aU6 rfl rfl rfl) rfl<|om rfl rfl<|KY (s:=10) rfl (fun hc1=>?_) (fun hc1=>?_)
  ·replace hF:=OX hc1 hF
   refine fY (oJ rfl rfl) (cD rfl rfl rfl (by rw [hc1];rfl)) rfl rfl ?_
   refine fY (oJ rfl rfl) (cD rfl rfl rfl (by rw [hc1];rfl)) rfl rfl ?_
   refine fY (aPB rfl rfl rfl) (cD rfl rfl rfl (by rw [hc1];rfl)) rfl rfl ?_
   refine oy (xC rfl rfl hc1 rfl) rfl<|oa rfl rfl<|bI fun a hA=>?_
   exact⟨decide (n<=high),hF,hA.part ⟨rfl,trivial⟩,((hS).P6 [] rfl).xD [] rfl⟩
  ·replace hF:=OY hc1 hF
   refine gG (cD rfl rfl rfl (by rw [hc1];rfl)) rfl rfl ?_
   refine gG (cD rfl rfl rfl (by rw [hc1];rfl)) rfl rfl ?_
   refine gG (cD rfl rfl rfl (by rw [hc1];rfl)) rfl rfl ?_
   refine oy (CT rfl rfl hc1 rfl) rfl<|oa rfl rfl<|bI fun a hA=>?_
   exact⟨false,hF,hA.part ⟨rfl,trivial⟩,((hS).P6 [] rfl).xD [] rfl⟩
 ·skip
  clear hA hS hF
  rintro a w ⟨x1,hF,hA,hS⟩
  unfold qM at hF
  refine B5 ?_
  cases hF
  exact fy results58 hA rfl hS
theorem aIU{w0:World}{slot:Int}{r:Bool}(hF:mS slot=some r) :
    Calls prog 143 #[.int .i64 (slot)] w0 (Ret fun v w'=>v=.bool (r)/\St (cL w0) w' [] []):=by
 have hS:St (cL w0) w0 [] []:=St.enter (by
   intro f hf;cases hf)
 refine CU (args:=[_]) func143 rfl ntmps143 rfl ?_
 unfold mS at hF
 intro a hA
 refine bV<|cH hA ?_
 clear hA
 refine oa rfl rfl<|bI fun a hA=>bV<|cH hA ?_
 clear hA
 refine om rfl rfl ?_
 obtain⟨x1,hx1,hF⟩:=uW hF
 refine aBQ (MS call58 rfl rfl) (bY rfl) rfl rfl (N8 (n:=slot) (low:=0) (high:=23) hx1) ?_
 rintro _ w ⟨rfl,hk⟩
 replace hS:=hS.after hk;clear hk
 refine oa rfl rfl<|bI fun a hA=>B5 ?_
 cases hF
 exact fy results143 hA rfl hS
theorem aGB{w0:World}{l:aB}{s1:Value}{s2:Value}{r:Bool}(h1:aK.rd (RR w0) w0 [s1] (l.Global:List aR))(h2:aK.rd (RR w0) w0 [s2] (l.Own:List aR))(hF:kY l=some r) :
    Calls prog 241 #[.agg #[s1,s2]] w0 (Ret fun v w'=>v=.bool (r)/\St (cL w0) w' [] []):=by
 have hS:St (cL w0) w0 [] [CS [s1] (l.Global:List aR),CS [s2] (l.Own:List aR)]:=St.enter (by
   intro f hf
   simp only [fA,YK,or_false] at hf
   rcases hf with rfl | rfl
   · exact h1
   · exact h2)
 refine CU (args:=[_]) func241 rfl ntmps241 rfl ?_
 unfold kY at hF
 intro a hA
 refine bV<|cH hA ?_
 clear hA
 refine NM (a3F (cs:=[s1,s2]) hS rfl rfl rfl) (bY rfl) rfl rfl ?_
 clear hS
 rintro _ w ⟨b1,rfl,hS⟩
 refine oa rfl rfl<|bI fun a hA=>bV<|bV<|GA (J:=fun a' w'=>∃(x1:Bool),tB l x1=some r/\lS 61 [(1,.pointer (some ⟨b1,0,none⟩)),(17,.bool (x1))] a'/\St (cL w0) w' [FT b1 [s1,s2]] [CS [s1] (l.Global:List aR),CS [s2] (l.Own:List aR)]) ?_ ?_
 ·skip
  refine cH hA ?_
  clear hA
  refine oy (B6 (m:=0) underlying34 rfl rfl sizeOf32 rfl rfl) rfl<|oy (jR rfl rfl isAgg32 (hS.cell 0 rfl rfl)) rfl<|oy (pW (hS.rd 0 rfl) underlying32 rfl rfl) rfl<|oy (aKN rfl rfl rfl) rfl<|om rfl rfl<|KY (s:=12) rfl (fun hc8=>?_) (fun hc8=>?_)
  ·replace hF:=OX hc8 hF
   refine gG (cD rfl rfl rfl (by rw [hc8];rfl)) rfl rfl ?_
   refine gG (cD rfl rfl rfl (by rw [hc8];rfl)) rfl rfl ?_
   refine gG (cD rfl rfl rfl (by rw [hc8];rfl)) rfl rfl ?_
   refine gG (cD rfl rfl rfl (by rw [hc8];rfl)) rfl rfl ?_
   refine oy (xC rfl rfl hc8 rfl) rfl<|bI fun a hA=>?_
   exact⟨true,hF,hA.part ⟨rfl,rfl,trivial⟩,((hS).P6 [0] rfl).xD [0,1] rfl⟩
  ·replace hF:=OY hc8 hF
   refine fY (B6 (m:=0) underlying34 rfl rfl sizeOf32 rfl rfl) (cD rfl rfl rfl (by rw [hc8];rfl)) rfl rfl ?_
   refine fY (jR rfl rfl isAgg32 (hS.cell 0 rfl rfl)) (cD rfl rfl rfl (by rw [hc8];rfl)) rfl rfl ?_
   refine fY (pW (hS.rd 1 rfl) underlying32 rfl rfl) (cD rfl rfl rfl (by rw [hc8];rfl)) rfl rfl ?_
   refine fY (aKN rfl rfl rfl) (cD rfl rfl rfl (by rw [hc8];rfl)) rfl rfl ?_
   refine oy (CT rfl rfl hc8 rfl) rfl<|bI fun a hA=>?_
   exact⟨(l.Own.length:Int) != 9,hF,hA.part ⟨rfl,rfl,trivial⟩,((hS).P6 [0] rfl).xD [0,1] rfl⟩
 ·skip
  clear hA hS hF
  rintro a w ⟨x1,hF,hA,hS⟩
  unfold tB at hF
  refine mE hA rfl (fun hc1=>?_) (fun hc1=>?_)
  ·replace hF:=OX hc1 hF
   refine bV<|cH hA ?_
   clear hA
   refine oa rfl rfl<|bI fun a hA=>B5 ?_
   cases hF
   exact fy results241 hA rfl hS
  ·replace hF:=OY hc1 hF
   refine pU<|bV<|cH hA ?_
   clear hA
   refine oy (aAJ (cells:=#[.bool (false),.bool (false),.bool (false),.bool (false),.bool (false),.bool (false),.bool (false),.bool (false),.bool (false),.bool (false),.bool (false),.bool (false),.bool (false),.bool (false),.bool (false),.bool (false),.bool (false),.bool (false),.bool (false),.bool (false),.bool (false),.bool (false),.bool (false),.bool (false)]) rfl zeroValue217 underlying217 sizeOf4 rfl rfl) rfl<|NM (OW (cs:=List.map (fun q:Bool=>Value.bool q) [false,false,false,false,false,false,false,false,false,false,false,false,false,false,false,false,false,false,false,false,false,false,false,false]) hS rfl zeroValue217 rfl) (bY rfl) rfl rfl ?_
   clear hS
   rintro _ w ⟨b2,rfl,hS⟩
   refine TD (XG (vs:=[.bool (false),.bool (false),.bool (false),.bool (false),.bool (false),.bool (false),.bool (false),.bool (false),.bool (false),.bool (false),.bool (false),.bool (false),.bool (false),.bool (false),.bool (false),.bool (false),.bool (false),.bool (false),.bool (false),.bool (false),.bool (false),.bool (false),.bool (false),.bool (false)]) hS (i:=1) rfl rfl rfl rfl rfl sizeOf217 rfl rfl rfl) (bY rfl) rfl ?_
   clear hS
   intro w hS
   refine bI fun a hA=>bV<|bV<|cH hA ?_
   clear hA
   refine oy (B6 (m:=0) underlying34 rfl rfl sizeOf32 rfl rfl) rfl<|oy (jR rfl rfl isAgg32 (hS.cell 0 rfl rfl)) rfl<|oy (B6 (m:=0) underlying34 rfl rfl sizeOf32 rfl rfl) rfl<|oy (jR rfl rfl isAgg32 (hS.cell 0 rfl rfl)) rfl<|NM (aPJ hS (hS.rd 1 rfl) (hS.rd 0 rfl) underlying275 aPZ rfl rfl rfl) (bY rfl) rfl rfl ?_
   clear hS
   rintro s3 w hS
   obtain⟨hn1,hF⟩:=kU hF
   replace hS:=hS.a5F 2 rfl
   obtain⟨u1,u2,hu1,hl1,hS⟩:=hS.a0B rfl 2 1 0 rfl rfl rfl
   refine aBQ (MS call300 rfl rfl) (bY rfl) rfl rfl (SY hu1 (PB hl1 hn1)) ?_
   rintro s4 w ⟨_,rfl,hk⟩
   replace hS:=hS.after hk;clear hk
   replace hS:=hS.a5F 3 rfl
   replace hS:=hS.a5M rfl 4 3 rfl rfl
   refine oy (pW (hS.rd 5 rfl) underlying32 rfl rfl) rfl<|om rfl rfl<|bI fun a hA=>?_
   obtain⟨o1,hl2,hF⟩:=uW hF
   refine GA (J:=fun a' w'=>o1=Out.brk ()/\lS 61 [] a'/\St (cL w0) w' [] []) ?_ ?_
   ·refine l9 ?_
    refine MP (body:=lW l) (r:=o1) (fun sg a' w'=>lS 61 [(1,.pointer (some ⟨b1,0,none⟩)),(3,.pointer (some ⟨b2,0,none⟩)),(24,s4),(25,.int .i64 (((l.Own++l.Global).length:Int))),(26,.int .i64 (sg.1))] a'/\St (cL w0) w' [FT b1 [s1,s2],FT b2 (List.map (fun q:Bool=>Value.bool q) (sg.2:List Bool))] [CS [s4] (l.Own++l.Global:List aR),CS [s1] (l.Global:List aR),CS [s2] (l.Own:List aR)]) ?_ hl2 ⟨hA.part ⟨rfl,rfl,rfl,rfl,rfl,trivial⟩,((hS).P6 [0,1] rfl).xD [5,0,1] rfl⟩
    clear hA hS hl2
    rintro⟨x4,x5⟩ a w q2 ⟨hA,hS⟩ hG2 hr2
    try dsimp only at hA hS
    unfold lW at hG2
    refine bV<|cH hA ?_
    clear hA
    refine oy (IT rfl rfl rfl) rfl<|bI fun a hA=>bV<|mE hA rfl (fun hc2=>?_) (fun hc2=>?_)
    ·replace hG2:=OX hc2 hG2
     refine pU<|bV<|l9<|bV<|cH hA ?_
     clear hA
     refine om rfl rfl ?_
     obtain⟨x6,hx6,hG2⟩:=uW hG2
     refine oy (TF (m:=1) (hS.rd 0 rfl) rfl hx6 underlying32 sizeOf148 rfl rfl rfl) rfl ?_
     obtain⟨s5,hel,hS⟩:=hS.aXP 0 rfl (lC hx6).2.2
     refine oy (TE rfl rfl isAgg148 sizeOf148 rfl hel) rfl<|NM (OW (cs:=[(.slice none 0 0)]) hS rfl zeroValue148 rfl) (bY rfl) rfl rfl ?_
     clear hS
     rintro _ w ⟨b3,rfl,hS⟩
     refine oa rfl rfl<|TD (XG (vs:=[s5]) hS (i:=2) rfl rfl rfl rfl rfl sizeOf148 rfl rfl (a3K (aE1 (hS.rd 3 rfl)) rfl)) (bY rfl) rfl ?_
     clear hS
     intro w hS
     refine bI fun a hA=>bV<|bV<|GA (J:=fun a' w'=>∃(x7:Bool),lV x4 x5 x6 x7=some q2/\lS 61 [(1,.pointer (some ⟨b1,0,none⟩)),(3,.pointer (some ⟨b2,0,none⟩)),(5,.pointer (some ⟨b3,0,none⟩)),(24,s4),(25,.int .i64 (((l.Own++l.Global).length:Int))),(26,.int .i64 (x4)),(41,.bool (x7))] a'/\St (cL w0) w' [FT b1 [s1,s2],FT b2 (List.map (fun q:Bool=>Value.bool q) (x5:List Bool)),FT b3 [s5]] [CS [s4] (l.Own++l.Global:List aR),CS [s1] (l.Global:List aR),CS [s2] (l.Own:List aR),CS [s5] (x6.aT:List Int)]) ?_ ?_
     ·skip
      refine cH hA ?_
      clear hA
      refine om rfl rfl<|oy (B6 (m:=0) underlying34 rfl rfl sizeOf32 rfl rfl) rfl<|oy (jR rfl rfl isAgg32 (hS.cell 0 rfl rfl)) rfl<|oy (pW (hS.rd 2 rfl) underlying32 rfl rfl) rfl<|oy (IT rfl rfl rfl) rfl<|om rfl rfl<|KY (s:=36) rfl (fun hc7=>?_) (fun hc7=>?_)
      ·replace hG2:=OX hc7 hG2
       refine fY (B6 (m:=0) underlying148 rfl rfl sizeOf25 rfl rfl) (cD rfl rfl rfl (by rw [hc7];rfl)) rfl rfl ?_
       refine fY (jR rfl rfl isAgg25 (hS.cell 2 rfl rfl)) (cD rfl rfl rfl (by rw [hc7];rfl)) rfl rfl ?_
       refine fY (pW (hS.rd 3 rfl) underlying25 rfl rfl) (cD rfl rfl rfl (by rw [hc7];rfl)) rfl rfl ?_
       refine fY (aPC rfl rfl rfl) (cD rfl rfl rfl (by rw [hc7];rfl)) rfl rfl ?_
       refine oy (xC rfl rfl hc7 rfl) rfl<|bI fun a hA=>?_
       exact⟨decide (2 < (x6.aT.length:Int)),hG2,hA.part ⟨rfl,rfl,rfl,rfl,rfl,rfl,rfl,trivial⟩,((hS).P6 [0,1,2] rfl).xD [0,1,2,3] rfl⟩
      ·replace hG2:=OY hc7 hG2
       refine gG (cD rfl rfl rfl (by rw [hc7];rfl)) rfl rfl ?_
       refine gG (cD rfl rfl rfl (by rw [hc7];rfl)) rfl rfl ?_
       refine gG (cD rfl rfl rfl (by rw [hc7];rfl)) rfl rfl ?_
       refine gG (cD rfl rfl rfl (by rw [hc7];rfl)) rfl rfl ?_
       refine oy (CT rfl rfl hc7 rfl) rfl<|bI fun a hA=>?_
       exact⟨false,hG2,hA.part ⟨rfl,rfl,rfl,rfl,rfl,rfl,rfl,trivial⟩,((hS).P6 [0,1,2] rfl).xD [0,1,2,3] rfl⟩
     ·skip
      clear hA hS hG2
      rintro a w ⟨x7,hG2,hA,hS⟩
      unfold lV at hG2
      refine mE hA rfl (fun hc3=>?_) (fun hc3=>?_)
      ·replace hG2:=OX hc3 hG2
       refine bV<|cH hA ?_
       clear hA
       refine oa rfl rfl<|bI fun a hA=>B5 ?_
       cases hG2
       have ho:=hr2 _ rfl;subst ho
       replace hF:some false=some r:=hF
       cases hF
       exact fy results241 hA rfl hS
      ·replace hG2:=OY hc3 hG2
       refine pU<|bV<|cH hA ?_
       clear hA
       refine oy (B6 (m:=0) underlying148 rfl rfl sizeOf25 rfl rfl) rfl<|oy (jR rfl rfl isAgg25 (hS.cell 2 rfl rfl)) rfl<|oy (pW (hS.rd 3 rfl) underlying25 rfl rfl) rfl<|om rfl rfl<|bI fun a hA=>?_
       obtain⟨o2,hl3,hG2⟩:=uW hG2
       refine GA (J:=fun a' w'=>∃(x12:List Bool),o2=Out.brk x12/\lS 61 [(1,.pointer (some ⟨b1,0,none⟩)),(3,.pointer (some ⟨b2,0,none⟩)),(24,s4),(25,.int .i64 (((l.Own++l.Global).length:Int))),(26,.int .i64 (x4))] a'/\St (cL w0) w' [FT b1 [s1,s2],FT b2 (List.map (fun q:Bool=>Value.bool q) (x12:List Bool))] [CS [s4] (l.Own++l.Global:List aR),CS [s1] (l.Global:List aR),CS [s2] (l.Own:List aR)]) ?_ ?_
       ·refine l9 ?_
        refine MP (body:=lU x6) (r:=o2) (fun sg a' w'=>lS 61 [(1,.pointer (some ⟨b1,0,none⟩)),(3,.pointer (some ⟨b2,0,none⟩)),(24,s4),(25,.int .i64 (((l.Own++l.Global).length:Int))),(26,.int .i64 (x4)),(43,s5),(44,.int .i64 ((x6.aT.length:Int))),(45,.int .i64 (sg.1))] a'/\St (cL w0) w' [FT b1 [s1,s2],FT b2 (List.map (fun q:Bool=>Value.bool q) (sg.2:List Bool))] [CS [s4] (l.Own++l.Global:List aR),CS [s5] (x6.aT:List Int),CS [s1] (l.Global:List aR),CS [s2] (l.Own:List aR)]) ?_ hl3 ⟨hA.part ⟨rfl,rfl,rfl,rfl,rfl,rfl,rfl,rfl,trivial⟩,((hS).P6 [0,1] rfl).xD [0,3,1,2] rfl⟩
        clear hA hS hl3
        rintro⟨x10,x11⟩ a w q4 ⟨hA,hS⟩ hG4 hr4
        try dsimp only at hA hS
        unfold lU at hG4
        refine bV<|cH hA ?_
        clear hA
        refine oy (IT rfl rfl rfl) rfl<|bI fun a hA=>bV<|mE hA rfl (fun hc4=>?_) (fun hc4=>?_)
        ·replace hG4:=OX hc4 hG4
         refine pU<|bV<|l9<|bV<|cH hA ?_
         clear hA
         obtain⟨x13,hx13,hG4⟩:=uW hG4
         refine oy (TF (m:=1) (hS.rd 1 rfl) rfl hx13 underlying25 sizeOf3 rfl rfl rfl) rfl<|oy (jR rfl rfl isAgg3 (aVD (a3H (hS.rd 1 rfl) (lC hx13).2.2))) rfl<|oa rfl rfl<|bI fun a hA=>bV<|bV<|GA (J:=fun a' w'=>∃(x14:Bool),nR x10 x11 x13 x14=some q4/\lS 61 [(1,.pointer (some ⟨b1,0,none⟩)),(3,.pointer (some ⟨b2,0,none⟩)),(7,.int .i64 (x13)),(24,s4),(25,.int .i64 (((l.Own++l.Global).length:Int))),(26,.int .i64 (x4)),(43,s5),(44,.int .i64 ((x6.aT.length:Int))),(45,.int .i64 (x10)),(56,.bool (x14))] a'/\St (cL w0) w' [FT b1 [s1,s2],FT b2 (List.map (fun q:Bool=>Value.bool q) (x11:List Bool))] [CS [s4] (l.Own++l.Global:List aR),CS [s5] (x6.aT:List Int),CS [s1] (l.Global:List aR),CS [s2] (l.Own:List aR)]) ?_ ?_
         ·skip
          refine cH hA ?_
          clear hA
          refine om rfl rfl ?_
          obtain⟨x16,hx16,hG4⟩:=uW hG4
          refine aBQ (MS call143 rfl rfl) (bY rfl) rfl rfl (aIU (slot:=x13) hx16) ?_
          rintro _ w ⟨rfl,hk⟩
          replace hS:=hS.after hk;clear hk
          refine oy (aEU rfl rfl) rfl<|om rfl rfl<|KY (s:=52) rfl (fun hc6=>?_) (fun hc6=>?_)
          ·replace hG4:=OX hc6 hG4
           refine gG (cD rfl rfl rfl (by rw [hc6];rfl)) rfl rfl ?_
           refine gG (cD rfl rfl rfl (by rw [hc6];rfl)) rfl rfl ?_
           refine gG (cD rfl rfl rfl (by rw [hc6];rfl)) rfl rfl ?_
           refine oy (xC rfl rfl hc6 rfl) rfl<|bI fun a hA=>?_
           exact⟨true,hG4,hA.part ⟨rfl,rfl,rfl,rfl,rfl,rfl,rfl,rfl,rfl,rfl,trivial⟩,((hS).P6 [0,1] rfl).xD [0,1,2,3] rfl⟩
          ·replace hG4:=OY hc6 hG4
           refine fY (oJ rfl rfl) (cD rfl rfl rfl (by rw [hc6];rfl)) rfl rfl ?_
           obtain⟨hn3,hG4⟩:=kU hG4
           refine fY (aD7 underlying217 sizeOf4 hn3 rfl rfl rfl) (cD rfl rfl rfl (by rw [hc6];rfl)) rfl rfl ?_
           obtain⟨x17,hx17,hG4⟩:=uW hG4
           refine fY (jR rfl rfl isAgg4 (hS.aRC 1 rfl hx17)) (cD rfl rfl rfl (by rw [hc6];rfl)) rfl rfl ?_
           refine oy (CT rfl rfl hc6 rfl) rfl<|bI fun a hA=>?_
           exact⟨x17,hG4,hA.part ⟨rfl,rfl,rfl,rfl,rfl,rfl,rfl,rfl,rfl,rfl,trivial⟩,((hS).P6 [0,1] rfl).xD [0,1,2,3] rfl⟩
         ·skip
          clear hA hS hG4
          rintro a w ⟨x14,hG4,hA,hS⟩
          unfold nR at hG4
          refine mE hA rfl (fun hc5=>?_) (fun hc5=>?_)
          ·replace hG4:=OX hc5 hG4
           refine bV<|cH hA ?_
           clear hA
           refine oa rfl rfl<|bI fun a hA=>B5 ?_
           cases hG4
           have ho:=hr4 _ rfl;subst ho
           replace hG2:some (.stop (Out.ret false))=some q2:=hG2
           cases hG2
           have ho:=hr2 _ rfl;subst ho
           replace hF:some false=some r:=hF
           cases hF
           exact fy results241 hA rfl hS
          ·replace hG4:=OY hc5 hG4
           refine pU<|cH hA ?_
           clear hA
           refine om rfl rfl ?_
           obtain⟨hn2,hG4⟩:=kU hG4
           refine oy (aD7 underlying217 sizeOf4 hn2 rfl rfl rfl) rfl ?_
           obtain⟨x15,hx15,hG4⟩:=uW hG4
           refine TD (aVU (xd:=true) hS (m:=1) rfl hx15 sizeOf4 rfl rfl rfl rfl rfl rfl) (bY rfl) rfl ?_
           clear hS
           intro w hS
           refine bI fun a hA=>cH hA ?_
           clear hA
           refine oy (NN rfl rfl rfl) rfl<|om rfl rfl<|bI fun a hA=>?_
           cases hG4
           exact⟨_,rfl,⟨hA.part ⟨rfl,rfl,rfl,rfl,rfl,rfl,rfl,rfl,trivial⟩,((hS).P6 [0,1] rfl).xD [0,1,2,3] rfl⟩⟩
        ·replace hG4:=OY hc4 hG4
         refine MO<|F8 ?_
         cases hG4
         have ho:=hr4 _ rfl;subst ho
         exact⟨x11,rfl,hA.part ⟨rfl,rfl,rfl,rfl,rfl,trivial⟩,((hS).P6 [0,1] rfl).xD [0,2,3] rfl⟩
       ·skip
        clear hA hS hl3
        rintro a w ⟨x12,heq,hA,hS⟩
        replace hG2:A5 x4 x12=some q2:=by rw [heq] at hG2;exact hG2
        clear heq
        unfold A5 at hG2
        refine cH hA ?_
        clear hA
        refine oy (NN rfl rfl rfl) rfl<|om rfl rfl<|bI fun a hA=>?_
        cases hG2
        exact⟨_,rfl,⟨hA.part ⟨rfl,rfl,rfl,rfl,rfl,trivial⟩,((hS).P6 [0,1] rfl).xD [0,1,2] rfl⟩⟩
    ·replace hG2:=OY hc2 hG2
     refine MO<|F8 ?_
     cases hG2
     have ho:=hr2 _ rfl;subst ho
     exact⟨rfl,hA.part trivial,((hS).P6 [] rfl).xD [] rfl⟩
   ·skip
    clear hA hS hl2
    rintro a w ⟨heq,hA,hS⟩
    replace hF:IW=some r:=by rw [heq] at hF;exact hF
    clear heq
    unfold IW at hF
    refine bV<|cH hA ?_
    clear hA
    refine oa rfl rfl<|bI fun a hA=>B5 ?_
    cases hF
    exact fy results241 hA rfl hS
theorem aC7{w0:World}{h:Int}{r:Bool}(hF:iJ h=some r) :
    Calls prog 134 #[.int .i64 (h)] w0 (Ret fun v w'=>v=.bool (r)/\St (cL w0) w' [] []):=by
 have hS:St (cL w0) w0 [] []:=St.enter (by
   intro f hf;cases hf)
 refine CU (args:=[_]) func134 rfl ntmps134 rfl ?_
 unfold iJ at hF
 intro a hA
 refine bV<|cH hA ?_
 clear hA
 refine oa rfl rfl<|bI fun a hA=>bV<|GA (J:=fun a' w'=>∃(x1:Bool),mX x1=some r/\lS 10 [(2,.bool (x1))] a'/\St (cL w0) w' [] []) ?_ ?_
 ·skip
  refine cH hA ?_
  clear hA
  refine om rfl rfl ?_
  obtain⟨x2,hx2,hF⟩:=uW hF
  refine aBQ (MS call58 rfl rfl) (bY rfl) rfl rfl (N8 (n:=h) (low:=32) (high:=223) hx2) ?_
  rintro _ w ⟨rfl,hk⟩
  replace hS:=hS.after hk;clear hk
  refine om rfl rfl<|KY (s:=5) rfl (fun hc1=>?_) (fun hc1=>?_)
  ·replace hF:=OX hc1 hF
   refine fY (oJ rfl rfl) (cD rfl rfl rfl (by rw [hc1];rfl)) rfl rfl ?_
   refine fY (aAI rfl rfl rfl (by decide)) (cD rfl rfl rfl (by rw [hc1];rfl)) rfl rfl ?_
   refine fY (IT rfl rfl rfl) (cD rfl rfl rfl (by rw [hc1];rfl)) rfl rfl ?_
   refine oy (xC rfl rfl hc1 rfl) rfl<|oa rfl rfl<|bI fun a hA=>?_
   exact⟨decide ((Int.tmod h 32) < 24),hF,hA.part ⟨rfl,trivial⟩,((hS).P6 [] rfl).xD [] rfl⟩
  ·replace hF:=OY hc1 hF
   refine gG (cD rfl rfl rfl (by rw [hc1];rfl)) rfl rfl ?_
   refine gG (cD rfl rfl rfl (by rw [hc1];rfl)) rfl rfl ?_
   refine gG (cD rfl rfl rfl (by rw [hc1];rfl)) rfl rfl ?_
   refine oy (CT rfl rfl hc1 rfl) rfl<|oa rfl rfl<|bI fun a hA=>?_
   exact⟨false,hF,hA.part ⟨rfl,trivial⟩,((hS).P6 [] rfl).xD [] rfl⟩
 ·skip
  clear hA hS hF
  rintro a w ⟨x1,hF,hA,hS⟩
  unfold mX at hF
  refine B5 ?_
  cases hF
  exact fy results134 hA rfl hS
theorem aA2{w0:World}{l:List bC}{s1:Value}{r:Int}(h1:aK.rd (RR w0) w0 [s1] (l:List bC))(hF:vS l=some r) :
    Calls prog 245 #[s1] w0 (Ret fun v w'=>v=.int .i64 (r)/\St (cL w0) w' [] []):=by
 have hS:St (cL w0) w0 [] [CS [s1] (l:List bC)]:=St.enter (by
   intro f hf
   simp only [fA,YK,or_false] at hf
   subst hf;exact h1)
 refine CU (args:=[_]) func245 rfl ntmps245 rfl ?_
 unfold vS at hF
 intro a hA
 refine bV<|cH hA ?_
 clear hA
 refine oa rfl rfl<|bI fun a hA=>bV<|cH hA ?_
 clear hA
 refine oa rfl rfl<|bI fun a hA=>bV<|bV<|cH hA ?_
 clear hA
 refine om rfl rfl<|oy (pW (hS.rd 0 rfl) underlying40 rfl rfl) rfl<|om rfl rfl<|bI fun a hA=>?_
 obtain⟨o1,hl1,hF⟩:=uW hF
 refine GA (J:=fun a' w'=>∃(x5:Int),o1=x5/\lS 19 [(3,.int .i64 (x5))] a'/\St (cL w0) w' [] []) ?_ ?_
 ·refine l9 ?_
  refine MP (body:=jU l) (r:=o1) (fun sg a' w'=>lS 19 [(3,.int .i64 (sg.1)),(6,s1),(7,.int .i64 ((l.length:Int))),(8,.int .i64 (sg.2))] a'/\St (cL w0) w' [] [CS [s1] (l:List bC)]) ?_ hl1 ⟨hA.part ⟨rfl,rfl,rfl,rfl,trivial⟩,((hS).P6 [] rfl).xD [0] rfl⟩
  clear hA hS hl1
  rintro⟨x3,x4⟩ a w q1 ⟨hA,hS⟩ hG1 hr1
  try dsimp only at hA hS
  unfold jU at hG1
  refine bV<|cH hA ?_
  clear hA
  refine oy (IT rfl rfl rfl) rfl<|bI fun a hA=>bV<|mE hA rfl (fun hc1=>?_) (fun hc1=>?_)
  ·replace hG1:=OX hc1 hG1
   refine pU<|bV<|l9<|bV<|cH hA ?_
   clear hA
   obtain⟨x6,hx6,hG1⟩:=uW hG1
   refine oy (TF (m:=1) (hS.rd 0 rfl) rfl hx6 underlying40 sizeOf152 rfl rfl rfl) rfl ?_
   obtain⟨s2,hel,hS⟩:=hS.aN0 0 rfl (lC hx6).2.2
   refine oy (TE rfl rfl isAgg152 sizeOf152 rfl hel) rfl<|NM (OW (cs:=[(.slice none 0 0)]) hS rfl zeroValue152 rfl) (bY rfl) rfl rfl ?_
   clear hS
   rintro _ w ⟨b1,rfl,hS⟩
   refine TD (XG (vs:=[s2]) hS (i:=0) rfl rfl rfl rfl rfl sizeOf152 rfl rfl (a3K (aE1 (hS.rd 1 rfl)) rfl)) (bY rfl) rfl ?_
   clear hS
   intro w hS
   refine bI fun a hA=>cH hA ?_
   clear hA
   refine om rfl rfl<|oy (B6 (m:=0) underlying152 rfl rfl sizeOf94 rfl rfl) rfl<|oy (jR rfl rfl isAgg94 (hS.cell 0 rfl rfl)) rfl<|oy (pW (hS.rd 1 rfl) underlying94 rfl rfl) rfl<|oy (NN rfl rfl rfl) rfl<|oa rfl rfl<|bI fun a hA=>cH hA ?_
   clear hA
   refine oy (NN rfl rfl rfl) rfl<|om rfl rfl<|bI fun a hA=>?_
   cases hG1
   exact⟨_,rfl,⟨hA.part ⟨rfl,rfl,rfl,rfl,trivial⟩,((hS).P6 [] rfl).xD [0] rfl⟩⟩
  ·replace hG1:=OY hc1 hG1
   refine MO<|F8 ?_
   cases hG1
   have ho:=hr1 _ rfl;subst ho
   exact⟨x3,rfl,hA.part ⟨rfl,trivial⟩,((hS).P6 [] rfl).xD [] rfl⟩
 ·skip
  clear hA hS hl1
  rintro a w ⟨x5,heq,hA,hS⟩
  replace hF:DV x5=some r:=by rw [heq] at hF;exact hF
  clear heq
  unfold DV at hF
  refine bV<|cH hA ?_
  clear hA
  refine om rfl rfl<|oa rfl rfl<|bI fun a hA=>B5 ?_
  cases hF
  exact fy results245 hA rfl hS
theorem aGC{w0:World}{l:List bC}{s1:Value}{r:Bool}(h1:aK.rd (RR w0) w0 [s1] (l:List bC))(hF:mI l=some r) :
    Calls prog 169 #[s1] w0 (Ret fun v w'=>v=.bool (r)/\St (cL w0) w' [] []):=by
 have hS:St (cL w0) w0 [] [CS [s1] (l:List bC)]:=St.enter (by
   intro f hf
   simp only [fA,YK,or_false] at hf
   subst hf;exact h1)
 refine CU (args:=[_]) func169 rfl ntmps169 rfl ?_
 unfold mI at hF
 intro a hA
 refine bV<|cH hA ?_
 clear hA
 refine oa rfl rfl<|bI fun a hA=>bV<|bV<|cH hA ?_
 clear hA
 refine om rfl rfl<|oy (pW (hS.rd 0 rfl) underlying40 rfl rfl) rfl<|oy (aKN rfl rfl rfl) rfl<|bI fun a hA=>mE hA rfl (fun hc1=>?_) (fun hc1=>?_)
 ·replace hF:=OX hc1 hF
  refine bV<|cH hA ?_
  clear hA
  refine oa rfl rfl<|bI fun a hA=>B5 ?_
  cases hF
  exact fy results169 hA rfl hS
 ·replace hF:=OY hc1 hF
  refine pU<|bV<|cH hA ?_
  clear hA
  refine oy (aAJ (cells:=#[.bool (false),.bool (false),.bool (false),.bool (false),.bool (false),.bool (false),.bool (false),.bool (false),.bool (false),.bool (false),.bool (false),.bool (false),.bool (false),.bool (false),.bool (false),.bool (false),.bool (false),.bool (false),.bool (false),.bool (false),.bool (false),.bool (false),.bool (false),.bool (false)]) rfl zeroValue217 underlying217 sizeOf4 rfl rfl) rfl<|NM (OW (cs:=List.map (fun q:Bool=>Value.bool q) [false,false,false,false,false,false,false,false,false,false,false,false,false,false,false,false,false,false,false,false,false,false,false,false]) hS rfl zeroValue217 rfl) (bY rfl) rfl rfl ?_
  clear hS
  rintro _ w ⟨b1,rfl,hS⟩
  refine TD (XG (vs:=[.bool (false),.bool (false),.bool (false),.bool (false),.bool (false),.bool (false),.bool (false),.bool (false),.bool (false),.bool (false),.bool (false),.bool (false),.bool (false),.bool (false),.bool (false),.bool (false),.bool (false),.bool (false),.bool (false),.bool (false),.bool (false),.bool (false),.bool (false),.bool (false)]) hS (i:=0) rfl rfl rfl rfl rfl sizeOf217 rfl rfl rfl) (bY rfl) rfl ?_
  clear hS
  intro w hS
  refine bI fun a hA=>bV<|bV<|cH hA ?_
  clear hA
  refine om rfl rfl<|oy (pW (hS.rd 0 rfl) underlying40 rfl rfl) rfl<|om rfl rfl<|bI fun a hA=>?_
  obtain⟨o1,hl1,hF⟩:=uW hF
  refine GA (J:=fun a' w'=>o1=Out.brk ()/\lS 51 [(0,s1)] a'/\St (cL w0) w' [] [CS [s1] (l:List bC)]) ?_ ?_
  ·refine l9 ?_
   refine MP (body:=lY l) (r:=o1) (fun sg a' w'=>lS 51 [(0,s1),(3,.pointer (some ⟨b1,0,none⟩)),(12,s1),(13,.int .i64 ((l.length:Int))),(14,.int .i64 (sg.1))] a'/\St (cL w0) w' [FT b1 (List.map (fun q:Bool=>Value.bool q) (sg.2:List Bool))] [CS [s1] (l:List bC)]) ?_ hl1 ⟨hA.part ⟨rfl,rfl,rfl,rfl,rfl,trivial⟩,((hS).P6 [0] rfl).xD [0] rfl⟩
   clear hA hS hl1
   rintro⟨x3,x4⟩ a w q1 ⟨hA,hS⟩ hG1 hr1
   try dsimp only at hA hS
   unfold lY at hG1
   refine bV<|cH hA ?_
   clear hA
   refine oy (IT rfl rfl rfl) rfl<|bI fun a hA=>bV<|mE hA rfl (fun hc2=>?_) (fun hc2=>?_)
   ·replace hG1:=OX hc2 hG1
    refine pU<|bV<|l9<|bV<|cH hA ?_
    clear hA
    obtain⟨x6,hx6,hG1⟩:=uW hG1
    refine oy (TF (m:=1) (hS.rd 0 rfl) rfl hx6 underlying40 sizeOf152 rfl rfl rfl) rfl ?_
    obtain⟨s2,hel,hS⟩:=hS.aN0 0 rfl (lC hx6).2.2
    refine oy (TE rfl rfl isAgg152 sizeOf152 rfl hel) rfl<|NM (OW (cs:=[(.slice none 0 0)]) hS rfl zeroValue152 rfl) (bY rfl) rfl rfl ?_
    clear hS
    rintro _ w ⟨b2,rfl,hS⟩
    refine TD (XG (vs:=[s2]) hS (i:=1) rfl rfl rfl rfl rfl sizeOf152 rfl rfl (a3K (aE1 (hS.rd 1 rfl)) rfl)) (bY rfl) rfl ?_
    clear hS
    intro w hS
    refine bI fun a hA=>bV<|cH hA ?_
    clear hA
    refine oy (B6 (m:=0) underlying152 rfl rfl sizeOf94 rfl rfl) rfl<|oy (jR rfl rfl isAgg94 (hS.cell 1 rfl rfl)) rfl<|oy (pW (hS.rd 1 rfl) underlying94 rfl rfl) rfl<|om rfl rfl<|bI fun a hA=>?_
    obtain⟨o2,hl2,hG1⟩:=uW hG1
    refine GA (J:=fun a' w'=>∃(x11:List Bool),o2=Out.brk x11/\lS 51 [(0,s1),(3,.pointer (some ⟨b1,0,none⟩)),(12,s1),(13,.int .i64 ((l.length:Int))),(14,.int .i64 (x3))] a'/\St (cL w0) w' [FT b1 (List.map (fun q:Bool=>Value.bool q) (x11:List Bool))] [CS [s1] (l:List bC)]) ?_ ?_
    ·refine l9 ?_
     refine MP (body:=lX x6) (r:=o2) (fun sg a' w'=>lS 51 [(0,s1),(3,.pointer (some ⟨b1,0,none⟩)),(12,s1),(13,.int .i64 ((l.length:Int))),(14,.int .i64 (x3)),(19,s2),(20,.int .i64 ((x6.Rows.length:Int))),(21,.int .i64 (sg.1))] a'/\St (cL w0) w' [FT b1 (List.map (fun q:Bool=>Value.bool q) (sg.2:List Bool))] [CS [s1] (l:List bC),CS [s2] (x6.Rows:List dA)]) ?_ hl2 ⟨hA.part ⟨rfl,rfl,rfl,rfl,rfl,rfl,rfl,rfl,trivial⟩,((hS).P6 [0] rfl).xD [0,1] rfl⟩
     clear hA hS hl2
     rintro⟨x9,x10⟩ a w q2 ⟨hA,hS⟩ hG2 hr2
     try dsimp only at hA hS
     unfold lX at hG2
     refine bV<|cH hA ?_
     clear hA
     refine oy (IT rfl rfl rfl) rfl<|bI fun a hA=>bV<|mE hA rfl (fun hc3=>?_) (fun hc3=>?_)
     ·replace hG2:=OX hc3 hG2
      refine pU<|bV<|l9<|bV<|cH hA ?_
      clear hA
      obtain⟨x12,hx12,hG2⟩:=uW hG2
      refine oy (TF (m:=2) (hS.rd 1 rfl) rfl hx12 underlying94 sizeOf97 rfl rfl rfl) rfl<|oy (TE rfl rfl isAgg97 sizeOf97 rfl (a08 (hS.rd 1 rfl) (lC hx12).2.2)) rfl<|NM (OW (cs:=[.int .i64 (0),.int .i64 (0)]) hS rfl zeroValue97 rfl) (bY rfl) rfl rfl ?_
      clear hS
      rintro _ w ⟨b3,rfl,hS⟩
      refine TD (XG (vs:=[.int .i64 (x12.Handle),.int .i64 (x12.aJ)]) hS (i:=1) rfl rfl rfl rfl rfl sizeOf97 rfl rfl rfl) (bY rfl) rfl ?_
      clear hS
      intro w hS
      refine bI fun a hA=>bV<|bV<|GA (J:=fun a' w'=>∃(x13:Bool),kA x9 x10 x12 x13=some q2/\lS 51 [(0,s1),(3,.pointer (some ⟨b1,0,none⟩)),(7,.pointer (some ⟨b3,0,none⟩)),(12,s1),(13,.int .i64 ((l.length:Int))),(14,.int .i64 (x3)),(19,s2),(20,.int .i64 ((x6.Rows.length:Int))),(21,.int .i64 (x9)),(41,.bool (x13))] a'/\St (cL w0) w' [FT b1 (List.map (fun q:Bool=>Value.bool q) (x10:List Bool)),FT b3 [.int .i64 (x12.Handle),.int .i64 (x12.aJ)]] [CS [s1] (l:List bC),CS [s2] (x6.Rows:List dA)]) ?_ ?_
      ·skip
       refine cH hA ?_
       clear hA
       refine oy (B6 (m:=0) underlying97 rfl rfl sizeOf3 rfl rfl) rfl<|oy (jR rfl rfl isAgg3 (hS.cell 1 rfl rfl)) rfl ?_
       obtain⟨x15,hx15,hG2⟩:=uW hG2
       refine aBQ (MS call134 rfl rfl) (bY rfl) rfl rfl (aC7 (h:=x12.Handle) hx15) ?_
       rintro _ w ⟨rfl,hk⟩
       replace hS:=hS.after hk;clear hk
       refine oy (aEU rfl rfl) rfl<|om rfl rfl<|KY (s:=29) rfl (fun hc5=>?_) (fun hc5=>?_)
       ·replace hG2:=OX hc5 hG2
        refine gG (cD rfl rfl rfl (by rw [hc5];rfl)) rfl rfl ?_
        refine gG (cD rfl rfl rfl (by rw [hc5];rfl)) rfl rfl ?_
        refine gG (cD rfl rfl rfl (by rw [hc5];rfl)) rfl rfl ?_
        refine gG (cD rfl rfl rfl (by rw [hc5];rfl)) rfl rfl ?_
        refine oy (xC rfl rfl hc5 rfl) rfl<|om rfl rfl<|gG (cD rfl rfl rfl rfl) rfl rfl<|gG (cD rfl rfl rfl rfl) rfl rfl<|gG (cD rfl rfl rfl rfl) rfl rfl<|gG (cD rfl rfl rfl rfl) rfl rfl<|gG (cD rfl rfl rfl rfl) rfl rfl<|oy (xC rfl rfl rfl rfl) rfl<|bI fun a hA=>?_
        exact⟨true,hG2,hA.part ⟨rfl,rfl,rfl,rfl,rfl,rfl,rfl,rfl,rfl,rfl,trivial⟩,((hS).P6 [0,1] rfl).xD [0,1] rfl⟩
       ·replace hG2:=OY hc5 hG2
        refine fY (B6 (m:=0) underlying97 rfl rfl sizeOf3 rfl rfl) (cD rfl rfl rfl (by rw [hc5];rfl)) rfl rfl ?_
        refine fY (jR rfl rfl isAgg3 (hS.cell 1 rfl rfl)) (cD rfl rfl rfl (by rw [hc5];rfl)) rfl rfl ?_
        obtain⟨x16,hx16,hG2⟩:=uW hG2
        refine aBQ (MS call58 rfl rfl) (cD rfl rfl rfl (by rw [hc5];rfl)) rfl rfl (N8 (n:=x12.aJ) (low:=0) (high:=100000) hx16) ?_
        rintro _ w ⟨rfl,hk⟩
        replace hS:=hS.after hk;clear hk
        refine fY (aEU rfl rfl) (cD rfl rfl rfl (by rw [hc5];rfl)) rfl rfl ?_
        refine oy (CT rfl rfl hc5 rfl) rfl<|om rfl rfl<|KY (s:=35) rfl (fun hc6=>?_) (fun hc6=>?_)
        ·replace hG2:=OX hc6 hG2
         refine gG (cD rfl rfl rfl (by rw [hc6];rfl)) rfl rfl ?_
         refine gG (cD rfl rfl rfl (by rw [hc6];rfl)) rfl rfl ?_
         refine gG (cD rfl rfl rfl (by rw [hc6];rfl)) rfl rfl ?_
         refine gG (cD rfl rfl rfl (by rw [hc6];rfl)) rfl rfl ?_
         refine gG (cD rfl rfl rfl (by rw [hc6];rfl)) rfl rfl ?_
         refine oy (xC rfl rfl hc6 rfl) rfl<|bI fun a hA=>?_
         exact⟨true,hG2,hA.part ⟨rfl,rfl,rfl,rfl,rfl,rfl,rfl,rfl,rfl,rfl,trivial⟩,((hS).P6 [0,1] rfl).xD [0,1] rfl⟩
        ·replace hG2:=OY hc6 hG2
         refine fY (B6 (m:=0) underlying97 rfl rfl sizeOf3 rfl rfl) (cD rfl rfl rfl (by rw [hc6];rfl)) rfl rfl ?_
         refine fY (jR rfl rfl isAgg3 (hS.cell 1 rfl rfl)) (cD rfl rfl rfl (by rw [hc6];rfl)) rfl rfl ?_
         refine fY (aAI rfl rfl rfl (by decide)) (cD rfl rfl rfl (by rw [hc6];rfl)) rfl rfl ?_
         obtain⟨hn2,hG2⟩:=kU hG2
         refine fY (aD7 underlying217 sizeOf4 hn2 rfl rfl rfl) (cD rfl rfl rfl (by rw [hc6];rfl)) rfl rfl ?_
         obtain⟨x17,hx17,hG2⟩:=uW hG2
         refine fY (jR rfl rfl isAgg4 (hS.aRC 0 rfl hx17)) (cD rfl rfl rfl (by rw [hc6];rfl)) rfl rfl ?_
         refine oy (CT rfl rfl hc6 rfl) rfl<|bI fun a hA=>?_
         exact⟨x17,hG2,hA.part ⟨rfl,rfl,rfl,rfl,rfl,rfl,rfl,rfl,rfl,rfl,trivial⟩,((hS).P6 [0,1] rfl).xD [0,1] rfl⟩
      ·skip
       clear hA hS hG2
       rintro a w ⟨x13,hG2,hA,hS⟩
       unfold kA at hG2
       refine mE hA rfl (fun hc4=>?_) (fun hc4=>?_)
       ·replace hG2:=OX hc4 hG2
        refine bV<|cH hA ?_
        clear hA
        refine oa rfl rfl<|bI fun a hA=>B5 ?_
        cases hG2
        have ho:=hr2 _ rfl;subst ho
        replace hG1:some (.stop (Out.ret false))=some q1:=hG1
        cases hG1
        have ho:=hr1 _ rfl;subst ho
        replace hF:some false=some r:=hF
        cases hF
        exact fy results169 hA rfl hS
       ·replace hG2:=OY hc4 hG2
        refine pU<|cH hA ?_
        clear hA
        refine oy (B6 (m:=0) underlying97 rfl rfl sizeOf3 rfl rfl) rfl<|oy (jR rfl rfl isAgg3 (hS.cell 1 rfl rfl)) rfl<|oy (aAI rfl rfl rfl (by decide)) rfl ?_
        obtain⟨hn1,hG2⟩:=kU hG2
        refine oy (aD7 underlying217 sizeOf4 hn1 rfl rfl rfl) rfl ?_
        obtain⟨x14,hx14,hG2⟩:=uW hG2
        refine TD (aVU (xd:=true) hS (m:=0) rfl hx14 sizeOf4 rfl rfl rfl rfl rfl rfl) (bY rfl) rfl ?_
        clear hS
        intro w hS
        refine bI fun a hA=>cH hA ?_
        clear hA
        refine oy (NN rfl rfl rfl) rfl<|om rfl rfl<|bI fun a hA=>?_
        cases hG2
        exact⟨_,rfl,⟨hA.part ⟨rfl,rfl,rfl,rfl,rfl,rfl,rfl,rfl,trivial⟩,((hS).P6 [0] rfl).xD [0,1] rfl⟩⟩
     ·replace hG2:=OY hc3 hG2
      refine MO<|F8 ?_
      cases hG2
      have ho:=hr2 _ rfl;subst ho
      exact⟨x10,rfl,hA.part ⟨rfl,rfl,rfl,rfl,rfl,trivial⟩,((hS).P6 [0] rfl).xD [0] rfl⟩
    ·skip
     clear hA hS hl2
     rintro a w ⟨x11,heq,hA,hS⟩
     replace hG1:A8 x3 x11=some q1:=by rw [heq] at hG1;exact hG1
     clear heq
     unfold A8 at hG1
     refine cH hA ?_
     clear hA
     refine oy (NN rfl rfl rfl) rfl<|om rfl rfl<|bI fun a hA=>?_
     cases hG1
     exact⟨_,rfl,⟨hA.part ⟨rfl,rfl,rfl,rfl,rfl,trivial⟩,((hS).P6 [0] rfl).xD [0] rfl⟩⟩
   ·replace hG1:=OY hc2 hG1
    refine MO<|F8 ?_
    cases hG1
    have ho:=hr1 _ rfl;subst ho
    exact⟨rfl,hA.part ⟨rfl,trivial⟩,((hS).P6 [] rfl).xD [0] rfl⟩
  ·skip
   clear hA hS hl1
   rintro a w ⟨heq,hA,hS⟩
   replace hF:A7 l=some r:=by rw [heq] at hF;exact hF
   clear heq
   unfold A7 at hF
   refine bV<|cH hA ?_
   clear hA
   refine om rfl rfl ?_
   obtain⟨x5,hx5,hF⟩:=uW hF
   refine aBQ (MS call245 rfl rfl) (bY rfl) rfl rfl (aA2 (l:=l) (hS.rd 0 rfl) hx5) ?_
   rintro _ w ⟨rfl,hk⟩
   replace hS:=hS.after hk;clear hk
   refine oy (aPB rfl rfl rfl) rfl<|oa rfl rfl<|bI fun a hA=>B5 ?_
   cases hF
   exact fy results169 hA rfl hS
noncomputable section
open Go.RowKit
attribute [local go_sem] Oper.semAt_some
def Q4(e:Ev):List Value:=[.int .i64 e.Kind,.int .i64 e.Who,.int .i64 e.aI,.int .i64 e.Cell,.int .i64 e.Handle,.int .i64 e.dQ,.int .i64 e.Code]
def dn(f:Nat->Ev)(n k:Nat):List (Nat×Ev):=(List.range k).map fun j=>(n - 1 - j,f (n - 1 - j))
theorem aLC(f:Nat->Ev)(n k:Nat):dn f n (k+1)=dn f n k ++ [(n - 1 - k,f (n - 1 - k))]:=by simp [dn,List.range_succ]
theorem aTE(f:Nat->Ev)(n k:Nat):(dn f n k).length=k:=by simp [dn]
def aTF(W:World)(b o:Nat)(e:Ev):Prop:=W.cell? ⟨b,o,none⟩=some (.int .i64 e.Kind)/\W.cell? ⟨b,o+1,none⟩=some (.int .i64 e.Who)/\W.cell? ⟨b,o+2,none⟩=some (.int .i64 e.aI)/\W.cell? ⟨b,o+3,none⟩=some (.int .i64 e.Cell)/\W.cell? ⟨b,o+4,none⟩=some (.int .i64 e.Handle)/\W.cell? ⟨b,o+5,none⟩=some (.int .i64 e.dQ)/\W.cell? ⟨b,o+6,none⟩=some (.int .i64 e.Code)
theorem aTF.below{n₀:Nat}{A B:World}(h:Below n₀ A B){b o:Nat}{e:Ev}(hb:b < n₀)(k:aTF A b o e):aTF B b o e:=by
 have q:∀j,B.cell? ⟨b,j,none⟩=A.cell? ⟨b,j,none⟩:=fun j=>h.cell (p:=⟨b,j,none⟩) hb
 exact⟨(q _).trans k.1,(q _).trans k.2.1,(q _).trans k.2.2.1,(q _).trans k.2.2.2.1,(q _).trans k.2.2.2.2.1,(q _).trans k.2.2.2.2.2.1,(q _).trans k.2.2.2.2.2.2⟩
set_option maxRecDepth 100000 in
set_option maxHeartbeats 2000000 in
theorem aXT(F:Fence)(n:Nat)(h7:F.fn 117)(hro:F.round=none)(hn:1<=n)(l Bs n₀ b off len cap:Nat)(f:Nat->Ev)(hreach:len<=9223372036854775807)(hb:b < n₀)(hb2:Bs < n₀)(J Jx:List (Nat×Ev)->World->Prop)
  (hY:∀pre x W,J pre W->pre.length < len->YieldAt F (n - 1) prog l #[.int .i64 (x.1:Int),.agg (Q4 x.2).toArray] W fun e W'=>
   (e=.returned (.bool true)/\J (pre ++ [x]) W'/\Below n₀ W W')\/(e=.returned (.bool false)/\Jx (pre ++ [x]) W'))
  (W:World) (hBs:W.cell? ⟨Bs,0,none⟩=some (.slice (some ⟨b,off,none⟩) len cap)) (hc:∀j,j < len->aTF W b (off+j * 7) (f j)) (h0:J [] W) :
  CallsIn F n prog 117 #[.func (.yield l) #[] #[],.pointer (some ⟨Bs,0,none⟩)] W fun e W'=>(∃v,e=.returned v) /\
   ((∃ys,ys=dn f len len/\J ys W')\/(∃pre,(∃k,k<=len/\pre=dn f len k)/\Jx pre W')):=by
 refine callsIn_of_wp func117 rfl h7 ?_ hro
 simp only [ntmps117,List.size_toArray,yL,S8,Nat.reduceAdd,Nat.reduceSub,Array.replicate_succ,Array.replicate_zero,List.push_toArray,List.append_toArray,aBO,OS]
 gi_wp2
 gi_loopw [3] (fun i wr=>∃k:Nat,k<=len/\i=.int .i64 ((len:Int) - 1 - k)/\J (dn f len k) wr/\Below n₀ W wr)
  (fun i _=>(intOf i+1).toNat)
 case atStart=>exact⟨0,sW _,by simp,h0,Below.refl _ _⟩
 case round=>
  obtain⟨k,hk,rfl,hJs,hnx⟩:=hrel
  have hBs':=(hnx.cell (p:=⟨Bs,0,none⟩) hb2).trans hBs
  by_cases hlt:k < len
  ·obtain⟨fn,tmps,assign,body,hy,hR⟩:=hY _ (len - 1 - k,f (len - 1 - k)) wr hJs (by rw [aTE];exact hlt)
   obtain⟨c0,c1,c2,c3,c4,c5,c6⟩:=(hc (len - 1 - k) (by omega)).below hnx hb
   have e1:((len - 1 - k:Nat):Int)=(len:Int) - 1 - k:=by omega
   dsimp only at hy
   rw [e1] at hy
   simp only [Q4] at hy
   gi_wp2
   refine hR.mono ?_
   rintro e W3 (⟨rfl,hJ3,hk3⟩ | ⟨rfl,hJx3⟩)
   ·gi_wp2
    go_roundw
    case rel=>exact⟨k+1,by omega,by simp;omega,by rw [aLC];exact hJ3,hnx.trans hk3⟩
    case measure=>simp [intOf];omega
   ·gi_wp2
    refine bodyPost_ret (results_none rfl _ _ _) rfl ?_
    exact⟨⟨_,rfl⟩,.inr ⟨_,⟨k+1,by omega,(aLC _ _ _).symm⟩,hJx3⟩⟩
  ·obtain rfl:k=len:=by omega
   gi_wp2
   go_end0
   exact⟨⟨_,rfl⟩,.inl ⟨_,rfl,hJs⟩⟩
theorem aTG(F:Fence)(n:Nat)(h7:F.fn 117)(hro:F.round=none)(l Bs:Nat)(J:List (Nat×Ev)->World->Prop)(W:World)(a:Option Addr)(c:Nat)(hBs:W.cell? ⟨Bs,0,none⟩=some (.slice a 0 c))(h0:J [] W) :
  CallsIn F n prog 117 #[.func (.yield l) #[] #[],.pointer (some ⟨Bs,0,none⟩)] W fun e W'=>(∃v,e=.returned v)/\J [] W':=by
 refine callsIn_of_wp func117 rfl h7 ?_ hro
 simp only [ntmps117,List.size_toArray,yL,S8,Nat.reduceAdd,Nat.reduceSub,Array.replicate_succ,Array.replicate_zero,List.push_toArray,List.append_toArray,aBO,OS]
 gi_wp2
 gi_loopw [3] (fun i wr=>i=.int .i64 (-1)/\J [] wr) (fun _ _=>0)
 case atStart=>exact⟨by simp,h0⟩
 case round=>
  obtain⟨rfl,hJs⟩:=hrel
  gi_wp2
  go_end0
  exact⟨⟨_,rfl⟩,hJs⟩
theorem a1B(F:Fence)(n:Nat)(h5:F.fn 55)(hro:F.round=none)(a:Option Addr)(len cap:Nat)(w:World) :
  CallsIn F n prog 55 #[.slice a len cap] w fun e w'=>e=.returned (.func (.func 117) #[] #[.pointer (some ⟨w.heap.size,0,none⟩)])/\w'=w.alloc (.cells #[.slice a len cap] 44):=by
 refine callsIn_of_wp func55 rfl h5 ?_ hro
 simp only [ntmps55,List.size_toArray,yL,S8,Nat.reduceAdd,Nat.reduceSub,Array.replicate_succ,Array.replicate_zero,List.push_toArray,List.append_toArray,aBO,OS]
 gi_wp2
 go_ret
 exact⟨rfl,rfl⟩
def Evs(n₀:Nat)(W:World)(sv:Value)(zs:List Ev):Prop:=
 ((∃a c,sv=.slice a 0 c)/\zs=[])\/∃b off cap,sv=.slice (some ⟨b,off,none⟩) zs.length cap/\b < n₀/\∀j,j < zs.length->aTF W b (off+j * 7) (zs[j]?.getD default)
theorem Evs.below{n₀ m:Nat}{A B:World}(h:Below m A B)(hm:n₀<=m){sv:Value}{zs:List Ev}:Evs n₀ A sv zs->Evs m B sv zs
 | .inl e=>.inl e
 | .inr ⟨b,off,cap,e,hb,hc⟩=>.inr ⟨b,off,cap,e,by omega,fun j hj=>(hc j hj).below h (by omega)⟩
theorem aP2(F:Fence)(n:Nat)(h7:F.fn 117)(hro:F.round=none)(hn:1<=n)(Bs n₀:Nat)(sv:Value)(zs:List Ev)(hreach:zs.length<=9223372036854775807)(w:World)(hBs:Bs < n₀)(hn₀:n₀<=w.heap.size)
  (hc:w.cell? ⟨Bs,0,none⟩=some sv) (hI:Evs n₀ w sv zs) :
  SeqStopsK F n prog 117 #[.pointer (some ⟨Bs,0,none⟩)] (fun x:Nat×Ev=>#[Value.int .i64 (x.1:Int),.agg (Q4 x.2).toArray]) (Below n₀) (fun ys=>ys=dn (fun j=>zs[j]?.getD default) zs.length zs.length)
   (fun pre=>∃k,k<=zs.length/\pre=dn (fun j=>zs[j]?.getD default) zs.length k) zs.length w:=fun l J Jx W hW _ _ hY h0=>by
 have hc':=(hW.cell (p:=⟨Bs,0,none⟩) (show Bs < w.heap.size by omega)).trans hc
 rcases hI.below (hW.mono hn₀) (iE _) with ⟨⟨a,c,rfl⟩,rfl⟩ | ⟨b,off,cap,rfl,hb,hcs⟩
 ·exact(aTG F n h7 hro l Bs J W a c hc' h0).mono fun e W' ⟨he,hj⟩=>⟨he,.inl ⟨_,rfl,hj⟩⟩
 ·exact aXT F n h7 hro hn l Bs n₀ b off zs.length cap (fun j=>zs[j]?.getD default) hreach hb hBs J Jx hY W hc' hcs h0
theorem aXU{l:List Ev}{p:Ev->Bool}{d:Ev}{k:Nat}(hk:k < l.length)(h1:∀j,j < k->p (l[l.length - 1 - j]?.getD d)=false)(h2:p (l[l.length - 1 - k]?.getD d)=true):l.reverse.find? p=some (l[l.length - 1 - k]?.getD d):=by
 have g:∀j,j < l.length->(l[l.length - 1 - j]?.getD d)=l.reverse[j]?.getD d:=fun j hj=>by rw [List.getElem?_reverse hj]
 rw [g k hk] at h2 ⊢
 have e:l.reverse[k]?.getD d=l.reverse[k]'(by simpa using hk):=by rw [eM (by simpa using hk)];rfl
 rw [List.find?_eq_some_iff_getElem]
 refine⟨h2,k,by simpa using hk,e.symm,fun j hj=>?_⟩
 have h3:=h1 j hj
 rw [g j (by omega),eM (by simp;omega)] at h3
 simpa using h3
theorem aTH{l:List Ev}{p:Ev->Bool}{d:Ev}(h1:∀j,j < l.length->p (l[l.length - 1 - j]?.getD d)=false):l.reverse.find? p=none:=by
 rw [List.find?_eq_none]
 intro x hx
 obtain⟨i,hi,rfl⟩:=aMV (List.mem_reverse.1 hx)
 have:=h1 (l.length - 1 - i) (by omega)
 rw [show l.length - 1 - (l.length - 1 - i)=i from by omega,eM hi] at this
 simpa using this
theorem aXV{f:Nat->Ev}{n k j:Nat}(hj:j < k):(n - 1 - j,f (n - 1 - j))∈dn f n k:=by
 simp only [dn,DD,S9]
 exact⟨j,hj,rfl⟩
theorem aSF{W:World}{B:Nat}{e:Ev}(h:W.heap[B]?=some (.cells (Q4 e).toArray 50 (0,0))):aTF W B 0 e:=by
 refine⟨?_,?_,?_,?_,?_,?_,?_⟩ <;> simp [World.cell?,h,Q4]
theorem aN1{zs:List Ev}{len:Nat}(hl:zs.length=len)(i:Int):(zs.take (max (min i len) 0).toNat).length=(max (min i len) 0).toNat:=by
 rw [FY];omega
set_option maxRecDepth 100000 in
set_option maxHeartbeats 2000000 in
theorem aTI(F:Fence)(n:Nat)(h3:F.fn 12)(h5:F.fn 55)(h11:F.fn 117)(hro:F.round=none)(hn:3<=n)(a:Option Addr)(len cap:Nat)(zs:List Ev)(i cell:Int)(hl:zs.length=len)(hlc:len<=cap)(hc:cap<=9223372036854775807)(w:World)(hz:Evs w.heap.size w (.slice a len cap) zs) :
  CallsIn F n prog 12 #[.slice a len cap,.int .i64 i,.int .i64 cell] w fun e W'=>e=.returned (.agg (Q4 (((zs.take (max (min i len) 0).toNat).reverse.find? (XT cell)).getD ⟨0,0,0,0,0,0,0⟩)).toArray)/\Below w.heap.size w W':=by
 have h1:1<=n:=by omega
 refine callsIn_of_wp_marks func12 rfl h3 ?_ hro
 simp only [ntmps12,List.size_toArray,yL,S8,Nat.reduceAdd,Nat.reduceSub,Array.replicate_succ,Array.replicate_zero,List.push_toArray,List.append_toArray,aBO,OS]
 obtain⟨a',ha⟩:∃a',a'=a:=⟨_,rfl⟩
 rw [<-ha] at hz
 rcases a with _ | p
 all_goals gi_wp2_with (gi_at_call 55;refine(a1B F (n - 1) h5 hro _ _ _ _).mono ?_;rintro e w' ⟨rfl,rfl⟩)
 all_goals
  refine aXK hro h1 (gf:=117) (lb:=#[.pointer (some ⟨w.heap.size+1+1,0,none⟩)]) (n₀:=w.heap.size+3) rfl h11 call117
   (aP2 F (n - 1) h11 hro (by omega) (w.heap.size+2) (w.heap.size+3) (.slice a' (max (min i len) 0).toNat cap) (zs.take (max (min i len) 0).toNat) (by simp;omega) _ (by omega) (by simp) ?hc ?hI) (by simp) (Below.refl _ _) (fun _=>rfl)
   (fun pre W=>(∀p∈pre,XT cell p.2=false)/\W.heap[w.heap.size]?=some (.cells #[.int .i64 cell] 3 (0,0))/\W.heap[w.heap.size+1]?=some (.cells (Q4 ⟨0,0,0,0,0,0,0⟩).toArray 50 (0,0))/\Below w.heap.size w W)
   (fun pre W=>∃ini last,pre=ini ++ [last]/\(∀p∈ini,XT cell p.2=false)/\XT cell last.2=true/\W.heap[w.heap.size+1]?=some (.cells (Q4 last.2).toArray 50 (0,0))/\Below w.heap.size w W)
   (fun pre x a1 W=>(∀p∈pre,XT cell p.2=false)/\W.heap[w.heap.size]?=some (.cells #[.int .i64 cell] 3 (0,0))/\W.heap[w.heap.size+1]?=some (.cells (Q4 ⟨0,0,0,0,0,0,0⟩).toArray 50 (0,0))/\Below w.heap.size w W/\∃B t0 t1 t2 t3 t4 t7 t9 t10 t11 t12 t13 t14 t15 t16 t17 t18 t19 t20 t21 t22 t23 t24 t25 t26 t27 t28 t29,w.heap.size+3<=B/\W.heap[B]?=some (.cells (Q4 x.2).toArray 50 (0,0))/\a1={tmps:=#[t0,t1,t2,t3,t4,.pointer (some ⟨w.heap.size,0,none⟩),.pointer (some ⟨w.heap.size+1,0,none⟩),t7,.pointer (some ⟨B,0,none⟩),t9,t10,t11,t12,t13,t14,t15,t16,t17,t18,t19,t20,t21,t22,t23,t24,t25,t26,t27,t28,t29],defers:=[]})
   ?o1 ?o2 ?o3 ?h0 ?assign ?body ?done ?stop
  case hc=>
   have q:∀(X:World) (v:Value),X.heap.size=w.heap.size+2->(X.alloc (.cells #[v] 44)).cell? ⟨w.heap.size+2,0,none⟩=some v:=fun X v hX=>by
    have:=(Boxed.new X 44 v).cell
    rwa [hX] at this
   rw [q _ _ (by simp),ha]
   try first
    | rw [show(max (min i (len:Int)) 0).toNat=len from by omega]
    | rw [show(max (min i (len:Int)) 0).toNat=0 from by omega]
    | rw [show(max (min i (len:Int)) 0).toNat=i.toNat from by omega]
  case hI=>
   have hw:∀x y z,Below w.heap.size w (((w.alloc x).alloc y).alloc z):=fun x y z=>((((Below.refl w.heap.size w).alloc (iE _) x).alloc (by simp) y).alloc (by simp;omega) z)
   rcases hz with ⟨_,hz⟩ | ⟨b,off,c,e,hb,hz⟩
   ·exact .inl ⟨⟨_,_,by rw [show(max (min i (len:Int)) 0).toNat=0 from by rw [hz] at hl;simp at hl;omega]⟩,by rw [hz];simp⟩
   ·injection e with e1 e2 e3
    refine .inr ⟨b,off,cap,by rw [aN1 hl,e1],by omega,fun j hj=>?_⟩
    have hj':=hj
    rw [aN1 hl] at hj'
    rw [H0,if_pos hj']
    exact(hz j (by omega)).below (hw _ _ _) hb
  case o1=>
   rintro pre X Y row ⟨hp,k1,k2,hB⟩ hg hr
   exact⟨hp,(hg.block _ (S5.1 k1).1 (fun e=>by have:=(hr _ e.symm).1;simp at this;omega)).trans k1,(hg.block _ (S5.1 k2).1 (fun e=>by have:=(hr _ e.symm).1;simp at this;omega)).trans k2,hB.grown hg hB.size (fun j e=>by have:=(hr j e).1;simp at this;omega)⟩
  case o2=>
   rintro pre X Y row ⟨ini,last,e1,e2,e3,k2,hB⟩ hg hr
   exact⟨ini,last,e1,e2,e3,(hg.block _ (S5.1 k2).1 (fun e=>by have:=(hr _ e.symm).1;simp at this;omega)).trans k2,hB.grown hg hB.size (fun j e=>by have:=(hr j e).1;simp at this;omega)⟩
  case o3=>
   rintro x a1 pre X Y row ⟨hp,k1,k2,hB,B,t0,t1,t2,t3,t4,t7,t9,t10,t11,t12,t13,t14,t15,t16,t17,t18,t19,t20,t21,t22,t23,t24,t25,t26,t27,t28,t29,hBB,k3,ea⟩ hg hr
   refine⟨hp,(hg.block _ (S5.1 k1).1 (fun e=>by have:=(hr _ e.symm).1;simp at this;omega)).trans k1,(hg.block _ (S5.1 k2).1 (fun e=>by have:=(hr _ e.symm).1;simp at this;omega)).trans k2,hB.grown hg hB.size (fun j e=>by have:=(hr j e).1;simp at this;omega),B,t0,t1,t2,t3,t4,t7,t9,t10,t11,t12,t13,t14,t15,t16,t17,t18,t19,t20,t21,t22,t23,t24,t25,t26,t27,t28,t29,hBB,(hg.block _ (S5.1 k3).1 (fun e=>?_)).trans k3,ea⟩
   obtain⟨_,o,ho,hoc⟩:=hr _ e.symm
   rw [k3] at ho
   cases ho
   cases hoc
  case h0=>
   have b0:=World.alloc_heap_new w (.cells #[.int .i64 cell] 3)
   have b1:=World.alloc_heap_new (w.alloc (.cells #[.int .i64 cell] 3)) (.cells #[.int .i64 0,.int .i64 0,.int .i64 0,.int .i64 0,.int .i64 0,.int .i64 0,.int .i64 0] 50)
   rw [World.size_alloc] at b1
   refine⟨by simp,?_,?_,(((Below.refl _ w).alloc (iE _) _).alloc (by simp) _).alloc (by simp;omega) _⟩
   ·exact((Below.heap_alloc _ _ _ (by simp;omega)).trans (Below.heap_alloc _ _ _ (by simp))).trans b0
   ·exact(Below.heap_alloc _ _ _ (by simp)).trans b1
  case assign=>
   rintro l pre x W hs ⟨hp,hc0,hr0,hB⟩ _
   have hs':w.heap.size+3<=W.heap.size:=by simpa using hs
   have hst:(storeCells ⟨W.heap.size,0,none⟩ (Q4 x.2)).run prog (W.alloc (.cells #[.int .i64 0,.int .i64 0,.int .i64 0,.int .i64 0,.int .i64 0,.int .i64 0,.int .i64 0] 50))=.ok () _:=aXL _ (Q4 x.2) _ [] _ (World.alloc_heap_new W _) rfl (by simp [Q4,Value.oneCell'])
   gi_wp2
   rw [aTA]
   exact⟨(KeepsOthers.alloc W _).from _,(Below.refl _ W).alloc hs' _,hp,(Below.heap_alloc _ _ _ (by omega)).trans hc0,(Below.heap_alloc _ _ _ (by omega)).trans hr0,hB.alloc (by omega) _,W.heap.size,_,_,_,_,_,_,_,_,_,_,_,_,_,_,_,_,_,_,_,_,_,_,_,_,_,_,_,hs',World.alloc_heap_new W _,rfl⟩
  case body=>
   rintro l pre x a1 W ⟨hp,hc0,hr0,hB,B,t0,t1,t2,t3,t4,t7,t9,t10,t11,t12,t13,t14,t15,t16,t17,t18,t19,t20,t21,t22,t23,t24,t25,t26,t27,t28,t29,hBB,hx,rfl⟩
   have hc0':W.cell? ⟨w.heap.size,0,none⟩=some (.int .i64 cell):=by simp [World.cell?,hc0]
   obtain⟨x1,x2⟩:=x
   have hx0:W.cell? ⟨B,0,none⟩=some (.int .i64 x2.Kind):=by simp [World.cell?,hx,Q4]
   have hx1:W.cell? ⟨B,1,none⟩=some (.int .i64 x2.Who):=by simp [World.cell?,hx,Q4]
   have hx2:W.cell? ⟨B,2,none⟩=some (.int .i64 x2.aI):=by simp [World.cell?,hx,Q4]
   have hx3:W.cell? ⟨B,3,none⟩=some (.int .i64 x2.Cell):=by simp [World.cell?,hx,Q4]
   have hx4:W.cell? ⟨B,4,none⟩=some (.int .i64 x2.Handle):=by simp [World.cell?,hx,Q4]
   have hx5:W.cell? ⟨B,5,none⟩=some (.int .i64 x2.dQ):=by simp [World.cell?,hx,Q4]
   have hx6:W.cell? ⟨B,6,none⟩=some (.int .i64 x2.Code):=by simp [World.cell?,hx,Q4]
   have hlt:=(S5.1 hr0).1
   have hy0:W.cell? ⟨w.heap.size+1,0,none⟩=some (.int .i64 0):=by simp [World.cell?,hr0,Q4]
   have hy1:W.cell? ⟨w.heap.size+1,1,none⟩=some (.int .i64 0):=by simp [World.cell?,hr0,Q4]
   have hy2:W.cell? ⟨w.heap.size+1,2,none⟩=some (.int .i64 0):=by simp [World.cell?,hr0,Q4]
   have hy3:W.cell? ⟨w.heap.size+1,3,none⟩=some (.int .i64 0):=by simp [World.cell?,hr0,Q4]
   have hy4:W.cell? ⟨w.heap.size+1,4,none⟩=some (.int .i64 0):=by simp [World.cell?,hr0,Q4]
   have hy5:W.cell? ⟨w.heap.size+1,5,none⟩=some (.int .i64 0):=by simp [World.cell?,hr0,Q4]
   have hy6:W.cell? ⟨w.heap.size+1,6,none⟩=some (.int .i64 0):=by simp [World.cell?,hr0,Q4]
   have hf0:∀j,W.frozen? ⟨w.heap.size+1,j,none⟩=false:=fun j=>by simp [World.frozen?,hr0]
   gi_wp2
   ·rw [a6C _ _ _ _ _ _ _ hr0]
    have h2:x2.Kind=2:=by assumption
    rw [<-h2]
    exact⟨KeepsFrom.of_grownBy (grownBy_putObj' W _ _) (fun j e=>by cases e;omega),pre,x1,x2,rfl,fun a b h=>hp (a,b) h,by simp_all [XT],World.putObj_heap_same hlt,hB.grown (grownBy_putObj' W _ _) (by omega) (fun j e=>by cases e;omega)⟩
   ·refine⟨KeepsFrom.refl _ _,Below.refl _ _,fun a b h=>?_,hc0,hr0,hB⟩
    rcases e9.1 h with h | h
    ·exact hp (a,b) h
    ·simp at h;obtain⟨rfl,rfl⟩:=h;simp_all [XT]
   ·refine⟨KeepsFrom.refl _ _,Below.refl _ _,fun a b h=>?_,hc0,hr0,hB⟩
    rcases e9.1 h with h | h
    ·exact hp (a,b) h
    ·simp at h;obtain⟨rfl,rfl⟩:=h;simp_all [XT]
  case done=>
   rintro D ys W hD rfl ⟨hne,hc0,hr0,hB⟩ hK
   have hy0:W.cell? ⟨w.heap.size+1,0,none⟩=some (.int .i64 0):=by simp [World.cell?,hr0,Q4]
   have hy1:W.cell? ⟨w.heap.size+1,1,none⟩=some (.int .i64 0):=by simp [World.cell?,hr0,Q4]
   have hy2:W.cell? ⟨w.heap.size+1,2,none⟩=some (.int .i64 0):=by simp [World.cell?,hr0,Q4]
   have hy3:W.cell? ⟨w.heap.size+1,3,none⟩=some (.int .i64 0):=by simp [World.cell?,hr0,Q4]
   have hy4:W.cell? ⟨w.heap.size+1,4,none⟩=some (.int .i64 0):=by simp [World.cell?,hr0,Q4]
   have hy5:W.cell? ⟨w.heap.size+1,5,none⟩=some (.int .i64 0):=by simp [World.cell?,hr0,Q4]
   have hy6:W.cell? ⟨w.heap.size+1,6,none⟩=some (.int .i64 0):=by simp [World.cell?,hr0,Q4]
   have hf0:∀j,W.frozen? ⟨w.heap.size+1,j,none⟩=false:=fun j=>by simp [World.frozen?,hr0]
   gi_wp2
   rw [a6C _ _ _ _ _ _ _ hr0]
   rw [show W.putObj (w.heap.size+1) (.cells #[.int .i64 0,.int .i64 0,.int .i64 0,.int .i64 0,.int .i64 0,.int .i64 0,.int .i64 0] 50 (0,0))=W from aBV hr0]
   have hD':w.heap.size+3<=D:=by simpa using hD
   have hlt:=(S5.1 hr0).1
   have hf:(W.putObj D (.deferred none)).heap[w.heap.size+1]?=_:=(World.putObj_heap_other (by omega)).trans hr0
   obtain⟨g0,g1,g2,g3,g4,g5,g6⟩:=aSF hf
   have hbl:=hB.trans (belowK_b (w:=w) (iE _) W D (.deferred (some [])) (.deferred none) (by omega) hK rfl rfl)
   refine⟨by simp,.inl ⟨_,_,rfl,run_takeDeferred hK,?_⟩⟩
   refine⟨.agg (Q4 ⟨0,0,0,0,0,0,0⟩).toArray,?_,?_,hbl⟩
   ·simp [results,f12,go_sem,g0,g1,g2,g3,g4,g5,g6,Q4]
   ·rw [aTH (d:=default) fun j hj=>hne _ (aXV hj)]
    rfl
  case stop=>
   rintro D pre W hD ⟨k,hk,rfl⟩ ⟨ini,last,e1,e2,e3,hr0,hB⟩ hK
   gi_wp2
   have hD':w.heap.size+3<=D:=by simpa using hD
   have hlt:=(S5.1 hr0).1
   have hf:(W.putObj D (.deferred none)).heap[w.heap.size+1]?=_:=(World.putObj_heap_other (by omega)).trans hr0
   obtain⟨g0,g1,g2,g3,g4,g5,g6⟩:=aSF hf
   have hbl:=hB.trans (belowK_b (w:=w) (iE _) W D (.deferred (some [])) (.deferred none) (by omega) hK rfl rfl)
   refine⟨by simp,.inl ⟨_,_,rfl,run_takeDeferred hK,?_⟩⟩
   refine⟨.agg (Q4 last.2).toArray,?_,?_,hbl⟩
   ·simp [results,f12,go_sem,g0,g1,g2,g3,g4,g5,g6,Q4]
   ·obtain⟨k',rfl⟩:∃k',k=k'+1:=by
     cases k with
     | zero=>simp [dn] at e1
     | succ k'=>exact⟨k',rfl⟩
    rw [aLC] at e1
    obtain⟨rfl,e5⟩:=List.append_inj' e1 rfl
    simp only [List.cons.injEq,and_true] at e5
    subst e5
    rw [aXU (d:=default) (k:=k') (by omega) (fun j hj=>e2 _ (aXV hj)) e3]
    rfl
theorem aIV{w0:World}{l:List Ev}{i:Int}{cell:Int}{s1:Value}{r:Ev}(h1:aK.rd (RR w0) w0 [s1] (l:List Ev))(hF:IC l i cell=some r) :
  Calls prog 12 #[s1,.int .i64 (i),.int .i64 (cell)] w0 (Ret fun v w'=>v=.agg #[.int .i64 r.Kind,.int .i64 r.Who,.int .i64 r.aI,.int .i64 r.Cell,.int .i64 r.Handle,.int .i64 r.dQ,.int .i64 r.Code]/\St (cL w0) w' [] []):=by
 cases hF
 obtain⟨a,c,e,hlc,hc,h4⟩:=(h1:pT _ _ _ _)
 simp only [List.cons.injEq,and_true] at e
 subst e
 refine Calls.mono ((callsIn_wide (n:=3)).1 (?_:CallsIn Fence.wide 3 prog 12 _ w0 fun e W'=>e=.returned (.agg (Q4 (((l.take (max (min i (l.length:Int)) 0).toNat).reverse.find? (XT cell)).getD ⟨0,0,0,0,0,0,0⟩)).toArray)/\Below w0.heap.size w0 W')) ?_
 ·refine aTI Fence.wide 3 trivial trivial trivial rfl (iE _) a l.length c l i cell rfl hlc (by have:=hc;simpa [maxLen] using this) w0 ?_
  by_cases h0:l=[]
  ·subst h0
   exact .inl ⟨⟨_,_,rfl⟩,rfl⟩
  ·rcases h4 with h4 | ⟨b,off,rfl,h4⟩
   ·exact(h0 h4).elim
   ·refine .inr ⟨b,off,c,rfl,?_,fun j hj=>?_⟩
    ·obtain⟨ec,k1,k2,k3⟩:=h4 0 (List.length_pos_iff.2 h0)
     have:=k2 (off+0) ⟨rfl,by omega,by rw [aXS k3];simp⟩
     exact this
    ·obtain⟨ec,k1,k2,k3⟩:=h4 j hj
     rw [eM hj]
     have hn:aK.n Ev=7:=rfl
     rw [aXS k3,hn] at k1
     exact⟨k1 0 _ rfl,k1 1 _ rfl,k1 2 _ rfl,k1 3 _ rfl,k1 4 _ rfl,k1 5 _ rfl,k1 6 _ rfl⟩
 ·rintro e w' ⟨rfl,h⟩
  exact⟨_,rfl,rfl,aNW h⟩
end
end Go.Proofs.YtabnjpbikjfhoaaGreat
end
