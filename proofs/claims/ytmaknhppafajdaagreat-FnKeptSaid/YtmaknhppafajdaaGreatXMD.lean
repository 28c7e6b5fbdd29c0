import Derived.Test.YtmaknhppafajdaaGreatXMC
import Derived.Test.YtmaknhppafajdaaGreatProg
set_option linter.unusedVariables false
set_option linter.unusedSimpArgs false
set_option linter.unusedSectionVars false
set_option linter.constructorNameAsVariable false
set_option linter.unnecessarySimpa false
noncomputable section
set_option maxHeartbeats 4000000
set_option maxRecDepth 100000
namespace Go.Proofs.YtmaknhppafajdaaGreat
open Go.Gv
theorem aQ:V5 Tryz.prog 3 1 (.int .i64 0):=RX (b:=8) (by kernel_rfl) rfl
theorem bO:V5 Tryz.prog 121 1 (.agg #[.slice none 0 0]):=RX (b:=24) (by kernel_rfl) rfl
theorem dC:V5 Tryz.prog 5 1 (.int .u8 0):=RX (b:=1) (by kernel_rfl) rfl
theorem cC:V5 Tryz.prog 108 2 (.agg #[.int .i64 0,.int .i64 0]):=RX (b:=16) (by kernel_rfl) rfl
theorem pP:V5 Tryz.prog 59 4 (.agg #[.bool false,.int .i64 0,.bool false,.int .i64 0]):=RX (b:=32) (by kernel_rfl) rfl
theorem iQ:V5 Tryz.prog 106 1 (.agg #[.slice none 0 0]):=RX (b:=24) (by kernel_rfl) rfl
theorem aJQ:V5 Tryz.prog 36 1 (.slice none 0 0):=RX (b:=24) (by kernel_rfl) rfl
theorem aD:Tryz.prog.follows .mixedOrders=true:=by kernel_rfl
theorem R7(D:Nat)(d d':eX)(w:World):(Op.eqFields (D+2) #[.bool (d.On),.int .i64 (d.aK),.bool (d.dT),.int .i64 (d.Seen)] #[.bool (d'.On),.int .i64 (d'.aK),.bool (d'.dT),.int .i64 (d'.Seen)] (match Tryz.prog.underlying 59 with | some (.struct fs)=>fs | _=>#[]).toList).run Tryz.prog w=.ok (decide (d=d')) w:=by
  rw [Tryz.underlying59]
  have h:(d.On == d'.On && (d.aK == d'.aK && (d.dT == d'.dT && (d.Seen == d'.Seen && true))))=decide (d=d'):=by
    cases d;cases d';rw [Bool.eq_iff_iff];simp
  rw [←h]
  exact jP _ _ _ _ _ rfl (j5 Tryz.isAgg4 rfl) (j5 Tryz.isAgg4 rfl) (aFA Tryz.underlying4)<|
    jP _ _ _ _ _ rfl (j5 Tryz.isAgg3 rfl) (j5 Tryz.isAgg3 rfl) (BE Tryz.underlying3)<|
    jP _ _ _ _ _ rfl (j5 Tryz.isAgg4 rfl) (j5 Tryz.isAgg4 rfl) (aFA Tryz.underlying4)<|
    jP _ _ _ _ _ rfl (j5 Tryz.isAgg3 rfl) (j5 Tryz.isAgg3 rfl) (BE Tryz.underlying3)<|
    aE9 _ _ _
theorem aHY(D:Nat)(d d':bC)(w:World):(Op.eqFields (D+2) #[.int .i64 (d.Handle),.int .i64 (d.aK)] #[.int .i64 (d'.Handle),.int .i64 (d'.aK)] (match Tryz.prog.underlying 108 with | some (.struct fs)=>fs | _=>#[]).toList).run Tryz.prog w=.ok (decide (d=d')) w:=by
  rw [Tryz.underlying108]
  have h:(d.Handle == d'.Handle && (d.aK == d'.aK && true))=decide (d=d'):=by
    cases d;cases d';rw [Bool.eq_iff_iff];simp
  rw [←h]
  exact jP _ _ _ _ _ rfl (j5 Tryz.isAgg3 rfl) (j5 Tryz.isAgg3 rfl) (BE Tryz.underlying3)<|
    jP _ _ _ _ _ rfl (j5 Tryz.isAgg3 rfl) (j5 Tryz.isAgg3 rfl) (BE Tryz.underlying3)<|
    aE9 _ _ _
theorem aJR(D:Nat)(d d':Sub)(w:World):(Op.eqFields (D+2) #[.int .i64 (d.Kind),.int .i64 (d.A),.int .i64 (d.Pc),.int .i64 (d.E),.int .i64 (d.Row),.int .i64 (d.B),.int .i64 (d.H),.int .i64 (d.Out),.int .i64 (d.Code),.bool (d.eI)] #[.int .i64 (d'.Kind),.int .i64 (d'.A),.int .i64 (d'.Pc),.int .i64 (d'.E),.int .i64 (d'.Row),.int .i64 (d'.B),.int .i64 (d'.H),.int .i64 (d'.Out),.int .i64 (d'.Code),.bool (d'.eI)] (match Tryz.prog.underlying 61 with | some (.struct fs)=>fs | _=>#[]).toList).run Tryz.prog w=.ok (decide (d=d')) w:=by
  rw [Tryz.underlying61]
  have h:(d.Kind == d'.Kind && (d.A == d'.A && (d.Pc == d'.Pc && (d.E == d'.E && (d.Row == d'.Row && (d.B == d'.B && (d.H == d'.H && (d.Out == d'.Out && (d.Code == d'.Code && (d.eI == d'.eI && true))))))))))=decide (d=d'):=by
    cases d;cases d';rw [Bool.eq_iff_iff];simp
  rw [←h]
  exact jP _ _ _ _ _ rfl (j5 Tryz.isAgg3 rfl) (j5 Tryz.isAgg3 rfl) (BE Tryz.underlying3)<|
    jP _ _ _ _ _ rfl (j5 Tryz.isAgg3 rfl) (j5 Tryz.isAgg3 rfl) (BE Tryz.underlying3)<|
    jP _ _ _ _ _ rfl (j5 Tryz.isAgg3 rfl) (j5 Tryz.isAgg3 rfl) (BE Tryz.underlying3)<|
    jP _ _ _ _ _ rfl (j5 Tryz.isAgg3 rfl) (j5 Tryz.isAgg3 rfl) (BE Tryz.underlying3)<|
    jP _ _ _ _ _ rfl (j5 Tryz.isAgg3 rfl) (j5 Tryz.isAgg3 rfl) (BE Tryz.underlying3)<|
    jP _ _ _ _ _ rfl (j5 Tryz.isAgg3 rfl) (j5 Tryz.isAgg3 rfl) (BE Tryz.underlying3)<|
    jP _ _ _ _ _ rfl (j5 Tryz.isAgg3 rfl) (j5 Tryz.isAgg3 rfl) (BE Tryz.underlying3)<|
    jP _ _ _ _ _ rfl (j5 Tryz.isAgg3 rfl) (j5 Tryz.isAgg3 rfl) (BE Tryz.underlying3)<|
    jP _ _ _ _ _ rfl (j5 Tryz.isAgg3 rfl) (j5 Tryz.isAgg3 rfl) (BE Tryz.underlying3)<|
    jP _ _ _ _ _ rfl (j5 Tryz.isAgg4 rfl) (j5 Tryz.isAgg4 rfl) (aFA Tryz.underlying4)<|
    aE9 _ _ _
set_option maxRecDepth 100000 in
theorem KP{w0:World}{n:Int}(hn:0≤n∧n≤1073741824) :
    Calls Tryz.prog 322 #[.slice none 0 0,.int .i64 n] w0 (Ret fun v w'=>∃s0_0:Value,v=s0_0∧St (cG w0) w' [eY [s0_0] ([]:List Raw)] []):=by
  have hS:St (cG w0) w0 [] []:=St.enter (by intro f hf;cases hf)
  have hw:aV (n - aV (0 - 0))=n:=by
    rw [F8 (x:=0 - 0) (by omega),F8 (by omega)];omega
  refine aOF (args:=[_,_]) Tryz.func322 rfl Tryz.ntmps322 rfl ?_
  intro a hA
  refine bS ?_
  refine b8 hA ?_
  clear hA
  refine dY (BC rfl rfl) (bU rfl) rfl rfl ?_
  refine bI ?_
  intro a hA
  refine bS ?_
  refine bS ?_
  refine b8 hA ?_
  clear hA
  refine dY (lY rfl rfl) (bU rfl) rfl rfl ?_
  refine dY (D5 rfl rfl rfl) (bU rfl) rfl rfl ?_
  refine bI ?_
  intro a hA
  refine jQ hA rfl (fun hc=>?_) (fun hc=>?_)
  · exfalso;simp at hc;omega
  refine mZ ?_
  refine bS ?_
  refine bS ?_
  refine b8 hA ?_
  clear hA
  refine dY (lY rfl rfl) (bU rfl) rfl rfl ?_
  refine dY (lY rfl rfl) (bU rfl) rfl rfl ?_
  refine dY (aEA Tryz.underlying36 rfl rfl) (bU rfl) rfl rfl ?_
  refine dY (lY rfl rfl) (bU rfl) rfl rfl ?_
  refine dY (m3 (aOJ (α:=Raw) (S:=F0)) Tryz.underlying36 rfl rfl) (bU rfl) rfl rfl ?_
  refine dY (aIX rfl rfl rfl) (bU rfl) rfl rfl ?_
  refine dY (aIX rfl rfl rfl) (bU rfl) rfl rfl ?_
  refine dY (BC rfl rfl) (bU rfl) rfl rfl ?_
  refine bI ?_
  intro a hA
  refine bS ?_
  refine b8 hA ?_
  clear hA
  refine dY (lY rfl rfl) (bU rfl) rfl rfl ?_
  refine dY (aI0 rfl rfl rfl) (bU rfl) rfl rfl ?_
  refine bI ?_
  intro a hA
  refine jQ hA rfl (fun hc=>?_) (fun hc=>?_)
  · have hn1:0 < n:=by
      have h2:decide (0 < aV (n - aV (0 - 0)))=true:=hc
      rw [hw] at h2;simpa using h2
    refine b8 hA ?_
    clear hA
    refine dY (lY rfl rfl) (bU rfl) rfl rfl ?_
    refine dY (lY rfl rfl) (bU rfl) rfl rfl ?_
    refine dY (aEA Tryz.underlying36 rfl rfl) (bU rfl) rfl rfl ?_
    refine dY (aK3 (s:=.slice none 0 0) ⟨_,_,_,rfl⟩ Tryz.underlying36 Tryz.sizeOf121 rfl rfl rfl) (bU rfl) rfl rfl ?_
    refine dY (lY rfl rfl) (bU rfl) rfl rfl ?_
    refine IS (aSV (i:=aV (n - aV (0 - 0))) hS Tryz.underlying36 Tryz.underlying3 bO rfl rfl (by rw [hw];omega) rfl rfl rfl) (bU rfl) rfl rfl ?_
    clear hS
    intro s w hS
    refine dY (lY rfl rfl) (bU rfl) rfl rfl ?_
    refine dY (m3 (aOJ (α:=Raw) (S:=F0)) Tryz.underlying36 rfl rfl) (bU rfl) rfl rfl ?_
    refine dY (aK3 (hS.aO6 0 rfl) Tryz.underlying36 Tryz.sizeOf121 rfl rfl rfl) (bU rfl) rfl rfl ?_
    refine dY (BC rfl rfl) (bU rfl) rfl rfl ?_
    refine bI ?_
    intro a hA
    replace hS:=hS.aV0 (α:=Raw) 0 rfl rfl
    refine bS ?_
    refine b8 hA ?_
    clear hA
    refine dY (lY rfl rfl) (bU rfl) rfl rfl ?_
    refine dY (BC rfl rfl) (bU rfl) rfl rfl ?_
    refine bI ?_
    intro a hA
    refine xI ?_
    exact aSJ Tryz.results322 hA (YM rfl) ⟨_,rfl,(hS.K1 [0] rfl).weaken (R':=[]) (fun _ h=>nomatch h)⟩
  · refine mZ ?_
    replace hS:=hS.aVU (α:=Raw)
    refine bS ?_
    refine b8 hA ?_
    clear hA
    refine dY (lY rfl rfl) (bU rfl) rfl rfl ?_
    refine dY (BC rfl rfl) (bU rfl) rfl rfl ?_
    refine bI ?_
    intro a hA
    refine xI ?_
    exact aSJ Tryz.results322 hA (YM rfl) ⟨_,rfl,(hS.K1 [0] rfl).weaken (R':=[]) (fun _ h=>nomatch h)⟩
theorem NQ{w0:World}{slices:List (List Raw)}{s1:Value}{r:(List Raw)}(h1:aN.rd (NU w0) w0 [s1] (slices:List (List Raw)))(hF:m5 slices=some r) :
    Calls Tryz.prog 246 #[s1] w0 (Ret fun v w'=>∃(s0_0:Value),v=s0_0∧St (cG w0) w' [eY [s0_0] (r:List Raw)] []):=by
 have hS:St (cG w0) w0 [] [y7 [s1] (slices:List (List Raw))]:=St.enter (by
   intro f hf
   simp only [List.mem_cons,List.not_mem_nil,or_false] at hf
   subst hf;exact h1)
 refine yJ (args:=[_]) Tryz.func246 rfl Tryz.ntmps246 rfl ?_
 unfold m5 at hF
 intro a hA
 refine bS<|b8 hA ?_
 clear hA
 refine oa rfl rfl<|bI fun a hA=>bS<|b8 hA ?_
 clear hA
 refine oa rfl rfl<|bI fun a hA=>bS<|bS<|b8 hA ?_
 clear hA
 refine om rfl rfl<|oy (m3 (hS.rd 0 rfl) Tryz.underlying272 rfl rfl) rfl<|om rfl rfl<|bI fun a hA=>?_
 obtain⟨o1,hl1,hF⟩:=rO hF
 refine BD (J:=fun a' w'=>∃(x5:Int),o1=x5∧jN 36 [(0,s1),(3,.int .i64 (x5))] a'∧St (cG w0) w' [] [y7 [s1] (slices:List (List Raw))]) ?_ ?_
 ·refine jO ?_
  refine HX (body:=eD slices) (r:=o1) (fun sg a' w'=>jN 36 [(0,s1),(3,.int .i64 (sg.1)),(9,s1),(10,.int .i64 ((slices.length:Int))),(11,.int .i64 (sg.2))] a'∧St (cG w0) w' [] [y7 [s1] (slices:List (List Raw))]) ?_ hl1 ⟨hA.part ⟨rfl,rfl,rfl,rfl,rfl,trivial⟩,((hS).K1 [] rfl).tO [0] rfl⟩
  clear hA hS hl1
  rintro⟨x3,x4⟩ a w q1 ⟨hA,hS⟩ hG1 hr1
  try dsimp only at hA hS
  unfold eD at hG1
  refine bS<|b8 hA ?_
  clear hA
  refine oy (D5 rfl rfl rfl) rfl<|bI fun a hA=>bS<|jQ hA rfl (fun hc2=>?_) (fun hc2=>?_)
  ·replace hG1:=JX hc2 hG1
   refine mZ<|bS<|jO<|bS<|b8 hA ?_
   clear hA
   obtain⟨x12,hx12,hG1⟩:=rO hG1
   refine oy (NZ (m:=1) (hS.rd 0 rfl) rfl hx12 Tryz.underlying272 Tryz.sizeOf36 rfl rfl rfl) rfl ?_
   obtain⟨s8,hel,hS⟩:=hS.aG4 0 rfl (iK hx12).2.2
   refine oy (gA rfl rfl Tryz.isAgg36 (aOI hel)) rfl<|oa rfl rfl<|bI fun a hA=>bS<|b8 hA ?_
   clear hA
   refine om rfl rfl<|om rfl rfl<|oy (m3 (hS.rd 1 rfl) Tryz.underlying36 rfl rfl) rfl<|oy (IT rfl rfl rfl) rfl<|oa rfl rfl<|bI fun a hA=>bS<|b8 hA ?_
   clear hA
   refine om rfl rfl<|oy (D5 rfl rfl rfl) rfl<|bI fun a hA=>jQ hA rfl (fun hc3=>?_) (fun hc3=>?_)
   ·replace hG1:=JX hc3 hG1
    refine b8 hA ?_
    clear hA
    cases hG1
   ·replace hG1:=JY hc3 hG1
    refine mZ<|b8 hA ?_
    clear hA
    refine oy (IT rfl rfl rfl) rfl<|om rfl rfl<|bI fun a hA=>?_
    cases hG1
    exact⟨_,rfl,⟨hA.part ⟨rfl,rfl,rfl,rfl,rfl,trivial⟩,((hS).K1 [] rfl).tO [0] rfl⟩⟩
  ·replace hG1:=JY hc2 hG1
   refine HW<|BA ?_
   cases hG1
   have ho:=hr1 _ rfl;subst ho
   exact⟨x3,rfl,hA.part ⟨rfl,rfl,trivial⟩,((hS).K1 [] rfl).tO [0] rfl⟩
 ·skip
  clear hA hS hl1
  rintro a w ⟨x5,heq,hA,hS⟩
  replace hF:jU slices x5=some r:=by rw [heq] at hF;exact hF
  clear heq
  unfold jU at hF
  refine bS<|b8 hA ?_
  clear hA
  refine om rfl rfl ?_
  obtain⟨hn1,hF⟩:=gC hF
  refine V4 (H0 Tryz.call322 rfl rfl) (bU rfl) rfl rfl (KP hn1) ?_
  rintro s2 w ⟨_,rfl,hk⟩
  replace hS:=hS.after hk;clear hk
  refine oa rfl rfl<|bI fun a hA=>bS<|bS<|b8 hA ?_
  clear hA
  refine om rfl rfl<|oy (m3 (hS.rd 0 rfl) Tryz.underlying272 rfl rfl) rfl<|om rfl rfl<|bI fun a hA=>?_
  obtain⟨o2,hl2,hF⟩:=rO hF
  refine BD (J:=fun a' w'=>∃(x10:List Raw) (s5:Value),o2=x10∧jN 36 [(6,s5)] a'∧St (cG w0) w' [eY [s5] (x10:List Raw)] []) ?_ ?_
  ·refine jO ?_
   refine HX (body:=e6 slices) (r:=o2) (fun sg a' w'=>∃(s4:Value),jN 36 [(6,s4),(25,s1),(26,.int .i64 ((slices.length:Int))),(27,.int .i64 (sg.2))] a'∧St (cG w0) w' [eY [s4] (sg.1:List Raw)] [y7 [s1] (slices:List (List Raw))]) ?_ hl2 ⟨s2,hA.part ⟨rfl,rfl,rfl,rfl,trivial⟩,((hS).K1 [0] rfl).tO [0] rfl⟩
   clear hA hS hl2
   rintro⟨x8,x9⟩ a w q2 ⟨s4,hA,hS⟩ hG2 hr2
   try dsimp only at hA hS
   unfold e6 at hG2
   refine bS<|b8 hA ?_
   clear hA
   refine oy (D5 rfl rfl rfl) rfl<|bI fun a hA=>bS<|jQ hA rfl (fun hc1=>?_) (fun hc1=>?_)
   ·replace hG2:=JX hc1 hG2
    refine mZ<|bS<|jO<|bS<|b8 hA ?_
    clear hA
    obtain⟨x11,hx11,hG2⟩:=rO hG2
    refine oy (NZ (m:=1) (hS.rd 0 rfl) rfl hx11 Tryz.underlying272 Tryz.sizeOf36 rfl rfl rfl) rfl ?_
    obtain⟨s6,hel,hS⟩:=hS.aG4 0 rfl (iK hx11).2.2
    refine oy (gA rfl rfl Tryz.isAgg36 (aOI hel)) rfl<|oa rfl rfl<|bI fun a hA=>b8 hA ?_
    clear hA
    refine om rfl rfl<|om rfl rfl ?_
    obtain⟨hn2,hG2⟩:=gC hG2
    refine IS (aD7 (α:=Raw) 0 hS rfl (hS.rd 1 rfl) rfl Tryz.underlying36 bO rfl hn2 rfl rfl rfl) (bU rfl) rfl rfl ?_
    clear hS
    rintro s7 w hS
    refine oa rfl rfl<|bI fun a hA=>b8 hA ?_
    clear hA
    refine oy (IT rfl rfl rfl) rfl<|om rfl rfl<|bI fun a hA=>?_
    cases hG2
    exact⟨_,rfl,⟨s7,hA.part ⟨rfl,rfl,rfl,rfl,trivial⟩,((hS).K1 [0] rfl).tO [0] rfl⟩⟩
   ·replace hG2:=JY hc1 hG2
    refine HW<|BA ?_
    cases hG2
    have ho:=hr2 _ rfl;subst ho
    exact⟨x8,s4,rfl,hA.part ⟨rfl,trivial⟩,((hS).K1 [0] rfl).tO [] rfl⟩
  ·skip
   clear hA hS hl2
   rintro a w ⟨x10,s5,heq,hA,hS⟩
   replace hF:pH x10=some r:=by rw [heq] at hF;exact hF
   clear heq
   unfold pH at hF
   refine bS<|b8 hA ?_
   clear hA
   refine om rfl rfl<|oa rfl rfl<|bI fun a hA=>xI ?_
   cases hF
   exact aSJ Tryz.results246 hA (YM rfl) ⟨s5,rfl,(hS.K1 [0] rfl).weaken (R':=[]) (fun _ h=>nomatch h)⟩
theorem JA{w0:World}{n:Int}{low:Int}{high:Int}{r:Bool}(hF:cH n low high=some r) :
    Calls Tryz.prog 108 #[.int .i64 (n),.int .i64 (low),.int .i64 (high)] w0 (Ret fun v w'=>v=.bool (r)∧St (cG w0) w' [] []):=by
 have hS:St (cG w0) w0 [] []:=St.enter (by
   intro f hf;cases hf)
 refine yJ (args:=[_,_,_]) Tryz.func108 rfl Tryz.ntmps108 rfl ?_
 unfold cH at hF
 intro a hA
 refine bS<|b8 hA ?_
 clear hA
 refine oa rfl rfl<|bI fun a hA=>bS<|BD (J:=fun a' w'=>∃(x1:Bool),nP x1=some r∧jN 15 [(6,.bool (x1))] a'∧St (cG w0) w' [] []) ?_ ?_
 ·skip
  refine b8 hA ?_
  clear hA
  refine om rfl rfl<|om rfl rfl<|oy (aOB rfl rfl rfl) rfl<|om rfl rfl<|F5 (s:=10) rfl (fun hc1=>?_) (fun hc1=>?_)
  ·replace hF:=JX hc1 hF
   refine dY (lY rfl rfl) (bY rfl rfl rfl (by rw [hc1];rfl)) rfl rfl ?_
   refine dY (lY rfl rfl) (bY rfl rfl rfl (by rw [hc1];rfl)) rfl rfl ?_
   refine dY (aIZ rfl rfl rfl) (bY rfl rfl rfl (by rw [hc1];rfl)) rfl rfl ?_
   refine oy (tN rfl rfl hc1 rfl) rfl<|oa rfl rfl<|bI fun a hA=>?_
   exact⟨decide (n≤high),hF,hA.part ⟨rfl,trivial⟩,((hS).K1 [] rfl).tO [] rfl⟩
  ·replace hF:=JY hc1 hF
   refine d7 (bY rfl rfl rfl (by rw [hc1];rfl)) rfl rfl ?_
   refine d7 (bY rfl rfl rfl (by rw [hc1];rfl)) rfl rfl ?_
   refine d7 (bY rfl rfl rfl (by rw [hc1];rfl)) rfl rfl ?_
   refine oy (yI rfl rfl hc1 rfl) rfl<|oa rfl rfl<|bI fun a hA=>?_
   exact⟨false,hF,hA.part ⟨rfl,trivial⟩,((hS).K1 [] rfl).tO [] rfl⟩
 ·skip
  clear hA hS hF
  rintro a w ⟨x1,hF,hA,hS⟩
  unfold nP at hF
  refine xI ?_
  cases hF
  exact fy Tryz.results108 hA rfl hS
theorem aDC{w0:World}{slot:Int}{r:Bool}(hF:j9 slot=some r) :
    Calls Tryz.prog 247 #[.int .i64 (slot)] w0 (Ret fun v w'=>v=.bool (r)∧St (cG w0) w' [] []):=by
 have hS:St (cG w0) w0 [] []:=St.enter (by
   intro f hf;cases hf)
 refine yJ (args:=[_]) Tryz.func247 rfl Tryz.ntmps247 rfl ?_
 unfold j9 at hF
 intro a hA
 refine bS<|b8 hA ?_
 clear hA
 refine oa rfl rfl<|bI fun a hA=>bS<|b8 hA ?_
 clear hA
 refine om rfl rfl ?_
 obtain⟨x1,hx1,hF⟩:=rO hF
 refine V4 (H0 Tryz.call108 rfl rfl) (bU rfl) rfl rfl (JA (n:=slot) (low:=0) (high:=23) hx1) ?_
 rintro _ w ⟨rfl,hk⟩
 replace hS:=hS.after hk;clear hk
 refine oa rfl rfl<|bI fun a hA=>xI ?_
 cases hF
 exact fy Tryz.results247 hA rfl hS
theorem aAW{w0:World}{l:aA}{s1:Value}{s2:Value}{r:Bool}(h1:aN.rd (NU w0) w0 [s1] (l.Global:List aC))(h2:aN.rd (NU w0) w0 [s2] (l.bB:List aC))(hF:iH l=some r) :
    Calls Tryz.prog 163 #[.agg #[s1,s2]] w0 (Ret fun v w'=>v=.bool (r)∧St (cG w0) w' [] []):=by
 have hS:St (cG w0) w0 [] [y7 [s1] (l.Global:List aC),y7 [s2] (l.bB:List aC)]:=St.enter (by
   intro f hf
   simp only [List.mem_cons,List.not_mem_nil,or_false] at hf
   rcases hf with rfl | rfl
   · exact h1
   · exact h2)
 refine yJ (args:=[_]) Tryz.func163 rfl Tryz.ntmps163 rfl ?_
 unfold iH at hF
 intro a hA
 refine bS<|b8 hA ?_
 clear hA
 refine IS (aVQ (cs:=[s1,s2]) hS rfl rfl rfl) (bU rfl) rfl rfl ?_
 clear hS
 rintro _ w ⟨b1,rfl,hS⟩
 refine oa rfl rfl<|bI fun a hA=>bS<|bS<|BD (J:=fun a' w'=>∃(x1:Bool),qJ l x1=some r∧jN 61 [(1,.pointer (some ⟨b1,0,none⟩)),(17,.bool (x1))] a'∧St (cG w0) w' [A7 b1 [s1,s2]] [y7 [s1] (l.Global:List aC),y7 [s2] (l.bB:List aC)]) ?_ ?_
 ·skip
  refine b8 hA ?_
  clear hA
  refine oy (xJ (m:=0) Tryz.underlying38 rfl rfl Tryz.sizeOf36 rfl rfl) rfl<|oy (gA rfl rfl Tryz.isAgg36 (hS.cell 0 rfl rfl)) rfl<|oy (m3 (hS.rd 0 rfl) Tryz.underlying36 rfl rfl) rfl<|oy (aE7 rfl rfl rfl) rfl<|om rfl rfl<|F5 (s:=12) rfl (fun hc8=>?_) (fun hc8=>?_)
  ·replace hF:=JX hc8 hF
   refine d7 (bY rfl rfl rfl (by rw [hc8];rfl)) rfl rfl ?_
   refine d7 (bY rfl rfl rfl (by rw [hc8];rfl)) rfl rfl ?_
   refine d7 (bY rfl rfl rfl (by rw [hc8];rfl)) rfl rfl ?_
   refine d7 (bY rfl rfl rfl (by rw [hc8];rfl)) rfl rfl ?_
   refine oy (tN rfl rfl hc8 rfl) rfl<|bI fun a hA=>?_
   exact⟨true,hF,hA.part ⟨rfl,rfl,trivial⟩,((hS).K1 [0] rfl).tO [0,1] rfl⟩
  ·replace hF:=JY hc8 hF
   refine dY (xJ (m:=0) Tryz.underlying38 rfl rfl Tryz.sizeOf36 rfl rfl) (bY rfl rfl rfl (by rw [hc8];rfl)) rfl rfl ?_
   refine dY (gA rfl rfl Tryz.isAgg36 (hS.cell 0 rfl rfl)) (bY rfl rfl rfl (by rw [hc8];rfl)) rfl rfl ?_
   refine dY (m3 (hS.rd 1 rfl) Tryz.underlying36 rfl rfl) (bY rfl rfl rfl (by rw [hc8];rfl)) rfl rfl ?_
   refine dY (aE7 rfl rfl rfl) (bY rfl rfl rfl (by rw [hc8];rfl)) rfl rfl ?_
   refine oy (yI rfl rfl hc8 rfl) rfl<|bI fun a hA=>?_
   exact⟨(l.bB.length:Int) != 9,hF,hA.part ⟨rfl,rfl,trivial⟩,((hS).K1 [0] rfl).tO [0,1] rfl⟩
 ·skip
  clear hA hS hF
  rintro a w ⟨x1,hF,hA,hS⟩
  unfold qJ at hF
  refine jQ hA rfl (fun hc1=>?_) (fun hc1=>?_)
  ·replace hF:=JX hc1 hF
   refine bS<|b8 hA ?_
   clear hA
   refine oa rfl rfl<|bI fun a hA=>xI ?_
   cases hF
   exact fy Tryz.results163 hA rfl hS
  ·replace hF:=JY hc1 hF
   refine mZ<|bS<|b8 hA ?_
   clear hA
   refine oy (UP (cells:=#[.bool (false),.bool (false),.bool (false),.bool (false),.bool (false),.bool (false),.bool (false),.bool (false),.bool (false),.bool (false),.bool (false),.bool (false),.bool (false),.bool (false),.bool (false),.bool (false),.bool (false),.bool (false),.bool (false),.bool (false),.bool (false),.bool (false),.bool (false),.bool (false)]) rfl Tryz.zeroValue223 Tryz.underlying223 Tryz.sizeOf4 rfl rfl) rfl<|IS (JW (cs:=List.map (fun q:Bool=>Value.bool q) [false,false,false,false,false,false,false,false,false,false,false,false,false,false,false,false,false,false,false,false,false,false,false,false]) hS rfl Tryz.zeroValue223 rfl) (bU rfl) rfl rfl ?_
   clear hS
   rintro _ w ⟨b2,rfl,hS⟩
   refine NW (RW (vs:=[.bool (false),.bool (false),.bool (false),.bool (false),.bool (false),.bool (false),.bool (false),.bool (false),.bool (false),.bool (false),.bool (false),.bool (false),.bool (false),.bool (false),.bool (false),.bool (false),.bool (false),.bool (false),.bool (false),.bool (false),.bool (false),.bool (false),.bool (false),.bool (false)]) hS (i:=1) rfl rfl rfl rfl rfl Tryz.sizeOf223 rfl rfl rfl) (bU rfl) rfl ?_
   clear hS
   intro w hS
   refine bI fun a hA=>bS<|bS<|b8 hA ?_
   clear hA
   refine oy (xJ (m:=0) Tryz.underlying38 rfl rfl Tryz.sizeOf36 rfl rfl) rfl<|oy (gA rfl rfl Tryz.isAgg36 (hS.cell 0 rfl rfl)) rfl<|oy (xJ (m:=0) Tryz.underlying38 rfl rfl Tryz.sizeOf36 rfl rfl) rfl<|oy (gA rfl rfl Tryz.isAgg36 (hS.cell 0 rfl rfl)) rfl<|IS (aI6 hS (hS.rd 1 rfl) (hS.rd 0 rfl) Tryz.underlying272 aJQ rfl rfl rfl) (bU rfl) rfl rfl ?_
   clear hS
   rintro s3 w hS
   obtain⟨hn1,hF⟩:=gC hF
   replace hS:=hS.aXU 2 rfl
   obtain⟨u1,u2,hu1,hl1,hS⟩:=hS.aSW rfl 2 1 0 rfl rfl rfl
   refine V4 (H0 Tryz.call246 rfl rfl) (bU rfl) rfl rfl (NQ hu1 (J7 hl1 hn1)) ?_
   rintro s4 w ⟨_,rfl,hk⟩
   replace hS:=hS.after hk;clear hk
   replace hS:=hS.aXU 3 rfl
   replace hS:=hS.aX0 rfl 4 3 rfl rfl
   refine oy (m3 (hS.rd 5 rfl) Tryz.underlying36 rfl rfl) rfl<|om rfl rfl<|bI fun a hA=>?_
   obtain⟨o1,hl2,hF⟩:=rO hF
   refine BD (J:=fun a' w'=>o1=Out.brk ()∧jN 61 [] a'∧St (cG w0) w' [] []) ?_ ?_
   ·refine jO ?_
    refine HX (body:=jH l) (r:=o1) (fun sg a' w'=>jN 61 [(1,.pointer (some ⟨b1,0,none⟩)),(3,.pointer (some ⟨b2,0,none⟩)),(24,s4),(25,.int .i64 (((l.bB++l.Global).length:Int))),(26,.int .i64 (sg.1))] a'∧St (cG w0) w' [A7 b1 [s1,s2],A7 b2 (List.map (fun q:Bool=>Value.bool q) (sg.2:List Bool))] [y7 [s4] (l.bB++l.Global:List aC),y7 [s1] (l.Global:List aC),y7 [s2] (l.bB:List aC)]) ?_ hl2 ⟨hA.part ⟨rfl,rfl,rfl,rfl,rfl,trivial⟩,((hS).K1 [0,1] rfl).tO [5,0,1] rfl⟩
    clear hA hS hl2
    rintro⟨x4,x5⟩ a w q2 ⟨hA,hS⟩ hG2 hr2
    try dsimp only at hA hS
    unfold jH at hG2
    refine bS<|b8 hA ?_
    clear hA
    refine oy (D5 rfl rfl rfl) rfl<|bI fun a hA=>bS<|jQ hA rfl (fun hc2=>?_) (fun hc2=>?_)
    ·replace hG2:=JX hc2 hG2
     refine mZ<|bS<|jO<|bS<|b8 hA ?_
     clear hA
     refine om rfl rfl ?_
     obtain⟨x6,hx6,hG2⟩:=rO hG2
     refine oy (NZ (m:=1) (hS.rd 0 rfl) rfl hx6 Tryz.underlying36 Tryz.sizeOf121 rfl rfl rfl) rfl ?_
     obtain⟨s5,hel,hS⟩:=hS.aQ1 0 rfl (iK hx6).2.2
     refine oy (NX rfl rfl Tryz.isAgg121 Tryz.sizeOf121 rfl hel) rfl<|IS (JW (cs:=[(.slice none 0 0)]) hS rfl Tryz.zeroValue121 rfl) (bU rfl) rfl rfl ?_
     clear hS
     rintro _ w ⟨b3,rfl,hS⟩
     refine oa rfl rfl<|NW (RW (vs:=[s5]) hS (i:=2) rfl rfl rfl rfl rfl Tryz.sizeOf121 rfl rfl (aVV (ZJ (hS.rd 3 rfl)) rfl)) (bU rfl) rfl ?_
     clear hS
     intro w hS
     refine bI fun a hA=>bS<|bS<|BD (J:=fun a' w'=>∃(x7:Bool),jG x4 x5 x6 x7=some q2∧jN 61 [(1,.pointer (some ⟨b1,0,none⟩)),(3,.pointer (some ⟨b2,0,none⟩)),(5,.pointer (some ⟨b3,0,none⟩)),(24,s4),(25,.int .i64 (((l.bB++l.Global).length:Int))),(26,.int .i64 (x4)),(41,.bool (x7))] a'∧St (cG w0) w' [A7 b1 [s1,s2],A7 b2 (List.map (fun q:Bool=>Value.bool q) (x5:List Bool)),A7 b3 [s5]] [y7 [s4] (l.bB++l.Global:List aC),y7 [s1] (l.Global:List aC),y7 [s2] (l.bB:List aC),y7 [s5] (x6.aJ:List Int)]) ?_ ?_
     ·skip
      refine b8 hA ?_
      clear hA
      refine om rfl rfl<|oy (xJ (m:=0) Tryz.underlying38 rfl rfl Tryz.sizeOf36 rfl rfl) rfl<|oy (gA rfl rfl Tryz.isAgg36 (hS.cell 0 rfl rfl)) rfl<|oy (m3 (hS.rd 2 rfl) Tryz.underlying36 rfl rfl) rfl<|oy (D5 rfl rfl rfl) rfl<|om rfl rfl<|F5 (s:=36) rfl (fun hc7=>?_) (fun hc7=>?_)
      ·replace hG2:=JX hc7 hG2
       refine dY (xJ (m:=0) Tryz.underlying121 rfl rfl Tryz.sizeOf33 rfl rfl) (bY rfl rfl rfl (by rw [hc7];rfl)) rfl rfl ?_
       refine dY (gA rfl rfl Tryz.isAgg33 (hS.cell 2 rfl rfl)) (bY rfl rfl rfl (by rw [hc7];rfl)) rfl rfl ?_
       refine dY (m3 (hS.rd 3 rfl) Tryz.underlying33 rfl rfl) (bY rfl rfl rfl (by rw [hc7];rfl)) rfl rfl ?_
       refine dY (aI0 rfl rfl rfl) (bY rfl rfl rfl (by rw [hc7];rfl)) rfl rfl ?_
       refine oy (tN rfl rfl hc7 rfl) rfl<|bI fun a hA=>?_
       exact⟨decide (2 < (x6.aJ.length:Int)),hG2,hA.part ⟨rfl,rfl,rfl,rfl,rfl,rfl,rfl,trivial⟩,((hS).K1 [0,1,2] rfl).tO [0,1,2,3] rfl⟩
      ·replace hG2:=JY hc7 hG2
       refine d7 (bY rfl rfl rfl (by rw [hc7];rfl)) rfl rfl ?_
       refine d7 (bY rfl rfl rfl (by rw [hc7];rfl)) rfl rfl ?_
       refine d7 (bY rfl rfl rfl (by rw [hc7];rfl)) rfl rfl ?_
       refine d7 (bY rfl rfl rfl (by rw [hc7];rfl)) rfl rfl ?_
       refine oy (yI rfl rfl hc7 rfl) rfl<|bI fun a hA=>?_
       exact⟨false,hG2,hA.part ⟨rfl,rfl,rfl,rfl,rfl,rfl,rfl,trivial⟩,((hS).K1 [0,1,2] rfl).tO [0,1,2,3] rfl⟩
     ·skip
      clear hA hS hG2
      rintro a w ⟨x7,hG2,hA,hS⟩
      unfold jG at hG2
      refine jQ hA rfl (fun hc3=>?_) (fun hc3=>?_)
      ·replace hG2:=JX hc3 hG2
       refine bS<|b8 hA ?_
       clear hA
       refine oa rfl rfl<|bI fun a hA=>xI ?_
       cases hG2
       have ho:=hr2 _ rfl;subst ho
       replace hF:some false=some r:=hF
       cases hF
       exact fy Tryz.results163 hA rfl hS
      ·replace hG2:=JY hc3 hG2
       refine mZ<|bS<|b8 hA ?_
       clear hA
       refine oy (xJ (m:=0) Tryz.underlying121 rfl rfl Tryz.sizeOf33 rfl rfl) rfl<|oy (gA rfl rfl Tryz.isAgg33 (hS.cell 2 rfl rfl)) rfl<|oy (m3 (hS.rd 3 rfl) Tryz.underlying33 rfl rfl) rfl<|om rfl rfl<|bI fun a hA=>?_
       obtain⟨o2,hl3,hG2⟩:=rO hG2
       refine BD (J:=fun a' w'=>∃(x12:List Bool),o2=Out.brk x12∧jN 61 [(1,.pointer (some ⟨b1,0,none⟩)),(3,.pointer (some ⟨b2,0,none⟩)),(24,s4),(25,.int .i64 (((l.bB++l.Global).length:Int))),(26,.int .i64 (x4))] a'∧St (cG w0) w' [A7 b1 [s1,s2],A7 b2 (List.map (fun q:Bool=>Value.bool q) (x12:List Bool))] [y7 [s4] (l.bB++l.Global:List aC),y7 [s1] (l.Global:List aC),y7 [s2] (l.bB:List aC)]) ?_ ?_
       ·refine jO ?_
        refine HX (body:=jF x6) (r:=o2) (fun sg a' w'=>jN 61 [(1,.pointer (some ⟨b1,0,none⟩)),(3,.pointer (some ⟨b2,0,none⟩)),(24,s4),(25,.int .i64 (((l.bB++l.Global).length:Int))),(26,.int .i64 (x4)),(43,s5),(44,.int .i64 ((x6.aJ.length:Int))),(45,.int .i64 (sg.1))] a'∧St (cG w0) w' [A7 b1 [s1,s2],A7 b2 (List.map (fun q:Bool=>Value.bool q) (sg.2:List Bool))] [y7 [s4] (l.bB++l.Global:List aC),y7 [s5] (x6.aJ:List Int),y7 [s1] (l.Global:List aC),y7 [s2] (l.bB:List aC)]) ?_ hl3 ⟨hA.part ⟨rfl,rfl,rfl,rfl,rfl,rfl,rfl,rfl,trivial⟩,((hS).K1 [0,1] rfl).tO [0,3,1,2] rfl⟩
        clear hA hS hl3
        rintro⟨x10,x11⟩ a w q4 ⟨hA,hS⟩ hG4 hr4
        try dsimp only at hA hS
        unfold jF at hG4
        refine bS<|b8 hA ?_
        clear hA
        refine oy (D5 rfl rfl rfl) rfl<|bI fun a hA=>bS<|jQ hA rfl (fun hc4=>?_) (fun hc4=>?_)
        ·replace hG4:=JX hc4 hG4
         refine mZ<|bS<|jO<|bS<|b8 hA ?_
         clear hA
         obtain⟨x13,hx13,hG4⟩:=rO hG4
         refine oy (NZ (m:=1) (hS.rd 1 rfl) rfl hx13 Tryz.underlying33 Tryz.sizeOf3 rfl rfl rfl) rfl<|oy (gA rfl rfl Tryz.isAgg3 (aOI (aVS (hS.rd 1 rfl) (iK hx13).2.2))) rfl<|oa rfl rfl<|bI fun a hA=>bS<|bS<|BD (J:=fun a' w'=>∃(x14:Bool),lR x10 x11 x13 x14=some q4∧jN 61 [(1,.pointer (some ⟨b1,0,none⟩)),(3,.pointer (some ⟨b2,0,none⟩)),(7,.int .i64 (x13)),(24,s4),(25,.int .i64 (((l.bB++l.Global).length:Int))),(26,.int .i64 (x4)),(43,s5),(44,.int .i64 ((x6.aJ.length:Int))),(45,.int .i64 (x10)),(56,.bool (x14))] a'∧St (cG w0) w' [A7 b1 [s1,s2],A7 b2 (List.map (fun q:Bool=>Value.bool q) (x11:List Bool))] [y7 [s4] (l.bB++l.Global:List aC),y7 [s5] (x6.aJ:List Int),y7 [s1] (l.Global:List aC),y7 [s2] (l.bB:List aC)]) ?_ ?_
         ·skip
          refine b8 hA ?_
          clear hA
          refine om rfl rfl ?_
          obtain⟨x16,hx16,hG4⟩:=rO hG4
          refine V4 (H0 Tryz.call247 rfl rfl) (bU rfl) rfl rfl (aDC (slot:=x13) hx16) ?_
          rintro _ w ⟨rfl,hk⟩
          replace hS:=hS.after hk;clear hk
          refine oy (ZC rfl rfl) rfl<|om rfl rfl<|F5 (s:=52) rfl (fun hc6=>?_) (fun hc6=>?_)
          ·replace hG4:=JX hc6 hG4
           refine d7 (bY rfl rfl rfl (by rw [hc6];rfl)) rfl rfl ?_
           refine d7 (bY rfl rfl rfl (by rw [hc6];rfl)) rfl rfl ?_
           refine d7 (bY rfl rfl rfl (by rw [hc6];rfl)) rfl rfl ?_
           refine oy (tN rfl rfl hc6 rfl) rfl<|bI fun a hA=>?_
           exact⟨true,hG4,hA.part ⟨rfl,rfl,rfl,rfl,rfl,rfl,rfl,rfl,rfl,rfl,trivial⟩,((hS).K1 [0,1] rfl).tO [0,1,2,3] rfl⟩
          ·replace hG4:=JY hc6 hG4
           refine dY (lY rfl rfl) (bY rfl rfl rfl (by rw [hc6];rfl)) rfl rfl ?_
           obtain⟨hn3,hG4⟩:=gC hG4
           refine dY (YP Tryz.underlying223 Tryz.sizeOf4 hn3 rfl rfl rfl) (bY rfl rfl rfl (by rw [hc6];rfl)) rfl rfl ?_
           obtain⟨x17,hx17,hG4⟩:=rO hG4
           refine dY (gA rfl rfl Tryz.isAgg4 (hS.aK2 1 rfl hx17)) (bY rfl rfl rfl (by rw [hc6];rfl)) rfl rfl ?_
           refine oy (yI rfl rfl hc6 rfl) rfl<|bI fun a hA=>?_
           exact⟨x17,hG4,hA.part ⟨rfl,rfl,rfl,rfl,rfl,rfl,rfl,rfl,rfl,rfl,trivial⟩,((hS).K1 [0,1] rfl).tO [0,1,2,3] rfl⟩
         ·skip
          clear hA hS hG4
          rintro a w ⟨x14,hG4,hA,hS⟩
          unfold lR at hG4
          refine jQ hA rfl (fun hc5=>?_) (fun hc5=>?_)
          ·replace hG4:=JX hc5 hG4
           refine bS<|b8 hA ?_
           clear hA
           refine oa rfl rfl<|bI fun a hA=>xI ?_
           cases hG4
           have ho:=hr4 _ rfl;subst ho
           replace hG2:some (.stop (Out.ret false))=some q2:=hG2
           cases hG2
           have ho:=hr2 _ rfl;subst ho
           replace hF:some false=some r:=hF
           cases hF
           exact fy Tryz.results163 hA rfl hS
          ·replace hG4:=JY hc5 hG4
           refine mZ<|b8 hA ?_
           clear hA
           refine om rfl rfl ?_
           obtain⟨hn2,hG4⟩:=gC hG4
           refine oy (YP Tryz.underlying223 Tryz.sizeOf4 hn2 rfl rfl rfl) rfl ?_
           obtain⟨x15,hx15,hG4⟩:=rO hG4
           refine NW (aO2 (xd:=true) hS (m:=1) rfl hx15 Tryz.sizeOf4 rfl rfl rfl rfl rfl rfl) (bU rfl) rfl ?_
           clear hS
           intro w hS
           refine bI fun a hA=>b8 hA ?_
           clear hA
           refine oy (IT rfl rfl rfl) rfl<|om rfl rfl<|bI fun a hA=>?_
           cases hG4
           exact⟨_,rfl,⟨hA.part ⟨rfl,rfl,rfl,rfl,rfl,rfl,rfl,rfl,trivial⟩,((hS).K1 [0,1] rfl).tO [0,1,2,3] rfl⟩⟩
        ·replace hG4:=JY hc4 hG4
         refine HW<|BA ?_
         cases hG4
         have ho:=hr4 _ rfl;subst ho
         exact⟨x11,rfl,hA.part ⟨rfl,rfl,rfl,rfl,rfl,trivial⟩,((hS).K1 [0,1] rfl).tO [0,2,3] rfl⟩
       ·skip
        clear hA hS hl3
        rintro a w ⟨x12,heq,hA,hS⟩
        replace hG2:wP x4 x12=some q2:=by rw [heq] at hG2;exact hG2
        clear heq
        unfold wP at hG2
        refine b8 hA ?_
        clear hA
        refine oy (IT rfl rfl rfl) rfl<|om rfl rfl<|bI fun a hA=>?_
        cases hG2
        exact⟨_,rfl,⟨hA.part ⟨rfl,rfl,rfl,rfl,rfl,trivial⟩,((hS).K1 [0,1] rfl).tO [0,1,2] rfl⟩⟩
    ·replace hG2:=JY hc2 hG2
     refine HW<|BA ?_
     cases hG2
     have ho:=hr2 _ rfl;subst ho
     exact⟨rfl,hA.part trivial,((hS).K1 [] rfl).tO [] rfl⟩
   ·skip
    clear hA hS hl2
    rintro a w ⟨heq,hA,hS⟩
    replace hF:EF=some r:=by rw [heq] at hF;exact hF
    clear heq
    unfold EF at hF
    refine bS<|b8 hA ?_
    clear hA
    refine oa rfl rfl<|bI fun a hA=>xI ?_
    cases hF
    exact fy Tryz.results163 hA rfl hS
theorem XW{w0:World}{h:Int}{r:Bool}(hF:f8 h=some r) :
    Calls Tryz.prog 206 #[.int .i64 (h)] w0 (Ret fun v w'=>v=.bool (r)∧St (cG w0) w' [] []):=by
 have hS:St (cG w0) w0 [] []:=St.enter (by
   intro f hf;cases hf)
 refine yJ (args:=[_]) Tryz.func206 rfl Tryz.ntmps206 rfl ?_
 unfold f8 at hF
 intro a hA
 refine bS<|b8 hA ?_
 clear hA
 refine oa rfl rfl<|bI fun a hA=>bS<|BD (J:=fun a' w'=>∃(x1:Bool),kI x1=some r∧jN 10 [(2,.bool (x1))] a'∧St (cG w0) w' [] []) ?_ ?_
 ·skip
  refine b8 hA ?_
  clear hA
  refine om rfl rfl ?_
  obtain⟨x2,hx2,hF⟩:=rO hF
  refine V4 (H0 Tryz.call108 rfl rfl) (bU rfl) rfl rfl (JA (n:=h) (low:=32) (high:=223) hx2) ?_
  rintro _ w ⟨rfl,hk⟩
  replace hS:=hS.after hk;clear hk
  refine om rfl rfl<|F5 (s:=5) rfl (fun hc1=>?_) (fun hc1=>?_)
  ·replace hF:=JX hc1 hF
   refine dY (lY rfl rfl) (bY rfl rfl rfl (by rw [hc1];rfl)) rfl rfl ?_
   refine dY (UO rfl rfl rfl (by decide)) (bY rfl rfl rfl (by rw [hc1];rfl)) rfl rfl ?_
   refine dY (D5 rfl rfl rfl) (bY rfl rfl rfl (by rw [hc1];rfl)) rfl rfl ?_
   refine oy (tN rfl rfl hc1 rfl) rfl<|oa rfl rfl<|bI fun a hA=>?_
   exact⟨decide ((Int.tmod h 32) < 24),hF,hA.part ⟨rfl,trivial⟩,((hS).K1 [] rfl).tO [] rfl⟩
  ·replace hF:=JY hc1 hF
   refine d7 (bY rfl rfl rfl (by rw [hc1];rfl)) rfl rfl ?_
   refine d7 (bY rfl rfl rfl (by rw [hc1];rfl)) rfl rfl ?_
   refine d7 (bY rfl rfl rfl (by rw [hc1];rfl)) rfl rfl ?_
   refine oy (yI rfl rfl hc1 rfl) rfl<|oa rfl rfl<|bI fun a hA=>?_
   exact⟨false,hF,hA.part ⟨rfl,trivial⟩,((hS).K1 [] rfl).tO [] rfl⟩
 ·skip
  clear hA hS hF
  rintro a w ⟨x1,hF,hA,hS⟩
  unfold kI at hF
  refine xI ?_
  cases hF
  exact fy Tryz.results206 hA rfl hS
theorem VH{w0:World}{l:List aP}{s1:Value}{r:Int}(h1:aN.rd (NU w0) w0 [s1] (l:List aP))(hF:sV l=some r) :
    Calls Tryz.prog 233 #[s1] w0 (Ret fun v w'=>v=.int .i64 (r)∧St (cG w0) w' [] []):=by
 have hS:St (cG w0) w0 [] [y7 [s1] (l:List aP)]:=St.enter (by
   intro f hf
   simp only [List.mem_cons,List.not_mem_nil,or_false] at hf
   subst hf;exact h1)
 refine yJ (args:=[_]) Tryz.func233 rfl Tryz.ntmps233 rfl ?_
 unfold sV at hF
 intro a hA
 refine bS<|b8 hA ?_
 clear hA
 refine oa rfl rfl<|bI fun a hA=>bS<|b8 hA ?_
 clear hA
 refine oa rfl rfl<|bI fun a hA=>bS<|bS<|b8 hA ?_
 clear hA
 refine om rfl rfl<|oy (m3 (hS.rd 0 rfl) Tryz.underlying44 rfl rfl) rfl<|om rfl rfl<|bI fun a hA=>?_
 obtain⟨o1,hl1,hF⟩:=rO hF
 refine BD (J:=fun a' w'=>∃(x5:Int),o1=x5∧jN 19 [(3,.int .i64 (x5))] a'∧St (cG w0) w' [] []) ?_ ?_
 ·refine jO ?_
  refine HX (body:=gJ l) (r:=o1) (fun sg a' w'=>jN 19 [(3,.int .i64 (sg.1)),(6,s1),(7,.int .i64 ((l.length:Int))),(8,.int .i64 (sg.2))] a'∧St (cG w0) w' [] [y7 [s1] (l:List aP)]) ?_ hl1 ⟨hA.part ⟨rfl,rfl,rfl,rfl,trivial⟩,((hS).K1 [] rfl).tO [0] rfl⟩
  clear hA hS hl1
  rintro⟨x3,x4⟩ a w q1 ⟨hA,hS⟩ hG1 hr1
  try dsimp only at hA hS
  unfold gJ at hG1
  refine bS<|b8 hA ?_
  clear hA
  refine oy (D5 rfl rfl rfl) rfl<|bI fun a hA=>bS<|jQ hA rfl (fun hc1=>?_) (fun hc1=>?_)
  ·replace hG1:=JX hc1 hG1
   refine mZ<|bS<|jO<|bS<|b8 hA ?_
   clear hA
   obtain⟨x6,hx6,hG1⟩:=rO hG1
   refine oy (NZ (m:=1) (hS.rd 0 rfl) rfl hx6 Tryz.underlying44 Tryz.sizeOf106 rfl rfl rfl) rfl ?_
   obtain⟨s2,hel,hS⟩:=hS.aHX 0 rfl (iK hx6).2.2
   refine oy (NX rfl rfl Tryz.isAgg106 Tryz.sizeOf106 rfl hel) rfl<|IS (JW (cs:=[(.slice none 0 0)]) hS rfl Tryz.zeroValue106 rfl) (bU rfl) rfl rfl ?_
   clear hS
   rintro _ w ⟨b1,rfl,hS⟩
   refine NW (RW (vs:=[s2]) hS (i:=0) rfl rfl rfl rfl rfl Tryz.sizeOf106 rfl rfl (aVV (ZJ (hS.rd 1 rfl)) rfl)) (bU rfl) rfl ?_
   clear hS
   intro w hS
   refine bI fun a hA=>b8 hA ?_
   clear hA
   refine om rfl rfl<|oy (xJ (m:=0) Tryz.underlying106 rfl rfl Tryz.sizeOf94 rfl rfl) rfl<|oy (gA rfl rfl Tryz.isAgg94 (hS.cell 0 rfl rfl)) rfl<|oy (m3 (hS.rd 1 rfl) Tryz.underlying94 rfl rfl) rfl<|oy (IT rfl rfl rfl) rfl<|oa rfl rfl<|bI fun a hA=>b8 hA ?_
   clear hA
   refine oy (IT rfl rfl rfl) rfl<|om rfl rfl<|bI fun a hA=>?_
   cases hG1
   exact⟨_,rfl,⟨hA.part ⟨rfl,rfl,rfl,rfl,trivial⟩,((hS).K1 [] rfl).tO [0] rfl⟩⟩
  ·replace hG1:=JY hc1 hG1
   refine HW<|BA ?_
   cases hG1
   have ho:=hr1 _ rfl;subst ho
   exact⟨x3,rfl,hA.part ⟨rfl,trivial⟩,((hS).K1 [] rfl).tO [] rfl⟩
 ·skip
  clear hA hS hl1
  rintro a w ⟨x5,heq,hA,hS⟩
  replace hF:zW x5=some r:=by rw [heq] at hF;exact hF
  clear heq
  unfold zW at hF
  refine bS<|b8 hA ?_
  clear hA
  refine om rfl rfl<|oa rfl rfl<|bI fun a hA=>xI ?_
  cases hF
  exact fy Tryz.results233 hA rfl hS
theorem aAX{w0:World}{l:List aP}{s1:Value}{r:Bool}(h1:aN.rd (NU w0) w0 [s1] (l:List aP))(hF:jV l=some r) :
    Calls Tryz.prog 146 #[s1] w0 (Ret fun v w'=>v=.bool (r)∧St (cG w0) w' [] []):=by
 have hS:St (cG w0) w0 [] [y7 [s1] (l:List aP)]:=St.enter (by
   intro f hf
   simp only [List.mem_cons,List.not_mem_nil,or_false] at hf
   subst hf;exact h1)
 refine yJ (args:=[_]) Tryz.func146 rfl Tryz.ntmps146 rfl ?_
 unfold jV at hF
 intro a hA
 refine bS<|b8 hA ?_
 clear hA
 refine oa rfl rfl<|bI fun a hA=>bS<|bS<|b8 hA ?_
 clear hA
 refine om rfl rfl<|oy (m3 (hS.rd 0 rfl) Tryz.underlying44 rfl rfl) rfl<|oy (aE7 rfl rfl rfl) rfl<|bI fun a hA=>jQ hA rfl (fun hc1=>?_) (fun hc1=>?_)
 ·replace hF:=JX hc1 hF
  refine bS<|b8 hA ?_
  clear hA
  refine oa rfl rfl<|bI fun a hA=>xI ?_
  cases hF
  exact fy Tryz.results146 hA rfl hS
 ·replace hF:=JY hc1 hF
  refine mZ<|bS<|b8 hA ?_
  clear hA
  refine oy (UP (cells:=#[.bool (false),.bool (false),.bool (false),.bool (false),.bool (false),.bool (false),.bool (false),.bool (false),.bool (false),.bool (false),.bool (false),.bool (false),.bool (false),.bool (false),.bool (false),.bool (false),.bool (false),.bool (false),.bool (false),.bool (false),.bool (false),.bool (false),.bool (false),.bool (false)]) rfl Tryz.zeroValue223 Tryz.underlying223 Tryz.sizeOf4 rfl rfl) rfl<|IS (JW (cs:=List.map (fun q:Bool=>Value.bool q) [false,false,false,false,false,false,false,false,false,false,false,false,false,false,false,false,false,false,false,false,false,false,false,false]) hS rfl Tryz.zeroValue223 rfl) (bU rfl) rfl rfl ?_
  clear hS
  rintro _ w ⟨b1,rfl,hS⟩
  refine NW (RW (vs:=[.bool (false),.bool (false),.bool (false),.bool (false),.bool (false),.bool (false),.bool (false),.bool (false),.bool (false),.bool (false),.bool (false),.bool (false),.bool (false),.bool (false),.bool (false),.bool (false),.bool (false),.bool (false),.bool (false),.bool (false),.bool (false),.bool (false),.bool (false),.bool (false)]) hS (i:=0) rfl rfl rfl rfl rfl Tryz.sizeOf223 rfl rfl rfl) (bU rfl) rfl ?_
  clear hS
  intro w hS
  refine bI fun a hA=>bS<|bS<|b8 hA ?_
  clear hA
  refine om rfl rfl<|oy (m3 (hS.rd 0 rfl) Tryz.underlying44 rfl rfl) rfl<|om rfl rfl<|bI fun a hA=>?_
  obtain⟨o1,hl1,hF⟩:=rO hF
  refine BD (J:=fun a' w'=>o1=Out.brk ()∧jN 51 [(0,s1)] a'∧St (cG w0) w' [] [y7 [s1] (l:List aP)]) ?_ ?_
  ·refine jO ?_
   refine HX (body:=jJ l) (r:=o1) (fun sg a' w'=>jN 51 [(0,s1),(3,.pointer (some ⟨b1,0,none⟩)),(12,s1),(13,.int .i64 ((l.length:Int))),(14,.int .i64 (sg.1))] a'∧St (cG w0) w' [A7 b1 (List.map (fun q:Bool=>Value.bool q) (sg.2:List Bool))] [y7 [s1] (l:List aP)]) ?_ hl1 ⟨hA.part ⟨rfl,rfl,rfl,rfl,rfl,trivial⟩,((hS).K1 [0] rfl).tO [0] rfl⟩
   clear hA hS hl1
   rintro⟨x3,x4⟩ a w q1 ⟨hA,hS⟩ hG1 hr1
   try dsimp only at hA hS
   unfold jJ at hG1
   refine bS<|b8 hA ?_
   clear hA
   refine oy (D5 rfl rfl rfl) rfl<|bI fun a hA=>bS<|jQ hA rfl (fun hc2=>?_) (fun hc2=>?_)
   ·replace hG1:=JX hc2 hG1
    refine mZ<|bS<|jO<|bS<|b8 hA ?_
    clear hA
    obtain⟨x6,hx6,hG1⟩:=rO hG1
    refine oy (NZ (m:=1) (hS.rd 0 rfl) rfl hx6 Tryz.underlying44 Tryz.sizeOf106 rfl rfl rfl) rfl ?_
    obtain⟨s2,hel,hS⟩:=hS.aHX 0 rfl (iK hx6).2.2
    refine oy (NX rfl rfl Tryz.isAgg106 Tryz.sizeOf106 rfl hel) rfl<|IS (JW (cs:=[(.slice none 0 0)]) hS rfl Tryz.zeroValue106 rfl) (bU rfl) rfl rfl ?_
    clear hS
    rintro _ w ⟨b2,rfl,hS⟩
    refine NW (RW (vs:=[s2]) hS (i:=1) rfl rfl rfl rfl rfl Tryz.sizeOf106 rfl rfl (aVV (ZJ (hS.rd 1 rfl)) rfl)) (bU rfl) rfl ?_
    clear hS
    intro w hS
    refine bI fun a hA=>bS<|b8 hA ?_
    clear hA
    refine oy (xJ (m:=0) Tryz.underlying106 rfl rfl Tryz.sizeOf94 rfl rfl) rfl<|oy (gA rfl rfl Tryz.isAgg94 (hS.cell 1 rfl rfl)) rfl<|oy (m3 (hS.rd 1 rfl) Tryz.underlying94 rfl rfl) rfl<|om rfl rfl<|bI fun a hA=>?_
    obtain⟨o2,hl2,hG1⟩:=rO hG1
    refine BD (J:=fun a' w'=>∃(x11:List Bool),o2=Out.brk x11∧jN 51 [(0,s1),(3,.pointer (some ⟨b1,0,none⟩)),(12,s1),(13,.int .i64 ((l.length:Int))),(14,.int .i64 (x3))] a'∧St (cG w0) w' [A7 b1 (List.map (fun q:Bool=>Value.bool q) (x11:List Bool))] [y7 [s1] (l:List aP)]) ?_ ?_
    ·refine jO ?_
     refine HX (body:=jI x6) (r:=o2) (fun sg a' w'=>jN 51 [(0,s1),(3,.pointer (some ⟨b1,0,none⟩)),(12,s1),(13,.int .i64 ((l.length:Int))),(14,.int .i64 (x3)),(19,s2),(20,.int .i64 ((x6.Rows.length:Int))),(21,.int .i64 (sg.1))] a'∧St (cG w0) w' [A7 b1 (List.map (fun q:Bool=>Value.bool q) (sg.2:List Bool))] [y7 [s1] (l:List aP),y7 [s2] (x6.Rows:List bC)]) ?_ hl2 ⟨hA.part ⟨rfl,rfl,rfl,rfl,rfl,rfl,rfl,rfl,trivial⟩,((hS).K1 [0] rfl).tO [0,1] rfl⟩
     clear hA hS hl2
     rintro⟨x9,x10⟩ a w q2 ⟨hA,hS⟩ hG2 hr2
     try dsimp only at hA hS
     unfold jI at hG2
     refine bS<|b8 hA ?_
     clear hA
     refine oy (D5 rfl rfl rfl) rfl<|bI fun a hA=>bS<|jQ hA rfl (fun hc3=>?_) (fun hc3=>?_)
     ·replace hG2:=JX hc3 hG2
      refine mZ<|bS<|jO<|bS<|b8 hA ?_
      clear hA
      obtain⟨x12,hx12,hG2⟩:=rO hG2
      refine oy (NZ (m:=2) (hS.rd 1 rfl) rfl hx12 Tryz.underlying94 Tryz.sizeOf108 rfl rfl rfl) rfl<|oy (NX rfl rfl Tryz.isAgg108 Tryz.sizeOf108 rfl (aTU (hS.rd 1 rfl) (iK hx12).2.2)) rfl<|IS (JW (cs:=[.int .i64 (0),.int .i64 (0)]) hS rfl Tryz.zeroValue108 rfl) (bU rfl) rfl rfl ?_
      clear hS
      rintro _ w ⟨b3,rfl,hS⟩
      refine NW (RW (vs:=[.int .i64 (x12.Handle),.int .i64 (x12.aK)]) hS (i:=1) rfl rfl rfl rfl rfl Tryz.sizeOf108 rfl rfl rfl) (bU rfl) rfl ?_
      clear hS
      intro w hS
      refine bI fun a hA=>bS<|bS<|BD (J:=fun a' w'=>∃(x13:Bool),gP x9 x10 x12 x13=some q2∧jN 51 [(0,s1),(3,.pointer (some ⟨b1,0,none⟩)),(7,.pointer (some ⟨b3,0,none⟩)),(12,s1),(13,.int .i64 ((l.length:Int))),(14,.int .i64 (x3)),(19,s2),(20,.int .i64 ((x6.Rows.length:Int))),(21,.int .i64 (x9)),(41,.bool (x13))] a'∧St (cG w0) w' [A7 b1 (List.map (fun q:Bool=>Value.bool q) (x10:List Bool)),A7 b3 [.int .i64 (x12.Handle),.int .i64 (x12.aK)]] [y7 [s1] (l:List aP),y7 [s2] (x6.Rows:List bC)]) ?_ ?_
      ·skip
       refine b8 hA ?_
       clear hA
       refine oy (xJ (m:=0) Tryz.underlying108 rfl rfl Tryz.sizeOf3 rfl rfl) rfl<|oy (gA rfl rfl Tryz.isAgg3 (hS.cell 1 rfl rfl)) rfl ?_
       obtain⟨x15,hx15,hG2⟩:=rO hG2
       refine V4 (H0 Tryz.call206 rfl rfl) (bU rfl) rfl rfl (XW (h:=x12.Handle) hx15) ?_
       rintro _ w ⟨rfl,hk⟩
       replace hS:=hS.after hk;clear hk
       refine oy (ZC rfl rfl) rfl<|om rfl rfl<|F5 (s:=29) rfl (fun hc5=>?_) (fun hc5=>?_)
       ·replace hG2:=JX hc5 hG2
        refine d7 (bY rfl rfl rfl (by rw [hc5];rfl)) rfl rfl ?_
        refine d7 (bY rfl rfl rfl (by rw [hc5];rfl)) rfl rfl ?_
        refine d7 (bY rfl rfl rfl (by rw [hc5];rfl)) rfl rfl ?_
        refine d7 (bY rfl rfl rfl (by rw [hc5];rfl)) rfl rfl ?_
        refine oy (tN rfl rfl hc5 rfl) rfl<|om rfl rfl<|d7 (bY rfl rfl rfl rfl) rfl rfl<|d7 (bY rfl rfl rfl rfl) rfl rfl<|d7 (bY rfl rfl rfl rfl) rfl rfl<|d7 (bY rfl rfl rfl rfl) rfl rfl<|d7 (bY rfl rfl rfl rfl) rfl rfl<|oy (tN rfl rfl rfl rfl) rfl<|bI fun a hA=>?_
        exact⟨true,hG2,hA.part ⟨rfl,rfl,rfl,rfl,rfl,rfl,rfl,rfl,rfl,rfl,trivial⟩,((hS).K1 [0,1] rfl).tO [0,1] rfl⟩
       ·replace hG2:=JY hc5 hG2
        refine dY (xJ (m:=0) Tryz.underlying108 rfl rfl Tryz.sizeOf3 rfl rfl) (bY rfl rfl rfl (by rw [hc5];rfl)) rfl rfl ?_
        refine dY (gA rfl rfl Tryz.isAgg3 (hS.cell 1 rfl rfl)) (bY rfl rfl rfl (by rw [hc5];rfl)) rfl rfl ?_
        obtain⟨x16,hx16,hG2⟩:=rO hG2
        refine V4 (H0 Tryz.call108 rfl rfl) (bY rfl rfl rfl (by rw [hc5];rfl)) rfl rfl (JA (n:=x12.aK) (low:=0) (high:=100000) hx16) ?_
        rintro _ w ⟨rfl,hk⟩
        replace hS:=hS.after hk;clear hk
        refine dY (ZC rfl rfl) (bY rfl rfl rfl (by rw [hc5];rfl)) rfl rfl ?_
        refine oy (yI rfl rfl hc5 rfl) rfl<|om rfl rfl<|F5 (s:=35) rfl (fun hc6=>?_) (fun hc6=>?_)
        ·replace hG2:=JX hc6 hG2
         refine d7 (bY rfl rfl rfl (by rw [hc6];rfl)) rfl rfl ?_
         refine d7 (bY rfl rfl rfl (by rw [hc6];rfl)) rfl rfl ?_
         refine d7 (bY rfl rfl rfl (by rw [hc6];rfl)) rfl rfl ?_
         refine d7 (bY rfl rfl rfl (by rw [hc6];rfl)) rfl rfl ?_
         refine d7 (bY rfl rfl rfl (by rw [hc6];rfl)) rfl rfl ?_
         refine oy (tN rfl rfl hc6 rfl) rfl<|bI fun a hA=>?_
         exact⟨true,hG2,hA.part ⟨rfl,rfl,rfl,rfl,rfl,rfl,rfl,rfl,rfl,rfl,trivial⟩,((hS).K1 [0,1] rfl).tO [0,1] rfl⟩
        ·replace hG2:=JY hc6 hG2
         refine dY (xJ (m:=0) Tryz.underlying108 rfl rfl Tryz.sizeOf3 rfl rfl) (bY rfl rfl rfl (by rw [hc6];rfl)) rfl rfl ?_
         refine dY (gA rfl rfl Tryz.isAgg3 (hS.cell 1 rfl rfl)) (bY rfl rfl rfl (by rw [hc6];rfl)) rfl rfl ?_
         refine dY (UO rfl rfl rfl (by decide)) (bY rfl rfl rfl (by rw [hc6];rfl)) rfl rfl ?_
         obtain⟨hn2,hG2⟩:=gC hG2
         refine dY (YP Tryz.underlying223 Tryz.sizeOf4 hn2 rfl rfl rfl) (bY rfl rfl rfl (by rw [hc6];rfl)) rfl rfl ?_
         obtain⟨x17,hx17,hG2⟩:=rO hG2
         refine dY (gA rfl rfl Tryz.isAgg4 (hS.aK2 0 rfl hx17)) (bY rfl rfl rfl (by rw [hc6];rfl)) rfl rfl ?_
         refine oy (yI rfl rfl hc6 rfl) rfl<|bI fun a hA=>?_
         exact⟨x17,hG2,hA.part ⟨rfl,rfl,rfl,rfl,rfl,rfl,rfl,rfl,rfl,rfl,trivial⟩,((hS).K1 [0,1] rfl).tO [0,1] rfl⟩
      ·skip
       clear hA hS hG2
       rintro a w ⟨x13,hG2,hA,hS⟩
       unfold gP at hG2
       refine jQ hA rfl (fun hc4=>?_) (fun hc4=>?_)
       ·replace hG2:=JX hc4 hG2
        refine bS<|b8 hA ?_
        clear hA
        refine oa rfl rfl<|bI fun a hA=>xI ?_
        cases hG2
        have ho:=hr2 _ rfl;subst ho
        replace hG1:some (.stop (Out.ret false))=some q1:=hG1
        cases hG1
        have ho:=hr1 _ rfl;subst ho
        replace hF:some false=some r:=hF
        cases hF
        exact fy Tryz.results146 hA rfl hS
       ·replace hG2:=JY hc4 hG2
        refine mZ<|b8 hA ?_
        clear hA
        refine oy (xJ (m:=0) Tryz.underlying108 rfl rfl Tryz.sizeOf3 rfl rfl) rfl<|oy (gA rfl rfl Tryz.isAgg3 (hS.cell 1 rfl rfl)) rfl<|oy (UO rfl rfl rfl (by decide)) rfl ?_
        obtain⟨hn1,hG2⟩:=gC hG2
        refine oy (YP Tryz.underlying223 Tryz.sizeOf4 hn1 rfl rfl rfl) rfl ?_
        obtain⟨x14,hx14,hG2⟩:=rO hG2
        refine NW (aO2 (xd:=true) hS (m:=0) rfl hx14 Tryz.sizeOf4 rfl rfl rfl rfl rfl rfl) (bU rfl) rfl ?_
        clear hS
        intro w hS
        refine bI fun a hA=>b8 hA ?_
        clear hA
        refine oy (IT rfl rfl rfl) rfl<|om rfl rfl<|bI fun a hA=>?_
        cases hG2
        exact⟨_,rfl,⟨hA.part ⟨rfl,rfl,rfl,rfl,rfl,rfl,rfl,rfl,trivial⟩,((hS).K1 [0] rfl).tO [0,1] rfl⟩⟩
     ·replace hG2:=JY hc3 hG2
      refine HW<|BA ?_
      cases hG2
      have ho:=hr2 _ rfl;subst ho
      exact⟨x10,rfl,hA.part ⟨rfl,rfl,rfl,rfl,rfl,trivial⟩,((hS).K1 [0] rfl).tO [0] rfl⟩
    ·skip
     clear hA hS hl2
     rintro a w ⟨x11,heq,hA,hS⟩
     replace hG1:wS x3 x11=some q1:=by rw [heq] at hG1;exact hG1
     clear heq
     unfold wS at hG1
     refine b8 hA ?_
     clear hA
     refine oy (IT rfl rfl rfl) rfl<|om rfl rfl<|bI fun a hA=>?_
     cases hG1
     exact⟨_,rfl,⟨hA.part ⟨rfl,rfl,rfl,rfl,rfl,trivial⟩,((hS).K1 [0] rfl).tO [0] rfl⟩⟩
   ·replace hG1:=JY hc2 hG1
    refine HW<|BA ?_
    cases hG1
    have ho:=hr1 _ rfl;subst ho
    exact⟨rfl,hA.part ⟨rfl,trivial⟩,((hS).K1 [] rfl).tO [0] rfl⟩
  ·skip
   clear hA hS hl1
   rintro a w ⟨heq,hA,hS⟩
   replace hF:wR l=some r:=by rw [heq] at hF;exact hF
   clear heq
   unfold wR at hF
   refine bS<|b8 hA ?_
   clear hA
   refine om rfl rfl ?_
   obtain⟨x5,hx5,hF⟩:=rO hF
   refine V4 (H0 Tryz.call233 rfl rfl) (bU rfl) rfl rfl (VH (l:=l) (hS.rd 0 rfl) hx5) ?_
   rintro _ w ⟨rfl,hk⟩
   replace hS:=hS.after hk;clear hk
   refine oy (aIZ rfl rfl rfl) rfl<|oa rfl rfl<|bI fun a hA=>xI ?_
   cases hF
   exact fy Tryz.results146 hA rfl hS
end Go.Proofs.YtmaknhppafajdaaGreat
end
