import Derived.Test.YtabnjpbikjfhoaaGreatXNC
import Derived.Test.YtabnjpbikjfhoaaGreatProg
set_option linter.unusedVariables false
set_option linter.unusedSimpArgs false
set_option linter.unusedSectionVars false
set_option linter.constructorNameAsVariable false
set_option linter.unnecessarySimpa false
noncomputable section
set_option maxHeartbeats 4000000
set_option maxRecDepth 100000
namespace Go.Proofs.YtabnjpbikjfhoaaGreat
open Go.Gv
theorem aU:TR Tryz.prog 3 1 (.int .i64 0):=H8 (b:=8) (by kernel_rfl) rfl
theorem nV:TR Tryz.prog 122 1 (.agg #[.slice none 0 0]):=H8 (b:=24) (by kernel_rfl) rfl
theorem eJ:TR Tryz.prog 87 4 (.agg #[.int .i64 0,.int .i64 0,.int .i64 0,.int .i64 0]):=H8 (b:=32) (by kernel_rfl) rfl
theorem dU:TR Tryz.prog 148 1 (.agg #[.slice none 0 0]):=H8 (b:=24) (by kernel_rfl) rfl
theorem KB:TR Tryz.prog 100 4 (.agg #[.bool false,.int .i64 0,.bool false,.int .i64 0]):=H8 (b:=32) (by kernel_rfl) rfl
theorem FN:TR Tryz.prog 152 1 (.agg #[.slice none 0 0]):=H8 (b:=24) (by kernel_rfl) rfl
theorem gK:TR Tryz.prog 91 21 (.agg #[.bool false,.int .i64 0,.int .i64 0,.int .i64 0,.int .i64 0,.int .i64 0,.int .i64 0,.int .i64 0,.int .i64 0,.int .i64 0,.int .i64 0,.int .i64 0,.int .i64 0,.int .i64 0,.int .i64 0,.int .i64 0,.bool false,.int .i64 0,.int .i64 0,.int .i64 0,.int .i64 0]):=H8 (b:=168) (by kernel_rfl) rfl
theorem AG:TR Tryz.prog 97 2 (.agg #[.int .i64 0,.int .i64 0]):=H8 (b:=16) (by kernel_rfl) rfl
theorem ND:TR Tryz.prog 50 7 (.agg #[.int .i64 0,.int .i64 0,.int .i64 0,.int .i64 0,.int .i64 0,.int .i64 0,.int .i64 0]):=H8 (b:=56) (by kernel_rfl) rfl
theorem aJW:TR Tryz.prog 32 1 (.slice none 0 0):=H8 (b:=24) (by kernel_rfl) rfl
theorem aM2:TR Tryz.prog 5 1 (.int .u8 0):=H8 (b:=1) (by kernel_rfl) rfl
theorem aR:Tryz.prog.follows .mixedOrders=true:=by kernel_rfl
theorem W1(D:Nat)(d d':oE)(w:World):(Op.eqFields (D+2) #[.bool (d.On),.int .i64 (d.aI),.bool (d.cX),.int .i64 (d.Seen)] #[.bool (d'.On),.int .i64 (d'.aI),.bool (d'.cX),.int .i64 (d'.Seen)] (match Tryz.prog.underlying 100 with | some (.struct fs)=>fs | _=>#[]).toList).run Tryz.prog w=.ok (decide (d=d')) w:=by
  rw [Tryz.underlying100]
  have h:(d.On == d'.On && (d.aI == d'.aI && (d.cX == d'.cX && (d.Seen == d'.Seen && true))))=decide (d=d'):=by
    cases d;cases d';rw [Bool.eq_iff_iff];simp
  rw [←h]
  exact fK _ _ _ _ _ rfl (gH Tryz.isAgg4 rfl) (gH Tryz.isAgg4 rfl) (ZG Tryz.underlying4)<|
    fK _ _ _ _ _ rfl (gH Tryz.isAgg3 rfl) (gH Tryz.isAgg3 rfl) (nX Tryz.underlying3)<|
    fK _ _ _ _ _ rfl (gH Tryz.isAgg4 rfl) (gH Tryz.isAgg4 rfl) (ZG Tryz.underlying4)<|
    fK _ _ _ _ _ rfl (gH Tryz.isAgg3 rfl) (gH Tryz.isAgg3 rfl) (nX Tryz.underlying3)<|
    ZF _ _ _
theorem aJX(D:Nat)(d d':dT)(w:World):(Op.eqFields (D+2) #[.int .i64 (d.Kind),.int .i64 (d.Cell),.int .i64 (d.gY),.int .i64 (d.dV)] #[.int .i64 (d'.Kind),.int .i64 (d'.Cell),.int .i64 (d'.gY),.int .i64 (d'.dV)] (match Tryz.prog.underlying 87 with | some (.struct fs)=>fs | _=>#[]).toList).run Tryz.prog w=.ok (decide (d=d')) w:=by
  rw [Tryz.underlying87]
  have h:(d.Kind == d'.Kind && (d.Cell == d'.Cell && (d.gY == d'.gY && (d.dV == d'.dV && true))))=decide (d=d'):=by
    cases d;cases d';rw [Bool.eq_iff_iff];simp
  rw [←h]
  exact fK _ _ _ _ _ rfl (gH Tryz.isAgg3 rfl) (gH Tryz.isAgg3 rfl) (nX Tryz.underlying3)<|
    fK _ _ _ _ _ rfl (gH Tryz.isAgg3 rfl) (gH Tryz.isAgg3 rfl) (nX Tryz.underlying3)<|
    fK _ _ _ _ _ rfl (gH Tryz.isAgg3 rfl) (gH Tryz.isAgg3 rfl) (nX Tryz.underlying3)<|
    fK _ _ _ _ _ rfl (gH Tryz.isAgg3 rfl) (gH Tryz.isAgg3 rfl) (nX Tryz.underlying3)<|
    ZF _ _ _
theorem aJY(D:Nat)(d d':Sub)(w:World):(Op.eqFields (D+2) #[.int .i64 (d.Kind),.int .i64 (d.A),.int .i64 (d.Pc),.int .i64 (d.E),.int .i64 (d.Row),.int .i64 (d.B),.int .i64 (d.H),.int .i64 (d.Out),.int .i64 (d.Code),.bool (d.cV)] #[.int .i64 (d'.Kind),.int .i64 (d'.A),.int .i64 (d'.Pc),.int .i64 (d'.E),.int .i64 (d'.Row),.int .i64 (d'.B),.int .i64 (d'.H),.int .i64 (d'.Out),.int .i64 (d'.Code),.bool (d'.cV)] (match Tryz.prog.underlying 89 with | some (.struct fs)=>fs | _=>#[]).toList).run Tryz.prog w=.ok (decide (d=d')) w:=by
  rw [Tryz.underlying89]
  have h:(d.Kind == d'.Kind && (d.A == d'.A && (d.Pc == d'.Pc && (d.E == d'.E && (d.Row == d'.Row && (d.B == d'.B && (d.H == d'.H && (d.Out == d'.Out && (d.Code == d'.Code && (d.cV == d'.cV && true))))))))))=decide (d=d'):=by
    cases d;cases d';rw [Bool.eq_iff_iff];simp
  rw [←h]
  exact fK _ _ _ _ _ rfl (gH Tryz.isAgg3 rfl) (gH Tryz.isAgg3 rfl) (nX Tryz.underlying3)<|
    fK _ _ _ _ _ rfl (gH Tryz.isAgg3 rfl) (gH Tryz.isAgg3 rfl) (nX Tryz.underlying3)<|
    fK _ _ _ _ _ rfl (gH Tryz.isAgg3 rfl) (gH Tryz.isAgg3 rfl) (nX Tryz.underlying3)<|
    fK _ _ _ _ _ rfl (gH Tryz.isAgg3 rfl) (gH Tryz.isAgg3 rfl) (nX Tryz.underlying3)<|
    fK _ _ _ _ _ rfl (gH Tryz.isAgg3 rfl) (gH Tryz.isAgg3 rfl) (nX Tryz.underlying3)<|
    fK _ _ _ _ _ rfl (gH Tryz.isAgg3 rfl) (gH Tryz.isAgg3 rfl) (nX Tryz.underlying3)<|
    fK _ _ _ _ _ rfl (gH Tryz.isAgg3 rfl) (gH Tryz.isAgg3 rfl) (nX Tryz.underlying3)<|
    fK _ _ _ _ _ rfl (gH Tryz.isAgg3 rfl) (gH Tryz.isAgg3 rfl) (nX Tryz.underlying3)<|
    fK _ _ _ _ _ rfl (gH Tryz.isAgg3 rfl) (gH Tryz.isAgg3 rfl) (nX Tryz.underlying3)<|
    fK _ _ _ _ _ rfl (gH Tryz.isAgg4 rfl) (gH Tryz.isAgg4 rfl) (ZG Tryz.underlying4)<|
    ZF _ _ _
theorem aBA(D:Nat)(d d':bE)(w:World):(Op.eqFields (D+3) #[.bool (d.eG),.int .i64 (d.Op.Kind),.int .i64 (d.Op.Cell),.int .i64 (d.Op.gY),.int .i64 (d.Op.dV),.int .i64 (d.aK),.int .i64 (d.Pc),.int .i64 (d.Sub.Kind),.int .i64 (d.Sub.A),.int .i64 (d.Sub.Pc),.int .i64 (d.Sub.E),.int .i64 (d.Sub.Row),.int .i64 (d.Sub.B),.int .i64 (d.Sub.H),.int .i64 (d.Sub.Out),.int .i64 (d.Sub.Code),.bool (d.Sub.cV),.int .i64 (d.H),.int .i64 (d.Old),.int .i64 (d.dV),.int .i64 (d.Code)] #[.bool (d'.eG),.int .i64 (d'.Op.Kind),.int .i64 (d'.Op.Cell),.int .i64 (d'.Op.gY),.int .i64 (d'.Op.dV),.int .i64 (d'.aK),.int .i64 (d'.Pc),.int .i64 (d'.Sub.Kind),.int .i64 (d'.Sub.A),.int .i64 (d'.Sub.Pc),.int .i64 (d'.Sub.E),.int .i64 (d'.Sub.Row),.int .i64 (d'.Sub.B),.int .i64 (d'.Sub.H),.int .i64 (d'.Sub.Out),.int .i64 (d'.Sub.Code),.bool (d'.Sub.cV),.int .i64 (d'.H),.int .i64 (d'.Old),.int .i64 (d'.dV),.int .i64 (d'.Code)] (match Tryz.prog.underlying 91 with | some (.struct fs)=>fs | _=>#[]).toList).run Tryz.prog w=.ok (decide (d=d')) w:=by
  rw [Tryz.underlying91]
  have h:(d.eG == d'.eG && (decide (d.Op=d'.Op) && (d.aK == d'.aK && (d.Pc == d'.Pc && (decide (d.Sub=d'.Sub) && (d.H == d'.H && (d.Old == d'.Old && (d.dV == d'.dV && (d.Code == d'.Code && true)))))))))=decide (d=d'):=by
    cases d;cases d';rw [Bool.eq_iff_iff];simp
  rw [←h]
  exact fK _ _ _ _ _ rfl (gH Tryz.isAgg4 rfl) (gH Tryz.isAgg4 rfl) (ZG Tryz.underlying4)<|
    fK _ _ _ _ _ rfl (aKV (vs:=#[.int .i64 (d.Op.Kind),.int .i64 (d.Op.Cell),.int .i64 (d.Op.gY),.int .i64 (d.Op.dV)]) Tryz.isAgg87 Tryz.sizeOf87 rfl) (aKV (vs:=#[.int .i64 (d'.Op.Kind),.int .i64 (d'.Op.Cell),.int .i64 (d'.Op.gY),.int .i64 (d'.Op.dV)]) Tryz.isAgg87 Tryz.sizeOf87 rfl) (aEE Tryz.stoodInHeld87 Tryz.underlying87 (aJX D _ _ w))<|
    fK _ _ _ _ _ rfl (gH Tryz.isAgg3 rfl) (gH Tryz.isAgg3 rfl) (nX Tryz.underlying3)<|
    fK _ _ _ _ _ rfl (gH Tryz.isAgg3 rfl) (gH Tryz.isAgg3 rfl) (nX Tryz.underlying3)<|
    fK _ _ _ _ _ rfl (aKV (vs:=#[.int .i64 (d.Sub.Kind),.int .i64 (d.Sub.A),.int .i64 (d.Sub.Pc),.int .i64 (d.Sub.E),.int .i64 (d.Sub.Row),.int .i64 (d.Sub.B),.int .i64 (d.Sub.H),.int .i64 (d.Sub.Out),.int .i64 (d.Sub.Code),.bool (d.Sub.cV)]) Tryz.isAgg89 Tryz.sizeOf89 rfl) (aKV (vs:=#[.int .i64 (d'.Sub.Kind),.int .i64 (d'.Sub.A),.int .i64 (d'.Sub.Pc),.int .i64 (d'.Sub.E),.int .i64 (d'.Sub.Row),.int .i64 (d'.Sub.B),.int .i64 (d'.Sub.H),.int .i64 (d'.Sub.Out),.int .i64 (d'.Sub.Code),.bool (d'.Sub.cV)]) Tryz.isAgg89 Tryz.sizeOf89 rfl) (aEE Tryz.stoodInHeld89 Tryz.underlying89 (aJY D _ _ w))<|
    fK _ _ _ _ _ rfl (gH Tryz.isAgg3 rfl) (gH Tryz.isAgg3 rfl) (nX Tryz.underlying3)<|
    fK _ _ _ _ _ rfl (gH Tryz.isAgg3 rfl) (gH Tryz.isAgg3 rfl) (nX Tryz.underlying3)<|
    fK _ _ _ _ _ rfl (gH Tryz.isAgg3 rfl) (gH Tryz.isAgg3 rfl) (nX Tryz.underlying3)<|
    fK _ _ _ _ _ rfl (gH Tryz.isAgg3 rfl) (gH Tryz.isAgg3 rfl) (nX Tryz.underlying3)<|
    ZF _ _ _
set_option maxRecDepth 100000 in
theorem L6{w0:World}{n:Int}(hn:0≤n∧n≤1073741824) :
    Calls Tryz.prog 340 #[.slice none 0 0,.int .i64 n] w0 (Ret fun v w'=>∃s0_0:Value,v=s0_0∧St (cR w0) w' [fW [s0_0] ([]:List Raw)] []):=by
  have hS:St (cR w0) w0 [] []:=St.enter (by intro f hf;cases hf)
  have hw:bB (n - bB (0 - 0))=n:=by
    rw [IA (x:=0 - 0) (by omega),IA (by omega)];omega
  refine aOA (args:=[_,_]) Tryz.func340 rfl Tryz.ntmps340 rfl ?_
  intro a hA
  refine bR ?_
  refine cG hA ?_
  clear hA
  refine fJ (DK rfl rfl) (bW rfl) rfl rfl ?_
  refine bI ?_
  intro a hA
  refine bR ?_
  refine bR ?_
  refine cG hA ?_
  clear hA
  refine fJ (nG rfl rfl) (bW rfl) rfl rfl ?_
  refine fJ (FX rfl rfl rfl) (bW rfl) rfl rfl ?_
  refine bI ?_
  intro a hA
  refine lN hA rfl (fun hc=>?_) (fun hc=>?_)
  · exfalso;simp at hc;omega
  refine oH ?_
  refine bR ?_
  refine bR ?_
  refine cG hA ?_
  clear hA
  refine fJ (nG rfl rfl) (bW rfl) rfl rfl ?_
  refine fJ (nG rfl rfl) (bW rfl) rfl rfl ?_
  refine fJ (aEJ Tryz.underlying32 rfl rfl) (bW rfl) rfl rfl ?_
  refine fJ (nG rfl rfl) (bW rfl) rfl rfl ?_
  refine fJ (oJ (aOE (α:=Raw) (S:=F0)) Tryz.underlying32 rfl rfl) (bW rfl) rfl rfl ?_
  refine fJ (aI5 rfl rfl rfl) (bW rfl) rfl rfl ?_
  refine fJ (aI5 rfl rfl rfl) (bW rfl) rfl rfl ?_
  refine fJ (DK rfl rfl) (bW rfl) rfl rfl ?_
  refine bI ?_
  intro a hA
  refine bR ?_
  refine cG hA ?_
  clear hA
  refine fJ (nG rfl rfl) (bW rfl) rfl rfl ?_
  refine fJ (aI8 rfl rfl rfl) (bW rfl) rfl rfl ?_
  refine bI ?_
  intro a hA
  refine lN hA rfl (fun hc=>?_) (fun hc=>?_)
  · have hn1:0 < n:=by
      have h2:decide (0 < bB (n - bB (0 - 0)))=true:=hc
      rw [hw] at h2;simpa using h2
    refine cG hA ?_
    clear hA
    refine fJ (nG rfl rfl) (bW rfl) rfl rfl ?_
    refine fJ (nG rfl rfl) (bW rfl) rfl rfl ?_
    refine fJ (aEJ Tryz.underlying32 rfl rfl) (bW rfl) rfl rfl ?_
    refine fJ (aK2 (s:=.slice none 0 0) ⟨_,_,_,rfl⟩ Tryz.underlying32 Tryz.sizeOf148 rfl rfl rfl) (bW rfl) rfl rfl ?_
    refine fJ (nG rfl rfl) (bW rfl) rfl rfl ?_
    refine KG (aS0 (i:=bB (n - bB (0 - 0))) hS Tryz.underlying32 Tryz.underlying3 dU rfl rfl (by rw [hw];omega) rfl rfl rfl) (bW rfl) rfl rfl ?_
    clear hS
    intro s w hS
    refine fJ (nG rfl rfl) (bW rfl) rfl rfl ?_
    refine fJ (oJ (aOE (α:=Raw) (S:=F0)) Tryz.underlying32 rfl rfl) (bW rfl) rfl rfl ?_
    refine fJ (aK2 (hS.aOY 0 rfl) Tryz.underlying32 Tryz.sizeOf148 rfl rfl rfl) (bW rfl) rfl rfl ?_
    refine fJ (DK rfl rfl) (bW rfl) rfl rfl ?_
    refine bI ?_
    intro a hA
    replace hS:=hS.aV6 (α:=Raw) 0 rfl rfl
    refine bR ?_
    refine cG hA ?_
    clear hA
    refine fJ (nG rfl rfl) (bW rfl) rfl rfl ?_
    refine fJ (DK rfl rfl) (bW rfl) rfl rfl ?_
    refine bI ?_
    intro a hA
    refine zU ?_
    exact aSN Tryz.results340 hA (ZE rfl) ⟨_,rfl,(hS.MP [0] rfl).weaken (R':=[]) (fun _ h=>nomatch h)⟩
  · refine oH ?_
    replace hS:=hS.aVZ (α:=Raw)
    refine bR ?_
    refine cG hA ?_
    clear hA
    refine fJ (nG rfl rfl) (bW rfl) rfl rfl ?_
    refine fJ (DK rfl rfl) (bW rfl) rfl rfl ?_
    refine bI ?_
    intro a hA
    refine zU ?_
    exact aSN Tryz.results340 hA (ZE rfl) ⟨_,rfl,(hS.MP [0] rfl).weaken (R':=[]) (fun _ h=>nomatch h)⟩
theorem O0{w0:World}{slices:List (List Raw)}{s1:Value}{r:(List Raw)}(h1:aJ.rd (OW w0) w0 [s1] (slices:List (List Raw)))(hF:oL slices=some r) :
    Calls Tryz.prog 300 #[s1] w0 (Ret fun v w'=>∃(s0_0:Value),v=s0_0∧St (cR w0) w' [fW [s0_0] (r:List Raw)] []):=by
 have hS:St (cR w0) w0 [] [A0 [s1] (slices:List (List Raw))]:=St.enter (by
   intro f hf
   simp only [List.mem_cons,List.not_mem_nil,or_false] at hf
   subst hf;exact h1)
 refine AM (args:=[_]) Tryz.func300 rfl Tryz.ntmps300 rfl ?_
 unfold oL at hF
 intro a hA
 refine bR<|cG hA ?_
 clear hA
 refine oa rfl rfl<|bI fun a hA=>bR<|cG hA ?_
 clear hA
 refine oa rfl rfl<|bI fun a hA=>bR<|bR<|cG hA ?_
 clear hA
 refine om rfl rfl<|oy (oJ (hS.rd 0 rfl) Tryz.underlying275 rfl rfl) rfl<|om rfl rfl<|bI fun a hA=>?_
 obtain⟨o1,hl1,hF⟩:=tD hF
 refine DL (J:=fun a' w'=>∃(x5:Int),o1=x5∧kY 36 [(0,s1),(3,.int .i64 (x5))] a'∧St (cR w0) w' [] [A0 [s1] (slices:List (List Raw))]) ?_ ?_
 ·refine lI ?_
  refine JM (body:=gA slices) (r:=o1) (fun sg a' w'=>kY 36 [(0,s1),(3,.int .i64 (sg.1)),(9,s1),(10,.int .i64 ((slices.length:Int))),(11,.int .i64 (sg.2))] a'∧St (cR w0) w' [] [A0 [s1] (slices:List (List Raw))]) ?_ hl1 ⟨hA.part ⟨rfl,rfl,rfl,rfl,rfl,trivial⟩,((hS).MP [] rfl).vH [0] rfl⟩
  clear hA hS hl1
  rintro⟨x3,x4⟩ a w q1 ⟨hA,hS⟩ hG1 hr1
  try dsimp only at hA hS
  unfold gA at hG1
  refine bR<|cG hA ?_
  clear hA
  refine oy (FX rfl rfl rfl) rfl<|bI fun a hA=>bR<|lN hA rfl (fun hc2=>?_) (fun hc2=>?_)
  ·replace hG1:=LI hc2 hG1
   refine oH<|bR<|lI<|bR<|cG hA ?_
   clear hA
   obtain⟨x12,hx12,hG1⟩:=tD hG1
   refine oy (O8 (m:=1) (hS.rd 0 rfl) rfl hx12 Tryz.underlying275 Tryz.sizeOf32 rfl rfl rfl) rfl ?_
   obtain⟨s8,hel,hS⟩:=hS.aG5 0 rfl (kG hx12).2.2
   refine oy (i7 rfl rfl Tryz.isAgg32 (aOD hel)) rfl<|oa rfl rfl<|bI fun a hA=>bR<|cG hA ?_
   clear hA
   refine om rfl rfl<|om rfl rfl<|oy (oJ (hS.rd 1 rfl) Tryz.underlying32 rfl rfl) rfl<|oy (KH rfl rfl rfl) rfl<|oa rfl rfl<|bI fun a hA=>bR<|cG hA ?_
   clear hA
   refine om rfl rfl<|oy (FX rfl rfl rfl) rfl<|bI fun a hA=>lN hA rfl (fun hc3=>?_) (fun hc3=>?_)
   ·replace hG1:=LI hc3 hG1
    refine cG hA ?_
    clear hA
    cases hG1
   ·replace hG1:=LJ hc3 hG1
    refine oH<|cG hA ?_
    clear hA
    refine oy (KH rfl rfl rfl) rfl<|om rfl rfl<|bI fun a hA=>?_
    cases hG1
    exact⟨_,rfl,⟨hA.part ⟨rfl,rfl,rfl,rfl,rfl,trivial⟩,((hS).MP [] rfl).vH [0] rfl⟩⟩
  ·replace hG1:=LJ hc2 hG1
   refine JL<|DJ ?_
   cases hG1
   have ho:=hr1 _ rfl;subst ho
   exact⟨x3,rfl,hA.part ⟨rfl,rfl,trivial⟩,((hS).MP [] rfl).vH [0] rfl⟩
 ·skip
  clear hA hS hl1
  rintro a w ⟨x5,heq,hA,hS⟩
  replace hF:lP slices x5=some r:=by rw [heq] at hF;exact hF
  clear heq
  unfold lP at hF
  refine bR<|cG hA ?_
  clear hA
  refine om rfl rfl ?_
  obtain⟨hn1,hF⟩:=kH hF
  refine WW (JQ Tryz.call340 rfl rfl) (bW rfl) rfl rfl (L6 hn1) ?_
  rintro s2 w ⟨_,rfl,hk⟩
  replace hS:=hS.after hk;clear hk
  refine oa rfl rfl<|bI fun a hA=>bR<|bR<|cG hA ?_
  clear hA
  refine om rfl rfl<|oy (oJ (hS.rd 0 rfl) Tryz.underlying275 rfl rfl) rfl<|om rfl rfl<|bI fun a hA=>?_
  obtain⟨o2,hl2,hF⟩:=tD hF
  refine DL (J:=fun a' w'=>∃(x10:List Raw) (s5:Value),o2=x10∧kY 36 [(6,s5)] a'∧St (cR w0) w' [fW [s5] (x10:List Raw)] []) ?_ ?_
  ·refine lI ?_
   refine JM (body:=hQ slices) (r:=o2) (fun sg a' w'=>∃(s4:Value),kY 36 [(6,s4),(25,s1),(26,.int .i64 ((slices.length:Int))),(27,.int .i64 (sg.2))] a'∧St (cR w0) w' [fW [s4] (sg.1:List Raw)] [A0 [s1] (slices:List (List Raw))]) ?_ hl2 ⟨s2,hA.part ⟨rfl,rfl,rfl,rfl,trivial⟩,((hS).MP [0] rfl).vH [0] rfl⟩
   clear hA hS hl2
   rintro⟨x8,x9⟩ a w q2 ⟨s4,hA,hS⟩ hG2 hr2
   try dsimp only at hA hS
   unfold hQ at hG2
   refine bR<|cG hA ?_
   clear hA
   refine oy (FX rfl rfl rfl) rfl<|bI fun a hA=>bR<|lN hA rfl (fun hc1=>?_) (fun hc1=>?_)
   ·replace hG2:=LI hc1 hG2
    refine oH<|bR<|lI<|bR<|cG hA ?_
    clear hA
    obtain⟨x11,hx11,hG2⟩:=tD hG2
    refine oy (O8 (m:=1) (hS.rd 0 rfl) rfl hx11 Tryz.underlying275 Tryz.sizeOf32 rfl rfl rfl) rfl ?_
    obtain⟨s6,hel,hS⟩:=hS.aG5 0 rfl (kG hx11).2.2
    refine oy (i7 rfl rfl Tryz.isAgg32 (aOD hel)) rfl<|oa rfl rfl<|bI fun a hA=>cG hA ?_
    clear hA
    refine om rfl rfl<|om rfl rfl ?_
    obtain⟨hn2,hG2⟩:=kH hG2
    refine KG (aEF (α:=Raw) 0 hS rfl (hS.rd 1 rfl) rfl Tryz.underlying32 dU rfl hn2 rfl rfl rfl) (bW rfl) rfl rfl ?_
    clear hS
    rintro s7 w hS
    refine oa rfl rfl<|bI fun a hA=>cG hA ?_
    clear hA
    refine oy (KH rfl rfl rfl) rfl<|om rfl rfl<|bI fun a hA=>?_
    cases hG2
    exact⟨_,rfl,⟨s7,hA.part ⟨rfl,rfl,rfl,rfl,trivial⟩,((hS).MP [0] rfl).vH [0] rfl⟩⟩
   ·replace hG2:=LJ hc1 hG2
    refine JL<|DJ ?_
    cases hG2
    have ho:=hr2 _ rfl;subst ho
    exact⟨x8,s4,rfl,hA.part ⟨rfl,trivial⟩,((hS).MP [0] rfl).vH [] rfl⟩
  ·skip
   clear hA hS hl2
   rintro a w ⟨x10,s5,heq,hA,hS⟩
   replace hF:qI x10=some r:=by rw [heq] at hF;exact hF
   clear heq
   unfold qI at hF
   refine bR<|cG hA ?_
   clear hA
   refine om rfl rfl<|oa rfl rfl<|bI fun a hA=>zU ?_
   cases hF
   exact aSN Tryz.results300 hA (ZE rfl) ⟨s5,rfl,(hS.MP [0] rfl).weaken (R':=[]) (fun _ h=>nomatch h)⟩
theorem KZ{w0:World}{n:Int}{low:Int}{high:Int}{r:Bool}(hF:b9 n low high=some r) :
    Calls Tryz.prog 58 #[.int .i64 (n),.int .i64 (low),.int .i64 (high)] w0 (Ret fun v w'=>v=.bool (r)∧St (cR w0) w' [] []):=by
 have hS:St (cR w0) w0 [] []:=St.enter (by
   intro f hf;cases hf)
 refine AM (args:=[_,_,_]) Tryz.func58 rfl Tryz.ntmps58 rfl ?_
 unfold b9 at hF
 intro a hA
 refine bR<|cG hA ?_
 clear hA
 refine oa rfl rfl<|bI fun a hA=>bR<|DL (J:=fun a' w'=>∃(x1:Bool),pB x1=some r∧kY 15 [(6,.bool (x1))] a'∧St (cR w0) w' [] []) ?_ ?_
 ·skip
  refine cG hA ?_
  clear hA
  refine om rfl rfl<|om rfl rfl<|oy (aN6 rfl rfl rfl) rfl<|om rfl rfl<|H6 (s:=10) rfl (fun hc1=>?_) (fun hc1=>?_)
  ·replace hF:=LI hc1 hF
   refine fJ (nG rfl rfl) (cA rfl rfl rfl (by rw [hc1];rfl)) rfl rfl ?_
   refine fJ (nG rfl rfl) (cA rfl rfl rfl (by rw [hc1];rfl)) rfl rfl ?_
   refine fJ (aI7 rfl rfl rfl) (cA rfl rfl rfl (by rw [hc1];rfl)) rfl rfl ?_
   refine oy (vG rfl rfl hc1 rfl) rfl<|oa rfl rfl<|bI fun a hA=>?_
   exact⟨decide (n≤high),hF,hA.part ⟨rfl,trivial⟩,((hS).MP [] rfl).vH [] rfl⟩
  ·replace hF:=LJ hc1 hF
   refine fU (cA rfl rfl rfl (by rw [hc1];rfl)) rfl rfl ?_
   refine fU (cA rfl rfl rfl (by rw [hc1];rfl)) rfl rfl ?_
   refine fU (cA rfl rfl rfl (by rw [hc1];rfl)) rfl rfl ?_
   refine oy (AL rfl rfl hc1 rfl) rfl<|oa rfl rfl<|bI fun a hA=>?_
   exact⟨false,hF,hA.part ⟨rfl,trivial⟩,((hS).MP [] rfl).vH [] rfl⟩
 ·skip
  clear hA hS hF
  rintro a w ⟨x1,hF,hA,hS⟩
  unfold pB at hF
  refine zU ?_
  cases hF
  exact fy Tryz.results58 hA rfl hS
theorem aDP{w0:World}{slot:Int}{r:Bool}(hF:lZ slot=some r) :
    Calls Tryz.prog 143 #[.int .i64 (slot)] w0 (Ret fun v w'=>v=.bool (r)∧St (cR w0) w' [] []):=by
 have hS:St (cR w0) w0 [] []:=St.enter (by
   intro f hf;cases hf)
 refine AM (args:=[_]) Tryz.func143 rfl Tryz.ntmps143 rfl ?_
 unfold lZ at hF
 intro a hA
 refine bR<|cG hA ?_
 clear hA
 refine oa rfl rfl<|bI fun a hA=>bR<|cG hA ?_
 clear hA
 refine om rfl rfl ?_
 obtain⟨x1,hx1,hF⟩:=tD hF
 refine WW (JQ Tryz.call58 rfl rfl) (bW rfl) rfl rfl (KZ (n:=slot) (low:=0) (high:=23) hx1) ?_
 rintro _ w ⟨rfl,hk⟩
 replace hS:=hS.after hk;clear hk
 refine oa rfl rfl<|bI fun a hA=>zU ?_
 cases hF
 exact fy Tryz.results143 hA rfl hS
theorem aBB{w0:World}{l:aB}{s1:Value}{s2:Value}{r:Bool}(h1:aJ.rd (OW w0) w0 [s1] (l.Global:List aQ))(h2:aJ.rd (OW w0) w0 [s2] (l.Own:List aQ))(hF:j9 l=some r) :
    Calls Tryz.prog 241 #[.agg #[s1,s2]] w0 (Ret fun v w'=>v=.bool (r)∧St (cR w0) w' [] []):=by
 have hS:St (cR w0) w0 [] [A0 [s1] (l.Global:List aQ),A0 [s2] (l.Own:List aQ)]:=St.enter (by
   intro f hf
   simp only [List.mem_cons,List.not_mem_nil,or_false] at hf
   rcases hf with rfl | rfl
   · exact h1
   · exact h2)
 refine AM (args:=[_]) Tryz.func241 rfl Tryz.ntmps241 rfl ?_
 unfold j9 at hF
 intro a hA
 refine bR<|cG hA ?_
 clear hA
 refine KG (aVV (cs:=[s1,s2]) hS rfl rfl rfl) (bW rfl) rfl rfl ?_
 clear hS
 rintro _ w ⟨b1,rfl,hS⟩
 refine oa rfl rfl<|bI fun a hA=>bR<|bR<|DL (J:=fun a' w'=>∃(x1:Bool),rL l x1=some r∧kY 61 [(1,.pointer (some ⟨b1,0,none⟩)),(17,.bool (x1))] a'∧St (cR w0) w' [DC b1 [s1,s2]] [A0 [s1] (l.Global:List aQ),A0 [s2] (l.Own:List aQ)]) ?_ ?_
 ·skip
  refine cG hA ?_
  clear hA
  refine oy (zV (m:=0) Tryz.underlying34 rfl rfl Tryz.sizeOf32 rfl rfl) rfl<|oy (i7 rfl rfl Tryz.isAgg32 (hS.cell 0 rfl rfl)) rfl<|oy (oJ (hS.rd 0 rfl) Tryz.underlying32 rfl rfl) rfl<|oy (aFB rfl rfl rfl) rfl<|om rfl rfl<|H6 (s:=12) rfl (fun hc8=>?_) (fun hc8=>?_)
  ·replace hF:=LI hc8 hF
   refine fU (cA rfl rfl rfl (by rw [hc8];rfl)) rfl rfl ?_
   refine fU (cA rfl rfl rfl (by rw [hc8];rfl)) rfl rfl ?_
   refine fU (cA rfl rfl rfl (by rw [hc8];rfl)) rfl rfl ?_
   refine fU (cA rfl rfl rfl (by rw [hc8];rfl)) rfl rfl ?_
   refine oy (vG rfl rfl hc8 rfl) rfl<|bI fun a hA=>?_
   exact⟨true,hF,hA.part ⟨rfl,rfl,trivial⟩,((hS).MP [0] rfl).vH [0,1] rfl⟩
  ·replace hF:=LJ hc8 hF
   refine fJ (zV (m:=0) Tryz.underlying34 rfl rfl Tryz.sizeOf32 rfl rfl) (cA rfl rfl rfl (by rw [hc8];rfl)) rfl rfl ?_
   refine fJ (i7 rfl rfl Tryz.isAgg32 (hS.cell 0 rfl rfl)) (cA rfl rfl rfl (by rw [hc8];rfl)) rfl rfl ?_
   refine fJ (oJ (hS.rd 1 rfl) Tryz.underlying32 rfl rfl) (cA rfl rfl rfl (by rw [hc8];rfl)) rfl rfl ?_
   refine fJ (aFB rfl rfl rfl) (cA rfl rfl rfl (by rw [hc8];rfl)) rfl rfl ?_
   refine oy (AL rfl rfl hc8 rfl) rfl<|bI fun a hA=>?_
   exact⟨(l.Own.length:Int) != 9,hF,hA.part ⟨rfl,rfl,trivial⟩,((hS).MP [0] rfl).vH [0,1] rfl⟩
 ·skip
  clear hA hS hF
  rintro a w ⟨x1,hF,hA,hS⟩
  unfold rL at hF
  refine lN hA rfl (fun hc1=>?_) (fun hc1=>?_)
  ·replace hF:=LI hc1 hF
   refine bR<|cG hA ?_
   clear hA
   refine oa rfl rfl<|bI fun a hA=>zU ?_
   cases hF
   exact fy Tryz.results241 hA rfl hS
  ·replace hF:=LJ hc1 hF
   refine oH<|bR<|cG hA ?_
   clear hA
   refine oy (VM (cells:=#[.bool (false),.bool (false),.bool (false),.bool (false),.bool (false),.bool (false),.bool (false),.bool (false),.bool (false),.bool (false),.bool (false),.bool (false),.bool (false),.bool (false),.bool (false),.bool (false),.bool (false),.bool (false),.bool (false),.bool (false),.bool (false),.bool (false),.bool (false),.bool (false)]) rfl Tryz.zeroValue217 Tryz.underlying217 Tryz.sizeOf4 rfl rfl) rfl<|KG (LH (cs:=List.map (fun q:Bool=>Value.bool q) [false,false,false,false,false,false,false,false,false,false,false,false,false,false,false,false,false,false,false,false,false,false,false,false]) hS rfl Tryz.zeroValue217 rfl) (bW rfl) rfl rfl ?_
   clear hS
   rintro _ w ⟨b2,rfl,hS⟩
   refine O6 (SX (vs:=[.bool (false),.bool (false),.bool (false),.bool (false),.bool (false),.bool (false),.bool (false),.bool (false),.bool (false),.bool (false),.bool (false),.bool (false),.bool (false),.bool (false),.bool (false),.bool (false),.bool (false),.bool (false),.bool (false),.bool (false),.bool (false),.bool (false),.bool (false),.bool (false)]) hS (i:=1) rfl rfl rfl rfl rfl Tryz.sizeOf217 rfl rfl rfl) (bW rfl) rfl ?_
   clear hS
   intro w hS
   refine bI fun a hA=>bR<|bR<|cG hA ?_
   clear hA
   refine oy (zV (m:=0) Tryz.underlying34 rfl rfl Tryz.sizeOf32 rfl rfl) rfl<|oy (i7 rfl rfl Tryz.isAgg32 (hS.cell 0 rfl rfl)) rfl<|oy (zV (m:=0) Tryz.underlying34 rfl rfl Tryz.sizeOf32 rfl rfl) rfl<|oy (i7 rfl rfl Tryz.isAgg32 (hS.cell 0 rfl rfl)) rfl<|KG (aJF hS (hS.rd 1 rfl) (hS.rd 0 rfl) Tryz.underlying275 aJW rfl rfl rfl) (bW rfl) rfl rfl ?_
   clear hS
   rintro s3 w hS
   obtain⟨hn1,hF⟩:=kH hF
   replace hS:=hS.aXU 2 rfl
   obtain⟨u1,u2,hu1,hl1,hS⟩:=hS.aS1 rfl 2 1 0 rfl rfl rfl
   refine WW (JQ Tryz.call300 rfl rfl) (bW rfl) rfl rfl (O0 hu1 (LX hl1 hn1)) ?_
   rintro s4 w ⟨_,rfl,hk⟩
   replace hS:=hS.after hk;clear hk
   replace hS:=hS.aXU 3 rfl
   replace hS:=hS.aX1 rfl 4 3 rfl rfl
   refine oy (oJ (hS.rd 5 rfl) Tryz.underlying32 rfl rfl) rfl<|om rfl rfl<|bI fun a hA=>?_
   obtain⟨o1,hl2,hF⟩:=tD hF
   refine DL (J:=fun a' w'=>o1=Out.brk ()∧kY 61 [] a'∧St (cR w0) w' [] []) ?_ ?_
   ·refine lI ?_
    refine JM (body:=lB l) (r:=o1) (fun sg a' w'=>kY 61 [(1,.pointer (some ⟨b1,0,none⟩)),(3,.pointer (some ⟨b2,0,none⟩)),(24,s4),(25,.int .i64 (((l.Own++l.Global).length:Int))),(26,.int .i64 (sg.1))] a'∧St (cR w0) w' [DC b1 [s1,s2],DC b2 (List.map (fun q:Bool=>Value.bool q) (sg.2:List Bool))] [A0 [s4] (l.Own++l.Global:List aQ),A0 [s1] (l.Global:List aQ),A0 [s2] (l.Own:List aQ)]) ?_ hl2 ⟨hA.part ⟨rfl,rfl,rfl,rfl,rfl,trivial⟩,((hS).MP [0,1] rfl).vH [5,0,1] rfl⟩
    clear hA hS hl2
    rintro⟨x4,x5⟩ a w q2 ⟨hA,hS⟩ hG2 hr2
    try dsimp only at hA hS
    unfold lB at hG2
    refine bR<|cG hA ?_
    clear hA
    refine oy (FX rfl rfl rfl) rfl<|bI fun a hA=>bR<|lN hA rfl (fun hc2=>?_) (fun hc2=>?_)
    ·replace hG2:=LI hc2 hG2
     refine oH<|bR<|lI<|bR<|cG hA ?_
     clear hA
     refine om rfl rfl ?_
     obtain⟨x6,hx6,hG2⟩:=tD hG2
     refine oy (O8 (m:=1) (hS.rd 0 rfl) rfl hx6 Tryz.underlying32 Tryz.sizeOf148 rfl rfl rfl) rfl ?_
     obtain⟨s5,hel,hS⟩:=hS.aQN 0 rfl (kG hx6).2.2
     refine oy (O7 rfl rfl Tryz.isAgg148 Tryz.sizeOf148 rfl hel) rfl<|KG (LH (cs:=[(.slice none 0 0)]) hS rfl Tryz.zeroValue148 rfl) (bW rfl) rfl rfl ?_
     clear hS
     rintro _ w ⟨b3,rfl,hS⟩
     refine oa rfl rfl<|O6 (SX (vs:=[s5]) hS (i:=2) rfl rfl rfl rfl rfl Tryz.sizeOf148 rfl rfl (aV0 (Z7 (hS.rd 3 rfl)) rfl)) (bW rfl) rfl ?_
     clear hS
     intro w hS
     refine bI fun a hA=>bR<|bR<|DL (J:=fun a' w'=>∃(x7:Bool),lA x4 x5 x6 x7=some q2∧kY 61 [(1,.pointer (some ⟨b1,0,none⟩)),(3,.pointer (some ⟨b2,0,none⟩)),(5,.pointer (some ⟨b3,0,none⟩)),(24,s4),(25,.int .i64 (((l.Own++l.Global).length:Int))),(26,.int .i64 (x4)),(41,.bool (x7))] a'∧St (cR w0) w' [DC b1 [s1,s2],DC b2 (List.map (fun q:Bool=>Value.bool q) (x5:List Bool)),DC b3 [s5]] [A0 [s4] (l.Own++l.Global:List aQ),A0 [s1] (l.Global:List aQ),A0 [s2] (l.Own:List aQ),A0 [s5] (x6.aS:List Int)]) ?_ ?_
     ·skip
      refine cG hA ?_
      clear hA
      refine om rfl rfl<|oy (zV (m:=0) Tryz.underlying34 rfl rfl Tryz.sizeOf32 rfl rfl) rfl<|oy (i7 rfl rfl Tryz.isAgg32 (hS.cell 0 rfl rfl)) rfl<|oy (oJ (hS.rd 2 rfl) Tryz.underlying32 rfl rfl) rfl<|oy (FX rfl rfl rfl) rfl<|om rfl rfl<|H6 (s:=36) rfl (fun hc7=>?_) (fun hc7=>?_)
      ·replace hG2:=LI hc7 hG2
       refine fJ (zV (m:=0) Tryz.underlying148 rfl rfl Tryz.sizeOf25 rfl rfl) (cA rfl rfl rfl (by rw [hc7];rfl)) rfl rfl ?_
       refine fJ (i7 rfl rfl Tryz.isAgg25 (hS.cell 2 rfl rfl)) (cA rfl rfl rfl (by rw [hc7];rfl)) rfl rfl ?_
       refine fJ (oJ (hS.rd 3 rfl) Tryz.underlying25 rfl rfl) (cA rfl rfl rfl (by rw [hc7];rfl)) rfl rfl ?_
       refine fJ (aI8 rfl rfl rfl) (cA rfl rfl rfl (by rw [hc7];rfl)) rfl rfl ?_
       refine oy (vG rfl rfl hc7 rfl) rfl<|bI fun a hA=>?_
       exact⟨decide (2 < (x6.aS.length:Int)),hG2,hA.part ⟨rfl,rfl,rfl,rfl,rfl,rfl,rfl,trivial⟩,((hS).MP [0,1,2] rfl).vH [0,1,2,3] rfl⟩
      ·replace hG2:=LJ hc7 hG2
       refine fU (cA rfl rfl rfl (by rw [hc7];rfl)) rfl rfl ?_
       refine fU (cA rfl rfl rfl (by rw [hc7];rfl)) rfl rfl ?_
       refine fU (cA rfl rfl rfl (by rw [hc7];rfl)) rfl rfl ?_
       refine fU (cA rfl rfl rfl (by rw [hc7];rfl)) rfl rfl ?_
       refine oy (AL rfl rfl hc7 rfl) rfl<|bI fun a hA=>?_
       exact⟨false,hG2,hA.part ⟨rfl,rfl,rfl,rfl,rfl,rfl,rfl,trivial⟩,((hS).MP [0,1,2] rfl).vH [0,1,2,3] rfl⟩
     ·skip
      clear hA hS hG2
      rintro a w ⟨x7,hG2,hA,hS⟩
      unfold lA at hG2
      refine lN hA rfl (fun hc3=>?_) (fun hc3=>?_)
      ·replace hG2:=LI hc3 hG2
       refine bR<|cG hA ?_
       clear hA
       refine oa rfl rfl<|bI fun a hA=>zU ?_
       cases hG2
       have ho:=hr2 _ rfl;subst ho
       replace hF:some false=some r:=hF
       cases hF
       exact fy Tryz.results241 hA rfl hS
      ·replace hG2:=LJ hc3 hG2
       refine oH<|bR<|cG hA ?_
       clear hA
       refine oy (zV (m:=0) Tryz.underlying148 rfl rfl Tryz.sizeOf25 rfl rfl) rfl<|oy (i7 rfl rfl Tryz.isAgg25 (hS.cell 2 rfl rfl)) rfl<|oy (oJ (hS.rd 3 rfl) Tryz.underlying25 rfl rfl) rfl<|om rfl rfl<|bI fun a hA=>?_
       obtain⟨o2,hl3,hG2⟩:=tD hG2
       refine DL (J:=fun a' w'=>∃(x12:List Bool),o2=Out.brk x12∧kY 61 [(1,.pointer (some ⟨b1,0,none⟩)),(3,.pointer (some ⟨b2,0,none⟩)),(24,s4),(25,.int .i64 (((l.Own++l.Global).length:Int))),(26,.int .i64 (x4))] a'∧St (cR w0) w' [DC b1 [s1,s2],DC b2 (List.map (fun q:Bool=>Value.bool q) (x12:List Bool))] [A0 [s4] (l.Own++l.Global:List aQ),A0 [s1] (l.Global:List aQ),A0 [s2] (l.Own:List aQ)]) ?_ ?_
       ·refine lI ?_
        refine JM (body:=k9 x6) (r:=o2) (fun sg a' w'=>kY 61 [(1,.pointer (some ⟨b1,0,none⟩)),(3,.pointer (some ⟨b2,0,none⟩)),(24,s4),(25,.int .i64 (((l.Own++l.Global).length:Int))),(26,.int .i64 (x4)),(43,s5),(44,.int .i64 ((x6.aS.length:Int))),(45,.int .i64 (sg.1))] a'∧St (cR w0) w' [DC b1 [s1,s2],DC b2 (List.map (fun q:Bool=>Value.bool q) (sg.2:List Bool))] [A0 [s4] (l.Own++l.Global:List aQ),A0 [s5] (x6.aS:List Int),A0 [s1] (l.Global:List aQ),A0 [s2] (l.Own:List aQ)]) ?_ hl3 ⟨hA.part ⟨rfl,rfl,rfl,rfl,rfl,rfl,rfl,rfl,trivial⟩,((hS).MP [0,1] rfl).vH [0,3,1,2] rfl⟩
        clear hA hS hl3
        rintro⟨x10,x11⟩ a w q4 ⟨hA,hS⟩ hG4 hr4
        try dsimp only at hA hS
        unfold k9 at hG4
        refine bR<|cG hA ?_
        clear hA
        refine oy (FX rfl rfl rfl) rfl<|bI fun a hA=>bR<|lN hA rfl (fun hc4=>?_) (fun hc4=>?_)
        ·replace hG4:=LI hc4 hG4
         refine oH<|bR<|lI<|bR<|cG hA ?_
         clear hA
         obtain⟨x13,hx13,hG4⟩:=tD hG4
         refine oy (O8 (m:=1) (hS.rd 1 rfl) rfl hx13 Tryz.underlying25 Tryz.sizeOf3 rfl rfl rfl) rfl<|oy (i7 rfl rfl Tryz.isAgg3 (aOD (aVX (hS.rd 1 rfl) (kG hx13).2.2))) rfl<|oa rfl rfl<|bI fun a hA=>bR<|bR<|DL (J:=fun a' w'=>∃(x14:Bool),mX x10 x11 x13 x14=some q4∧kY 61 [(1,.pointer (some ⟨b1,0,none⟩)),(3,.pointer (some ⟨b2,0,none⟩)),(7,.int .i64 (x13)),(24,s4),(25,.int .i64 (((l.Own++l.Global).length:Int))),(26,.int .i64 (x4)),(43,s5),(44,.int .i64 ((x6.aS.length:Int))),(45,.int .i64 (x10)),(56,.bool (x14))] a'∧St (cR w0) w' [DC b1 [s1,s2],DC b2 (List.map (fun q:Bool=>Value.bool q) (x11:List Bool))] [A0 [s4] (l.Own++l.Global:List aQ),A0 [s5] (x6.aS:List Int),A0 [s1] (l.Global:List aQ),A0 [s2] (l.Own:List aQ)]) ?_ ?_
         ·skip
          refine cG hA ?_
          clear hA
          refine om rfl rfl ?_
          obtain⟨x16,hx16,hG4⟩:=tD hG4
          refine WW (JQ Tryz.call143 rfl rfl) (bW rfl) rfl rfl (aDP (slot:=x13) hx16) ?_
          rintro _ w ⟨rfl,hk⟩
          replace hS:=hS.after hk;clear hk
          refine oy (Z0 rfl rfl) rfl<|om rfl rfl<|H6 (s:=52) rfl (fun hc6=>?_) (fun hc6=>?_)
          ·replace hG4:=LI hc6 hG4
           refine fU (cA rfl rfl rfl (by rw [hc6];rfl)) rfl rfl ?_
           refine fU (cA rfl rfl rfl (by rw [hc6];rfl)) rfl rfl ?_
           refine fU (cA rfl rfl rfl (by rw [hc6];rfl)) rfl rfl ?_
           refine oy (vG rfl rfl hc6 rfl) rfl<|bI fun a hA=>?_
           exact⟨true,hG4,hA.part ⟨rfl,rfl,rfl,rfl,rfl,rfl,rfl,rfl,rfl,rfl,trivial⟩,((hS).MP [0,1] rfl).vH [0,1,2,3] rfl⟩
          ·replace hG4:=LJ hc6 hG4
           refine fJ (nG rfl rfl) (cA rfl rfl rfl (by rw [hc6];rfl)) rfl rfl ?_
           obtain⟨hn3,hG4⟩:=kH hG4
           refine fJ (ZI Tryz.underlying217 Tryz.sizeOf4 hn3 rfl rfl rfl) (cA rfl rfl rfl (by rw [hc6];rfl)) rfl rfl ?_
           obtain⟨x17,hx17,hG4⟩:=tD hG4
           refine fJ (i7 rfl rfl Tryz.isAgg4 (hS.aK1 1 rfl hx17)) (cA rfl rfl rfl (by rw [hc6];rfl)) rfl rfl ?_
           refine oy (AL rfl rfl hc6 rfl) rfl<|bI fun a hA=>?_
           exact⟨x17,hG4,hA.part ⟨rfl,rfl,rfl,rfl,rfl,rfl,rfl,rfl,rfl,rfl,trivial⟩,((hS).MP [0,1] rfl).vH [0,1,2,3] rfl⟩
         ·skip
          clear hA hS hG4
          rintro a w ⟨x14,hG4,hA,hS⟩
          unfold mX at hG4
          refine lN hA rfl (fun hc5=>?_) (fun hc5=>?_)
          ·replace hG4:=LI hc5 hG4
           refine bR<|cG hA ?_
           clear hA
           refine oa rfl rfl<|bI fun a hA=>zU ?_
           cases hG4
           have ho:=hr4 _ rfl;subst ho
           replace hG2:some (.stop (Out.ret false))=some q2:=hG2
           cases hG2
           have ho:=hr2 _ rfl;subst ho
           replace hF:some false=some r:=hF
           cases hF
           exact fy Tryz.results241 hA rfl hS
          ·replace hG4:=LJ hc5 hG4
           refine oH<|cG hA ?_
           clear hA
           refine om rfl rfl ?_
           obtain⟨hn2,hG4⟩:=kH hG4
           refine oy (ZI Tryz.underlying217 Tryz.sizeOf4 hn2 rfl rfl rfl) rfl ?_
           obtain⟨x15,hx15,hG4⟩:=tD hG4
           refine O6 (aOU (xd:=true) hS (m:=1) rfl hx15 Tryz.sizeOf4 rfl rfl rfl rfl rfl rfl) (bW rfl) rfl ?_
           clear hS
           intro w hS
           refine bI fun a hA=>cG hA ?_
           clear hA
           refine oy (KH rfl rfl rfl) rfl<|om rfl rfl<|bI fun a hA=>?_
           cases hG4
           exact⟨_,rfl,⟨hA.part ⟨rfl,rfl,rfl,rfl,rfl,rfl,rfl,rfl,trivial⟩,((hS).MP [0,1] rfl).vH [0,1,2,3] rfl⟩⟩
        ·replace hG4:=LJ hc4 hG4
         refine JL<|DJ ?_
         cases hG4
         have ho:=hr4 _ rfl;subst ho
         exact⟨x11,rfl,hA.part ⟨rfl,rfl,rfl,rfl,rfl,trivial⟩,((hS).MP [0,1] rfl).vH [0,2,3] rfl⟩
       ·skip
        clear hA hS hl3
        rintro a w ⟨x12,heq,hA,hS⟩
        replace hG2:yZ x4 x12=some q2:=by rw [heq] at hG2;exact hG2
        clear heq
        unfold yZ at hG2
        refine cG hA ?_
        clear hA
        refine oy (KH rfl rfl rfl) rfl<|om rfl rfl<|bI fun a hA=>?_
        cases hG2
        exact⟨_,rfl,⟨hA.part ⟨rfl,rfl,rfl,rfl,rfl,trivial⟩,((hS).MP [0,1] rfl).vH [0,1,2] rfl⟩⟩
    ·replace hG2:=LJ hc2 hG2
     refine JL<|DJ ?_
     cases hG2
     have ho:=hr2 _ rfl;subst ho
     exact⟨rfl,hA.part trivial,((hS).MP [] rfl).vH [] rfl⟩
   ·skip
    clear hA hS hl2
    rintro a w ⟨heq,hA,hS⟩
    replace hF:F5=some r:=by rw [heq] at hF;exact hF
    clear heq
    unfold F5 at hF
    refine bR<|cG hA ?_
    clear hA
    refine oa rfl rfl<|bI fun a hA=>zU ?_
    cases hF
    exact fy Tryz.results241 hA rfl hS
theorem X8{w0:World}{h:Int}{r:Bool}(hF:g9 h=some r) :
    Calls Tryz.prog 134 #[.int .i64 (h)] w0 (Ret fun v w'=>v=.bool (r)∧St (cR w0) w' [] []):=by
 have hS:St (cR w0) w0 [] []:=St.enter (by
   intro f hf;cases hf)
 refine AM (args:=[_]) Tryz.func134 rfl Tryz.ntmps134 rfl ?_
 unfold g9 at hF
 intro a hA
 refine bR<|cG hA ?_
 clear hA
 refine oa rfl rfl<|bI fun a hA=>bR<|DL (J:=fun a' w'=>∃(x1:Bool),l7 x1=some r∧kY 10 [(2,.bool (x1))] a'∧St (cR w0) w' [] []) ?_ ?_
 ·skip
  refine cG hA ?_
  clear hA
  refine om rfl rfl ?_
  obtain⟨x2,hx2,hF⟩:=tD hF
  refine WW (JQ Tryz.call58 rfl rfl) (bW rfl) rfl rfl (KZ (n:=h) (low:=32) (high:=223) hx2) ?_
  rintro _ w ⟨rfl,hk⟩
  replace hS:=hS.after hk;clear hk
  refine om rfl rfl<|H6 (s:=5) rfl (fun hc1=>?_) (fun hc1=>?_)
  ·replace hF:=LI hc1 hF
   refine fJ (nG rfl rfl) (cA rfl rfl rfl (by rw [hc1];rfl)) rfl rfl ?_
   refine fJ (VL rfl rfl rfl (by decide)) (cA rfl rfl rfl (by rw [hc1];rfl)) rfl rfl ?_
   refine fJ (FX rfl rfl rfl) (cA rfl rfl rfl (by rw [hc1];rfl)) rfl rfl ?_
   refine oy (vG rfl rfl hc1 rfl) rfl<|oa rfl rfl<|bI fun a hA=>?_
   exact⟨decide ((Int.tmod h 32) < 24),hF,hA.part ⟨rfl,trivial⟩,((hS).MP [] rfl).vH [] rfl⟩
  ·replace hF:=LJ hc1 hF
   refine fU (cA rfl rfl rfl (by rw [hc1];rfl)) rfl rfl ?_
   refine fU (cA rfl rfl rfl (by rw [hc1];rfl)) rfl rfl ?_
   refine fU (cA rfl rfl rfl (by rw [hc1];rfl)) rfl rfl ?_
   refine oy (AL rfl rfl hc1 rfl) rfl<|oa rfl rfl<|bI fun a hA=>?_
   exact⟨false,hF,hA.part ⟨rfl,trivial⟩,((hS).MP [] rfl).vH [] rfl⟩
 ·skip
  clear hA hS hF
  rintro a w ⟨x1,hF,hA,hS⟩
  unfold l7 at hF
  refine zU ?_
  cases hF
  exact fy Tryz.results134 hA rfl hS
theorem V8{w0:World}{l:List bA}{s1:Value}{r:Int}(h1:aJ.rd (OW w0) w0 [s1] (l:List bA))(hF:tY l=some r) :
    Calls Tryz.prog 245 #[s1] w0 (Ret fun v w'=>v=.int .i64 (r)∧St (cR w0) w' [] []):=by
 have hS:St (cR w0) w0 [] [A0 [s1] (l:List bA)]:=St.enter (by
   intro f hf
   simp only [List.mem_cons,List.not_mem_nil,or_false] at hf
   subst hf;exact h1)
 refine AM (args:=[_]) Tryz.func245 rfl Tryz.ntmps245 rfl ?_
 unfold tY at hF
 intro a hA
 refine bR<|cG hA ?_
 clear hA
 refine oa rfl rfl<|bI fun a hA=>bR<|cG hA ?_
 clear hA
 refine oa rfl rfl<|bI fun a hA=>bR<|bR<|cG hA ?_
 clear hA
 refine om rfl rfl<|oy (oJ (hS.rd 0 rfl) Tryz.underlying40 rfl rfl) rfl<|om rfl rfl<|bI fun a hA=>?_
 obtain⟨o1,hl1,hF⟩:=tD hF
 refine DL (J:=fun a' w'=>∃(x5:Int),o1=x5∧kY 19 [(3,.int .i64 (x5))] a'∧St (cR w0) w' [] []) ?_ ?_
 ·refine lI ?_
  refine JM (body:=jD l) (r:=o1) (fun sg a' w'=>kY 19 [(3,.int .i64 (sg.1)),(6,s1),(7,.int .i64 ((l.length:Int))),(8,.int .i64 (sg.2))] a'∧St (cR w0) w' [] [A0 [s1] (l:List bA)]) ?_ hl1 ⟨hA.part ⟨rfl,rfl,rfl,rfl,trivial⟩,((hS).MP [] rfl).vH [0] rfl⟩
  clear hA hS hl1
  rintro⟨x3,x4⟩ a w q1 ⟨hA,hS⟩ hG1 hr1
  try dsimp only at hA hS
  unfold jD at hG1
  refine bR<|cG hA ?_
  clear hA
  refine oy (FX rfl rfl rfl) rfl<|bI fun a hA=>bR<|lN hA rfl (fun hc1=>?_) (fun hc1=>?_)
  ·replace hG1:=LI hc1 hG1
   refine oH<|bR<|lI<|bR<|cG hA ?_
   clear hA
   obtain⟨x6,hx6,hG1⟩:=tD hG1
   refine oy (O8 (m:=1) (hS.rd 0 rfl) rfl hx6 Tryz.underlying40 Tryz.sizeOf152 rfl rfl rfl) rfl ?_
   obtain⟨s2,hel,hS⟩:=hS.aH4 0 rfl (kG hx6).2.2
   refine oy (O7 rfl rfl Tryz.isAgg152 Tryz.sizeOf152 rfl hel) rfl<|KG (LH (cs:=[(.slice none 0 0)]) hS rfl Tryz.zeroValue152 rfl) (bW rfl) rfl rfl ?_
   clear hS
   rintro _ w ⟨b1,rfl,hS⟩
   refine O6 (SX (vs:=[s2]) hS (i:=0) rfl rfl rfl rfl rfl Tryz.sizeOf152 rfl rfl (aV0 (Z7 (hS.rd 1 rfl)) rfl)) (bW rfl) rfl ?_
   clear hS
   intro w hS
   refine bI fun a hA=>cG hA ?_
   clear hA
   refine om rfl rfl<|oy (zV (m:=0) Tryz.underlying152 rfl rfl Tryz.sizeOf94 rfl rfl) rfl<|oy (i7 rfl rfl Tryz.isAgg94 (hS.cell 0 rfl rfl)) rfl<|oy (oJ (hS.rd 1 rfl) Tryz.underlying94 rfl rfl) rfl<|oy (KH rfl rfl rfl) rfl<|oa rfl rfl<|bI fun a hA=>cG hA ?_
   clear hA
   refine oy (KH rfl rfl rfl) rfl<|om rfl rfl<|bI fun a hA=>?_
   cases hG1
   exact⟨_,rfl,⟨hA.part ⟨rfl,rfl,rfl,rfl,trivial⟩,((hS).MP [] rfl).vH [0] rfl⟩⟩
  ·replace hG1:=LJ hc1 hG1
   refine JL<|DJ ?_
   cases hG1
   have ho:=hr1 _ rfl;subst ho
   exact⟨x3,rfl,hA.part ⟨rfl,trivial⟩,((hS).MP [] rfl).vH [] rfl⟩
 ·skip
  clear hA hS hl1
  rintro a w ⟨x5,heq,hA,hS⟩
  replace hF:BL x5=some r:=by rw [heq] at hF;exact hF
  clear heq
  unfold BL at hF
  refine bR<|cG hA ?_
  clear hA
  refine om rfl rfl<|oa rfl rfl<|bI fun a hA=>zU ?_
  cases hF
  exact fy Tryz.results245 hA rfl hS
theorem aBC{w0:World}{l:List bA}{s1:Value}{r:Bool}(h1:aJ.rd (OW w0) w0 [s1] (l:List bA))(hF:lQ l=some r) :
    Calls Tryz.prog 169 #[s1] w0 (Ret fun v w'=>v=.bool (r)∧St (cR w0) w' [] []):=by
 have hS:St (cR w0) w0 [] [A0 [s1] (l:List bA)]:=St.enter (by
   intro f hf
   simp only [List.mem_cons,List.not_mem_nil,or_false] at hf
   subst hf;exact h1)
 refine AM (args:=[_]) Tryz.func169 rfl Tryz.ntmps169 rfl ?_
 unfold lQ at hF
 intro a hA
 refine bR<|cG hA ?_
 clear hA
 refine oa rfl rfl<|bI fun a hA=>bR<|bR<|cG hA ?_
 clear hA
 refine om rfl rfl<|oy (oJ (hS.rd 0 rfl) Tryz.underlying40 rfl rfl) rfl<|oy (aFB rfl rfl rfl) rfl<|bI fun a hA=>lN hA rfl (fun hc1=>?_) (fun hc1=>?_)
 ·replace hF:=LI hc1 hF
  refine bR<|cG hA ?_
  clear hA
  refine oa rfl rfl<|bI fun a hA=>zU ?_
  cases hF
  exact fy Tryz.results169 hA rfl hS
 ·replace hF:=LJ hc1 hF
  refine oH<|bR<|cG hA ?_
  clear hA
  refine oy (VM (cells:=#[.bool (false),.bool (false),.bool (false),.bool (false),.bool (false),.bool (false),.bool (false),.bool (false),.bool (false),.bool (false),.bool (false),.bool (false),.bool (false),.bool (false),.bool (false),.bool (false),.bool (false),.bool (false),.bool (false),.bool (false),.bool (false),.bool (false),.bool (false),.bool (false)]) rfl Tryz.zeroValue217 Tryz.underlying217 Tryz.sizeOf4 rfl rfl) rfl<|KG (LH (cs:=List.map (fun q:Bool=>Value.bool q) [false,false,false,false,false,false,false,false,false,false,false,false,false,false,false,false,false,false,false,false,false,false,false,false]) hS rfl Tryz.zeroValue217 rfl) (bW rfl) rfl rfl ?_
  clear hS
  rintro _ w ⟨b1,rfl,hS⟩
  refine O6 (SX (vs:=[.bool (false),.bool (false),.bool (false),.bool (false),.bool (false),.bool (false),.bool (false),.bool (false),.bool (false),.bool (false),.bool (false),.bool (false),.bool (false),.bool (false),.bool (false),.bool (false),.bool (false),.bool (false),.bool (false),.bool (false),.bool (false),.bool (false),.bool (false),.bool (false)]) hS (i:=0) rfl rfl rfl rfl rfl Tryz.sizeOf217 rfl rfl rfl) (bW rfl) rfl ?_
  clear hS
  intro w hS
  refine bI fun a hA=>bR<|bR<|cG hA ?_
  clear hA
  refine om rfl rfl<|oy (oJ (hS.rd 0 rfl) Tryz.underlying40 rfl rfl) rfl<|om rfl rfl<|bI fun a hA=>?_
  obtain⟨o1,hl1,hF⟩:=tD hF
  refine DL (J:=fun a' w'=>o1=Out.brk ()∧kY 51 [(0,s1)] a'∧St (cR w0) w' [] [A0 [s1] (l:List bA)]) ?_ ?_
  ·refine lI ?_
   refine JM (body:=lD l) (r:=o1) (fun sg a' w'=>kY 51 [(0,s1),(3,.pointer (some ⟨b1,0,none⟩)),(12,s1),(13,.int .i64 ((l.length:Int))),(14,.int .i64 (sg.1))] a'∧St (cR w0) w' [DC b1 (List.map (fun q:Bool=>Value.bool q) (sg.2:List Bool))] [A0 [s1] (l:List bA)]) ?_ hl1 ⟨hA.part ⟨rfl,rfl,rfl,rfl,rfl,trivial⟩,((hS).MP [0] rfl).vH [0] rfl⟩
   clear hA hS hl1
   rintro⟨x3,x4⟩ a w q1 ⟨hA,hS⟩ hG1 hr1
   try dsimp only at hA hS
   unfold lD at hG1
   refine bR<|cG hA ?_
   clear hA
   refine oy (FX rfl rfl rfl) rfl<|bI fun a hA=>bR<|lN hA rfl (fun hc2=>?_) (fun hc2=>?_)
   ·replace hG1:=LI hc2 hG1
    refine oH<|bR<|lI<|bR<|cG hA ?_
    clear hA
    obtain⟨x6,hx6,hG1⟩:=tD hG1
    refine oy (O8 (m:=1) (hS.rd 0 rfl) rfl hx6 Tryz.underlying40 Tryz.sizeOf152 rfl rfl rfl) rfl ?_
    obtain⟨s2,hel,hS⟩:=hS.aH4 0 rfl (kG hx6).2.2
    refine oy (O7 rfl rfl Tryz.isAgg152 Tryz.sizeOf152 rfl hel) rfl<|KG (LH (cs:=[(.slice none 0 0)]) hS rfl Tryz.zeroValue152 rfl) (bW rfl) rfl rfl ?_
    clear hS
    rintro _ w ⟨b2,rfl,hS⟩
    refine O6 (SX (vs:=[s2]) hS (i:=1) rfl rfl rfl rfl rfl Tryz.sizeOf152 rfl rfl (aV0 (Z7 (hS.rd 1 rfl)) rfl)) (bW rfl) rfl ?_
    clear hS
    intro w hS
    refine bI fun a hA=>bR<|cG hA ?_
    clear hA
    refine oy (zV (m:=0) Tryz.underlying152 rfl rfl Tryz.sizeOf94 rfl rfl) rfl<|oy (i7 rfl rfl Tryz.isAgg94 (hS.cell 1 rfl rfl)) rfl<|oy (oJ (hS.rd 1 rfl) Tryz.underlying94 rfl rfl) rfl<|om rfl rfl<|bI fun a hA=>?_
    obtain⟨o2,hl2,hG1⟩:=tD hG1
    refine DL (J:=fun a' w'=>∃(x11:List Bool),o2=Out.brk x11∧kY 51 [(0,s1),(3,.pointer (some ⟨b1,0,none⟩)),(12,s1),(13,.int .i64 ((l.length:Int))),(14,.int .i64 (x3))] a'∧St (cR w0) w' [DC b1 (List.map (fun q:Bool=>Value.bool q) (x11:List Bool))] [A0 [s1] (l:List bA)]) ?_ ?_
    ·refine lI ?_
     refine JM (body:=lC x6) (r:=o2) (fun sg a' w'=>kY 51 [(0,s1),(3,.pointer (some ⟨b1,0,none⟩)),(12,s1),(13,.int .i64 ((l.length:Int))),(14,.int .i64 (x3)),(19,s2),(20,.int .i64 ((x6.Rows.length:Int))),(21,.int .i64 (sg.1))] a'∧St (cR w0) w' [DC b1 (List.map (fun q:Bool=>Value.bool q) (sg.2:List Bool))] [A0 [s1] (l:List bA),A0 [s2] (x6.Rows:List cW)]) ?_ hl2 ⟨hA.part ⟨rfl,rfl,rfl,rfl,rfl,rfl,rfl,rfl,trivial⟩,((hS).MP [0] rfl).vH [0,1] rfl⟩
     clear hA hS hl2
     rintro⟨x9,x10⟩ a w q2 ⟨hA,hS⟩ hG2 hr2
     try dsimp only at hA hS
     unfold lC at hG2
     refine bR<|cG hA ?_
     clear hA
     refine oy (FX rfl rfl rfl) rfl<|bI fun a hA=>bR<|lN hA rfl (fun hc3=>?_) (fun hc3=>?_)
     ·replace hG2:=LI hc3 hG2
      refine oH<|bR<|lI<|bR<|cG hA ?_
      clear hA
      obtain⟨x12,hx12,hG2⟩:=tD hG2
      refine oy (O8 (m:=2) (hS.rd 1 rfl) rfl hx12 Tryz.underlying94 Tryz.sizeOf97 rfl rfl rfl) rfl<|oy (O7 rfl rfl Tryz.isAgg97 Tryz.sizeOf97 rfl (aTX (hS.rd 1 rfl) (kG hx12).2.2)) rfl<|KG (LH (cs:=[.int .i64 (0),.int .i64 (0)]) hS rfl Tryz.zeroValue97 rfl) (bW rfl) rfl rfl ?_
      clear hS
      rintro _ w ⟨b3,rfl,hS⟩
      refine O6 (SX (vs:=[.int .i64 (x12.Handle),.int .i64 (x12.aI)]) hS (i:=1) rfl rfl rfl rfl rfl Tryz.sizeOf97 rfl rfl rfl) (bW rfl) rfl ?_
      clear hS
      intro w hS
      refine bI fun a hA=>bR<|bR<|DL (J:=fun a' w'=>∃(x13:Bool),jO x9 x10 x12 x13=some q2∧kY 51 [(0,s1),(3,.pointer (some ⟨b1,0,none⟩)),(7,.pointer (some ⟨b3,0,none⟩)),(12,s1),(13,.int .i64 ((l.length:Int))),(14,.int .i64 (x3)),(19,s2),(20,.int .i64 ((x6.Rows.length:Int))),(21,.int .i64 (x9)),(41,.bool (x13))] a'∧St (cR w0) w' [DC b1 (List.map (fun q:Bool=>Value.bool q) (x10:List Bool)),DC b3 [.int .i64 (x12.Handle),.int .i64 (x12.aI)]] [A0 [s1] (l:List bA),A0 [s2] (x6.Rows:List cW)]) ?_ ?_
      ·skip
       refine cG hA ?_
       clear hA
       refine oy (zV (m:=0) Tryz.underlying97 rfl rfl Tryz.sizeOf3 rfl rfl) rfl<|oy (i7 rfl rfl Tryz.isAgg3 (hS.cell 1 rfl rfl)) rfl ?_
       obtain⟨x15,hx15,hG2⟩:=tD hG2
       refine WW (JQ Tryz.call134 rfl rfl) (bW rfl) rfl rfl (X8 (h:=x12.Handle) hx15) ?_
       rintro _ w ⟨rfl,hk⟩
       replace hS:=hS.after hk;clear hk
       refine oy (Z0 rfl rfl) rfl<|om rfl rfl<|H6 (s:=29) rfl (fun hc5=>?_) (fun hc5=>?_)
       ·replace hG2:=LI hc5 hG2
        refine fU (cA rfl rfl rfl (by rw [hc5];rfl)) rfl rfl ?_
        refine fU (cA rfl rfl rfl (by rw [hc5];rfl)) rfl rfl ?_
        refine fU (cA rfl rfl rfl (by rw [hc5];rfl)) rfl rfl ?_
        refine fU (cA rfl rfl rfl (by rw [hc5];rfl)) rfl rfl ?_
        refine oy (vG rfl rfl hc5 rfl) rfl<|om rfl rfl<|fU (cA rfl rfl rfl rfl) rfl rfl<|fU (cA rfl rfl rfl rfl) rfl rfl<|fU (cA rfl rfl rfl rfl) rfl rfl<|fU (cA rfl rfl rfl rfl) rfl rfl<|fU (cA rfl rfl rfl rfl) rfl rfl<|oy (vG rfl rfl rfl rfl) rfl<|bI fun a hA=>?_
        exact⟨true,hG2,hA.part ⟨rfl,rfl,rfl,rfl,rfl,rfl,rfl,rfl,rfl,rfl,trivial⟩,((hS).MP [0,1] rfl).vH [0,1] rfl⟩
       ·replace hG2:=LJ hc5 hG2
        refine fJ (zV (m:=0) Tryz.underlying97 rfl rfl Tryz.sizeOf3 rfl rfl) (cA rfl rfl rfl (by rw [hc5];rfl)) rfl rfl ?_
        refine fJ (i7 rfl rfl Tryz.isAgg3 (hS.cell 1 rfl rfl)) (cA rfl rfl rfl (by rw [hc5];rfl)) rfl rfl ?_
        obtain⟨x16,hx16,hG2⟩:=tD hG2
        refine WW (JQ Tryz.call58 rfl rfl) (cA rfl rfl rfl (by rw [hc5];rfl)) rfl rfl (KZ (n:=x12.aI) (low:=0) (high:=100000) hx16) ?_
        rintro _ w ⟨rfl,hk⟩
        replace hS:=hS.after hk;clear hk
        refine fJ (Z0 rfl rfl) (cA rfl rfl rfl (by rw [hc5];rfl)) rfl rfl ?_
        refine oy (AL rfl rfl hc5 rfl) rfl<|om rfl rfl<|H6 (s:=35) rfl (fun hc6=>?_) (fun hc6=>?_)
        ·replace hG2:=LI hc6 hG2
         refine fU (cA rfl rfl rfl (by rw [hc6];rfl)) rfl rfl ?_
         refine fU (cA rfl rfl rfl (by rw [hc6];rfl)) rfl rfl ?_
         refine fU (cA rfl rfl rfl (by rw [hc6];rfl)) rfl rfl ?_
         refine fU (cA rfl rfl rfl (by rw [hc6];rfl)) rfl rfl ?_
         refine fU (cA rfl rfl rfl (by rw [hc6];rfl)) rfl rfl ?_
         refine oy (vG rfl rfl hc6 rfl) rfl<|bI fun a hA=>?_
         exact⟨true,hG2,hA.part ⟨rfl,rfl,rfl,rfl,rfl,rfl,rfl,rfl,rfl,rfl,trivial⟩,((hS).MP [0,1] rfl).vH [0,1] rfl⟩
        ·replace hG2:=LJ hc6 hG2
         refine fJ (zV (m:=0) Tryz.underlying97 rfl rfl Tryz.sizeOf3 rfl rfl) (cA rfl rfl rfl (by rw [hc6];rfl)) rfl rfl ?_
         refine fJ (i7 rfl rfl Tryz.isAgg3 (hS.cell 1 rfl rfl)) (cA rfl rfl rfl (by rw [hc6];rfl)) rfl rfl ?_
         refine fJ (VL rfl rfl rfl (by decide)) (cA rfl rfl rfl (by rw [hc6];rfl)) rfl rfl ?_
         obtain⟨hn2,hG2⟩:=kH hG2
         refine fJ (ZI Tryz.underlying217 Tryz.sizeOf4 hn2 rfl rfl rfl) (cA rfl rfl rfl (by rw [hc6];rfl)) rfl rfl ?_
         obtain⟨x17,hx17,hG2⟩:=tD hG2
         refine fJ (i7 rfl rfl Tryz.isAgg4 (hS.aK1 0 rfl hx17)) (cA rfl rfl rfl (by rw [hc6];rfl)) rfl rfl ?_
         refine oy (AL rfl rfl hc6 rfl) rfl<|bI fun a hA=>?_
         exact⟨x17,hG2,hA.part ⟨rfl,rfl,rfl,rfl,rfl,rfl,rfl,rfl,rfl,rfl,trivial⟩,((hS).MP [0,1] rfl).vH [0,1] rfl⟩
      ·skip
       clear hA hS hG2
       rintro a w ⟨x13,hG2,hA,hS⟩
       unfold jO at hG2
       refine lN hA rfl (fun hc4=>?_) (fun hc4=>?_)
       ·replace hG2:=LI hc4 hG2
        refine bR<|cG hA ?_
        clear hA
        refine oa rfl rfl<|bI fun a hA=>zU ?_
        cases hG2
        have ho:=hr2 _ rfl;subst ho
        replace hG1:some (.stop (Out.ret false))=some q1:=hG1
        cases hG1
        have ho:=hr1 _ rfl;subst ho
        replace hF:some false=some r:=hF
        cases hF
        exact fy Tryz.results169 hA rfl hS
       ·replace hG2:=LJ hc4 hG2
        refine oH<|cG hA ?_
        clear hA
        refine oy (zV (m:=0) Tryz.underlying97 rfl rfl Tryz.sizeOf3 rfl rfl) rfl<|oy (i7 rfl rfl Tryz.isAgg3 (hS.cell 1 rfl rfl)) rfl<|oy (VL rfl rfl rfl (by decide)) rfl ?_
        obtain⟨hn1,hG2⟩:=kH hG2
        refine oy (ZI Tryz.underlying217 Tryz.sizeOf4 hn1 rfl rfl rfl) rfl ?_
        obtain⟨x14,hx14,hG2⟩:=tD hG2
        refine O6 (aOU (xd:=true) hS (m:=0) rfl hx14 Tryz.sizeOf4 rfl rfl rfl rfl rfl rfl) (bW rfl) rfl ?_
        clear hS
        intro w hS
        refine bI fun a hA=>cG hA ?_
        clear hA
        refine oy (KH rfl rfl rfl) rfl<|om rfl rfl<|bI fun a hA=>?_
        cases hG2
        exact⟨_,rfl,⟨hA.part ⟨rfl,rfl,rfl,rfl,rfl,rfl,rfl,rfl,trivial⟩,((hS).MP [0] rfl).vH [0,1] rfl⟩⟩
     ·replace hG2:=LJ hc3 hG2
      refine JL<|DJ ?_
      cases hG2
      have ho:=hr2 _ rfl;subst ho
      exact⟨x10,rfl,hA.part ⟨rfl,rfl,rfl,rfl,rfl,trivial⟩,((hS).MP [0] rfl).vH [0] rfl⟩
    ·skip
     clear hA hS hl2
     rintro a w ⟨x11,heq,hA,hS⟩
     replace hG1:y6 x3 x11=some q1:=by rw [heq] at hG1;exact hG1
     clear heq
     unfold y6 at hG1
     refine cG hA ?_
     clear hA
     refine oy (KH rfl rfl rfl) rfl<|om rfl rfl<|bI fun a hA=>?_
     cases hG1
     exact⟨_,rfl,⟨hA.part ⟨rfl,rfl,rfl,rfl,rfl,trivial⟩,((hS).MP [0] rfl).vH [0] rfl⟩⟩
   ·replace hG1:=LJ hc2 hG1
    refine JL<|DJ ?_
    cases hG1
    have ho:=hr1 _ rfl;subst ho
    exact⟨rfl,hA.part ⟨rfl,trivial⟩,((hS).MP [] rfl).vH [0] rfl⟩
  ·skip
   clear hA hS hl1
   rintro a w ⟨heq,hA,hS⟩
   replace hF:y5 l=some r:=by rw [heq] at hF;exact hF
   clear heq
   unfold y5 at hF
   refine bR<|cG hA ?_
   clear hA
   refine om rfl rfl ?_
   obtain⟨x5,hx5,hF⟩:=tD hF
   refine WW (JQ Tryz.call245 rfl rfl) (bW rfl) rfl rfl (V8 (l:=l) (hS.rd 0 rfl) hx5) ?_
   rintro _ w ⟨rfl,hk⟩
   replace hS:=hS.after hk;clear hk
   refine oy (aI7 rfl rfl rfl) rfl<|oa rfl rfl<|bI fun a hA=>zU ?_
   cases hF
   exact fy Tryz.results169 hA rfl hS
noncomputable section
open Go.RowKit
attribute [local go_sem] Oper.semAt_some
def aTY(W:World)(b o:Nat)(e:Ev):Prop:=W.cell? ⟨b,o,none⟩=some (.int .i64 e.Kind)∧W.cell? ⟨b,o+1,none⟩=some (.int .i64 e.Who)∧W.cell? ⟨b,o+2,none⟩=some (.int .i64 e.aK)∧W.cell? ⟨b,o+3,none⟩=some (.int .i64 e.Cell)∧W.cell? ⟨b,o+4,none⟩=some (.int .i64 e.Handle)∧W.cell? ⟨b,o+5,none⟩=some (.int .i64 e.dV)∧W.cell? ⟨b,o+6,none⟩=some (.int .i64 e.Code)
theorem aTY.below{n₀:Nat}{A B:World}(h:Below n₀ A B){b o:Nat}{e:Ev}(hb:b < n₀)(k:aTY A b o e):aTY B b o e:=by
  have q:∀j,B.cell? ⟨b,j,none⟩=A.cell? ⟨b,j,none⟩:=fun j=>h.cell (p:=⟨b,j,none⟩) hb
  exact⟨(q _).trans k.1,(q _).trans k.2.1,(q _).trans k.2.2.1,(q _).trans k.2.2.2.1,(q _).trans k.2.2.2.2.1,(q _).trans k.2.2.2.2.2.1,(q _).trans k.2.2.2.2.2.2⟩
def Evs(n₀:Nat)(W:World)(sv:Value)(zs:List Ev):Prop:=
  ((∃a c,sv=.slice a 0 c)∧zs=[])∨∃b off cap,sv=.slice (some ⟨b,off,none⟩) zs.length cap∧b < n₀∧∀j,j < zs.length→aTY W b (off+j * 7) (zs[j]?.getD default)
theorem Evs.below{n₀ m:Nat}{A B:World}(h:Below m A B)(hm:n₀≤m){sv:Value}{zs:List Ev}:Evs n₀ A sv zs→Evs m B sv zs
  | .inl e=>.inl e
  | .inr ⟨b,off,cap,e,hb,hc⟩=>.inr ⟨b,off,cap,e,by omega,fun j hj=>(hc j hj).below h (by omega)⟩
end
end Go.Proofs.YtabnjpbikjfhoaaGreat
end
