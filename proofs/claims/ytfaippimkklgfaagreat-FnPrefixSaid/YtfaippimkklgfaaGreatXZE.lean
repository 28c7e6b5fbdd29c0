import Derived.Test.YtfaippimkklgfaaGreatXZD
import Derived.Test.YtfaippimkklgfaaGreatProg
set_option linter.unusedVariables false
set_option linter.unusedSimpArgs false
set_option linter.unusedSectionVars false
set_option linter.constructorNameAsVariable false
set_option linter.unnecessarySimpa false
noncomputable section
set_option maxHeartbeats 4000000
set_option maxRecDepth 100000
namespace Go.Proofs.YtfaippimkklgfaaGreat
open Go.Gv Tryz
theorem aX:T3 prog 3 1 (.int .i64 0):=rQ (b:=8) (by kernel_rfl) rfl
theorem uM:T3 prog 91 1 (.agg #[.slice none 0 0]):=rQ (b:=24) (by kernel_rfl) rfl
theorem g9:T3 prog 93 4 (.agg #[.int .i64 0,.int .i64 0,.int .i64 0,.int .i64 0]):=rQ (b:=32) (by kernel_rfl) rfl
theorem mK:T3 prog 104 3 (.agg #[.int .i64 0,.int .i64 0,.int .i64 0]):=rQ (b:=24) (by kernel_rfl) rfl
theorem uN:T3 prog 99 1 (.agg #[.slice none 0 0]):=rQ (b:=24) (by kernel_rfl) rfl
theorem eK:T3 prog 101 2 (.agg #[.bool false,.slice none 0 0]):=rQ (b:=32) (by kernel_rfl) rfl
theorem gD:T3 prog 203 1 (.agg #[.slice none 0 0]):=rQ (b:=24) (by kernel_rfl) rfl
theorem QB:T3 prog 153 4 (.agg #[.bool false,.int .i64 0,.bool false,.int .i64 0]):=rQ (b:=32) (by kernel_rfl) rfl
theorem J8:T3 prog 206 1 (.agg #[.slice none 0 0]):=rQ (b:=24) (by kernel_rfl) rfl
theorem gE:T3 prog 116 21 (.agg #[.bool false,.int .i64 0,.int .i64 0,.int .i64 0,.int .i64 0,.int .i64 0,.int .i64 0,.int .i64 0,.int .i64 0,.int .i64 0,.int .i64 0,.int .i64 0,.int .i64 0,.int .i64 0,.int .i64 0,.int .i64 0,.bool false,.int .i64 0,.int .i64 0,.int .i64 0,.int .i64 0]):=rQ (b:=168) (by kernel_rfl) rfl
theorem iG:T3 prog 69 3 (.agg #[.int .i64 0,.int .i64 0,.int .i64 0]):=rQ (b:=24) (by kernel_rfl) rfl
theorem gG:T3 prog 125 32 (.agg #[.bool false,.bool false,.slice none 0 0,.int .i64 0,.int .i64 0,.int .i64 0,.int .i64 0,.int .i64 0,.int .i64 0,.int .i64 0,.int .i64 0,.int .i64 0,.int .i64 0,.int .i64 0,.bool false,.int .i64 0,.int .i64 0,.int .i64 0,.int .i64 0,.int .i64 0,.int .i64 0,.int .i64 0,.int .i64 0,.int .i64 0,.int .i64 0,.bool false,.slice none 0 0,.slice none 0 0,.slice none 0 0,.slice none 0 0,.slice none 0 0,.slice none 0 0]):=rQ (b:=368) (by kernel_rfl) rfl
theorem aKP:T3 prog 63 7 (.agg #[.int .i64 0,.int .i64 0,.int .i64 0,.int .i64 0,.int .i64 0,.int .i64 0,.int .i64 0]):=rQ (b:=56) (by kernel_rfl) rfl
theorem aV2:T3 prog 37 1 (.slice none 0 0):=rQ (b:=24) (by kernel_rfl) rfl
theorem aZV:T3 prog 5 1 (.int .u8 0):=rQ (b:=1) (by kernel_rfl) rfl
theorem yN:T3 prog 134 2 (.agg #[.int .i64 0,.int .i64 0]):=rQ (b:=16) (by kernel_rfl) rfl
theorem m9:T3 prog 67 6 (.agg #[.int .i64 0,.int .i64 0,.int .i64 0,.int .i64 0,.slice none 0 0,.slice none 0 0]):=rQ (b:=80) (by kernel_rfl) rfl
theorem yO:T3 prog 172 3 (.agg #[.int .i64 0,.bool false,.int .i64 0]):=rQ (b:=24) (by kernel_rfl) rfl
theorem QC:T3 prog 174 2 (.agg #[.bool false,.int .i64 0]):=rQ (b:=16) (by kernel_rfl) rfl
theorem QD:T3 prog 190 2 (.agg #[.int .i64 0,.int .i64 0]):=rQ (b:=16) (by kernel_rfl) rfl
theorem aC:prog.follows .mixedOrders=true:=by kernel_rfl
theorem aF6(D:Nat)(d d':wW)(w:World):(Op.eqFields (D+2) #[.bool (d.On),.int .i64 (d.aQ),.bool (d.fB),.int .i64 (d.Seen)] #[.bool (d'.On),.int .i64 (d'.aQ),.bool (d'.fB),.int .i64 (d'.Seen)] (match prog.underlying 153 with | some (.struct fs)=>fs | _=>#[]).toList).run prog w=.ok (decide (d=d')) w:=by
 rw[underlying153];have h:(d.On == d'.On && (d.aQ == d'.aQ && (d.fB == d'.fB && (d.Seen == d'.Seen && true))))=decide (d=d'):=by cases d;cases d';rw[QJ];simp
 rw[<-h];exact wZ _ _ _ _ _ rfl (AF isAgg4 rfl) (AF isAgg4 rfl) (aXF underlying4)<|
  wZ _ _ _ _ _ rfl (AF isAgg3 rfl) (AF isAgg3 rfl) (T4 underlying3)<|
  wZ _ _ _ _ _ rfl (AF isAgg4 rfl) (AF isAgg4 rfl) (aXF underlying4)<|
  wZ _ _ _ _ _ rfl (AF isAgg3 rfl) (AF isAgg3 rfl) (T4 underlying3)<|
  aXE _ _ _
theorem aV3(D:Nat)(d d':Ev)(w:World):(Op.eqFields (D+2) #[.int .i64 (d.Kind),.int .i64 (d.Who),.int .i64 (d.aI),.int .i64 (d.Cell),.int .i64 (d.Handle),.int .i64 (d.cK),.int .i64 (d.Code)] #[.int .i64 (d'.Kind),.int .i64 (d'.Who),.int .i64 (d'.aI),.int .i64 (d'.Cell),.int .i64 (d'.Handle),.int .i64 (d'.cK),.int .i64 (d'.Code)] (match prog.underlying 63 with | some (.struct fs)=>fs | _=>#[]).toList).run prog w=.ok (decide (d=d')) w:=by
 rw[underlying63];have h:(d.Kind == d'.Kind && (d.Who == d'.Who && (d.aI == d'.aI && (d.Cell == d'.Cell && (d.Handle == d'.Handle && (d.cK == d'.cK && (d.Code == d'.Code && true)))))))=decide (d=d'):=by cases d;cases d';rw[QJ];simp
 rw[<-h];exact wZ _ _ _ _ _ rfl (AF isAgg3 rfl) (AF isAgg3 rfl) (T4 underlying3)<|
  wZ _ _ _ _ _ rfl (AF isAgg3 rfl) (AF isAgg3 rfl) (T4 underlying3)<|
  wZ _ _ _ _ _ rfl (AF isAgg3 rfl) (AF isAgg3 rfl) (T4 underlying3)<|
  wZ _ _ _ _ _ rfl (AF isAgg3 rfl) (AF isAgg3 rfl) (T4 underlying3)<|
  wZ _ _ _ _ _ rfl (AF isAgg3 rfl) (AF isAgg3 rfl) (T4 underlying3)<|
  wZ _ _ _ _ _ rfl (AF isAgg3 rfl) (AF isAgg3 rfl) (T4 underlying3)<|
  wZ _ _ _ _ _ rfl (AF isAgg3 rfl) (AF isAgg3 rfl) (T4 underlying3)<|
  aXE _ _ _
set_option maxRecDepth 100000 in
theorem TA{w0:World}{n:Int}(hn:0<=n/\n<=1073741824) :
  Calls prog 310 #[.slice none 0 0,.int .i64 n] w0 (Ret fun v w'=>∃s0_0:Value,v=s0_0/\St (cL w0) w' [bL [s0_0] ([]:List Raw)] []):=by
 have hS:St (cL w0) w0 [] []:=St.enter (by intro f hf;cases hf);have hw:bB (n - bB (0 - 0))=n:=by rw[NB (x:=0 - 0) (by omega),NB (by omega)];omega
 refine a1G (args:=[_,_]) func310 rfl ntmps310 rfl ?_;intro a hA;refine b7 ?_;refine cV hA ?_;clear hA;refine gK (HW rfl rfl) (cA rfl) rfl rfl ?_;refine bP ?_;intro a hA;refine b7 ?_;refine b7 ?_;refine cV hA ?_;clear hA;refine gK (pU rfl rfl) (cA rfl) rfl rfl ?_;refine gK (KG rfl rfl rfl) (cA rfl) rfl rfl ?_;refine bP ?_;intro a hA;refine nO hA rfl (fun hc=>?_) (fun hc=>?_)
 ·exfalso;simp at hc;omega
 refine rA ?_;refine b7 ?_;refine b7 ?_;refine cV hA ?_;clear hA;refine gK (pU rfl rfl) (cA rfl) rfl rfl ?_;refine gK (pU rfl rfl) (cA rfl) rfl rfl ?_;refine gK (aOS underlying37 rfl rfl) (cA rfl) rfl rfl ?_;refine gK (pU rfl rfl) (cA rfl) rfl rfl ?_;refine gK (rB (a1K (α:=Raw) (S:=F0)) underlying37 rfl rfl) (cA rfl) rfl rfl ?_;refine gK (aU5 rfl rfl rfl) (cA rfl) rfl rfl ?_;refine gK (aU5 rfl rfl rfl) (cA rfl) rfl rfl ?_;refine gK (HW rfl rfl) (cA rfl) rfl rfl ?_;refine bP ?_;intro a hA;refine b7 ?_;refine cV hA ?_;clear hA;refine gK (pU rfl rfl) (cA rfl) rfl rfl ?_;refine gK (aU8 rfl rfl rfl) (cA rfl) rfl rfl ?_;refine bP ?_;intro a hA;refine nO hA rfl (fun hc=>?_) (fun hc=>?_)
 ·have hn1:0<n:=by have h2:decide (0<bB (n - bB (0 - 0)))=true:=hc;rw[hw] at h2;simpa using h2
  refine cV hA ?_;clear hA;refine gK (pU rfl rfl) (cA rfl) rfl rfl ?_;refine gK (pU rfl rfl) (cA rfl) rfl rfl ?_;refine gK (aOS underlying37 rfl rfl) (cA rfl) rfl rfl ?_;refine gK (aXM (s:=.slice none 0 0) ⟨_,_,_,rfl⟩ underlying37 sizeOf203 rfl rfl rfl) (cA rfl) rfl rfl ?_;refine gK (pU rfl rfl) (cA rfl) rfl rfl ?_;refine QK (a64 (i:=bB (n - bB (0 - 0))) hS underlying37 underlying3 gD rfl rfl (by rw[hw];omega) rfl rfl rfl) (cA rfl) rfl rfl ?_;clear hS;intro s w hS;refine gK (pU rfl rfl) (cA rfl) rfl rfl ?_;refine gK (rB (a1K (α:=Raw) (S:=F0)) underlying37 rfl rfl) (cA rfl) rfl rfl ?_;refine gK (aXM (hS.a16 0 rfl) underlying37 sizeOf203 rfl rfl rfl) (cA rfl) rfl rfl ?_;refine gK (HW rfl rfl) (cA rfl) rfl rfl ?_;refine bP ?_;intro a hA;replace hS:=hS.bAO (α:=Raw) 0 rfl rfl;refine b7 ?_;refine cV hA ?_;clear hA;refine gK (pU rfl rfl) (cA rfl) rfl rfl ?_;refine gK (HW rfl rfl) (cA rfl) rfl rfl ?_;refine bP ?_;intro a hA;refine DA ?_;exact a6R results310 hA (aII rfl) ⟨_,rfl,(hS.R7 [0] rfl).weaken (R':=[]) (fun _ h=>nomatch h)⟩
 ·refine rA ?_;replace hS:=hS.bAH (α:=Raw);refine b7 ?_;refine cV hA ?_;clear hA;refine gK (pU rfl rfl) (cA rfl) rfl rfl ?_;refine gK (HW rfl rfl) (cA rfl) rfl rfl ?_;refine bP ?_;intro a hA;refine DA ?_;exact a6R results310 hA (aII rfl) ⟨_,rfl,(hS.R7 [0] rfl).weaken (R':=[]) (fun _ h=>nomatch h)⟩
theorem WW{w0:World}{slices:List (List Raw)}{s1:Value}{r:(List Raw)}(h1:aJ.rd (R1 w0) w0 [s1] (slices:List (List Raw)))(hF:rD slices=some r) :
    Calls prog 291 #[s1] w0 (Ret fun v w'=>∃(s0_0:Value),v=s0_0/\St (cL w0) w' [bL [s0_0] (r:List Raw)] []):=by
 have hS:St (cL w0) w0 [] [C9 [s1] (slices:List (List Raw))]:=St.enter (by
   intro f hf;simp only[mA,VI,or_false] at hf;subst hf;exact h1)
 refine D1 (args:=[_]) func291 rfl ntmps291 rfl ?_;unfold rD at hF;intro a hA;refine b7<|cV hA ?_
 clear hA;refine oa rfl rfl<|bP fun a hA=>b7<|cV hA ?_
 clear hA;refine oa rfl rfl<|bP fun a hA=>b7<|b7<|cV hA ?_
 clear hA;refine om rfl rfl<|oy (rB (hS.rd 0 rfl) underlying318 rfl rfl) rfl<|om rfl rfl<|bP fun a hA=>?_
 obtain⟨o1,hl1,hF⟩:=wF hF;refine HX (J:=fun a' w'=>∃(x5:Int),o1=x5/\mX 36 [(0,s1),(3,.int .i64 (x5))] a'/\St (cL w0) w' [] [C9 [s1] (slices:List (List Raw))]) ?_ ?_
 ·refine nD ?_;refine O4 (body:=g8 slices) (r:=o1) (fun sg a' w'=>mX 36 [(0,s1),(3,.int .i64 (sg.1)),(9,s1),(10,.int .i64 ((slices.length:Int))),(11,.int .i64 (sg.2))] a'/\St (cL w0) w' [] [C9 [s1] (slices:List (List Raw))]) ?_ hl1 ⟨hA.part ⟨rfl,rfl,rfl,rfl,rfl,trivial⟩,((hS).R7 [] rfl).yX [0] rfl⟩;clear hA hS hl1;rintro⟨x3,x4⟩ a w q1 ⟨hA,hS⟩ hG1 hr1
  try dsimp only at hA hS
  unfold g8 at hG1;refine b7<|cV hA ?_
  clear hA;refine oy (KG rfl rfl rfl) rfl<|bP fun a hA=>b7<|nO hA rfl (fun hc2=>?_) (fun hc2=>?_)
  ·replace hG1:=R5 hc2 hG1;refine rA<|b7<|nD<|b7<|cV hA ?_
   clear hA;obtain⟨x12,hx12,hG1⟩:=wF hG1;refine oy (XA (m:=1) (hS.rd 0 rfl) rfl hx12 underlying318 sizeOf37 rfl rfl rfl) rfl ?_;obtain⟨s8,hel,hS⟩:=hS.aSK 0 rfl (mC hx12).2.2;refine oy (kL rfl rfl isAgg37 (a1J hel)) rfl<|oa rfl rfl<|bP fun a hA=>b7<|cV hA ?_
   clear hA;refine om rfl rfl<|om rfl rfl<|oy (rB (hS.rd 1 rfl) underlying37 rfl rfl) rfl<|oy (QL rfl rfl rfl) rfl<|oa rfl rfl<|bP fun a hA=>b7<|cV hA ?_
   clear hA;refine om rfl rfl<|oy (KG rfl rfl rfl) rfl<|bP fun a hA=>nO hA rfl (fun hc3=>?_) (fun hc3=>?_)
   ·replace hG1:=R5 hc3 hG1;refine cV hA ?_;clear hA;cases hG1
   ·replace hG1:=R6 hc3 hG1;refine rA<|cV hA ?_
    clear hA;refine oy (QL rfl rfl rfl) rfl<|om rfl rfl<|bP fun a hA=>?_
    cases hG1;exact⟨_,rfl,⟨hA.part ⟨rfl,rfl,rfl,rfl,rfl,trivial⟩,((hS).R7 [] rfl).yX [0] rfl⟩⟩
  ·replace hG1:=R6 hc2 hG1;refine O3<|HV ?_
   cases hG1;have ho:=hr1 _ rfl;subst ho;exact⟨x3,rfl,hA.part ⟨rfl,rfl,trivial⟩,((hS).R7 [] rfl).yX [0] rfl⟩
 ·skip
  clear hA hS hl1;rintro a w ⟨x5,heq,hA,hS⟩;replace hF:nU slices x5=some r:=by rw[heq] at hF;exact hF
  clear heq;unfold nU at hF;refine b7<|cV hA ?_
  clear hA;refine om rfl rfl ?_;obtain⟨hn1,hF⟩:=kG hF;refine aF1 (O7 call310 rfl rfl) (cA rfl) rfl rfl (TA hn1) ?_;rintro s2 w ⟨_,rfl,hk⟩;replace hS:=hS.after hk;clear hk;refine oa rfl rfl<|bP fun a hA=>b7<|b7<|cV hA ?_
  clear hA;refine om rfl rfl<|oy (rB (hS.rd 0 rfl) underlying318 rfl rfl) rfl<|om rfl rfl<|bP fun a hA=>?_
  obtain⟨o2,hl2,hF⟩:=wF hF;refine HX (J:=fun a' w'=>∃(x10:List Raw) (s5:Value),o2=x10/\mX 36 [(6,s5)] a'/\St (cL w0) w' [bL [s5] (x10:List Raw)] []) ?_ ?_
  ·refine nD ?_;refine O4 (body:=i6 slices) (r:=o2) (fun sg a' w'=>∃(s4:Value),mX 36 [(6,s4),(25,s1),(26,.int .i64 ((slices.length:Int))),(27,.int .i64 (sg.2))] a'/\St (cL w0) w' [bL [s4] (sg.1:List Raw)] [C9 [s1] (slices:List (List Raw))]) ?_ hl2 ⟨s2,hA.part ⟨rfl,rfl,rfl,rfl,trivial⟩,((hS).R7 [0] rfl).yX [0] rfl⟩;clear hA hS hl2;rintro⟨x8,x9⟩ a w q2 ⟨s4,hA,hS⟩ hG2 hr2
   try dsimp only at hA hS
   unfold i6 at hG2;refine b7<|cV hA ?_
   clear hA;refine oy (KG rfl rfl rfl) rfl<|bP fun a hA=>b7<|nO hA rfl (fun hc1=>?_) (fun hc1=>?_)
   ·replace hG2:=R5 hc1 hG2;refine rA<|b7<|nD<|b7<|cV hA ?_
    clear hA;obtain⟨x11,hx11,hG2⟩:=wF hG2;refine oy (XA (m:=1) (hS.rd 0 rfl) rfl hx11 underlying318 sizeOf37 rfl rfl rfl) rfl ?_;obtain⟨s6,hel,hS⟩:=hS.aSK 0 rfl (mC hx11).2.2;refine oy (kL rfl rfl isAgg37 (a1J hel)) rfl<|oa rfl rfl<|bP fun a hA=>cV hA ?_
    clear hA;refine om rfl rfl<|om rfl rfl ?_
    obtain⟨hn2,hG2⟩:=kG hG2;refine QK (aOP (α:=Raw) 0 hS rfl (hS.rd 1 rfl) rfl underlying37 gD rfl hn2 rfl rfl rfl) (cA rfl) rfl rfl ?_;clear hS;rintro s7 w hS;refine oa rfl rfl<|bP fun a hA=>cV hA ?_
    clear hA;refine oy (QL rfl rfl rfl) rfl<|om rfl rfl<|bP fun a hA=>?_
    cases hG2;exact⟨_,rfl,⟨s7,hA.part ⟨rfl,rfl,rfl,rfl,trivial⟩,((hS).R7 [0] rfl).yX [0] rfl⟩⟩
   ·replace hG2:=R6 hc1 hG2;refine O3<|HV ?_
    cases hG2;have ho:=hr2 _ rfl;subst ho;exact⟨x8,s4,rfl,hA.part ⟨rfl,trivial⟩,((hS).R7 [0] rfl).yX [] rfl⟩
  ·skip
   clear hA hS hl2;rintro a w ⟨x10,s5,heq,hA,hS⟩;replace hF:tR x10=some r:=by rw[heq] at hF;exact hF
   clear heq;unfold tR at hF;refine b7<|cV hA ?_
   clear hA;refine om rfl rfl<|oa rfl rfl<|bP fun a hA=>DA ?_
   cases hF;exact a6R results291 hA (aII rfl) ⟨s5,rfl,(hS.R7 [0] rfl).weaken (R':=[]) (fun _ h=>nomatch h)⟩
theorem Q9{w0:World}{n:Int}{low:Int}{high:Int}{r:Bool}(hF:bY n low high=some r) :
    Calls prog 47 #[.int .i64 (n),.int .i64 (low),.int .i64 (high)] w0 (Ret fun v w'=>v=.bool (r)/\St (cL w0) w' [] []):=by
 have hS:St (cL w0) w0 [] []:=St.enter (by
   intro f hf;cases hf)
 refine D1 (args:=[_,_,_]) func47 rfl ntmps47 rfl ?_;unfold bY at hF;intro a hA;refine b7<|cV hA ?_
 clear hA;refine oa rfl rfl<|bP fun a hA=>b7<|HX (J:=fun a' w'=>∃(x1:Bool),rU x1=some r/\mX 15 [(6,.bool (x1))] a'/\St (cL w0) w' [] []) ?_ ?_
 ·skip
  refine cV hA ?_;clear hA;refine om rfl rfl<|om rfl rfl<|oy (a1C rfl rfl rfl) rfl<|om rfl rfl<|M8 (s:=10) rfl (fun hc1=>?_) (fun hc1=>?_)
  ·replace hF:=R5 hc1 hF;refine gK (pU rfl rfl) (cO rfl rfl rfl (by rw[hc1];rfl)) rfl rfl ?_;refine gK (pU rfl rfl) (cO rfl rfl rfl (by rw[hc1];rfl)) rfl rfl ?_;refine gK (aU7 rfl rfl rfl) (cO rfl rfl rfl (by rw[hc1];rfl)) rfl rfl ?_;refine oy (yW rfl rfl hc1 rfl) rfl<|oa rfl rfl<|bP fun a hA=>?_
   exact⟨decide (n<=high),hF,hA.part ⟨rfl,trivial⟩,((hS).R7 [] rfl).yX [] rfl⟩
  ·replace hF:=R6 hc1 hF;refine gX (cO rfl rfl rfl (by rw[hc1];rfl)) rfl rfl ?_;refine gX (cO rfl rfl rfl (by rw[hc1];rfl)) rfl rfl ?_;refine gX (cO rfl rfl rfl (by rw[hc1];rfl)) rfl rfl ?_;refine oy (D0 rfl rfl hc1 rfl) rfl<|oa rfl rfl<|bP fun a hA=>?_
   exact⟨false,hF,hA.part ⟨rfl,trivial⟩,((hS).R7 [] rfl).yX [] rfl⟩
 ·skip
  clear hA hS hF;rintro a w ⟨x1,hF,hA,hS⟩;unfold rU at hF;refine DA ?_;cases hF;exact fy results47 hA rfl hS
theorem aNR{w0:World}{slot:Int}{r:Bool}(hF:oD slot=some r) :
    Calls prog 242 #[.int .i64 (slot)] w0 (Ret fun v w'=>v=.bool (r)/\St (cL w0) w' [] []):=by
 have hS:St (cL w0) w0 [] []:=St.enter (by
   intro f hf;cases hf)
 refine D1 (args:=[_]) func242 rfl ntmps242 rfl ?_;unfold oD at hF;intro a hA;refine b7<|cV hA ?_
 clear hA;refine oa rfl rfl<|bP fun a hA=>b7<|cV hA ?_
 clear hA;refine om rfl rfl ?_;obtain⟨x1,hx1,hF⟩:=wF hF;refine aF1 (O7 call47 rfl rfl) (cA rfl) rfl rfl (Q9 (n:=slot) (low:=0) (high:=23) hx1) ?_;rintro _ w ⟨rfl,hk⟩;replace hS:=hS.after hk;clear hk;refine oa rfl rfl<|bP fun a hA=>DA ?_
 cases hF;exact fy results242 hA rfl hS
theorem aKQ{w0:World}{l:aB}{s1:Value}{s2:Value}{r:Bool}(h1:aJ.rd (R1 w0) w0 [s1] (l.Global:List aY))(h2:aJ.rd (R1 w0) w0 [s2] (l.Own:List aY))(hF:l4 l=some r) :
    Calls prog 248 #[.agg #[s1,s2]] w0 (Ret fun v w'=>v=.bool (r)/\St (cL w0) w' [] []):=by
 have hS:St (cL w0) w0 [] [C9 [s1] (l.Global:List aY),C9 [s2] (l.Own:List aY)]:=St.enter (by
   intro f hf;simp only[mA,VI,or_false] at hf;rcases hf with rfl | rfl
   · exact h1
   · exact h2)
 refine D1 (args:=[_]) func248 rfl ntmps248 rfl ?_;unfold l4 at hF;intro a hA;refine b7<|cV hA ?_
 clear hA;refine QK (bAE (cs:=[s1,s2]) hS rfl rfl rfl) (cA rfl) rfl rfl ?_;clear hS;rintro _ w ⟨b1,rfl,hS⟩;refine oa rfl rfl<|bP fun a hA=>b7<|b7<|HX (J:=fun a' w'=>∃(x1:Bool),uS l x1=some r/\mX 61 [(1,.pointer (some ⟨b1,0,none⟩)),(17,.bool (x1))] a'/\St (cL w0) w' [HK b1 [s1,s2]] [C9 [s1] (l.Global:List aY),C9 [s2] (l.Own:List aY)]) ?_ ?_
 ·skip
  refine cV hA ?_;clear hA;refine oy (DB (m:=0) underlying39 rfl rfl sizeOf37 rfl rfl) rfl<|oy (kL rfl rfl isAgg37 (hS.cell 0 rfl rfl)) rfl<|oy (rB (hS.rd 0 rfl) underlying37 rfl rfl) rfl<|oy (aP4 rfl rfl rfl) rfl<|om rfl rfl<|M8 (s:=12) rfl (fun hc8=>?_) (fun hc8=>?_)
  ·replace hF:=R5 hc8 hF;refine gX (cO rfl rfl rfl (by rw[hc8];rfl)) rfl rfl ?_;refine gX (cO rfl rfl rfl (by rw[hc8];rfl)) rfl rfl ?_;refine gX (cO rfl rfl rfl (by rw[hc8];rfl)) rfl rfl ?_;refine gX (cO rfl rfl rfl (by rw[hc8];rfl)) rfl rfl ?_;refine oy (yW rfl rfl hc8 rfl) rfl<|bP fun a hA=>?_
   exact⟨true,hF,hA.part ⟨rfl,rfl,trivial⟩,((hS).R7 [0] rfl).yX [0,1] rfl⟩
  ·replace hF:=R6 hc8 hF;refine gK (DB (m:=0) underlying39 rfl rfl sizeOf37 rfl rfl) (cO rfl rfl rfl (by rw[hc8];rfl)) rfl rfl ?_;refine gK (kL rfl rfl isAgg37 (hS.cell 0 rfl rfl)) (cO rfl rfl rfl (by rw[hc8];rfl)) rfl rfl ?_;refine gK (rB (hS.rd 1 rfl) underlying37 rfl rfl) (cO rfl rfl rfl (by rw[hc8];rfl)) rfl rfl ?_;refine gK (aP4 rfl rfl rfl) (cO rfl rfl rfl (by rw[hc8];rfl)) rfl rfl ?_;refine oy (D0 rfl rfl hc8 rfl) rfl<|bP fun a hA=>?_
   exact⟨(l.Own.length:Int) != 9,hF,hA.part ⟨rfl,rfl,trivial⟩,((hS).R7 [0] rfl).yX [0,1] rfl⟩
 ·skip
  clear hA hS hF;rintro a w ⟨x1,hF,hA,hS⟩;unfold uS at hF;refine nO hA rfl (fun hc1=>?_) (fun hc1=>?_)
  ·replace hF:=R5 hc1 hF;refine b7<|cV hA ?_
   clear hA;refine oa rfl rfl<|bP fun a hA=>DA ?_
   cases hF;exact fy results248 hA rfl hS
  ·replace hF:=R6 hc1 hF;refine rA<|b7<|cV hA ?_
   clear hA;refine oy (aEL (cells:=(Array.replicate 24 (.bool false))) rfl zeroValue302 underlying302 sizeOf4 rfl rfl) rfl<|QK (R4 (cs:=List.map (fun q:Bool=>Value.bool q) (List.replicate 24 false)) hS rfl zeroValue302 rfl) (cA rfl) rfl rfl ?_
   clear hS;rintro _ w ⟨b2,rfl,hS⟩;refine W8 (aAX (vs:=(List.replicate 24 (.bool false))) hS (i:=1) rfl rfl rfl rfl rfl sizeOf302 rfl rfl rfl) (cA rfl) rfl ?_;clear hS;intro w hS;refine bP fun a hA=>b7<|b7<|cV hA ?_
   clear hA;refine oy (DB (m:=0) underlying39 rfl rfl sizeOf37 rfl rfl) rfl<|oy (kL rfl rfl isAgg37 (hS.cell 0 rfl rfl)) rfl<|oy (DB (m:=0) underlying39 rfl rfl sizeOf37 rfl rfl) rfl<|oy (kL rfl rfl isAgg37 (hS.cell 0 rfl rfl)) rfl<|QK (aVE hS (hS.rd 1 rfl) (hS.rd 0 rfl) underlying318 aV2 rfl rfl rfl) (cA rfl) rfl rfl ?_
   clear hS;rintro s3 w hS;obtain⟨hn1,hF⟩:=kG hF;replace hS:=hS.bCN 2 rfl;obtain⟨u1,u2,hu1,hl1,hS⟩:=hS.a65 rfl 2 1 0 rfl rfl rfl;refine aF1 (O7 call291 rfl rfl) (cA rfl) rfl rfl (WW hu1 (S2 hl1 hn1)) ?_;rintro s4 w ⟨_,rfl,hk⟩;replace hS:=hS.after hk;clear hk;replace hS:=hS.bCN 3 rfl;replace hS:=hS.bCT rfl 4 3 rfl rfl;refine oy (rB (hS.rd 5 rfl) underlying37 rfl rfl) rfl<|om rfl rfl<|bP fun a hA=>?_
   obtain⟨o1,hl2,hF⟩:=wF hF;refine HX (J:=fun a' w'=>o1=Out.brk ()/\mX 61 [] a'/\St (cL w0) w' [] []) ?_ ?_
   ·refine nD ?_;refine O4 (body:=m4 l) (r:=o1) (fun sg a' w'=>mX 61 [(1,.pointer (some ⟨b1,0,none⟩)),(3,.pointer (some ⟨b2,0,none⟩)),(24,s4),(25,.int .i64 (((l.Own++l.Global).length:Int))),(26,.int .i64 (sg.1))] a'/\St (cL w0) w' [HK b1 [s1,s2],HK b2 (List.map (fun q:Bool=>Value.bool q) (sg.2:List Bool))] [C9 [s4] (l.Own++l.Global:List aY),C9 [s1] (l.Global:List aY),C9 [s2] (l.Own:List aY)]) ?_ hl2 ⟨hA.part ⟨rfl,rfl,rfl,rfl,rfl,trivial⟩,((hS).R7 [0,1] rfl).yX [5,0,1] rfl⟩;clear hA hS hl2;rintro⟨x4,x5⟩ a w q2 ⟨hA,hS⟩ hG2 hr2
    try dsimp only at hA hS
    unfold m4 at hG2;refine b7<|cV hA ?_
    clear hA;refine oy (KG rfl rfl rfl) rfl<|bP fun a hA=>b7<|nO hA rfl (fun hc2=>?_) (fun hc2=>?_)
    ·replace hG2:=R5 hc2 hG2;refine rA<|b7<|nD<|b7<|cV hA ?_
     clear hA;refine om rfl rfl ?_;obtain⟨x6,hx6,hG2⟩:=wF hG2;refine oy (XA (m:=1) (hS.rd 0 rfl) rfl hx6 underlying37 sizeOf203 rfl rfl rfl) rfl ?_;obtain⟨s5,hel,hS⟩:=hS.a4C 0 rfl (mC hx6).2.2;refine oy (W9 rfl rfl isAgg203 sizeOf203 rfl hel) rfl<|QK (R4 (cs:=[(.slice none 0 0)]) hS rfl zeroValue203 rfl) (cA rfl) rfl rfl ?_
     clear hS;rintro _ w ⟨b3,rfl,hS⟩;refine oa rfl rfl<|W8 (aAX (vs:=[s5]) hS (i:=2) rfl rfl rfl rfl rfl sizeOf203 rfl rfl (bAI (aJM (hS.rd 3 rfl)) rfl)) (cA rfl) rfl ?_
     clear hS;intro w hS;refine bP fun a hA=>b7<|b7<|HX (J:=fun a' w'=>∃(x7:Bool),mZ x4 x5 x6 x7=some q2/\mX 61 [(1,.pointer (some ⟨b1,0,none⟩)),(3,.pointer (some ⟨b2,0,none⟩)),(5,.pointer (some ⟨b3,0,none⟩)),(24,s4),(25,.int .i64 (((l.Own++l.Global).length:Int))),(26,.int .i64 (x4)),(41,.bool (x7))] a'/\St (cL w0) w' [HK b1 [s1,s2],HK b2 (List.map (fun q:Bool=>Value.bool q) (x5:List Bool)),HK b3 [s5]] [C9 [s4] (l.Own++l.Global:List aY),C9 [s1] (l.Global:List aY),C9 [s2] (l.Own:List aY),C9 [s5] (x6.aW:List Int)]) ?_ ?_
     ·skip
      refine cV hA ?_;clear hA;refine om rfl rfl<|oy (DB (m:=0) underlying39 rfl rfl sizeOf37 rfl rfl) rfl<|oy (kL rfl rfl isAgg37 (hS.cell 0 rfl rfl)) rfl<|oy (rB (hS.rd 2 rfl) underlying37 rfl rfl) rfl<|oy (KG rfl rfl rfl) rfl<|om rfl rfl<|M8 (s:=36) rfl (fun hc7=>?_) (fun hc7=>?_)
      ·replace hG2:=R5 hc7 hG2;refine gK (DB (m:=0) underlying203 rfl rfl sizeOf25 rfl rfl) (cO rfl rfl rfl (by rw[hc7];rfl)) rfl rfl ?_;refine gK (kL rfl rfl isAgg25 (hS.cell 2 rfl rfl)) (cO rfl rfl rfl (by rw[hc7];rfl)) rfl rfl ?_;refine gK (rB (hS.rd 3 rfl) underlying25 rfl rfl) (cO rfl rfl rfl (by rw[hc7];rfl)) rfl rfl ?_;refine gK (aU8 rfl rfl rfl) (cO rfl rfl rfl (by rw[hc7];rfl)) rfl rfl ?_;refine oy (yW rfl rfl hc7 rfl) rfl<|bP fun a hA=>?_
       exact⟨decide (2<(x6.aW.length:Int)),hG2,hA.part ⟨rfl,rfl,rfl,rfl,rfl,rfl,rfl,trivial⟩,((hS).R7 [0,1,2] rfl).yX [0,1,2,3] rfl⟩
      ·replace hG2:=R6 hc7 hG2;refine gX (cO rfl rfl rfl (by rw[hc7];rfl)) rfl rfl ?_;refine gX (cO rfl rfl rfl (by rw[hc7];rfl)) rfl rfl ?_;refine gX (cO rfl rfl rfl (by rw[hc7];rfl)) rfl rfl ?_;refine gX (cO rfl rfl rfl (by rw[hc7];rfl)) rfl rfl ?_;refine oy (D0 rfl rfl hc7 rfl) rfl<|bP fun a hA=>?_
       exact⟨false,hG2,hA.part ⟨rfl,rfl,rfl,rfl,rfl,rfl,rfl,trivial⟩,((hS).R7 [0,1,2] rfl).yX [0,1,2,3] rfl⟩
     ·skip
      clear hA hS hG2;rintro a w ⟨x7,hG2,hA,hS⟩;unfold mZ at hG2;refine nO hA rfl (fun hc3=>?_) (fun hc3=>?_)
      ·replace hG2:=R5 hc3 hG2;refine b7<|cV hA ?_
       clear hA;refine oa rfl rfl<|bP fun a hA=>DA ?_
       cases hG2;have ho:=hr2 _ rfl;subst ho;replace hF:some false=some r:=hF;cases hF;exact fy results248 hA rfl hS
      ·replace hG2:=R6 hc3 hG2;refine rA<|b7<|cV hA ?_
       clear hA;refine oy (DB (m:=0) underlying203 rfl rfl sizeOf25 rfl rfl) rfl<|oy (kL rfl rfl isAgg25 (hS.cell 2 rfl rfl)) rfl<|oy (rB (hS.rd 3 rfl) underlying25 rfl rfl) rfl<|om rfl rfl<|bP fun a hA=>?_
       obtain⟨o2,hl3,hG2⟩:=wF hG2;refine HX (J:=fun a' w'=>∃(x12:List Bool),o2=Out.brk x12/\mX 61 [(1,.pointer (some ⟨b1,0,none⟩)),(3,.pointer (some ⟨b2,0,none⟩)),(24,s4),(25,.int .i64 (((l.Own++l.Global).length:Int))),(26,.int .i64 (x4))] a'/\St (cL w0) w' [HK b1 [s1,s2],HK b2 (List.map (fun q:Bool=>Value.bool q) (x12:List Bool))] [C9 [s4] (l.Own++l.Global:List aY),C9 [s1] (l.Global:List aY),C9 [s2] (l.Own:List aY)]) ?_ ?_
       ·refine nD ?_;refine O4 (body:=mY x6) (r:=o2) (fun sg a' w'=>mX 61 [(1,.pointer (some ⟨b1,0,none⟩)),(3,.pointer (some ⟨b2,0,none⟩)),(24,s4),(25,.int .i64 (((l.Own++l.Global).length:Int))),(26,.int .i64 (x4)),(43,s5),(44,.int .i64 ((x6.aW.length:Int))),(45,.int .i64 (sg.1))] a'/\St (cL w0) w' [HK b1 [s1,s2],HK b2 (List.map (fun q:Bool=>Value.bool q) (sg.2:List Bool))] [C9 [s4] (l.Own++l.Global:List aY),C9 [s5] (x6.aW:List Int),C9 [s1] (l.Global:List aY),C9 [s2] (l.Own:List aY)]) ?_ hl3 ⟨hA.part ⟨rfl,rfl,rfl,rfl,rfl,rfl,rfl,rfl,trivial⟩,((hS).R7 [0,1] rfl).yX [0,3,1,2] rfl⟩;clear hA hS hl3;rintro⟨x10,x11⟩ a w q4 ⟨hA,hS⟩ hG4 hr4
        try dsimp only at hA hS
        unfold mY at hG4;refine b7<|cV hA ?_
        clear hA;refine oy (KG rfl rfl rfl) rfl<|bP fun a hA=>b7<|nO hA rfl (fun hc4=>?_) (fun hc4=>?_)
        ·replace hG4:=R5 hc4 hG4;refine rA<|b7<|nD<|b7<|cV hA ?_
         clear hA;obtain⟨x13,hx13,hG4⟩:=wF hG4;refine oy (XA (m:=1) (hS.rd 1 rfl) rfl hx13 underlying25 sizeOf3 rfl rfl rfl) rfl<|oy (kL rfl rfl isAgg3 (a1J (bAG (hS.rd 1 rfl) (mC hx13).2.2))) rfl<|oa rfl rfl<|bP fun a hA=>b7<|b7<|HX (J:=fun a' w'=>∃(x14:Bool),pM x10 x11 x13 x14=some q4/\mX 61 [(1,.pointer (some ⟨b1,0,none⟩)),(3,.pointer (some ⟨b2,0,none⟩)),(7,.int .i64 (x13)),(24,s4),(25,.int .i64 (((l.Own++l.Global).length:Int))),(26,.int .i64 (x4)),(43,s5),(44,.int .i64 ((x6.aW.length:Int))),(45,.int .i64 (x10)),(56,.bool (x14))] a'/\St (cL w0) w' [HK b1 [s1,s2],HK b2 (List.map (fun q:Bool=>Value.bool q) (x11:List Bool))] [C9 [s4] (l.Own++l.Global:List aY),C9 [s5] (x6.aW:List Int),C9 [s1] (l.Global:List aY),C9 [s2] (l.Own:List aY)]) ?_ ?_
         ·skip
          refine cV hA ?_;clear hA;refine om rfl rfl ?_;obtain⟨x16,hx16,hG4⟩:=wF hG4;refine aF1 (O7 call242 rfl rfl) (cA rfl) rfl rfl (aNR (slot:=x13) hx16) ?_;rintro _ w ⟨rfl,hk⟩;replace hS:=hS.after hk;clear hk;refine oy (aJE rfl rfl) rfl<|om rfl rfl<|M8 (s:=52) rfl (fun hc6=>?_) (fun hc6=>?_)
          ·replace hG4:=R5 hc6 hG4;refine gX (cO rfl rfl rfl (by rw[hc6];rfl)) rfl rfl ?_;refine gX (cO rfl rfl rfl (by rw[hc6];rfl)) rfl rfl ?_;refine gX (cO rfl rfl rfl (by rw[hc6];rfl)) rfl rfl ?_;refine oy (yW rfl rfl hc6 rfl) rfl<|bP fun a hA=>?_
           exact⟨true,hG4,hA.part ⟨rfl,rfl,rfl,rfl,rfl,rfl,rfl,rfl,rfl,rfl,trivial⟩,((hS).R7 [0,1] rfl).yX [0,1,2,3] rfl⟩
          ·replace hG4:=R6 hc6 hG4;refine gK (pU rfl rfl) (cO rfl rfl rfl (by rw[hc6];rfl)) rfl rfl ?_;obtain⟨hn3,hG4⟩:=kG hG4;refine gK (aIK underlying302 sizeOf4 hn3 rfl rfl rfl) (cO rfl rfl rfl (by rw[hc6];rfl)) rfl rfl ?_;obtain⟨x17,hx17,hG4⟩:=wF hG4;refine gK (kL rfl rfl isAgg4 (hS.aXL 1 rfl hx17)) (cO rfl rfl rfl (by rw[hc6];rfl)) rfl rfl ?_;refine oy (D0 rfl rfl hc6 rfl) rfl<|bP fun a hA=>?_
           exact⟨x17,hG4,hA.part ⟨rfl,rfl,rfl,rfl,rfl,rfl,rfl,rfl,rfl,rfl,trivial⟩,((hS).R7 [0,1] rfl).yX [0,1,2,3] rfl⟩
         ·skip
          clear hA hS hG4;rintro a w ⟨x14,hG4,hA,hS⟩;unfold pM at hG4;refine nO hA rfl (fun hc5=>?_) (fun hc5=>?_)
          ·replace hG4:=R5 hc5 hG4;refine b7<|cV hA ?_
           clear hA;refine oa rfl rfl<|bP fun a hA=>DA ?_
           cases hG4;have ho:=hr4 _ rfl;subst ho;replace hG2:some (.stop (Out.ret false))=some q2:=hG2;cases hG2;have ho:=hr2 _ rfl;subst ho;replace hF:some false=some r:=hF;cases hF;exact fy results248 hA rfl hS
          ·replace hG4:=R6 hc5 hG4;refine rA<|cV hA ?_
           clear hA;refine om rfl rfl ?_;obtain⟨hn2,hG4⟩:=kG hG4;refine oy (aIK underlying302 sizeOf4 hn2 rfl rfl rfl) rfl ?_;obtain⟨x15,hx15,hG4⟩:=wF hG4;refine W8 (a12 (xd:=true) hS (m:=1) rfl hx15 sizeOf4 rfl rfl rfl rfl rfl rfl) (cA rfl) rfl ?_;clear hS;intro w hS;refine bP fun a hA=>cV hA ?_;clear hA;refine oy (QL rfl rfl rfl) rfl<|om rfl rfl<|bP fun a hA=>?_
           cases hG4;exact⟨_,rfl,⟨hA.part ⟨rfl,rfl,rfl,rfl,rfl,rfl,rfl,rfl,trivial⟩,((hS).R7 [0,1] rfl).yX [0,1,2,3] rfl⟩⟩
        ·replace hG4:=R6 hc4 hG4;refine O3<|HV ?_
         cases hG4;have ho:=hr4 _ rfl;subst ho;exact⟨x11,rfl,hA.part ⟨rfl,rfl,rfl,rfl,rfl,trivial⟩,((hS).R7 [0,1] rfl).yX [0,2,3] rfl⟩
       ·skip
        clear hA hS hl3;rintro a w ⟨x12,heq,hA,hS⟩;replace hG2:CE x4 x12=some q2:=by rw[heq] at hG2;exact hG2
        clear heq;unfold CE at hG2;refine cV hA ?_;clear hA;refine oy (QL rfl rfl rfl) rfl<|om rfl rfl<|bP fun a hA=>?_
        cases hG2;exact⟨_,rfl,⟨hA.part ⟨rfl,rfl,rfl,rfl,rfl,trivial⟩,((hS).R7 [0,1] rfl).yX [0,1,2] rfl⟩⟩
    ·replace hG2:=R6 hc2 hG2;refine O3<|HV ?_
     cases hG2;have ho:=hr2 _ rfl;subst ho;exact⟨rfl,hA.part trivial,((hS).R7 [] rfl).yX [] rfl⟩
   ·skip
    clear hA hS hl2;rintro a w ⟨heq,hA,hS⟩;replace hF:KO=some r:=by rw[heq] at hF;exact hF
    clear heq;unfold KO at hF;refine b7<|cV hA ?_
    clear hA;refine oa rfl rfl<|bP fun a hA=>DA ?_
    cases hF;exact fy results248 hA rfl hS
theorem aHF{w0:World}{h:Int}{r:Bool}(hF:fF h=some r) :
    Calls prog 103 #[.int .i64 (h)] w0 (Ret fun v w'=>v=.bool (r)/\St (cL w0) w' [] []):=by
 have hS:St (cL w0) w0 [] []:=St.enter (by
   intro f hf;cases hf)
 refine D1 (args:=[_]) func103 rfl ntmps103 rfl ?_;unfold fF at hF;intro a hA;refine b7<|cV hA ?_
 clear hA;refine oa rfl rfl<|bP fun a hA=>b7<|HX (J:=fun a' w'=>∃(x1:Bool),oG x1=some r/\mX 10 [(2,.bool (x1))] a'/\St (cL w0) w' [] []) ?_ ?_
 ·skip
  refine cV hA ?_;clear hA;refine om rfl rfl ?_;obtain⟨x2,hx2,hF⟩:=wF hF;refine aF1 (O7 call47 rfl rfl) (cA rfl) rfl rfl (Q9 (n:=h) (low:=32) (high:=223) hx2) ?_;rintro _ w ⟨rfl,hk⟩;replace hS:=hS.after hk;clear hk;refine om rfl rfl<|M8 (s:=5) rfl (fun hc1=>?_) (fun hc1=>?_)
  ·replace hF:=R5 hc1 hF;refine gK (pU rfl rfl) (cO rfl rfl rfl (by rw[hc1];rfl)) rfl rfl ?_;refine gK (aEJ rfl rfl rfl (by decide)) (cO rfl rfl rfl (by rw[hc1];rfl)) rfl rfl ?_;refine gK (KG rfl rfl rfl) (cO rfl rfl rfl (by rw[hc1];rfl)) rfl rfl ?_;refine oy (yW rfl rfl hc1 rfl) rfl<|oa rfl rfl<|bP fun a hA=>?_
   exact⟨decide ((Int.tmod h 32)<24),hF,hA.part ⟨rfl,trivial⟩,((hS).R7 [] rfl).yX [] rfl⟩
  ·replace hF:=R6 hc1 hF;refine gX (cO rfl rfl rfl (by rw[hc1];rfl)) rfl rfl ?_;refine gX (cO rfl rfl rfl (by rw[hc1];rfl)) rfl rfl ?_;refine gX (cO rfl rfl rfl (by rw[hc1];rfl)) rfl rfl ?_;refine oy (D0 rfl rfl hc1 rfl) rfl<|oa rfl rfl<|bP fun a hA=>?_
   exact⟨false,hF,hA.part ⟨rfl,trivial⟩,((hS).R7 [] rfl).yX [] rfl⟩
 ·skip
  clear hA hS hF;rintro a w ⟨x1,hF,hA,hS⟩;unfold oG at hF;refine DA ?_;cases hF;exact fy results103 hA rfl hS
theorem aE8{w0:World}{l:List bM}{s1:Value}{r:Int}(h1:aJ.rd (R1 w0) w0 [s1] (l:List bM))(hF:xL l=some r) :
    Calls prog 298 #[s1] w0 (Ret fun v w'=>v=.int .i64 (r)/\St (cL w0) w' [] []):=by
 have hS:St (cL w0) w0 [] [C9 [s1] (l:List bM)]:=St.enter (by
   intro f hf;simp only[mA,VI,or_false] at hf;subst hf;exact h1)
 refine D1 (args:=[_]) func298 rfl ntmps298 rfl ?_;unfold xL at hF;intro a hA;refine b7<|cV hA ?_
 clear hA;refine oa rfl rfl<|bP fun a hA=>b7<|cV hA ?_
 clear hA;refine oa rfl rfl<|bP fun a hA=>b7<|b7<|cV hA ?_
 clear hA;refine om rfl rfl<|oy (rB (hS.rd 0 rfl) underlying45 rfl rfl) rfl<|om rfl rfl<|bP fun a hA=>?_
 obtain⟨o1,hl1,hF⟩:=wF hF;refine HX (J:=fun a' w'=>∃(x5:Int),o1=x5/\mX 19 [(3,.int .i64 (x5))] a'/\St (cL w0) w' [] []) ?_ ?_
 ·refine nD ?_;refine O4 (body:=kP l) (r:=o1) (fun sg a' w'=>mX 19 [(3,.int .i64 (sg.1)),(6,s1),(7,.int .i64 ((l.length:Int))),(8,.int .i64 (sg.2))] a'/\St (cL w0) w' [] [C9 [s1] (l:List bM)]) ?_ hl1 ⟨hA.part ⟨rfl,rfl,rfl,rfl,trivial⟩,((hS).R7 [] rfl).yX [0] rfl⟩;clear hA hS hl1;rintro⟨x3,x4⟩ a w q1 ⟨hA,hS⟩ hG1 hr1
  try dsimp only at hA hS
  unfold kP at hG1;refine b7<|cV hA ?_
  clear hA;refine oy (KG rfl rfl rfl) rfl<|bP fun a hA=>b7<|nO hA rfl (fun hc1=>?_) (fun hc1=>?_)
  ·replace hG1:=R5 hc1 hG1;refine rA<|b7<|nD<|b7<|cV hA ?_
   clear hA;obtain⟨x6,hx6,hG1⟩:=wF hG1;refine oy (XA (m:=1) (hS.rd 0 rfl) rfl hx6 underlying45 sizeOf206 rfl rfl rfl) rfl ?_;obtain⟨s2,hel,hS⟩:=hS.aTL 0 rfl (mC hx6).2.2;refine oy (W9 rfl rfl isAgg206 sizeOf206 rfl hel) rfl<|QK (R4 (cs:=[(.slice none 0 0)]) hS rfl zeroValue206 rfl) (cA rfl) rfl rfl ?_
   clear hS;rintro _ w ⟨b1,rfl,hS⟩;refine W8 (aAX (vs:=[s2]) hS (i:=0) rfl rfl rfl rfl rfl sizeOf206 rfl rfl (bAI (aJM (hS.rd 1 rfl)) rfl)) (cA rfl) rfl ?_;clear hS;intro w hS;refine bP fun a hA=>cV hA ?_;clear hA;refine om rfl rfl<|oy (DB (m:=0) underlying206 rfl rfl sizeOf130 rfl rfl) rfl<|oy (kL rfl rfl isAgg130 (hS.cell 0 rfl rfl)) rfl<|oy (rB (hS.rd 1 rfl) underlying130 rfl rfl) rfl<|oy (QL rfl rfl rfl) rfl<|oa rfl rfl<|bP fun a hA=>cV hA ?_
   clear hA;refine oy (QL rfl rfl rfl) rfl<|om rfl rfl<|bP fun a hA=>?_
   cases hG1;exact⟨_,rfl,⟨hA.part ⟨rfl,rfl,rfl,rfl,trivial⟩,((hS).R7 [] rfl).yX [0] rfl⟩⟩
  ·replace hG1:=R6 hc1 hG1;refine O3<|HV ?_
   cases hG1;have ho:=hr1 _ rfl;subst ho;exact⟨x3,rfl,hA.part ⟨rfl,trivial⟩,((hS).R7 [] rfl).yX [] rfl⟩
 ·skip
  clear hA hS hl1;rintro a w ⟨x5,heq,hA,hS⟩;replace hF:FG x5=some r:=by rw[heq] at hF;exact hF
  clear heq;unfold FG at hF;refine b7<|cV hA ?_
  clear hA;refine om rfl rfl<|oa rfl rfl<|bP fun a hA=>DA ?_
  cases hF;exact fy results298 hA rfl hS
theorem aKR{w0:World}{l:List bM}{s1:Value}{r:Bool}(h1:aJ.rd (R1 w0) w0 [s1] (l:List bM))(hF:qA l=some r) :
    Calls prog 270 #[s1] w0 (Ret fun v w'=>v=.bool (r)/\St (cL w0) w' [] []):=by
 have hS:St (cL w0) w0 [] [C9 [s1] (l:List bM)]:=St.enter (by
   intro f hf;simp only[mA,VI,or_false] at hf;subst hf;exact h1)
 refine D1 (args:=[_]) func270 rfl ntmps270 rfl ?_;unfold qA at hF;intro a hA;refine b7<|cV hA ?_
 clear hA;refine oa rfl rfl<|bP fun a hA=>b7<|b7<|cV hA ?_
 clear hA;refine om rfl rfl<|oy (rB (hS.rd 0 rfl) underlying45 rfl rfl) rfl<|oy (aP4 rfl rfl rfl) rfl<|bP fun a hA=>nO hA rfl (fun hc1=>?_) (fun hc1=>?_)
 ·replace hF:=R5 hc1 hF;refine b7<|cV hA ?_
  clear hA;refine oa rfl rfl<|bP fun a hA=>DA ?_
  cases hF;exact fy results270 hA rfl hS
 ·replace hF:=R6 hc1 hF;refine rA<|b7<|cV hA ?_
  clear hA;refine oy (aEL (cells:=(Array.replicate 24 (.bool false))) rfl zeroValue302 underlying302 sizeOf4 rfl rfl) rfl<|QK (R4 (cs:=List.map (fun q:Bool=>Value.bool q) (List.replicate 24 false)) hS rfl zeroValue302 rfl) (cA rfl) rfl rfl ?_
  clear hS;rintro _ w ⟨b1,rfl,hS⟩;refine W8 (aAX (vs:=(List.replicate 24 (.bool false))) hS (i:=0) rfl rfl rfl rfl rfl sizeOf302 rfl rfl rfl) (cA rfl) rfl ?_;clear hS;intro w hS;refine bP fun a hA=>b7<|b7<|cV hA ?_
  clear hA;refine om rfl rfl<|oy (rB (hS.rd 0 rfl) underlying45 rfl rfl) rfl<|om rfl rfl<|bP fun a hA=>?_
  obtain⟨o1,hl1,hF⟩:=wF hF;refine HX (J:=fun a' w'=>o1=Out.brk ()/\mX 51 [(0,s1)] a'/\St (cL w0) w' [] [C9 [s1] (l:List bM)]) ?_ ?_
  ·refine nD ?_;refine O4 (body:=m6 l) (r:=o1) (fun sg a' w'=>mX 51 [(0,s1),(3,.pointer (some ⟨b1,0,none⟩)),(12,s1),(13,.int .i64 ((l.length:Int))),(14,.int .i64 (sg.1))] a'/\St (cL w0) w' [HK b1 (List.map (fun q:Bool=>Value.bool q) (sg.2:List Bool))] [C9 [s1] (l:List bM)]) ?_ hl1 ⟨hA.part ⟨rfl,rfl,rfl,rfl,rfl,trivial⟩,((hS).R7 [0] rfl).yX [0] rfl⟩;clear hA hS hl1;rintro⟨x3,x4⟩ a w q1 ⟨hA,hS⟩ hG1 hr1
   try dsimp only at hA hS
   unfold m6 at hG1;refine b7<|cV hA ?_
   clear hA;refine oy (KG rfl rfl rfl) rfl<|bP fun a hA=>b7<|nO hA rfl (fun hc2=>?_) (fun hc2=>?_)
   ·replace hG1:=R5 hc2 hG1;refine rA<|b7<|nD<|b7<|cV hA ?_
    clear hA;obtain⟨x6,hx6,hG1⟩:=wF hG1;refine oy (XA (m:=1) (hS.rd 0 rfl) rfl hx6 underlying45 sizeOf206 rfl rfl rfl) rfl ?_;obtain⟨s2,hel,hS⟩:=hS.aTL 0 rfl (mC hx6).2.2;refine oy (W9 rfl rfl isAgg206 sizeOf206 rfl hel) rfl<|QK (R4 (cs:=[(.slice none 0 0)]) hS rfl zeroValue206 rfl) (cA rfl) rfl rfl ?_
    clear hS;rintro _ w ⟨b2,rfl,hS⟩;refine W8 (aAX (vs:=[s2]) hS (i:=1) rfl rfl rfl rfl rfl sizeOf206 rfl rfl (bAI (aJM (hS.rd 1 rfl)) rfl)) (cA rfl) rfl ?_;clear hS;intro w hS;refine bP fun a hA=>b7<|cV hA ?_
    clear hA;refine oy (DB (m:=0) underlying206 rfl rfl sizeOf130 rfl rfl) rfl<|oy (kL rfl rfl isAgg130 (hS.cell 1 rfl rfl)) rfl<|oy (rB (hS.rd 1 rfl) underlying130 rfl rfl) rfl<|om rfl rfl<|bP fun a hA=>?_
    obtain⟨o2,hl2,hG1⟩:=wF hG1;refine HX (J:=fun a' w'=>∃(x11:List Bool),o2=Out.brk x11/\mX 51 [(0,s1),(3,.pointer (some ⟨b1,0,none⟩)),(12,s1),(13,.int .i64 ((l.length:Int))),(14,.int .i64 (x3))] a'/\St (cL w0) w' [HK b1 (List.map (fun q:Bool=>Value.bool q) (x11:List Bool))] [C9 [s1] (l:List bM)]) ?_ ?_
    ·refine nD ?_;refine O4 (body:=m5 x6) (r:=o2) (fun sg a' w'=>mX 51 [(0,s1),(3,.pointer (some ⟨b1,0,none⟩)),(12,s1),(13,.int .i64 ((l.length:Int))),(14,.int .i64 (x3)),(19,s2),(20,.int .i64 ((x6.Rows.length:Int))),(21,.int .i64 (sg.1))] a'/\St (cL w0) w' [HK b1 (List.map (fun q:Bool=>Value.bool q) (sg.2:List Bool))] [C9 [s1] (l:List bM),C9 [s2] (x6.Rows:List eJ)]) ?_ hl2 ⟨hA.part ⟨rfl,rfl,rfl,rfl,rfl,rfl,rfl,rfl,trivial⟩,((hS).R7 [0] rfl).yX [0,1] rfl⟩;clear hA hS hl2;rintro⟨x9,x10⟩ a w q2 ⟨hA,hS⟩ hG2 hr2
     try dsimp only at hA hS
     unfold m5 at hG2;refine b7<|cV hA ?_
     clear hA;refine oy (KG rfl rfl rfl) rfl<|bP fun a hA=>b7<|nO hA rfl (fun hc3=>?_) (fun hc3=>?_)
     ·replace hG2:=R5 hc3 hG2;refine rA<|b7<|nD<|b7<|cV hA ?_
      clear hA;obtain⟨x12,hx12,hG2⟩:=wF hG2;refine oy (XA (m:=2) (hS.rd 1 rfl) rfl hx12 underlying130 sizeOf134 rfl rfl rfl) rfl<|oy (W9 rfl rfl isAgg134 sizeOf134 rfl (a75 (hS.rd 1 rfl) (mC hx12).2.2)) rfl<|QK (R4 (cs:=[.int .i64 (0),.int .i64 (0)]) hS rfl zeroValue134 rfl) (cA rfl) rfl rfl ?_
      clear hS;rintro _ w ⟨b3,rfl,hS⟩;refine W8 (aAX (vs:=[.int .i64 (x12.Handle),.int .i64 (x12.aQ)]) hS (i:=1) rfl rfl rfl rfl rfl sizeOf134 rfl rfl rfl) (cA rfl) rfl ?_;clear hS;intro w hS;refine bP fun a hA=>b7<|b7<|HX (J:=fun a' w'=>∃(x13:Bool),kZ x9 x10 x12 x13=some q2/\mX 51 [(0,s1),(3,.pointer (some ⟨b1,0,none⟩)),(7,.pointer (some ⟨b3,0,none⟩)),(12,s1),(13,.int .i64 ((l.length:Int))),(14,.int .i64 (x3)),(19,s2),(20,.int .i64 ((x6.Rows.length:Int))),(21,.int .i64 (x9)),(41,.bool (x13))] a'/\St (cL w0) w' [HK b1 (List.map (fun q:Bool=>Value.bool q) (x10:List Bool)),HK b3 [.int .i64 (x12.Handle),.int .i64 (x12.aQ)]] [C9 [s1] (l:List bM),C9 [s2] (x6.Rows:List eJ)]) ?_ ?_
      ·skip
       refine cV hA ?_;clear hA;refine oy (DB (m:=0) underlying134 rfl rfl sizeOf3 rfl rfl) rfl<|oy (kL rfl rfl isAgg3 (hS.cell 1 rfl rfl)) rfl ?_
       obtain⟨x15,hx15,hG2⟩:=wF hG2;refine aF1 (O7 call103 rfl rfl) (cA rfl) rfl rfl (aHF (h:=x12.Handle) hx15) ?_;rintro _ w ⟨rfl,hk⟩;replace hS:=hS.after hk;clear hk;refine oy (aJE rfl rfl) rfl<|om rfl rfl<|M8 (s:=29) rfl (fun hc5=>?_) (fun hc5=>?_)
       ·replace hG2:=R5 hc5 hG2;refine gX (cO rfl rfl rfl (by rw[hc5];rfl)) rfl rfl ?_;refine gX (cO rfl rfl rfl (by rw[hc5];rfl)) rfl rfl ?_;refine gX (cO rfl rfl rfl (by rw[hc5];rfl)) rfl rfl ?_;refine gX (cO rfl rfl rfl (by rw[hc5];rfl)) rfl rfl ?_;refine oy (yW rfl rfl hc5 rfl) rfl<|om rfl rfl<|gX (cO rfl rfl rfl rfl) rfl rfl<|gX (cO rfl rfl rfl rfl) rfl rfl<|gX (cO rfl rfl rfl rfl) rfl rfl<|gX (cO rfl rfl rfl rfl) rfl rfl<|gX (cO rfl rfl rfl rfl) rfl rfl<|oy (yW rfl rfl rfl rfl) rfl<|bP fun a hA=>?_
        exact⟨true,hG2,hA.part ⟨rfl,rfl,rfl,rfl,rfl,rfl,rfl,rfl,rfl,rfl,trivial⟩,((hS).R7 [0,1] rfl).yX [0,1] rfl⟩
       ·replace hG2:=R6 hc5 hG2;refine gK (DB (m:=0) underlying134 rfl rfl sizeOf3 rfl rfl) (cO rfl rfl rfl (by rw[hc5];rfl)) rfl rfl ?_;refine gK (kL rfl rfl isAgg3 (hS.cell 1 rfl rfl)) (cO rfl rfl rfl (by rw[hc5];rfl)) rfl rfl ?_;obtain⟨x16,hx16,hG2⟩:=wF hG2;refine aF1 (O7 call47 rfl rfl) (cO rfl rfl rfl (by rw[hc5];rfl)) rfl rfl (Q9 (n:=x12.aQ) (low:=0) (high:=100000) hx16) ?_;rintro _ w ⟨rfl,hk⟩;replace hS:=hS.after hk;clear hk;refine gK (aJE rfl rfl) (cO rfl rfl rfl (by rw[hc5];rfl)) rfl rfl ?_;refine oy (D0 rfl rfl hc5 rfl) rfl<|om rfl rfl<|M8 (s:=35) rfl (fun hc6=>?_) (fun hc6=>?_)
        ·replace hG2:=R5 hc6 hG2;refine gX (cO rfl rfl rfl (by rw[hc6];rfl)) rfl rfl ?_;refine gX (cO rfl rfl rfl (by rw[hc6];rfl)) rfl rfl ?_;refine gX (cO rfl rfl rfl (by rw[hc6];rfl)) rfl rfl ?_;refine gX (cO rfl rfl rfl (by rw[hc6];rfl)) rfl rfl ?_;refine gX (cO rfl rfl rfl (by rw[hc6];rfl)) rfl rfl ?_;refine oy (yW rfl rfl hc6 rfl) rfl<|bP fun a hA=>?_
         exact⟨true,hG2,hA.part ⟨rfl,rfl,rfl,rfl,rfl,rfl,rfl,rfl,rfl,rfl,trivial⟩,((hS).R7 [0,1] rfl).yX [0,1] rfl⟩
        ·replace hG2:=R6 hc6 hG2;refine gK (DB (m:=0) underlying134 rfl rfl sizeOf3 rfl rfl) (cO rfl rfl rfl (by rw[hc6];rfl)) rfl rfl ?_;refine gK (kL rfl rfl isAgg3 (hS.cell 1 rfl rfl)) (cO rfl rfl rfl (by rw[hc6];rfl)) rfl rfl ?_;refine gK (aEJ rfl rfl rfl (by decide)) (cO rfl rfl rfl (by rw[hc6];rfl)) rfl rfl ?_;obtain⟨hn2,hG2⟩:=kG hG2;refine gK (aIK underlying302 sizeOf4 hn2 rfl rfl rfl) (cO rfl rfl rfl (by rw[hc6];rfl)) rfl rfl ?_;obtain⟨x17,hx17,hG2⟩:=wF hG2;refine gK (kL rfl rfl isAgg4 (hS.aXL 0 rfl hx17)) (cO rfl rfl rfl (by rw[hc6];rfl)) rfl rfl ?_;refine oy (D0 rfl rfl hc6 rfl) rfl<|bP fun a hA=>?_
         exact⟨x17,hG2,hA.part ⟨rfl,rfl,rfl,rfl,rfl,rfl,rfl,rfl,rfl,rfl,trivial⟩,((hS).R7 [0,1] rfl).yX [0,1] rfl⟩
      ·skip
       clear hA hS hG2;rintro a w ⟨x13,hG2,hA,hS⟩;unfold kZ at hG2;refine nO hA rfl (fun hc4=>?_) (fun hc4=>?_)
       ·replace hG2:=R5 hc4 hG2;refine b7<|cV hA ?_
        clear hA;refine oa rfl rfl<|bP fun a hA=>DA ?_
        cases hG2;have ho:=hr2 _ rfl;subst ho;replace hG1:some (.stop (Out.ret false))=some q1:=hG1;cases hG1;have ho:=hr1 _ rfl;subst ho;replace hF:some false=some r:=hF;cases hF;exact fy results270 hA rfl hS
       ·replace hG2:=R6 hc4 hG2;refine rA<|cV hA ?_
        clear hA;refine oy (DB (m:=0) underlying134 rfl rfl sizeOf3 rfl rfl) rfl<|oy (kL rfl rfl isAgg3 (hS.cell 1 rfl rfl)) rfl<|oy (aEJ rfl rfl rfl (by decide)) rfl ?_
        obtain⟨hn1,hG2⟩:=kG hG2;refine oy (aIK underlying302 sizeOf4 hn1 rfl rfl rfl) rfl ?_;obtain⟨x14,hx14,hG2⟩:=wF hG2;refine W8 (a12 (xd:=true) hS (m:=0) rfl hx14 sizeOf4 rfl rfl rfl rfl rfl rfl) (cA rfl) rfl ?_;clear hS;intro w hS;refine bP fun a hA=>cV hA ?_;clear hA;refine oy (QL rfl rfl rfl) rfl<|om rfl rfl<|bP fun a hA=>?_
        cases hG2;exact⟨_,rfl,⟨hA.part ⟨rfl,rfl,rfl,rfl,rfl,rfl,rfl,rfl,trivial⟩,((hS).R7 [0] rfl).yX [0,1] rfl⟩⟩
     ·replace hG2:=R6 hc3 hG2;refine O3<|HV ?_
      cases hG2;have ho:=hr2 _ rfl;subst ho;exact⟨x10,rfl,hA.part ⟨rfl,rfl,rfl,rfl,rfl,trivial⟩,((hS).R7 [0] rfl).yX [0] rfl⟩
    ·skip
     clear hA hS hl2;rintro a w ⟨x11,heq,hA,hS⟩;replace hG1:CK x3 x11=some q1:=by rw[heq] at hG1;exact hG1
     clear heq;unfold CK at hG1;refine cV hA ?_;clear hA;refine oy (QL rfl rfl rfl) rfl<|om rfl rfl<|bP fun a hA=>?_
     cases hG1;exact⟨_,rfl,⟨hA.part ⟨rfl,rfl,rfl,rfl,rfl,trivial⟩,((hS).R7 [0] rfl).yX [0] rfl⟩⟩
   ·replace hG1:=R6 hc2 hG1;refine O3<|HV ?_
    cases hG1;have ho:=hr1 _ rfl;subst ho;exact⟨rfl,hA.part ⟨rfl,trivial⟩,((hS).R7 [] rfl).yX [0] rfl⟩
  ·skip
   clear hA hS hl1;rintro a w ⟨heq,hA,hS⟩;replace hF:CJ l=some r:=by rw[heq] at hF;exact hF
   clear heq;unfold CJ at hF;refine b7<|cV hA ?_
   clear hA;refine om rfl rfl ?_;obtain⟨x5,hx5,hF⟩:=wF hF;refine aF1 (O7 call298 rfl rfl) (cA rfl) rfl rfl (aE8 (l:=l) (hS.rd 0 rfl) hx5) ?_;rintro _ w ⟨rfl,hk⟩;replace hS:=hS.after hk;clear hk;refine oy (aU7 rfl rfl rfl) rfl<|oa rfl rfl<|bP fun a hA=>DA ?_
   cases hF;exact fy results270 hA rfl hS
noncomputable section
open Go.RowKit Go.Shelf Go.Lib Go.Gv
set_option maxRecDepth 100000
set_option maxHeartbeats 4000000
theorem aTM(b off n c i vb:Nat)(cs vs:List Value)(w:World)(hi:i<n)(hroom:n+1<=c)(hc63:c<=9223372036854775807)(hvb:vb≠b)(hcl:cs.length=n*3)(hvl:vs.length=3)
  (hcs:bG w b off cs) (hsp:∀j,j<c*3->(w.cell? ⟨b,off+j,none⟩).isSome=true) (hfz:∀j,j<c*3->w.frozen? ⟨b,off+j,none⟩=false)
  (hvs:bG w vb 0 vs) (h1c:∀v∈cs,v.oneCell'=true) (h1v:∀v∈vs,v.oneCell'=true)
  (tA tB:TypeId) (kA kB:Nat) (hsa:w.shape? vb=some (tA,kA)) (hsb:w.shape? b=some (tB,kB)) (hkB:kB≠0) (hfa:w.frozen? ⟨vb,0,none⟩=false) (hfe:w.frozen? ⟨vb,kA,none⟩=false) :
  Calls prog 241 #[.slice (some ⟨b,off,none⟩) n c,.int .i64 i,.slice (some ⟨vb,0,none⟩) 1 1] w fun e w'=>
   e=.returned (.slice (some ⟨b,off,none⟩) (n+1) c)/\w'=(w.drew.setCells b (off+(i+1)*3) (cs.drop (i*3))).setCells b (off+i*3) vs:=by
 have u0:=run_underlying underlying123;have hz2:¬((i:Int)=(n:Int)):=by omega
 have hsz:(prog.info? 172).map (·.size)=some 3:=by kernel_rfl
 have hov:∀lb cb,(callFunc 275 #[.slice (some ⟨vb,0,none⟩) 1 1,.slice (some ⟨b,off+(i+1)*3,none⟩) lb cb]).run prog w=.ok (.value (.bool false)) w:=fun lb cb=>by
  rw[run_callFunc_extern func275 (by kernel_rfl) (by kernel_rfl) (by kernel_rfl) (e:=Extern.SlicesOverlaps.overlaps #[123,123] #[4]) (by kernel_rfl),
   Lib.run_overlaps_apart w 123 4 172 underlying123 3 sizeOf172 ⟨vb,0,none⟩ ⟨b,off+(i+1)*3,none⟩ 1 1 lb cb hvb tA tB kA kB hsa hsb hkB hfa hfe]
  rfl
 have hdl:(cs.drop (i*3)).length=(n - i)*3:=by rw[aBZ,hcl];omega
 have mixed:=aC;have hw1:IntKind.i64.wrap ((i:Int)+1)=(i:Int)+1:=by rw[IntKind.wrap_i64];omega
 have hw2:IntKind.i64.wrap ((n:Int)+1)=(n:Int)+1:=by rw[IntKind.wrap_i64];omega
 have hb1:(0:Int)<=(i:Int)+1:=by omega
 have hin:i<=n:=by omega
 have htn:((i:Int)+1).toNat=i+1:=by omega
 have htm:((n:Int)+1).toNat=n+1:=by omega
 have hb2:¬(c=i+1):=by omega
 have hb3:(i:Int)<=(n:Int)+1:=by omega
 have hb4:¬(c=i):=by omega
 have hcp1:∀ty dc sc,(Builtin.copy_ #[123,123] ty #[.slice (some ⟨b,off+(i+1)*3,none⟩) (n - i) dc,.slice (some ⟨b,off+i*3,none⟩) (n+1 - i) sc]).run prog w.drew=.ok (goInt (n - i:Nat)) (w.drew.setCells b (off+(i+1)*3) (cs.drop (i*3))):=fun ty dc sc=>
  UC w.drew _ _ ty 172 3 b (off+(i+1)*3) (n - i) dc ⟨b,off+i*3,none⟩ (n+1 - i) sc (n - i) (cs.drop (i*3)) underlying123 hsz (by simp only[Nat.min_def];split<;>omega) hdl
   (fun j v hj=>by rw[Addr.add_lit,W7];exact hcs (i*3+j) v (by rwa [List.getElem?_drop] at hj))
   (fun j hj=>by rw[W7];exact hsp _ (by omega)) (fun j hj=>by rw[W7];exact hfz _ (by omega)) (fun v hv=>h1c v (aB0 hv))
 obtain⟨W1,hW1⟩:∃W1,W1=w.drew.setCells b (off+(i+1)*3) (cs.drop (i*3)):=⟨_,rfl⟩;have hsp1:∀k,k<c*3->(W1.cell? ⟨b,off+k,none⟩).isSome=true:=fun k hk=>by rw[hW1];exact isSome_setCells b _ _ _ (fun j hj=>by rw[W7];exact hsp _ (by omega)) _ (hsp k hk)
 have hcp2:∀(W:World),(∀x,W.cell? x=W1.cell? x)->(∀x,W.frozen? x=W1.frozen? x)->∀ty dc,(Builtin.copy_ #[123,123] ty #[.slice (some ⟨b,off+i*3,none⟩) (n+1 - i) dc,.slice (some ⟨vb,0,none⟩) 1 1]).run prog W=.ok (goInt 1) (W.setCells b (off+i*3) vs):=fun W hWc hWf ty dc=>
  UC W _ _ ty 172 3 b (off+i*3) (n+1 - i) dc ⟨vb,0,none⟩ 1 1 1 vs underlying123 hsz (by simp only[Nat.min_def];split<;>omega) (by rw[hvl])
   (fun j v hj=>by
    rw[Addr.add_lit,hWc,hW1,World.cell?_setCells_out b _ _ _ _ (fun h _=>absurd h hvb)];exact hvs j v hj)
   (fun j hj=>by rw[hWc,W7];exact hsp1 _ (by omega)) (fun j hj=>by rw[hWf,hW1,World.frozen?_setCells,W7];exact hfz _ (by omega)) h1v
 rw[<-hW1] at hcp1
 go_enter func241,ntmps241
 go_wp2_with (simp only[hov])
 go_region_law_o (refine step_copy_runI rfl _ _ 123 123 rfl _ _ (by simp[Act.eval,Act.put]) (by simp[Act.eval,Act.put]) (hcp1 _ _ _) ?_)
 go_wp2_with (at_builtin;refine wpList_copy_runI _ rfl _ _ 123 123 rfl _ _ rfl rfl (hcp2 _ (fun _=>rfl) (fun _=>rfl) _ _) ?_)
 go_ret
 first | exact⟨rfl,rfl⟩ | exact⟨rfl,by rw[hW1]⟩
end
noncomputable section
open Go.RowKit Go.Shelf Go.Lib Go.Gv
set_option maxRecDepth 100000
set_option maxHeartbeats 4000000
theorem aV4(b off n c vb:Nat)(vs:List Value)(w:World)(hroom:n+1<=c)(hc63:c<=9223372036854775807)(hvl:vs.length=3)
  (hsp:∀j,j<c*3->(w.cell? ⟨b,off+j,none⟩).isSome=true) (hfz:∀j,j<c*3->w.frozen? ⟨b,off+j,none⟩=false) (hvs:bG w vb 0 vs) (h1v:∀v∈vs,v.oneCell'=true) :
  Calls prog 241 #[.slice (some ⟨b,off,none⟩) n c,.int .i64 n,.slice (some ⟨vb,0,none⟩) 1 1] w fun e w'=>
   e=.returned (.slice (some ⟨b,off,none⟩) (n+1) c)/\w'=w.setCells b (off+n*3) vs:=by
 have u0:=run_underlying underlying123;have mixed:=aC;obtain⟨i0,hi0,hz0,hzs,hzb⟩:=yO;have hsrc:Src prog i0.size 123 (.slice (some ⟨vb,0,none⟩) 1 1) 1 vs w:=by rw[hzs];exact Src.ofSlice w underlying123 ⟨vb,0,none⟩ 1 1 vs (by omega) (fun j u hj=>by rw[Addr.add_lit];exact hvs j u hj) h1v
 have hrun:=run_append_room_src w 123 123 123 172 i0 underlying123 hi0 b off n c (.slice (some ⟨vb,0,none⟩) 1 1) 1 vs hsrc hroom (by rw[hzs,hvl];exact fun j hj=>by rw[W7];exact hsp _ (by omega)) (by rw[hzs,hvl];exact fun j hj=>by rw[W7];exact hfz _ (by omega));rw[hzs] at hrun
 go_enter func241,ntmps241
 go_wp2_with (at_builtin;refine Lib.wpList_append_run _ rfl _ _ _ _ rfl _ _ rfl rfl _ _ hrun ?_)
 go_ret
 exact⟨rfl,rfl⟩
theorem aZW(base:Option Addr)(n c vb:Nat)(cs vs:List Value)(w:World)(hnc:n<=c)(hroom:c<n+1)(hbig:n+1<=1073741824)(hcl:cs.length=n*3)(hvl:vs.length=3)(hnil:base=none->n=0)
  (hcs:∀a,base=some a->∀j v,cs[j]?=some v->w.cell? (a.add j)=some v) (hvs:bG w vb 0 vs) (h1v:∀v∈vs,v.oneCell'=true) :
  Calls prog 241 #[.slice base n c,.int .i64 n,.slice (some ⟨vb,0,none⟩) 1 1] w fun e w'=>
   e=.returned (.slice (some ⟨w.heap.size,0,none⟩) (n+1) (grownCap w (n+1) c 172)) /\
   w'=w.drew.alloc (.cells ((cs++vs).toArray++Builtin.zeroCells (.agg #[.int .i64 0,.bool false,.int .i64 0]:Value).cells (grownCap w (n+1) c 172 - (n+1))) 172):=by
 have u0:=run_underlying underlying123;have mixed:=aC;obtain⟨i0,hi0,hz0,hzs,hzb⟩:=yO;have hsrc:Src prog i0.size 123 (.slice (some ⟨vb,0,none⟩) 1 1) 1 vs w:=by rw[hzs];exact Src.ofSlice w underlying123 ⟨vb,0,none⟩ 1 1 vs (by omega) (fun j u hj=>by rw[Addr.add_lit];exact hvs j u hj) h1v
 have hold:(Builtin.firstCells i0.size n (.slice base n c)).run prog w.drew=.ok cs.toArray w.drew:=by
  rw[hzs];cases base with
  | none =>
   have h0:=hnil rfl;subst h0;rw[List.length_eq_zero_iff.1 (by omega:cs.length=0)];exact run_firstCells_none w.drew 3 0 0 c
  | some a=>exact run_firstCells_some w.drew 3 n a n c cs hcl (fun j v hj=>hcs a rfl j v hj)
 have hfit:Builtin.nextslicecap (n+1) c*i0.bytes<=281474976710656:=growslice_fits hroom (tG (Nat.mul_le_mul hbig hzb) (by decide));have hrun:=run_append_grow_src w 123 123 123 172 i0 _ underlying123 hi0 hz0 base n c cs hold _ 1 vs hsrc hroom (by omega) hfit
 go_enter func241,ntmps241
 cases base with
 | none =>
  have h0:=hnil rfl;subst h0
  go_wp2_with (at_builtin;refine Lib.wpList_append_run _ rfl _ _ _ _ rfl _ _ rfl rfl _ _ hrun ?_)
  go_ret
  exact⟨rfl,rfl⟩
 | some a =>
  obtain⟨ab,ao,asp⟩:=a
  go_wp2_with (at_builtin;refine Lib.wpList_append_run _ rfl _ _ _ _ rfl _ _ rfl rfl _ _ hrun ?_)
  all_goals (go_ret;exact⟨rfl,rfl⟩)
theorem aV5(b off n c i vb:Nat)(cs vs:List Value)(w:World)(hi:i<n)(hnc:n<=c)(hroom:c<n+1)(hbig:n+1<=1073741824)(hcl:cs.length=n*3)(hvl:vs.length=3)
  (hcs:bG w b off cs) (hvs:bG w vb 0 vs) (h1c:∀v∈cs,v.oneCell'=true) (h1v:∀v∈vs,v.oneCell'=true) :
  Calls prog 241 #[.slice (some ⟨b,off,none⟩) n c,.int .i64 i,.slice (some ⟨vb,0,none⟩) 1 1] w fun e w'=>
   e=.returned (.slice (some ⟨w.heap.size,0,none⟩) (n+1) (grownCap w (n+1) c 172)) /\
   w'=(((w.alloc (.cells ((cs.take (i*3)).toArray++Builtin.zeroCells (.agg #[.int .i64 0,.bool false,.int .i64 0]:Value).cells (n+1 - i)++Builtin.zeroCells (.agg #[.int .i64 0,.bool false,.int .i64 0]:Value).cells (grownCap w (n+1) c 172 - (n+1))) 172)).drew.setCells w.heap.size (i*3) vs).drew).setCells w.heap.size ((i+1)*3) (cs.drop (i*3)):=by
 have u0:=run_underlying underlying123;have u3:=run_underlying underlying3;have mixed:=aC;obtain⟨i0,hi0,hz0,hzs,hzb⟩:=yO;have hz2:¬((i:Int)=(n:Int)):=by omega
 have hz3:(c:Int)<(n:Int)+1:=by omega
 have hsz:(prog.info? 172).map (·.size)=some 3:=by rw[hi0];simp[hzs]
 have hbw:b<w.heap.size:=block_lt_of_cell (hcs 0 _ (l9 (by omega)));have hvw:vb<w.heap.size:=block_lt_of_cell (hvs 0 _ (l9 (by omega)));have hkk:(n:Int)+1 - (i:Int)=((n+1 - i:Nat):Int):=by omega
 have hik:i+(n+1 - i)=n+1:=by omega
 have htl:(cs.take (i*3)).length=i*3:=by rw[ZZ];omega
 have hold:(Builtin.firstCells i0.size i (.slice (some ⟨b,off,none⟩) i c)).run prog w.drew=.ok (cs.take (i*3)).toArray w.drew:=by
  rw[hzs];exact run_firstCells_some w.drew 3 i ⟨b,off,none⟩ i c (cs.take (i*3)) htl (fun j v hj=>by
   rw[Addr.add_lit];rw[aFZ] at hj;split at hj
   ·exact hcs j v hj
   ·cases hj)
 have hfit:Builtin.nextslicecap (n+1) c*i0.bytes<=281474976710656:=growslice_fits hroom (tG (Nat.mul_le_mul hbig hzb) (by decide));have hrz:∀ty,(Builtin.append_ #[123,3] ty #[.slice (some ⟨b,off,none⟩) i c,.int .i64 ((n:Int)+1 - (i:Int))]).run prog w =
   .ok (.slice (some ⟨w.heap.size,0,none⟩) (n+1) (grownCap w (n+1) c 172)) (w.drew.alloc (.cells ((cs.take (i*3)).toArray++Builtin.zeroCells (.agg #[.int .i64 0,.bool false,.int .i64 0]:Value).cells (n+1 - i)++Builtin.zeroCells (.agg #[.int .i64 0,.bool false,.int .i64 0]:Value).cells (grownCap w (n+1) c 172 - (n+1))) 172)):=fun ty=>by
  have h:=Lib.run_append_grow_zeros w 123 3 ty 172 i0 _ .i64 .i64 underlying123 underlying3 hi0 hz0 (some ⟨b,off,none⟩) i c (cs.take (i*3)) hold (n+1 - i) (by omega) (by omega) (by omega) (by omega) (tG (Nat.mul_le_mul (show n+1 - i<=1073741824 by omega) hzb) (by decide)) (by rw[hik];exact hfit);rw[hik] at h;rw[hkk];exact h
 obtain⟨G,hG⟩:∃G,G=grownCap w (n+1) c 172:=⟨_,rfl⟩;obtain⟨ROW,hROW⟩:∃ROW:Array Value,ROW=(cs.take (i*3)).toArray++Builtin.zeroCells (.agg #[.int .i64 0,.bool false,.int .i64 0]:Value).cells (n+1 - i)++Builtin.zeroCells (.agg #[.int .i64 0,.bool false,.int .i64 0]:Value).cells (G - (n+1)):=⟨_,rfl⟩;rw[<-hG] at hrz ⊢;rw[<-hROW] at hrz ⊢;have hRl:(n+1)*3<=ROW.size:=by rw[hROW];simp only[Array.size_append,List.size_toArray,htl,size_zeroCells];have:(.agg #[.int .i64 0,.bool false,.int .i64 0]:Value).cells.size=3:=rfl;rw[this];omega
 obtain⟨W1,hW1⟩:∃W1,W1=w.drew.alloc (.cells ROW 172):=⟨_,rfl⟩;rw[<-hW1] at hrz;have hN:∀j,j<(n+1)*3->(W1.cell? ⟨w.heap.size,j,none⟩).isSome=true:=fun j hj=>by rw[hW1,World.cell?_alloc_at (w:=w.drew) ROW _ w.heap.size j rfl,Array.getElem?_eq_getElem (by omega)];rfl
 have hNf:∀j,W1.frozen? ⟨w.heap.size,j,none⟩=false:=fun j=>by rw[hW1];exact World.frozen?_alloc_at (w:=w.drew) ROW _ w.heap.size j rfl
 have hOb:∀j v,w.cell? ⟨b,j,none⟩=some v->W1.cell? ⟨b,j,none⟩=some v:=fun j v h=>by rw[hW1,World.cell?_alloc_past (w:=w.drew) _ b j hbw];exact h
 have hOv:∀j v,w.cell? ⟨vb,j,none⟩=some v->W1.cell? ⟨vb,j,none⟩=some v:=fun j v h=>by rw[hW1,World.cell?_alloc_past (w:=w.drew) _ vb j hvw];exact h
 have hcpA:∀(W:World),(∀x,W.cell? x=W1.cell? x)->(∀x,W.frozen? x=W1.frozen? x)->∀ty dc,(Builtin.copy_ #[123,123] ty #[.slice (some ⟨w.heap.size,i*3,none⟩) (n+1 - i) dc,.slice (some ⟨vb,0,none⟩) 1 1]).run prog W=.ok (goInt 1) (W.setCells w.heap.size (i*3) vs):=fun W hWc hWf ty dc=>
  UC W _ _ ty 172 3 w.heap.size (i*3) (n+1 - i) dc ⟨vb,0,none⟩ 1 1 1 vs underlying123 hsz (by simp only[Nat.min_def];split<;>omega) (by rw[hvl])
   (fun j v hj=>by rw[Addr.add_lit,hWc];exact hOv _ v (hvs j v hj))
   (fun j hj=>by rw[hWc];exact hN _ (by omega)) (fun j hj=>by rw[hWf];exact hNf _) h1v
 have hGn:n+1<=G:=by rw[hG];exact grownCap_ge w _ _ _
 have hG63:G<=9223372036854775807:=by have:=grownCap_le_maxLen w (n+1) c 172 (by unfold maxLen;omega);rw[<-hG] at this;unfold maxLen at this;omega
 have hGi:¬(G=i):=by omega
 have hGim:¬(G=i+1):=by omega
 have hci:¬(c=i):=by omega
 have hbN:b≠w.heap.size:=by omega
 have hdl:(cs.drop (i*3)).length=(n - i)*3:=by rw[aBZ,hcl];omega
 have hcpB:∀(W:World),(∀x,W.cell? x=(W1.setCells w.heap.size (i*3) vs).cell? x)->(∀x,W.frozen? x=(W1.setCells w.heap.size (i*3) vs).frozen? x)->∀ty dc sc,(Builtin.copy_ #[123,123] ty #[.slice (some ⟨w.heap.size,(i+1)*3,none⟩) (n - i) dc,.slice (some ⟨b,off+i*3,none⟩) (n - i) sc]).run prog W=.ok (goInt (n - i:Nat)) (W.setCells w.heap.size ((i+1)*3) (cs.drop (i*3))):=fun W hWc hWf ty dc sc=>
  UC W _ _ ty 172 3 w.heap.size ((i+1)*3) (n - i) dc ⟨b,off+i*3,none⟩ (n - i) sc (n - i) (cs.drop (i*3)) underlying123 hsz (by simp only[Nat.min_def];split<;>omega) hdl
   (fun j v hj=>by
    rw[Addr.add_lit,hWc,World.cell?_setCells_out _ _ _ _ _ (fun h _=>absurd h hbN),W7];exact hOb _ v (hcs (i*3+j) v (by rwa [List.getElem?_drop] at hj)))
   (fun j hj=>by rw[hWc];exact isSome_setCells _ _ _ _ (fun t ht=>hN _ (by omega)) _ (hN _ (by omega)))
   (fun j hj=>by rw[hWf,World.frozen?_setCells];exact hNf _) (fun v hv=>h1c v (aB0 hv))
 subst hW1;have hE1:∀x,((w.alloc (.cells ROW 172)).drew).cell? x=(w.drew.alloc (.cells ROW 172)).cell? x:=fun x=>rfl;have hE2:∀x,((w.alloc (.cells ROW 172)).drew).frozen? x=(w.drew.alloc (.cells ROW 172)).frozen? x:=fun x=>rfl;have hF1:∀x,(((w.alloc (.cells ROW 172)).drew.setCells w.heap.size (i*3) vs).drew).cell? x=((w.drew.alloc (.cells ROW 172)).setCells w.heap.size (i*3) vs).cell? x:=fun x=>rfl;have hF2:∀x,(((w.alloc (.cells ROW 172)).drew.setCells w.heap.size (i*3) vs).drew).frozen? x=((w.drew.alloc (.cells ROW 172)).setCells w.heap.size (i*3) vs).frozen? x:=fun x=>rfl;have hw1:IntKind.i64.wrap ((i:Int)+1)=(i:Int)+1:=by rw[IntKind.wrap_i64];omega
 have hw2:IntKind.i64.wrap ((n:Int)+1)=(n:Int)+1:=by rw[IntKind.wrap_i64];omega
 have hw3:IntKind.i64.wrap ((n:Int)+1 - (i:Int))=(n:Int)+1 - (i:Int):=by rw[IntKind.wrap_i64];omega
 have hb1:(0:Int)<=(i:Int)+1:=by omega
 have hin:i<=n:=by omega
 have htn:((i:Int)+1).toNat=i+1:=by omega
 have hb3:(i:Int)<=(n:Int):=by omega
 clear hkk hik hold hROW hG hRl htl
 go_enter func241,ntmps241
 go_wp2_with (first
  | (at_builtin;refine Lib.wpList_append_run _ rfl _ _ _ _ rfl _ _ rfl rfl _ _ (hrz _) ?_)
  | (at_builtin;refine wpList_copy_runI _ rfl _ _ 123 123 rfl _ _ rfl rfl (hcpA _ hE1 hE2 _ _) ?_)
  | (at_builtin;refine wpList_copy_runI _ rfl _ _ 123 123 rfl _ _ rfl rfl (hcpB _ (fun _=>rfl) (fun _=>rfl) _ _ _) ?_))
 go_region_law_o (refine step_copy_runI rfl _ _ 123 123 rfl (.slice (some ⟨w.heap.size,(i+1)*3,none⟩) (n - i) (G - (i+1))) (.slice (some ⟨b,off+i*3,none⟩) (n - i) (c - i)) (by simp[Act.eval,Act.put]) (by simp[Act.eval,Act.put]) (hcpB _ hF1 hF2 3 (G - (i+1)) (c - i)) ?_)
 go_wp2
 go_ret
 exact⟨rfl,rfl⟩
end
end Go.Proofs.YtfaippimkklgfaaGreat
end
