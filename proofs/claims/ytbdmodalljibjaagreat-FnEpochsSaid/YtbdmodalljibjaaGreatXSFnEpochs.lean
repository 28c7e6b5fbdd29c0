import Derived.Test.YtbdmodalljibjaaGreatXMF
import Derived.Test.YtbdmodalljibjaaGreatProg
set_option linter.unusedVariables false
set_option linter.unusedSimpArgs false
set_option linter.unusedSectionVars false
set_option linter.constructorNameAsVariable false
set_option linter.unnecessarySimpa false
noncomputable section
namespace Go.Gv
noncomputable section
variable {P:Program} {o:Oper} {e:Env} {w w':World} {c:Ctx} {L:List Chunk} {R:List Fact} {x:Operand} {v:Value} {k:IntKind} {i:Int} {t:TypeId}
end
theorem aIF{P:Program}{w:World}{t:TypeId}{cs vs:Array Value}{j m:Nat}(ha:∀w,(isAgg t).run P w=.ok true w)(hz:∀w,(sizeOf t).run P w=.ok m w)(hv:cs.extract j (j+m)=vs):(part t cs j).run P w=.ok (.agg vs) w:=by simp [part,ha,hz,hv]
theorem aR0{P:Program}{o:Oper}{e:Env}{w:World}{x y:Operand}{t z':TypeId}{xs ys:Array Value}{fs:Array Field}{b:Bool}(hg:P.eqGuardType P.depth t=false)(hst:P.stoodInHeld t=false)(hu:P.underlying t=some (.struct fs))(hb:∀w,(Op.eqFields 9999 xs ys (match P.underlying t with | some (.struct fs)=>fs | _=>#[]).toList).run P w=.ok b w)(ho:o.op=.binOp .eql t x y z')(hx:ev e x=some (.agg xs))(hy:ev e y=some (.agg ys)):dJ P o e w (.bool b) w:=fun _ a hA=>by
  have hf:P.fieldsOf t=fs:=by simp [Program.fieldsOf,hu]
  rw [hu] at hb
  have h1:binOp .eql t (.agg xs) (.agg ys)=(do pure (.bool (←Op.equal t (.agg xs) (.agg ys)))):=rfl
  simp [execOp,ho,hA.eval hx,hA.eval hy,run_eqGuard_agg _ _ _ _ _ _ _ hg,h1,Op.equal,Op.maxDepth,run_equalIn_struct _ _ _ _ _ (by rw [hf];exact hu) hst,hf,hb]
theorem aAW{P:Program}{w:World}{d:Nat}{t:TypeId}{xs ys:Array Value}{fs:Array Field}{b:Bool}(hst:P.stoodInHeld t=false)(hu:P.underlying t=some (.struct fs))(hb:(Op.eqFields d xs ys (match P.underlying t with | some (.struct fs)=>fs | _=>#[]).toList).run P w=.ok b w):(Op.equalIn (d+1) t (.agg xs) (.agg ys)).run P w=.ok b w:=by
  have hf:P.fieldsOf t=fs:=by simp [Program.fieldsOf,hu]
  rw [hu] at hb
  rw [run_equalIn_struct _ _ _ _ _ (by rw [hf];exact hu) hst,hf];exact hb
noncomputable section
variable {P:Program} {ops:Array Oper} {N:Act→World→Prop} {X:Nat→Act→World→Prop} {T:Act→World→Prop} {S:World→Prop} {fuel n d i:Nat} {G6:Array Bool} {e:Env} {w w':World} {o:Oper} {v:Value}
end
end Go.Gv
end
noncomputable section
namespace Go.Gv
noncomputable section
variable {P:Program} {T:TT} {hT:CJ P T} {n:Nat} {c:Ctx} {B0:Bl} {N:Act→World→Prop} {X:Nat→Act→World→Prop} {Q:Act→World→Prop} {K K':List Fr} {m m':Nat} {e e':SE} {L L':List Ch} {cf cf1 cf2:tH} {o:Oper} {Lv:List Ch} {d:Nat}
noncomputable section
variable {x y:Operand} {t z:TypeId} {k:IntKind} {i j:Int} {α:Type} {A:Option α} {q:α}
theorem eqS{xs ys:List SV}{vx vy:List Value}{fs:Array Field}{b:Bool}(hg:P.eqGuardType P.depth t=false)(hst:P.stoodInHeld t=false)(hu:P.underlying t=some (.struct fs))(hb:∀w,(Op.eqFields 9999 vx.toArray vy.toArray (match P.underlying t with | some (.struct fs)=>fs | _=>#[]).toList).run P w=.ok b w)(hs:VM (iZ T n K cf m e L)=some (o,Lv,cf1,cf2,K',m',e',L'))(ho:(o.op,o.dst)=(.binOp .eql t x y z,some d))(hx:(gN e' x).map nbS=some (.g xs))(hy:(gN e' y).map nbS=some (.g ys))(hvx:aW (bK []) xs=some vx)(hvy:aW (bK []) ys=some vy)
    (kk:G (.mk P T hT n c B0 N X Q) K' m' ((d,.b b) :: e') L' cf2):G (.mk P T hT n c B0 N X Q) K m e L cf:=
  pu hs (congrArg Prod.snd ho) (fun B a w hA _=>⟨_,rfl,aR0 hg hst hu hb (congrArg Prod.fst ho) (aOT hA hx hvx) (aOT hA hy hvy)⟩) kk
end
end
end Go.Gv
end
noncomputable section
set_option linter.unusedVariables false
namespace Go.Gv
noncomputable section
def UG:Option Bool:=
  some true
def pB(x5:List Int)(x6 x8:Int)(x9:Bool):Option (Step ((List Int)×Int) (Out Unit Bool)):=
  (if x9 then some (.stop (Out.ret false)) else need (x5.length+([x8]).length≤1073741824) (some (.next (x5++([x8]),aZ (x6+1)))))
def pC(x1:(List cT)):((List Int)×Int)→Option (Step ((List Int)×Int) (Out Unit Bool))
  | (x5,x6)=>(if decide (x6 < (x1.length:Int)) then (idx x1 x6).bind fun x7=>(d9 x7.Handle).bind fun x8=>(if decide (x8 < 0) then pB x5 x6 x8 true else (bI x7.aG 0 100000).bind fun x10=>(if !x10 then pB x5 x6 x8 true else (zR x5 x8).bind fun x11=>pB x5 x6 x8 x11)) else some (.stop (Out.brk ())))
def UH:(Out Unit Bool)→Option Bool
  | .brk ()=>UG
  | .ret r=>some r
def vX(x1:(List cT))(x2:Bool):Option Bool:=
  (if x2 then some false else (loop (pC x1) (([]:List Int),0)).bind (UH))
def DK(l:List aR):Option Bool:=
  (wQ l).bind fun x1=>(if (l.length:Int) != 3 then vX x1 true else vX x1 (decide (24 < (x1.length:Int))))
def XY:Option Bool:=
  some true
def y8(x4:Int)(x5:Bool):Option (Step Int (Out Unit Bool)):=
  (if x5 then some (.stop (Out.ret false)) else some (.next (aZ (x4+1))))
def rO(b:aA)(x2:(List cT)):Int→Option (Step Int (Out Unit Bool))
  | x4=>(if decide (x4 < (x2.length:Int)) then (idx x2 x4).bind fun x6=>(r9 b.Mem x6.Handle).bind fun x7=>(if !x7 then y8 x4 true else y8 x4 (decide (b.aD.aG < x6.aG))) else some (.stop (Out.brk ())))
def XZ:(Out Unit Bool)→Option Bool
  | .brk ()=>XY
  | .ret r=>some r
def nH(b:aA)(x1:Bool):Option Bool:=
  (if x1 then some false else (wQ b.aJ).bind fun x2=>(loop (rO b x2) 0).bind (XZ))
def FW(b:aA):Option Bool:=
  (DZ b.Mem).bind fun x8=>(if !x8 then nH b true else (jU b.aD).bind fun x9=>(if !x9 then nH b true else (DK b.aJ).bind fun x10=>(if !x10 then nH b true else (zS b.dI).bind fun x11=>nH b (!x11))))
def vY(x1:Bool):Option Bool:=
  some x1
def gD(h:Int):Option Bool:=
  (if h == 0 then vY true else (fI h).bind fun x2=>vY x2)
def UI:Option Bool:=
  some true
def dX(x5:Int)(x7:Bool):Option (Step Int (Out Unit Bool)):=
  (if x7 then some (.stop (Out.ret false)) else some (.next (aZ (x5+1))))
def lR(s:aE):Int→Option (Step Int (Out Unit Bool))
  | x5=>(if decide (x5 < 3) then (idx s.aM x5).bind fun x6=>(if !x6.kU then (if !(decide (x6=(⟨false,(⟨0,0,0,0⟩:dN),0,0,(⟨0,0,0,0,0,0,0,0,0,false⟩:Sub),0,0,0,0⟩:bJ))) then dX x5 true else (if x6.kU then (DN x6.Op).bind fun x8=>(if !x8 then dX x5 true else (gD x6.H).bind fun x9=>(if !x9 then dX x5 true else (gD x6.Old).bind fun x10=>dX x5 (!x10))) else (gD x6.H).bind fun x11=>(if !x11 then dX x5 true else (gD x6.Old).bind fun x12=>dX x5 (!x12)))) else (if x6.kU then (DN x6.Op).bind fun x13=>(if !x13 then dX x5 true else (gD x6.H).bind fun x14=>(if !x14 then dX x5 true else (gD x6.Old).bind fun x15=>dX x5 (!x15))) else (gD x6.H).bind fun x16=>(if !x16 then dX x5 true else (gD x6.Old).bind fun x17=>dX x5 (!x17)))) else some (.stop (Out.brk ())))
def UJ:(Out Unit Bool)→Option Bool
  | .brk ()=>UI
  | .ret r=>some r
def KQ(s:aE):Option Bool:=
  (loop (lR s) 0).bind (UJ)
def lS(s:aE):Int→Option (Step Int (Out Unit Bool))
  | x3=>(if decide (x3 < 2) then (idx s.Cells x3).bind fun x18=>(gD x18).bind fun x19=>(if !x19 then some (.stop (Out.ret false)) else some (.next (aZ (x3+1)))) else some (.stop (Out.brk ())))
def KR(s:aE):(Out Unit Bool)→Option Bool
  | .brk ()=>KQ s
  | .ret r=>some r
def jN(s:aE)(x1:Bool):Option Bool:=
  (if x1 then some false else (loop (lS s) 0).bind (KR s))
def y9(s:aE):Option Bool:=
  (FW s.aA).bind fun x20=>(if !x20 then jN s true else (if (s.Cells.length:Int) != 2 then jN s true else (if (s.aM.length:Int) != 3 then jN s true else (w8 s.bL).bind fun x21=>(if !x21 then jN s true else (bI s.aN 0 1000000).bind fun x22=>jN s (!x22)))))
def wX:Option Int:=
  some (-1)
def jC(s:List bJ)(f:(bJ→Option Bool)):Int→Option (Step Int (Out Unit Int))
  | x2=>(if decide (x2 < (s.length:Int)) then (idx s x2).bind fun x3=>(f x3).bind fun x4=>(if x4 then some (.stop (Out.ret x2)) else some (.next (aZ (x2+1)))) else some (.stop (Out.brk ())))
def nI:(Out Unit Int)→Option Int
  | .brk ()=>wX
  | .ret r=>some r
def rP(s:List bJ)(f:(bJ→Option Bool)):Option Int:=
  (loop (jC s f) 0).bind (nI)
def jD(s:List bJ)(f:(bJ→Option Bool)):Option Bool:=
  (rP s f).bind fun x1=>some (decide (0≤x1))
def rQ(h:Int):Option Bool:=
  (nR h).bind fun x1=>some (!x1)
def uT(x1:Bool):Option Bool:=
  some x1
def JN(j:bJ):Option Bool:=
  (if !j.kU then some (decide (j=(⟨false,(⟨0,0,0,0⟩:dN),0,0,(⟨0,0,0,0,0,0,0,0,0,false⟩:Sub),0,0,0,0⟩:bJ))) else (DP j.Op).bind fun x2=>(if x2 then (nR j.H).bind fun x3=>(if x3 then (nR j.Old).bind fun x4=>uT x4 else uT false) else uT false))
def zA(j:bJ):Option Bool:=
  (JN j).bind fun x1=>some (!x1)
def gE(x1:Bool):Option Bool:=
  some x1
def zB(s:aE):Option Bool:=
  (qZ s.aA).bind fun x2=>(if x2 then (if (s.Cells.length:Int) == 2 then (if (s.aM.length:Int) == 3 then (BK s.bL).bind fun x3=>(if x3 then (b7 s.aN 0 1000000).bind fun x4=>(if x4 then (dQ s.Cells (fun y0=>rQ y0)).bind fun x5=>(if !x5 then (jD s.aM (fun y0=>zA y0)).bind fun x6=>gE (!x6) else gE false) else gE false) else gE false) else gE false) else gE false) else gE false)
def nJ(c:aD)(w_:Int)(x1:Bool):Option (Int×Bool):=
  (if x1 then some (0,false) else (idx c.aQ w_).bind fun x2=>some (x2.aG,true))
def A4(c:aD)(w_:Int):Option (Int×Bool):=
  (jX c).bind fun x3=>(if !x3 then nJ c w_ true else (d5 w_).bind fun x4=>(if !x4 then nJ c w_ true else (idx c.aQ w_).bind fun x5=>(iH x5).bind fun x6=>nJ c w_ (!x6)))
def ZL(x6:List Int):Option (List Int):=
  some x6
def A5(x5:Int)(x7:List Int):Option (Step ((List Int)×Int) (List Int)):=
  some (.next (x7,aZ (x5+1)))
def A6(x4:List Int)(x5:Int)(x9:Bool):Option (Step ((List Int)×Int) (List Int)):=
  (if x9 then need (x4.length+([x5]).length≤1073741824) (A5 x5 (x4++([x5]))) else A5 x5 x4)
def uU(s:aE):((List Int)×Int)→Option (Step ((List Int)×Int) (List Int))
  | (x4,x5)=>(if decide (x5 < (s.aM.length:Int)) then (idx s.aM x5).bind fun x8=>(idx s.aA.aD.aQ x5).bind fun x10=>(if x10.On then A6 x4 x5 (!x8.kU) else A6 x4 x5 false) else some (.stop (x4)))
def ZM:(List Int)→Option (List Int)
  | x6=>ZL x6
def JO(s:aE):Option (List Int):=
  (zB s).bind fun x1=>(if !x1 then some ([]:List Int) else (loop (uU s) (([]:List Int),0)).bind (ZM))
def ZN(x6:List Int):Option (List Int):=
  some x6
def A7(x5:Int)(x8:List Int):Option (Step ((List Int)×Int) (List Int)):=
  some (.next (x8,aZ (x5+1)))
def A8(x4:List Int)(x5:Int)(x9:Bool):Option (Step ((List Int)×Int) (List Int)):=
  (if x9 then need (x4.length+([x5]).length≤1073741824) (A7 x5 (x4++([x5]))) else A7 x5 x4)
def uV(s:aE)(x4:List Int)(x5:Int)(x7:Bool):Option (Step ((List Int)×Int) (List Int)):=
  (if x7 then (idx s.aA.aD.aQ x5).bind fun x10=>(if x10.On then (idx s.aM x5).bind fun x11=>A8 x4 x5 (!x11.kU) else A8 x4 x5 false) else some (.stop (x4)))
def uW(s:aE)(x1:Bool):((List Int)×Int)→Option (Step ((List Int)×Int) (List Int))
  | (x4,x5)=>(if decide (x5 < 3) then uV s x4 x5 x1 else uV s x4 x5 false)
def ZO:(List Int)→Option (List Int)
  | x6=>ZN x6
def JQ(s:aE):Option (List Int):=
  (y9 s).bind fun x1=>(loop (uW s x1) (([]:List Int),0)).bind (ZO)
def nK(x11:Bool):Option Bool:=
  some x11
def IH(x5:(List Int))(x10:aE):Option Bool:=
  (jU x10.aA.aD).bind fun x12=>(if x12 then (if (x10.aM.length:Int) == 3 then (JQ x10).bind fun x13=>(uK x5 x13).bind fun x14=>nK x14 else nK false) else nK false)
def nL(x8:Int)(x17:Bool)(x18:aE):Option (Step (Int×aE) (Out aE Bool)):=
  (if x17 then some (.stop (Out.ret false)) else some (.next (aZ (x8+1),x18)))
def nM(x5:(List Int)):(Int×aE)→Option (Step (Int×aE) (Out aE Bool))
  | (x8,x9)=>(if decide (x8 < (x5.length:Int)) then (idx x5 x8).bind fun x15=>(A4 x9.aA.aD x15).bind fun x16=>(if x16.2 then (if decide (x9.aA.aD.aG < x16.1) then nL x8 true x9 else nL x8 (decide ((aZ (x16.1+1)) < x9.aA.aD.aG)) x9) else nL x8 false x9) else some (.stop (Out.brk x9)))
def II(x5:(List Int)):(Out aE Bool)→Option Bool
  | .brk x10=>IH x5 x10
  | .ret r=>some r
def G7(code:List UInt8):Option Bool:=
  (LX code).bind fun x1=>(if x1 then some true else (kT code).bind fun x2=>(EA x2).bind fun x3=>(if !x3 then some true else (rE x2).bind fun x4=>(JO x4).bind fun x5=>(loop (nM x5) (0,x4)).bind (II x5)))
end
end Go.Gv
end
noncomputable section
set_option linter.unusedVariables false
set_option maxHeartbeats 4000000
set_option maxRecDepth 100000
namespace Go.Proofs.YtbdmodalljibjaaGreat
open Go.Gv
theorem aGP(D:Nat)(d d':dN)(w:World):(Op.eqFields (D+2) #[.int .i64 (d.Kind),.int .i64 (d.Cell),.int .i64 (d.fT),.int .i64 (d.fG)] #[.int .i64 (d'.Kind),.int .i64 (d'.Cell),.int .i64 (d'.fT),.int .i64 (d'.fG)] (match Tryz.prog.underlying 70 with | some (.struct fs)=>fs | _=>#[]).toList).run Tryz.prog w=.ok (decide (d=d')) w:=by
  rw [Tryz.underlying70]
  have h:(d.Kind == d'.Kind && (d.Cell == d'.Cell && (d.fT == d'.fT && (d.fG == d'.fG && true))))=decide (d=d'):=by
    cases d;cases d';rw [Bool.eq_iff_iff];simp
  rw [←h]
  exact eD _ _ _ _ _ rfl (eT Tryz.isAgg3 rfl) (eT Tryz.isAgg3 rfl) (l8 Tryz.underlying3)<|
    eD _ _ _ _ _ rfl (eT Tryz.isAgg3 rfl) (eT Tryz.isAgg3 rfl) (l8 Tryz.underlying3)<|
    eD _ _ _ _ _ rfl (eT Tryz.isAgg3 rfl) (eT Tryz.isAgg3 rfl) (l8 Tryz.underlying3)<|
    eD _ _ _ _ _ rfl (eT Tryz.isAgg3 rfl) (eT Tryz.isAgg3 rfl) (l8 Tryz.underlying3)<|
    UQ _ _ _
theorem aGQ(D:Nat)(d d':Sub)(w:World):(Op.eqFields (D+2) #[.int .i64 (d.Kind),.int .i64 (d.A),.int .i64 (d.Pc),.int .i64 (d.E),.int .i64 (d.Row),.int .i64 (d.B),.int .i64 (d.H),.int .i64 (d.Out),.int .i64 (d.Code),.bool (d.dB)] #[.int .i64 (d'.Kind),.int .i64 (d'.A),.int .i64 (d'.Pc),.int .i64 (d'.E),.int .i64 (d'.Row),.int .i64 (d'.B),.int .i64 (d'.H),.int .i64 (d'.Out),.int .i64 (d'.Code),.bool (d'.dB)] (match Tryz.prog.underlying 72 with | some (.struct fs)=>fs | _=>#[]).toList).run Tryz.prog w=.ok (decide (d=d')) w:=by
  rw [Tryz.underlying72]
  have h:(d.Kind == d'.Kind && (d.A == d'.A && (d.Pc == d'.Pc && (d.E == d'.E && (d.Row == d'.Row && (d.B == d'.B && (d.H == d'.H && (d.Out == d'.Out && (d.Code == d'.Code && (d.dB == d'.dB && true))))))))))=decide (d=d'):=by
    cases d;cases d';rw [Bool.eq_iff_iff];simp
  rw [←h]
  exact eD _ _ _ _ _ rfl (eT Tryz.isAgg3 rfl) (eT Tryz.isAgg3 rfl) (l8 Tryz.underlying3)<|
    eD _ _ _ _ _ rfl (eT Tryz.isAgg3 rfl) (eT Tryz.isAgg3 rfl) (l8 Tryz.underlying3)<|
    eD _ _ _ _ _ rfl (eT Tryz.isAgg3 rfl) (eT Tryz.isAgg3 rfl) (l8 Tryz.underlying3)<|
    eD _ _ _ _ _ rfl (eT Tryz.isAgg3 rfl) (eT Tryz.isAgg3 rfl) (l8 Tryz.underlying3)<|
    eD _ _ _ _ _ rfl (eT Tryz.isAgg3 rfl) (eT Tryz.isAgg3 rfl) (l8 Tryz.underlying3)<|
    eD _ _ _ _ _ rfl (eT Tryz.isAgg3 rfl) (eT Tryz.isAgg3 rfl) (l8 Tryz.underlying3)<|
    eD _ _ _ _ _ rfl (eT Tryz.isAgg3 rfl) (eT Tryz.isAgg3 rfl) (l8 Tryz.underlying3)<|
    eD _ _ _ _ _ rfl (eT Tryz.isAgg3 rfl) (eT Tryz.isAgg3 rfl) (l8 Tryz.underlying3)<|
    eD _ _ _ _ _ rfl (eT Tryz.isAgg3 rfl) (eT Tryz.isAgg3 rfl) (l8 Tryz.underlying3)<|
    eD _ _ _ _ _ rfl (eT Tryz.isAgg4 rfl) (eT Tryz.isAgg4 rfl) (UR Tryz.underlying4)<|
    UQ _ _ _
theorem X0(D:Nat)(d d':bJ)(w:World):(Op.eqFields (D+3) #[.bool (d.kU),.int .i64 (d.Op.Kind),.int .i64 (d.Op.Cell),.int .i64 (d.Op.fT),.int .i64 (d.Op.fG),.int .i64 (d.aN),.int .i64 (d.Pc),.int .i64 (d.Sub.Kind),.int .i64 (d.Sub.A),.int .i64 (d.Sub.Pc),.int .i64 (d.Sub.E),.int .i64 (d.Sub.Row),.int .i64 (d.Sub.B),.int .i64 (d.Sub.H),.int .i64 (d.Sub.Out),.int .i64 (d.Sub.Code),.bool (d.Sub.dB),.int .i64 (d.H),.int .i64 (d.Old),.int .i64 (d.fG),.int .i64 (d.Code)] #[.bool (d'.kU),.int .i64 (d'.Op.Kind),.int .i64 (d'.Op.Cell),.int .i64 (d'.Op.fT),.int .i64 (d'.Op.fG),.int .i64 (d'.aN),.int .i64 (d'.Pc),.int .i64 (d'.Sub.Kind),.int .i64 (d'.Sub.A),.int .i64 (d'.Sub.Pc),.int .i64 (d'.Sub.E),.int .i64 (d'.Sub.Row),.int .i64 (d'.Sub.B),.int .i64 (d'.Sub.H),.int .i64 (d'.Sub.Out),.int .i64 (d'.Sub.Code),.bool (d'.Sub.dB),.int .i64 (d'.H),.int .i64 (d'.Old),.int .i64 (d'.fG),.int .i64 (d'.Code)] (match Tryz.prog.underlying 74 with | some (.struct fs)=>fs | _=>#[]).toList).run Tryz.prog w=.ok (decide (d=d')) w:=by
  rw [Tryz.underlying74]
  have h:(d.kU == d'.kU && (decide (d.Op=d'.Op) && (d.aN == d'.aN && (d.Pc == d'.Pc && (decide (d.Sub=d'.Sub) && (d.H == d'.H && (d.Old == d'.Old && (d.fG == d'.fG && (d.Code == d'.Code && true)))))))))=decide (d=d'):=by
    cases d;cases d';rw [Bool.eq_iff_iff];simp
  rw [←h]
  exact eD _ _ _ _ _ rfl (eT Tryz.isAgg4 rfl) (eT Tryz.isAgg4 rfl) (UR Tryz.underlying4)<|
    eD _ _ _ _ _ rfl (aIF (vs:=#[.int .i64 (d.Op.Kind),.int .i64 (d.Op.Cell),.int .i64 (d.Op.fT),.int .i64 (d.Op.fG)]) Tryz.isAgg70 Tryz.sizeOf70 rfl) (aIF (vs:=#[.int .i64 (d'.Op.Kind),.int .i64 (d'.Op.Cell),.int .i64 (d'.Op.fT),.int .i64 (d'.Op.fG)]) Tryz.isAgg70 Tryz.sizeOf70 rfl) (aAW Tryz.stoodInHeld70 Tryz.underlying70 (aGP D _ _ w))<|
    eD _ _ _ _ _ rfl (eT Tryz.isAgg3 rfl) (eT Tryz.isAgg3 rfl) (l8 Tryz.underlying3)<|
    eD _ _ _ _ _ rfl (eT Tryz.isAgg3 rfl) (eT Tryz.isAgg3 rfl) (l8 Tryz.underlying3)<|
    eD _ _ _ _ _ rfl (aIF (vs:=#[.int .i64 (d.Sub.Kind),.int .i64 (d.Sub.A),.int .i64 (d.Sub.Pc),.int .i64 (d.Sub.E),.int .i64 (d.Sub.Row),.int .i64 (d.Sub.B),.int .i64 (d.Sub.H),.int .i64 (d.Sub.Out),.int .i64 (d.Sub.Code),.bool (d.Sub.dB)]) Tryz.isAgg72 Tryz.sizeOf72 rfl) (aIF (vs:=#[.int .i64 (d'.Sub.Kind),.int .i64 (d'.Sub.A),.int .i64 (d'.Sub.Pc),.int .i64 (d'.Sub.E),.int .i64 (d'.Sub.Row),.int .i64 (d'.Sub.B),.int .i64 (d'.Sub.H),.int .i64 (d'.Sub.Out),.int .i64 (d'.Sub.Code),.bool (d'.Sub.dB)]) Tryz.isAgg72 Tryz.sizeOf72 rfl) (aAW Tryz.stoodInHeld72 Tryz.underlying72 (aGQ D _ _ w))<|
    eD _ _ _ _ _ rfl (eT Tryz.isAgg3 rfl) (eT Tryz.isAgg3 rfl) (l8 Tryz.underlying3)<|
    eD _ _ _ _ _ rfl (eT Tryz.isAgg3 rfl) (eT Tryz.isAgg3 rfl) (l8 Tryz.underlying3)<|
    eD _ _ _ _ _ rfl (eT Tryz.isAgg3 rfl) (eT Tryz.isAgg3 rfl) (l8 Tryz.underlying3)<|
    eD _ _ _ _ _ rfl (eT Tryz.isAgg3 rfl) (eT Tryz.isAgg3 rfl) (l8 Tryz.underlying3)<|
    UQ _ _ _
end Go.Proofs.YtbdmodalljibjaaGreat
end
noncomputable section
set_option linter.unusedVariables false
set_option maxHeartbeats 4000000
set_option maxRecDepth 100000
namespace Go.Proofs.YtbdmodalljibjaaGreat
open Go.Gv
noncomputable section
variable {κ:Ctx}
theorem M1{c:aD}{s1:AC}(h1:bS κ s1 c.aQ):V0 Tryz.prog κ 64 (jU c) [.g [I c.aG,.h s1 c.aQ.length]] .b:=
 cY tok Tryz.call64 Tryz.func64 Tryz.results64 Q Q<|dK 0 1 (lE c) [1] 14 [0] Q (c0 Q (fun _=>cJ) fun x10=>eP [8,9] Q Q (cA [0] Q Q)<|cA [0] Q Q) fun x1=>bU [14] Q Q (cN Q Q)<|K8 3 [1] [0] Out.brk [] [] Q Q (fun hF2 x3 hr2=>bU [16] Q Q (IN Y4 Q h1 Q fun x4 _ _=>dK 0 3 (jG x3) [1,3] 45 [0] Q (eP [26,27] Q Q (fun hG2=>neS Tryz.eqGuardType175 Tryz.stoodInHeld175 Tryz.underlying175 (SK 9997 x4 (⟨false,0,false,0⟩:gR)) Q Q Q Q Q Q<|wi hG2<|eP [30,31,32] Q Q (cA [0] Q Q)<|c0 Q (fun _=>cJ) fun x6=>eP [38,39,40] Q Q (cA [0] Q Q)<|c0 Q (fun _=>cJ) fun x7=>cA [0] Q Q)<|c0 Q (fun _=>cJ) fun x8=>eP [38,39,40] Q Q (cA [0] Q Q)<|c0 Q (fun _=>cJ) fun x9=>cA [0] Q Q) fun x5=>bU [45] Q Q (IM hr2 hF2<|cN Q Q)<|E9 [0] Q)<|CK [] Q)<|cN Q Q
theorem X2{b:List Int}{s1:AC}(h1:bS κ s1 b):V0 Tryz.prog κ 429 (CR b) [.h s1 b.length] .b:=
 cY tok Tryz.call429 Tryz.func429 Tryz.results429 Q Q<|K8 3 [0] [] Out.brk [0] [] Q Q (fun hF1 x2 hr1=>bU [7] Q Q (NC Q h1 Q fun x3=>c0 Q (fun _=>cJ) fun x4=>bU [15] Q Q (IM hr1 hF1<|cN Q Q)<|E9 [] Q)<|CK [] Q)<|cN Q Q
theorem X3{h:aC}{s1 s2:AC}(h1:bS κ s1 h.Bytes)(h2:bS κ s2 h.Class):V0 Tryz.prog κ 366 (CS h) [.g [.h s1 h.Bytes.length,.h s2 h.Class.length]] .b:=
 cY tok Tryz.call366 Tryz.func366 Tryz.results366 Q Q<|dK 0 1 (oQ h) [1] 19 [0] Q (eP [7,8] Q Q (cA [0] Q Q)<|eP [12,13,14] Q Q (cA [0] Q Q)<|c0 Q (fun h=>X2 (h.a h1)) fun x6=>cA [0] Q Q) fun x1=>bU [19] Q Q (cN Q Q)<|K8 3 [1] [0] Out.brk [] [] Q Q (fun hF2 x3 hr2=>bU [21] Q Q (NC Q h2 Q fun x4=>c0 Q (fun _=>cJ) fun x5=>bU [30] Q Q (IM hr2 hF2<|cN Q Q)<|E9 [0] Q)<|CK [] Q)<|cN Q Q
theorem OI{b:List Int}{at_ width:Int}{s1:AC}(h1:bS κ s1 b):V0 Tryz.prog κ 371 (qH b at_ width) [.h s1 b.length,I at_,I width] I:=
 cY tok Tryz.call371 Tryz.func371 Tryz.results371 Q Q<|ND () [0,1,2] (fun(p:Int×Int) (_:Unit)=>[(7,I p.1),(8,I p.2)]) [] [] (fun p _=>[]) id [] (fun(x5:Int) (_:Unit)=>[(7,I x5)]) [] (fun x5 _=>[]) Q Q (fun hF1 ⟨x3,x4⟩ _ hr1=>bU [11] Q Q (NC Q h1 Q fun x6=>E9 [] Q)<|CK [] Q) fun x5 _=>cN Q Q
theorem ZP{c:Int}:V0 Tryz.prog κ 257 (lV c) [I c] I:=
 cY tok Tryz.call257 Tryz.func257 Tryz.results257 Q Q<|bU [4,5] Q Q (cN Q Q)<|bU [6,7] Q Q (cN Q Q)<|bU [8,9] Q Q (cN Q Q)<|cN Q Q
theorem KS{c:Int}:V0 Tryz.prog κ 432 (tO c) [I c] I:=
 cY tok Tryz.call432 Tryz.func432 Tryz.results432 Q Q<|c0 Q (fun _=>cJ) fun x1=>bU [5] Q Q (cN Q Q)<|c0 Q (fun _=>ZP) fun x2=>cN Q Q
theorem zC{c:Int}:V0 Tryz.prog κ 376 (jV c) [I c] I:=
 cY tok Tryz.call376 Tryz.func376 Tryz.results376 Q Q<|c0 Q (fun _=>cJ) fun x1=>bU [5] Q Q (cN Q Q)<|c0 Q (fun _=>KS) fun x2=>fun hF=>aSS Q Q Q Q hF fun hF=>wi hF<|cN Q Q
theorem G8{slot:Int}:V0 Tryz.prog κ 430 (wP slot) [I slot] I:=
 cY tok Tryz.call430 Tryz.func430 Tryz.results430 Q Q<|c0 Q (fun _=>cJ) fun x1=>bU [5] Q Q (cN Q Q)<|cN Q Q
theorem ER{slot:Int}:V0 Tryz.prog κ 431 (rX slot) [I slot] I:=
 cY tok Tryz.call431 Tryz.func431 Tryz.results431 Q Q<|c0 Q (fun _=>cJ) fun x1=>bU [5] Q Q (cN Q Q)<|cN Q Q
theorem Q0{slot c:Int}:V0 Tryz.prog κ 372 (qI slot c) [I slot,I c] I:=
 cY tok Tryz.call372 Tryz.func372 Tryz.results372 Q Q<|dK 0 0 (AA slot c) [0,1] 16 [] Q (c0 Q (fun _=>G8) fun x5=>eP [7,8] Q Q (cA [] Q Q)<|c0 Q (fun _=>ER) fun x6=>c0 Q (fun _=>zC) fun x7=>c0 Q (fun _=>cJ) fun x8=>cA [] Q Q) fun x1=>bU [16] Q Q (cN Q Q)<|c0 Q (fun _=>G8) fun x2=>c0 Q (fun _=>ER) fun x3=>c0 Q (fun _=>KS) fun x4=>cN Q Q
theorem ZQ{page index:Int}:V0 Tryz.prog κ 378 (nQ page index) [I page,I index] I:=
 cY tok Tryz.call378 Tryz.func378 Tryz.results378 Q Q<|dK 0 0 (qJ page index) [0,1] 12 [] Q (c0 Q (fun _=>cJ) fun x2=>eP [7,8] Q Q (cA [] Q Q)<|c0 Q (fun _=>cJ) fun x3=>cA [] Q Q) fun x1=>bU [12] Q Q (cN Q Q)<|cN Q Q
theorem ZR{h:aC}{p:Int}{s1 s2:AC}(h1:bS κ s1 h.Bytes)(h2:bS κ s2 h.Class):V0 Tryz.prog κ 367 (FA h p) [.g [.h s1 h.Bytes.length,.h s2 h.Class.length],I p] .b:=
 cY tok Tryz.call367 Tryz.func367 Tryz.results367 Q Q<|NC Q h2 Q fun x1=>bU [18] Q Q (K8 7 [2,5] [0] Out.brk [] [] Q Q (fun hF1 x3 hr1=>bU [23] Q Q (NC Q h1 Q fun x4=>bU [31] Q Q (IM hr1 hF1<|cN Q Q)<|E9 [0] Q)<|CK [] Q)<|cN Q Q)<|dK 0 2 (iT h p x1) [1,2,5,6] 58 [0] Q (nO aL [0,1] Q<|NC Q h1 Q fun x16=>eP [37,38] Q Q (cA [0] Q Q)<|NC Q h1 Q fun x17=>eP [46,47,48] Q Q (cA [0] Q Q)<|NC Q h1 Q fun x18=>c0 Q (fun _=>zC) fun x19=>cA [0] Q Q) fun x5=>bU [58] Q Q (cN Q Q)<|K8 8 [1,2,5,6] [0] Out.brk [1,2,6] [0] Q Q (fun hF3 x7 hr3=>bU [64] Q Q (NC Q h1 Q fun x15=>bU [72] Q Q (IM hr3 hF3<|cN Q Q)<|E9 [0] Q)<|CK [0] Q)<|K8 9 [1,2,6] [0] Out.brk [] [] Q Q (fun hF4 x9 hr4=>c0 Q (fun _=>zC) fun x10=>bU [76] Q Q (nO aL [0] Q<|c0 Q (fun _=>ZQ) fun x11=>c0 Q (fun _=>Q0) fun x12=>c0 Q (fun h=>OI (h.a h1)) fun x13=>c0 Q (fun _=>cJ) fun x14=>bU [88] Q Q (IM hr4 hF4<|cN Q Q)<|E9 [0] Q)<|CK [] Q)<|cN Q Q
theorem ZS{h:aC}{s1 s2:AC}(h1:bS κ s1 h.Bytes)(h2:bS κ s2 h.Class):V0 Tryz.prog κ 240 (FB h) [.g [.h s1 h.Bytes.length,.h s2 h.Class.length]] .b:=
 cY tok Tryz.call240 Tryz.func240 Tryz.results240 Q Q<|c0 Q (fun h=>X3 (h.a h1) (h.a h2)) fun x1=>bU [6] Q Q (cN Q Q)<|K8 3 [1] [0] Out.brk [] [] Q Q (fun hF1 x3 hr1=>bU [8] Q Q (c0 Q (fun h=>ZR (h.a h1) (h.a h2)) fun x4=>bU [14] Q Q (IM hr1 hF1<|cN Q Q)<|E9 [0] Q)<|CK [] Q)<|cN Q Q
theorem JS{l:List Int}{x:Int}{s1:AC}(h1:bS κ s1 l):V0 Tryz.prog κ 245 (zR l x) [.h s1 l.length,I x] .b:=
 cY tok Tryz.call245 Tryz.func245 Tryz.results245 Q Q<|K8 5 [0,1] [] Out.brk [] [] Q Q (fun hF1 x2 hr1=>bU [9] Q Q (NC Q h1 Q fun x3=>bU [17] Q Q (IM hr1 hF1<|cN Q Q)<|E9 [] Q)<|CK [] Q)<|cN Q Q
theorem Q1{l:aB}{s1 s2:AC}(h1:bS κ s1 l.Global)(h2:bS κ s2 l.aX):VS Tryz.prog κ 368 (DY l) [.g [.h s1 l.Global.length,.h s2 l.aX.length]] [] [] (fun r (y:AC)=>.h y r.length) (fun r y=>[ow y r]):=
 cY tok Tryz.call368 Tryz.func368 Tryz.results368 Q Q<|fun hF=>YN (α:=Int) aU Q Q Q Q fun s3=>wi hF<|ND s3 [1] (fun(p:(List Int)×Int) (s5:AC)=>[(3,.h s5 p.1.length),(4,I p.2)]) [1,0] [0] (fun p s5=>[ow s5 (p.1:List Int)]) id [1] (fun(x5:(List Int)) (s6:AC)=>[(3,.h s6 x5.length)]) [0] (fun x5 s6=>[ow s6 (x5:List Int)]) Q Q (fun hF1 ⟨x3,x4⟩ s5 hr1=>bU [11] Q Q (IN wH Q h1 Q fun x12 s12 h4=>fun hG1=>ap 0 aU Q Q Q Q Q Q Q (fun h=>(h.a h4)) Q Q hG1 fun hG1 s13=>wi hG1<|nxW s13 [0,1] Q)<|bkW s5 [0,1] Q) fun x5 s6=>ND s6 [1] (fun(p:(List Int)×Int) (s8:AC)=>[(3,.h s8 p.1.length),(5,I p.2)]) [0,1] [1] (fun p s8=>[ow s8 (p.1:List Int)]) id [] (fun(x10:(List Int)) (s9:AC)=>[(3,.h s9 x10.length)]) [] (fun x10 s9=>[ow s9 (x10:List Int)]) Q Q (fun hF2 ⟨x8,x9⟩ s8 hr2=>bU [26] Q Q (IN wH Q h2 Q fun x11 s10 h3=>fun hG2=>ap 0 aU Q Q Q Q Q Q Q (fun h=>(h.a h3)) Q Q hG2 fun hG2 s11=>wi hG2<|nxW s11 [0,1] Q)<|bkW s8 [0] Q) fun x10 s9=>mT s9 [0] Q Q
theorem X4{l:aB}{s1 s2:AC}(h1:bS κ s1 l.Global)(h2:bS κ s2 l.aX):V0 Tryz.prog κ 241 (CT l) [.g [.h s1 l.Global.length,.h s2 l.aX.length]] .b:=
 cY tok Tryz.call241 Tryz.func241 Tryz.results241 Q Q<|dK 0 1 (vA l) [1] 15 [0] Q (eP [9,10] Q Q (cA [0] Q Q)<|cA [0] Q Q) fun x1=>bU [15] Q Q (cN Q Q)<|K8 3 [1] [0] Out.brk [1] [0] Q Q (fun hF2 x3 hr2=>bU [20] Q Q (IN wH Q h2 Q fun x12 s4 h8=>bU [30] Q Q (IM hr2 hF2<|cN Q Q)<|E9 [0] Q)<|CK [0] Q)<|c1 Q (fun h=>Q1 (h.a h1) (h.a h2)) fun x4 s3=>K8 5 [4] [1] Out.brk [] [] Q Q (fun hF3 x6 hr3=>bU [36] Q Q (dK 0 1 (uZ x6) [4,5] 54 [0] Q (nO aL [] Q<|v9 oI 0 Q Q Q fun x8 h3 _ h4=>fun hG3=>nP 1 h4 h3 Q Q Q Q Q<|wi hG3<|c0 Q (fun _=>cJ) fun x9=>eP [44,45] Q Q (fun hG3=>sF Q<|oO oI 1 [] h3 () Q Q Q Q Q Q Q<|rW () [4] hG3 Q)<|fun hG3=>PN oI 1 [] h3 () Q Q Q Q Q Q Q Q Q<|cpc 4 Q Q fun hc1=>aL1 hc1 Q Q Q Q Q Q hG3 fun hG3 h5=>wi hG3<|v9 oI 4 Q Q Q fun x10 h6 _ h7=>fun hG3=>nP 2 h7 h6 Q Q Q Q Q<|PN oI 5 [] h6 () Q Q Q Q Q Q Q Q Q<|wi hG3<|c0 Q (fun h=>JS ((h.o 8 Q).sub (J0 h5.1 h5.2) h5)) fun x11=>cA [8] Q Q) fun x7=>bU [54] Q Q (IM hr3 hF3<|cN Q Q)<|E9 [0] Q)<|CK [] Q)<|cN Q Q
theorem ES{h:aC}{slot:Int}{s1 s2:AC}(h1:bS κ s1 h.Bytes)(h2:bS κ s2 h.Class):V0 Tryz.prog κ 369 (jW h slot) [.g [.h s1 h.Bytes.length,.h s2 h.Class.length],I slot] I:=
 cY tok Tryz.call369 Tryz.func369 Tryz.results369 Q Q<|c0 Q (fun _=>G8) fun x1=>dK 0 1 (oR h x1) [2,5] 28 [0] Q (nO aL [0] Q<|eP [9,10] Q Q (cA [0] Q Q)<|NC Q h2 Q fun x4=>eP [16,17,18] Q Q (cA [0] Q Q)<|NC Q h2 Q fun x5=>c0 Q (fun _=>ER) fun x6=>c0 Q (fun _=>zC) fun x7=>cA [0] Q Q) fun x2=>bU [28] Q Q (cN Q Q)<|NC Q h2 Q fun x3=>cN Q Q
theorem JT{h:aC}{slot:Int}{s1 s2:AC}(h1:bS κ s1 h.Bytes)(h2:bS κ s2 h.Class):V0 Tryz.prog κ 247 (qL h slot) [.g [.h s1 h.Bytes.length,.h s2 h.Class.length],I slot] I:=
 cY tok Tryz.call247 Tryz.func247 Tryz.results247 Q Q<|nO aL [0] Q<|c0 Q (fun h=>ES (h.a h1) (h.a h2)) fun x1=>c0 Q (fun _=>Q0) fun x2=>c0 Q (fun h=>OI (h.a h1)) fun x3=>cN Q Q
theorem KT{h:aC}{l:List Int}{c:Int}{s1 s2:AC}{s3:AC}(h1:bS κ s1 h.Bytes)(h2:bS κ s2 h.Class)(h3:bS κ s3 l):V0 Tryz.prog κ 242 (tR h l c) [.g [.h s1 h.Bytes.length,.h s2 h.Class.length],.h s3 l.length,I c] .b:=
 cY tok Tryz.call242 Tryz.func242 Tryz.results242 Q Q<|K8 7 [1,2,3] [0] Out.brk [] [] Q Q (fun hF1 x2 hr1=>bU [11] Q Q (dK 0 1 (rY x2) [1,2,3,7] 30 [0] Q (nO aL [0] Q<|NC Q h3 Q fun x4=>c0 Q (fun h=>ES (h.a h1) (h.a h2)) fun x5=>eP [21,22] Q Q (cA [0] Q Q)<|NC Q h3 Q fun x6=>c0 Q (fun h=>JT (h.a h1) (h.a h2)) fun x7=>cA [0] Q Q) fun x3=>bU [30] Q Q (IM hr1 hF1<|cN Q Q)<|E9 [0] Q)<|CK [] Q)<|cN Q Q
theorem aCP{w_ c:Int}:V0 Tryz.prog κ 243 (qM w_ c) [I w_,I c] I:=
 cY tok Tryz.call243 Tryz.func243 Tryz.results243 Q Q<|dK 0 0 (tS w_ c) [0,1] 12 [] Q (c0 Q (fun _=>cJ) fun x2=>eP [7,8] Q Q (cA [] Q Q)<|c0 Q (fun _=>cJ) fun x3=>cA [] Q Q) fun x1=>bU [12] Q Q (cN Q Q)<|cN Q Q
theorem aCQ{m:Mem}{s1 s2 s3 s4:AC}(h1:bS κ s1 m.aC.Bytes)(h2:bS κ s2 m.aC.Class)(h3:bS κ s3 m.aB.Global)(h4:bS κ s4 m.aB.aX):V0 Tryz.prog κ 131 (DZ m) [.g [.h s1 m.aC.Bytes.length,.h s2 m.aC.Class.length,.h s3 m.aB.Global.length,.h s4 m.aB.aX.length]] .b:=
 cY tok Tryz.call131 Tryz.func131 Tryz.results131 Q Q<|dK 0 1 (AB m) [1] 14 [0] Q (c0 Q (fun h=>ZS (h.a h1) (h.a h2)) fun x11=>aDW [8,9] Q Q (fun hb6=>cA [0] Q Q) fun hb6=>c0 Q (fun h=>X4 (h.a h3) (h.a h4)) fun x12=>cA [0] Q Q) fun x1=>aDV [14] Q Q (fun hb1=>cN Q Q) fun hb1=>K8 3 [1] [0] Out.brk [] [] Q Q (fun hF2 x3 hr2=>aDV [16] Q Q (fun hb2=>nO aL [0] Q<|IN wH Q h3 Q fun x4 s5 h5=>c0 Q (fun h=>KT (h.a h1) (h.a h2) (h.a h5)) fun x5=>aDV [30] Q Q (fun hb3=>IM hr2 hF2<|cN Q Q) fun hb3=>K8 4 [1,3] [0] Out.brk [1,3] [0] Q Q (fun hF3 x7 hr3=>aDV [32] Q Q (fun hb4=>nO aL [0] Q<|c0 Q (fun _=>aCP) fun x8=>IN wH Q h4 Q fun x9 s6 h6=>c0 Q (fun h=>KT (h.a h1) (h.a h2) (h.a h6)) fun x10=>aDV [48] Q Q (fun hb5=>IM hr3 hF3<|IM hr2 hF2<|cN Q Q) fun hb5=>E9 [0] Q) fun hb4=>CK [0] Q)<|E9 [0] Q) fun hb2=>CK [] Q)<|cN Q Q
theorem OJ{l:List aR}{s1:AC}(h1:bS κ s1 l):VS Tryz.prog κ 134 (wQ l) [.h s1 l.length] [] [] (fun r (y:AC)=>.h y r.length) (fun r y=>[ow y r]):=
 cY tok Tryz.call134 Tryz.func134 Tryz.results134 Q Q<|fun hF=>YN (α:=cT) rF Q Q Q Q fun s2=>wi hF<|ND s2 [0] (fun(p:(List cT)×Int) (s4:AC)=>[(3,.h s4 p.1.length),(4,I p.2)]) [0] [] (fun p s4=>[ow s4 (p.1:List cT)]) id [] (fun(x5:(List cT)) (s5:AC)=>[(3,.h s5 x5.length)]) [] (fun x5 s5=>[ow s5 (x5:List cT)]) Q Q (fun hF1 ⟨x3,x4⟩ s4 hr1=>bU [9] Q Q (IN L9 Q h1 Q fun x6 s6 h2=>fun hG1=>ap 0 rF Q Q Q Q Q Q Q (fun h=>(h.a h2)) Q Q hG1 fun hG1 s7=>wi hG1<|nxW s7 [0] Q)<|bkW s4 [0] Q) fun x5 s5=>mT s5 [0] Q Q
theorem pD{h:Int}:V0 Tryz.prog κ 194 (fI h) [I h] .b:=
 cY tok Tryz.call194 Tryz.func194 Tryz.results194 Q Q<|dK 0 0 rZ [] 2 [] Q (c0 Q (fun _=>cJ) fun x2=>eP [4,5] Q Q (cA [] Q Q)<|cA [] Q Q) fun x1=>cN Q Q
theorem zD{h:Int}:V0 Tryz.prog κ 244 (d9 h) [I h] I:=
 cY tok Tryz.call244 Tryz.func244 Tryz.results244 Q Q<|c0 Q (fun _=>pD) fun x1=>bU [5] Q Q (cN Q Q)<|cN Q Q
theorem X5{l:List aR}{s1:AC}(h1:bS κ s1 l):V0 Tryz.prog κ 132 (DK l) [.h s1 l.length] .b:=
 cY tok Tryz.call132 Tryz.func132 Tryz.results132 Q Q<|c1 Q (fun h=>OJ (h.a h1)) fun x1 s2=>dK 0 0 (vX x1) [3] 16 [0] Q (eP [11,12] Q Q (cA [0] Q Q)<|cA [0] Q Q) fun x2=>bU [16] Q Q (cN Q Q)<|fun hF=>YN (α:=Int) aU Q Q Q Q fun s3=>wi hF<|ND s3 [3] (fun(p:(List Int)×Int) (s5:AC)=>[(4,.h s5 p.1.length),(5,I p.2)]) [1,0] [0] (fun p s5=>[ow s5 (p.1:List Int)]) Out.brk [] (fun(_:Unit) (_:Unit)=>[]) [] (fun _ _=>[]) Q Q (fun hF2 ⟨x5,x6⟩ s5 hr2=>bU [21] Q Q (v9 EB 1 Q Q Q fun x7 h2 _ h3=>fun hG2=>nP 0 h3 h2 Q Q Q Q Q<|wi hG2<|c0 Q (fun _=>zD) fun x8=>jR 0 1 (pB x5 x6 x8) [3,4,5,6] (fun(x9:Bool) (_:Unit)=>[(45,.b x9)]) [0] (fun x9 _=>[ow s2 (x1:List cT)]) Q (eP [31,32] Q Q (fun hG2=>sF Q<|oO EB 2 [] h2 () Q Q Q Q Q Q Q<|rW () [5,0] hG2 Q)<|fun hG2=>nP 0 h3 h2 Q Q Q Q Q<|wi hG2<|c0 Q (fun _=>cJ) fun x10=>eP [39,40,41] Q Q (fun hG2=>sF Q<|oO EB 2 [] h2 () Q Q Q Q Q Q Q<|rW () [5,0] hG2 Q)<|c0 Q (fun h=>JS (h.o 0 Q)) fun x11=>fun hG2=>sF Q<|oO EB 2 [] h2 () Q Q Q Q Q Q Q<|rW () [5,0] hG2 Q) fun x9 _=>bU [45] Q Q (IM hr2 hF2<|cN Q Q)<|fun hG2=>lt1 Q aU Q Q Q Q fun s6=>ap 1 aU Q Q Q Q Q Q Q (fun h=>(h.o 2 Q)) Q Q hG2 fun hG2 s7=>wi hG2<|nxW s7 [1,0] Q)<|CK [] Q) fun() _=>cN Q Q
theorem aCR{z:List Int}{s1:AC}(h1:bS κ s1 z):V0 Tryz.prog κ 133 (zS z) [.h s1 z.length] .b:=
 cY tok Tryz.call133 Tryz.func133 Tryz.results133 Q Q<|K8 3 [0] [] Out.brk [0] [] Q Q (fun hF1 x2 hr1=>bU [7] Q Q (dK 0 0 (AD x2) [0,3] 22 [] Q (NC Q h1 Q fun x4=>eP [14,15] Q Q (NC Q h1 Q fun x5=>c0 Q (fun _=>pD) fun x6=>cA [] Q Q)<|cA [] Q Q) fun x3=>bU [22] Q Q (IM hr1 hF1<|cN Q Q)<|E9 [] Q)<|CK [] Q)<|cN Q Q
theorem ZT{l:aB}{slot:Int}{s1 s2:AC}(h1:bS κ s1 l.Global)(h2:bS κ s2 l.aX):V0 Tryz.prog κ 370 (FC l slot) [.g [.h s1 l.Global.length,.h s2 l.aX.length],I slot] .b:=
 cY tok Tryz.call370 Tryz.func370 Tryz.results370 Q Q<|c1 Q (fun h=>Q1 (h.a h1) (h.a h2)) fun x1 s3=>c0 Q (fun h=>JS (h.o 1 Q)) fun x2=>cN Q Q
theorem X6{m:Mem}{slot:Int}{s1 s2 s3 s4:AC}(h1:bS κ s1 m.aC.Bytes)(h2:bS κ s2 m.aC.Class)(h3:bS κ s3 m.aB.Global)(h4:bS κ s4 m.aB.aX):V0 Tryz.prog κ 246 (CU m slot) [.g [.h s1 m.aC.Bytes.length,.h s2 m.aC.Class.length,.h s3 m.aB.Global.length,.h s4 m.aB.aX.length],I slot] I:=
 cY tok Tryz.call246 Tryz.func246 Tryz.results246 Q Q<|c0 Q (fun h=>ES (h.a h1) (h.a h2)) fun x1=>bU [5,10] Q Q (cN Q Q)<|c0 Q (fun h=>ZT (h.a h3) (h.a h4)) fun x2=>bU [11,15] Q Q (cN Q Q)<|c0 Q (fun h=>JT (h.a h1) (h.a h2)) fun x3=>bU [16,21] Q Q (cN Q Q)<|cN Q Q
theorem R9{h:Int}:V0 Tryz.prog κ 248 (w6 h) [I h] I:=
 cY tok Tryz.call248 Tryz.func248 Tryz.results248 Q Q<|c0 Q (fun _=>pD) fun x1=>bU [5] Q Q (cN Q Q)<|cN Q Q
theorem X7{m:Mem}{h:Int}{s1 s2 s3 s4:AC}(h1:bS κ s1 m.aC.Bytes)(h2:bS κ s2 m.aC.Class)(h3:bS κ s3 m.aB.Global)(h4:bS κ s4 m.aB.aX):V0 Tryz.prog κ 135 (r9 m h) [.g [.h s1 m.aC.Bytes.length,.h s2 m.aC.Class.length,.h s3 m.aB.Global.length,.h s4 m.aB.aX.length],I h] .b:=
 cY tok Tryz.call135 Tryz.func135 Tryz.results135 Q Q<|dK 0 1 oS [] 4 [] Q (nO aL [0] Q<|c0 Q (fun _=>pD) fun x2=>eP [6,7] Q Q (c0 Q (fun _=>zD) fun x3=>c0 Q (fun h=>X6 (h.a h1) (h.a h2) (h.a h3) (h.a h4)) fun x4=>eP [12,13,14] Q Q (c0 Q (fun _=>zD) fun x5=>c0 Q (fun h=>JT (h.a h1) (h.a h2)) fun x6=>c0 Q (fun _=>R9) fun x7=>cA [] Q Q)<|cA [] Q Q)<|cA [] Q Q) fun x1=>cN Q Q
theorem ZU{b:aA}{s1 s2 s3 s4 s5 s6 s7:AC}(h1:bS κ s1 b.Mem.aC.Bytes)(h2:bS κ s2 b.Mem.aC.Class)(h3:bS κ s3 b.Mem.aB.Global)(h4:bS κ s4 b.Mem.aB.aX)(h5:bS κ s5 b.aD.aQ)(h6:bS κ s6 b.aJ)(h7:bS κ s7 b.dI):V0 Tryz.prog κ 43 (FW b) [.g [.h s1 b.Mem.aC.Bytes.length,.h s2 b.Mem.aC.Class.length,.h s3 b.Mem.aB.Global.length,.h s4 b.Mem.aB.aX.length,I b.aD.aG,.h s5 b.aD.aQ.length,.h s6 b.aJ.length,.h s7 b.dI.length]] .b:=
 cY tok Tryz.call43 Tryz.func43 Tryz.results43 Q Q<|dK 0 1 (nH b) [1] 26 [0] Q (c0 Q (fun h=>aCQ (h.a h1) (h.a h2) (h.a h3) (h.a h4)) fun x8=>eP [8,9] Q Q (cA [0] Q Q)<|c0 Q (fun h=>M1 (h.a h5)) fun x9=>eP [13,14,15] Q Q (cA [0] Q Q)<|c0 Q (fun h=>X5 (h.a h6)) fun x10=>eP [19,20,21] Q Q (cA [0] Q Q)<|c0 Q (fun h=>aCR (h.a h7)) fun x11=>cA [0] Q Q) fun x1=>bU [26] Q Q (cN Q Q)<|c1 Q (fun h=>OJ (h.a h6)) fun x2 s8=>K8 4 [1,3] [1,0] Out.brk [] [] Q Q (fun hF2 x4 hr2=>bU [33] Q Q (dK 0 1 (y8 x4) [1,3,4] 55 [0,1] Q (nO aL [1] Q<|v9 EB 0 Q Q Q fun x6 h8 _ h9=>fun hG2=>nP 1 h9 h8 Q Q Q Q Q<|wi hG2<|c0 Q (fun h=>X7 (h.a h1) (h.a h2) (h.a h3) (h.a h4)) fun x7=>eP [44,45] Q Q (fun hG2=>sF Q<|oO EB 2 [] h8 () Q Q Q Q Q Q Q<|rW () [5,1] hG2 Q)<|fun hG2=>nP 1 h9 h8 Q Q Q Q Q<|sF Q<|oO EB 2 [] h8 () Q Q Q Q Q Q Q<|rW () [5,1] hG2 Q) fun x5=>bU [55] Q Q (IM hr2 hF2<|cN Q Q)<|E9 [0,1] Q)<|CK [] Q)<|cN Q Q
theorem g7{h:Int}:V0 Tryz.prog κ 102 (gD h) [I h] .b:=
 cY tok Tryz.call102 Tryz.func102 Tryz.results102 Q Q<|dK 0 0 vY [] 2 [] Q (eP [4,5] Q Q (cA [] Q Q)<|c0 Q (fun _=>pD) fun x2=>cA [] Q Q) fun x1=>cN Q Q
theorem X8{s:aE}{s1 s2 s3 s4 s5 s6 s7 s8 s9 s10 s11:AC}(h1:bS κ s1 s.aA.Mem.aC.Bytes)(h2:bS κ s2 s.aA.Mem.aC.Class)(h3:bS κ s3 s.aA.Mem.aB.Global)(h4:bS κ s4 s.aA.Mem.aB.aX)(h5:bS κ s5 s.aA.aD.aQ)(h6:bS κ s6 s.aA.aJ)(h7:bS κ s7 s.aA.dI)(h8:bS κ s8 s.Cells)(h9:bS κ s9 s.aM)(h10:bS κ s10 s.bL)(h11:bS κ s11 s.Log):V0 Tryz.prog κ 23 (y9 s) [.g [.h s1 s.aA.Mem.aC.Bytes.length,.h s2 s.aA.Mem.aC.Class.length,.h s3 s.aA.Mem.aB.Global.length,.h s4 s.aA.Mem.aB.aX.length,I s.aA.aD.aG,.h s5 s.aA.aD.aQ.length,.h s6 s.aA.aJ.length,.h s7 s.aA.dI.length,.h s8 s.Cells.length,.h s9 s.aM.length,.h s10 s.bL.length,.h s11 s.Log.length,I s.aN]] .b:=
 cY tok Tryz.call23 Tryz.func23 Tryz.results23 Q Q<|dK 0 1 (jN s) [1] 33 [0] Q (c0 Q (fun h=>ZU (h.a h1) (h.a h2) (h.a h3) (h.a h4) (h.a h5) (h.a h6) (h.a h7)) fun x20=>eP [9,10] Q Q (cA [0] Q Q)<|eP [14,15,16] Q Q (cA [0] Q Q)<|eP [20,21,22] Q Q (cA [0] Q Q)<|c0 Q (fun h=>MB (h.a h10)) fun x21=>eP [26,27,28] Q Q (cA [0] Q Q)<|c0 Q (fun _=>cJ) fun x22=>cA [0] Q Q) fun x1=>bU [33] Q Q (cN Q Q)<|K8 3 [1] [0] Out.brk [1] [0] Q Q (fun hF2 x3 hr2=>bU [35] Q Q (NC Q h8 Q fun x18=>c0 Q (fun _=>g7) fun x19=>bU [44] Q Q (IM hr2 hF2<|cN Q Q)<|E9 [0] Q)<|CK [0] Q)<|K8 4 [1] [0] Out.brk [] [] Q Q (fun hF3 x5 hr3=>bU [46] Q Q (IN aF2 Q h9 Q fun x6 _ _=>dK 0 3 (dX x5) [1,4] 83 [0] Q (eP [56,57] Q Q (fun hG3=>neS Tryz.eqGuardType74 Tryz.stoodInHeld74 Tryz.underlying74 (X0 9996 x6 (⟨false,(⟨0,0,0,0⟩:dN),0,0,(⟨0,0,0,0,0,0,0,0,0,false⟩:Sub),0,0,0,0⟩:bJ)) Q Q Q Q Q Q<|wi hG3<|eP [60,61,62] Q Q (cA [0] Q Q)<|eP [55,64,65] Q Q (c0 Q (fun _=>MA) fun x8=>eP [69,70,71,72] Q Q (cA [0] Q Q)<|c0 Q (fun _=>g7) fun x9=>eP [76,77,78] Q Q (cA [0] Q Q)<|c0 Q (fun _=>g7) fun x10=>cA [0] Q Q)<|c0 Q (fun _=>g7) fun x11=>eP [76,77,78] Q Q (cA [0] Q Q)<|c0 Q (fun _=>g7) fun x12=>cA [0] Q Q)<|eP [55,64,65] Q Q (c0 Q (fun _=>MA) fun x13=>eP [69,70,71,72] Q Q (cA [0] Q Q)<|c0 Q (fun _=>g7) fun x14=>eP [76,77,78] Q Q (cA [0] Q Q)<|c0 Q (fun _=>g7) fun x15=>cA [0] Q Q)<|c0 Q (fun _=>g7) fun x16=>eP [76,77,78] Q Q (cA [0] Q Q)<|c0 Q (fun _=>g7) fun x17=>cA [0] Q Q) fun x7=>bU [83] Q Q (IM hr3 hF3<|cN Q Q)<|E9 [0] Q)<|CK [] Q)<|cN Q Q
theorem JU{s:List bJ}{f:(bJ→Option Bool)}{s1:AC}{g_f:FuncId}{cap_f:List Value}(h1:bS κ s1 s)(h_f:VV Tryz.prog κ (aF2:G9 bJ) .b g_f cap_f f):V0 Tryz.prog κ 206 (rP s f) [.h s1 s.length,.k (.func (.func g_f) #[] cap_f.toArray)] I:=
 cY tok Tryz.call206 Tryz.func206 Tryz.results206 Q Q<|K8 8 [0,1,7] [] Out.brk [] [] Q Q (fun hF1 x2 hr1=>bU [9] Q Q (IN aF2 Q h1 Q fun x3 _ _=>fun hG1=>fa1 h_f x3 () Q Q Q Q Q trivial hG1 fun x4 _ hG1=>wi hG1<|bU [16] Q Q (IM hr1 hF1<|cN Q Q)<|E9 [] Q)<|CK [] Q)<|cN Q Q
theorem E0{s:List bJ}{f:(bJ→Option Bool)}{s1:AC}{g_f:FuncId}{cap_f:List Value}(h1:bS κ s1 s)(h_f:VV Tryz.prog κ (aF2:G9 bJ) .b g_f cap_f f):V0 Tryz.prog κ 111 (jD s f) [.h s1 s.length,.k (.func (.func g_f) #[] cap_f.toArray)] .b:=
 cY tok Tryz.call111 Tryz.func111 Tryz.results111 Q Q<|c0 Q (fun h=>JU (h.a h1) (h.u1 h_f)) fun x1=>cN Q Q
theorem SA{h:Int}:V0 Tryz.prog κ 183 (rQ h) [I h] .b:=
 cY tok Tryz.call183 Tryz.func183 Tryz.results183 Q Q<|c0 Q (fun _=>AY) fun x1=>cN Q Q
theorem aCS{j:bJ}:V0 Tryz.prog κ 186 (JN j) [.g [.b j.kU,I j.Op.Kind,I j.Op.Cell,I j.Op.fT,I j.Op.fG,I j.aN,I j.Pc,I j.Sub.Kind,I j.Sub.A,I j.Sub.Pc,I j.Sub.E,I j.Sub.Row,I j.Sub.B,I j.Sub.H,I j.Sub.Out,I j.Sub.Code,.b j.Sub.dB,I j.H,I j.Old,I j.fG,I j.Code]] .b:=
 cY tok Tryz.call186 Tryz.func186 Tryz.results186 Q Q<|bU [5] Q Q (fun hF=>eqS Tryz.eqGuardType74 Tryz.stoodInHeld74 Tryz.underlying74 (X0 9996 j (⟨false,(⟨0,0,0,0⟩:dN),0,0,(⟨0,0,0,0,0,0,0,0,0,false⟩:Sub),0,0,0,0⟩:bJ)) Q Q Q Q Q Q<|wi hF<|cN Q Q)<|dK 0 1 uT [] 2 [] Q (c0 Q (fun _=>SL) fun x2=>eP [11,12] Q Q (c0 Q (fun _=>AY) fun x3=>eP [15,16,17] Q Q (c0 Q (fun _=>AY) fun x4=>cA [] Q Q)<|cA [] Q Q)<|cA [] Q Q) fun x1=>cN Q Q
theorem SB{j:bJ}:V0 Tryz.prog κ 185 (zA j) [.g [.b j.kU,I j.Op.Kind,I j.Op.Cell,I j.Op.fT,I j.Op.fG,I j.aN,I j.Pc,I j.Sub.Kind,I j.Sub.A,I j.Sub.Pc,I j.Sub.E,I j.Sub.Row,I j.Sub.B,I j.Sub.H,I j.Sub.Out,I j.Sub.Code,.b j.Sub.dB,I j.H,I j.Old,I j.fG,I j.Code]] .b:=
 cY tok Tryz.call185 Tryz.func185 Tryz.results185 Q Q<|c0 Q (fun _=>aCS) fun x1=>cN Q Q
theorem X9{s:aE}{s1 s2 s3 s4 s5 s6 s7 s8 s9 s10 s11:AC}(h1:bS κ s1 s.aA.Mem.aC.Bytes)(h2:bS κ s2 s.aA.Mem.aC.Class)(h3:bS κ s3 s.aA.Mem.aB.Global)(h4:bS κ s4 s.aA.Mem.aB.aX)(h5:bS κ s5 s.aA.aD.aQ)(h6:bS κ s6 s.aA.aJ)(h7:bS κ s7 s.aA.dI)(h8:bS κ s8 s.Cells)(h9:bS κ s9 s.aM)(h10:bS κ s10 s.bL)(h11:bS κ s11 s.Log):V0 Tryz.prog κ 97 (zB s) [.g [.h s1 s.aA.Mem.aC.Bytes.length,.h s2 s.aA.Mem.aC.Class.length,.h s3 s.aA.Mem.aB.Global.length,.h s4 s.aA.Mem.aB.aX.length,I s.aA.aD.aG,.h s5 s.aA.aD.aQ.length,.h s6 s.aA.aJ.length,.h s7 s.aA.dI.length,.h s8 s.Cells.length,.h s9 s.aM.length,.h s10 s.bL.length,.h s11 s.Log.length,I s.aN]] .b:=
 cY tok Tryz.call97 Tryz.func97 Tryz.results97 Q Q<|dK 0 1 gE [] 2 [] Q (c0 Q (fun h=>GW (h.a h1) (h.a h2) (h.a h3) (h.a h4) (h.a h5) (h.a h6) (h.a h7)) fun x2=>eP [5,6] Q Q (eP [10,11,12] Q Q (eP [16,17,18] Q Q (c0 Q (fun h=>N6 (h.a h10)) fun x3=>eP [21,22,23] Q Q (c0 Q (fun _=>b9) fun x4=>eP [26,27,28] Q Q (c0 Q (fun h=>fU (h.a h8) (aDX Tryz.call183 fun _=>SA)) fun x5=>eP [32,33,34] Q Q (c0 Q (fun h=>E0 (h.a h9) (aDX Tryz.call185 fun _=>SB)) fun x6=>cA [] Q Q)<|cA [] Q Q)<|cA [] Q Q)<|cA [] Q Q)<|cA [] Q Q)<|cA [] Q Q)<|cA [] Q Q) fun x1=>cN Q Q
theorem UK{c:aD}{w_:Int}{s1:AC}(h1:bS κ s1 c.aQ):V0 Tryz.prog κ 51 (A4 c w_) [.g [I c.aG,.h s1 c.aQ.length],I w_] (fun r=>.t [I r.1,.b r.2]):=
 cY tok Tryz.call51 Tryz.func51 Tryz.results51 Q Q<|dK 0 1 (nJ c w_) [1,2] 22 [0] Q (c0 Q (fun h=>nA (h.a h1)) fun x3=>eP [8,9] Q Q (cA [0] Q Q)<|c0 Q (fun _=>eB) fun x4=>eP [12,13,14] Q Q (cA [0] Q Q)<|IN Y4 Q h1 Q fun x5 _ _=>c0 Q (fun _=>BO) fun x6=>cA [0] Q Q) fun x1=>bU [22] Q Q (cN Q Q)<|IN Y4 Q h1 Q fun x2 _ _=>cN Q Q
theorem aCT{s:aE}{s1 s2 s3 s4 s5 s6 s7 s8 s9 s10 s11:AC}(h1:bS κ s1 s.aA.Mem.aC.Bytes)(h2:bS κ s2 s.aA.Mem.aC.Class)(h3:bS κ s3 s.aA.Mem.aB.Global)(h4:bS κ s4 s.aA.Mem.aB.aX)(h5:bS κ s5 s.aA.aD.aQ)(h6:bS κ s6 s.aA.aJ)(h7:bS κ s7 s.aA.dI)(h8:bS κ s8 s.Cells)(h9:bS κ s9 s.aM)(h10:bS κ s10 s.bL)(h11:bS κ s11 s.Log):VS Tryz.prog κ 63 (JO s) [.g [.h s1 s.aA.Mem.aC.Bytes.length,.h s2 s.aA.Mem.aC.Class.length,.h s3 s.aA.Mem.aB.Global.length,.h s4 s.aA.Mem.aB.aX.length,I s.aA.aD.aG,.h s5 s.aA.aD.aQ.length,.h s6 s.aA.aJ.length,.h s7 s.aA.dI.length,.h s8 s.Cells.length,.h s9 s.aM.length,.h s10 s.bL.length,.h s11 s.Log.length,I s.aN]] [] [] (fun r (y:AC)=>.h y r.length) (fun r y=>[ow y r]):=
 cY tok Tryz.call63 Tryz.func63 Tryz.results63 Q Q<|fun hF=>YN (α:=Int) aU Q Q Q Q fun s12=>wi hF<|c0 Q (fun h=>X9 (h.a h1) (h.a h2) (h.a h3) (h.a h4) (h.a h5) (h.a h6) (h.a h7) (h.a h8) (h.a h9) (h.a h10) (h.a h11)) fun x1=>bU [9] Q Q (mT s12 [1] Q Q)<|ND s12 [1,12,13] (fun(p:(List Int)×Int) (s14:AC)=>[(3,.h s14 p.1.length),(14,I p.2)]) [1,0] [0] (fun p s14=>[ow s14 (p.1:List Int)]) id [] (fun(x6:(List Int)) (s15:AC)=>[(3,.h s15 x6.length)]) [] (fun x6 s15=>[ow s15 (x6:List Int)]) Q Q (fun hF1 ⟨x4,x5⟩ s14 hr1=>bU [15] Q Q (jR 2 1 (A5 x5) [1,12,13,14] (fun(x7:(List Int)) (s16:AC)=>[(3,.h s16 x7.length)]) [1] (fun x7 s16=>[ow s16 (x7:List Int)]) Q (IN aF2 Q h9 Q fun x8 _ _=>dK 0 3 (A6 x4 x5) [1,3,4,12,13,14] 31 [0,1] Q (IN Y4 Q h5 Q fun x10 _ _=>eP [26,27] Q Q (cA [0,1] Q Q)<|cA [0,1] Q Q) fun x9=>bU [31] Q Q (fun hG1=>lt1 Q aU Q Q Q Q fun s17=>ap 0 aU Q Q Q Q Q Q Q (fun h=>(h.o 2 Q)) Q Q hG1 fun hG1 s18=>wi hG1<|rT s18 [0,1] Q Q)<|rT s14 [0,1] Q Q) fun x7 s16=>nxW s16 [0,1] Q)<|bkW s14 [0] Q) fun x6 s15=>mT s15 [0] Q Q
theorem aCU{s:aE}{s1 s2 s3 s4 s5 s6 s7 s8 s9 s10 s11:AC}(h1:bS κ s1 s.aA.Mem.aC.Bytes)(h2:bS κ s2 s.aA.Mem.aC.Class)(h3:bS κ s3 s.aA.Mem.aB.Global)(h4:bS κ s4 s.aA.Mem.aB.aX)(h5:bS κ s5 s.aA.aD.aQ)(h6:bS κ s6 s.aA.aJ)(h7:bS κ s7 s.aA.dI)(h8:bS κ s8 s.Cells)(h9:bS κ s9 s.aM)(h10:bS κ s10 s.bL)(h11:bS κ s11 s.Log):VS Tryz.prog κ 65 (JQ s) [.g [.h s1 s.aA.Mem.aC.Bytes.length,.h s2 s.aA.Mem.aC.Class.length,.h s3 s.aA.Mem.aB.Global.length,.h s4 s.aA.Mem.aB.aX.length,I s.aA.aD.aG,.h s5 s.aA.aD.aQ.length,.h s6 s.aA.aJ.length,.h s7 s.aA.dI.length,.h s8 s.Cells.length,.h s9 s.aM.length,.h s10 s.bL.length,.h s11 s.Log.length,I s.aN]] [] [] (fun r (y:AC)=>.h y r.length) (fun r y=>[ow y r]):=
 cY tok Tryz.call65 Tryz.func65 Tryz.results65 Q Q<|fun hF=>YN (α:=Int) aU Q Q Q Q fun s12=>wi hF<|c0 Q (fun h=>X8 (h.a h1) (h.a h2) (h.a h3) (h.a h4) (h.a h5) (h.a h6) (h.a h7) (h.a h8) (h.a h9) (h.a h10) (h.a h11)) fun x1=>ND s12 [1,4] (fun(p:(List Int)×Int) (s14:AC)=>[(3,.h s14 p.1.length),(5,I p.2)]) [1,0] [0] (fun p s14=>[ow s14 (p.1:List Int)]) id [] (fun(x6:(List Int)) (s15:AC)=>[(3,.h s15 x6.length)]) [] (fun x6 s15=>[ow s15 (x6:List Int)]) Q Q (fun hF1 ⟨x4,x5⟩ s14 hr1=>dK 0 1 (uV s x4 x5) [1,3,4,5] 13 [0,1] Q (eP [10,11] Q Q (cA [0,1] Q Q)<|cA [0,1] Q Q) fun x7=>bU [13] Q Q (jR 2 1 (A7 x5) [1,4,5] (fun(x8:(List Int)) (s16:AC)=>[(3,.h s16 x8.length)]) [1] (fun x8 s16=>[ow s16 (x8:List Int)]) Q (dK 0 1 (A8 x4 x5) [1,3,4,5] 32 [0,1] Q (IN Y4 Q h5 Q fun x10 _ _=>eP [23,24] Q Q (IN aF2 Q h9 Q fun x11 _ _=>cA [0,1] Q Q)<|cA [0,1] Q Q) fun x9=>bU [32] Q Q (fun hG1=>lt1 Q aU Q Q Q Q fun s17=>ap 0 aU Q Q Q Q Q Q Q (fun h=>(h.o 2 Q)) Q Q hG1 fun hG1 s18=>wi hG1<|rT s18 [0,1] Q Q)<|rT s14 [0,1] Q Q) fun x8 s16=>nxW s16 [0,1] Q)<|bkW s14 [0] Q) fun x6 s15=>mT s15 [0] Q Q
theorem UL{code:List UInt8}{s1:AC}(h1:bS κ s1 code):V0 Tryz.prog κ 12 (G7 code) [.h s1 code.length] .b:=
 cY tok Tryz.call12 Tryz.func12 Tryz.results12 Q Q<|c0 Q (fun h=>W0 (h.a h1)) fun x1=>bU [10] Q Q (cN Q Q)<|c1 Q (fun h=>BP (h.a h1)) fun x2 s2=>c0 Q (fun h=>QF (h.o 0 Q) (h.o 1 Q)) fun x3=>bU [15] Q Q (cN Q Q)<|c1 Q (fun h=>H8 (h.o 0 Q) (h.o 1 Q)) fun x4 s3=>c1 Q (fun h=>aCT (h.o 3 Q) (h.o 4 Q) (h.o 5 Q) (h.o 6 Q) (h.o 7 Q) (h.o 8 Q) (h.o 9 Q) (h.o 10 Q) (h.o 11 Q) (h.o 12 Q) (h.o 13 Q)) fun x5 s4=>ND () [4,5] (fun(p:Int×aE) (_:Unit)=>[(6,I p.1)]) [3,4,5,6,7,8,9,10,11,12,13,14,15] [15] (fun p _=>[ow s3.1 (p.2.aA.Mem.aC.Bytes:List Int),ow s3.2.1 (p.2.aA.Mem.aC.Class:List Int),ow s3.2.2.1 (p.2.aA.Mem.aB.Global:List aH),ow s3.2.2.2.1 (p.2.aA.Mem.aB.aX:List aH),ow s3.2.2.2.2.1 (p.2.aA.aD.aQ:List gR),ow s3.2.2.2.2.2.1 (p.2.aA.aJ:List aR),ow s3.2.2.2.2.2.2.1 (p.2.aA.dI:List Int),ow s3.2.2.2.2.2.2.2.1 (p.2.Cells:List Int),ow s3.2.2.2.2.2.2.2.2.1 (p.2.aM:List bJ),ow s3.2.2.2.2.2.2.2.2.2.1 (p.2.bL:List Queue),ow s3.2.2.2.2.2.2.2.2.2.2 (p.2.Log:List Ev),.box 1 [.h s3.1 p.2.aA.Mem.aC.Bytes.length,.h s3.2.1 p.2.aA.Mem.aC.Class.length,.h s3.2.2.1 p.2.aA.Mem.aB.Global.length,.h s3.2.2.2.1 p.2.aA.Mem.aB.aX.length,I p.2.aA.aD.aG,.h s3.2.2.2.2.1 p.2.aA.aD.aQ.length,.h s3.2.2.2.2.2.1 p.2.aA.aJ.length,.h s3.2.2.2.2.2.2.1 p.2.aA.dI.length,.h s3.2.2.2.2.2.2.2.1 p.2.Cells.length,.h s3.2.2.2.2.2.2.2.2.1 p.2.aM.length,.h s3.2.2.2.2.2.2.2.2.2.1 p.2.bL.length,.h s3.2.2.2.2.2.2.2.2.2.2 p.2.Log.length,I p.2.aN]]) Out.brk [4,5] (fun(x10:aE) (_:Unit)=>[]) [15] (fun x10 _=>[ow s3.1 (x10.aA.Mem.aC.Bytes:List Int),ow s3.2.1 (x10.aA.Mem.aC.Class:List Int),ow s3.2.2.1 (x10.aA.Mem.aB.Global:List aH),ow s3.2.2.2.1 (x10.aA.Mem.aB.aX:List aH),ow s3.2.2.2.2.1 (x10.aA.aD.aQ:List gR),ow s3.2.2.2.2.2.1 (x10.aA.aJ:List aR),ow s3.2.2.2.2.2.2.1 (x10.aA.dI:List Int),ow s3.2.2.2.2.2.2.2.1 (x10.Cells:List Int),ow s3.2.2.2.2.2.2.2.2.1 (x10.aM:List bJ),ow s3.2.2.2.2.2.2.2.2.2.1 (x10.bL:List Queue),ow s3.2.2.2.2.2.2.2.2.2.2 (x10.Log:List Ev),.box 1 [.h s3.1 x10.aA.Mem.aC.Bytes.length,.h s3.2.1 x10.aA.Mem.aC.Class.length,.h s3.2.2.1 x10.aA.Mem.aB.Global.length,.h s3.2.2.2.1 x10.aA.Mem.aB.aX.length,I x10.aA.aD.aG,.h s3.2.2.2.2.1 x10.aA.aD.aQ.length,.h s3.2.2.2.2.2.1 x10.aA.aJ.length,.h s3.2.2.2.2.2.2.1 x10.aA.dI.length,.h s3.2.2.2.2.2.2.2.1 x10.Cells.length,.h s3.2.2.2.2.2.2.2.2.1 x10.aM.length,.h s3.2.2.2.2.2.2.2.2.2.1 x10.bL.length,.h s3.2.2.2.2.2.2.2.2.2.2 x10.Log.length,I x10.aN]]) Q Q (fun hF1 ⟨x8,x9⟩ _ hr1=>bU [23] Q Q (nO aL [11] Q<|v9 oI 12 Q Q Q fun x15 h2 _ h3=>fun hG1=>nP 2 h3 h2 Q Q Q Q Q<|wi hG1<|c0 Q (fun h=>UK (h.o 4 Q)) fun x16=>jR 0 3 (fun(p:Bool×aE)=>nL x8 p.1 p.2) [4,5,6] (fun(p:Bool×aE) (_:Unit)=>[(54,.b p.1)]) [] (fun p _=>[ow s4 (x5:List Int),ow s3.1 (p.2.aA.Mem.aC.Bytes:List Int),ow s3.2.1 (p.2.aA.Mem.aC.Class:List Int),ow s3.2.2.1 (p.2.aA.Mem.aB.Global:List aH),ow s3.2.2.2.1 (p.2.aA.Mem.aB.aX:List aH),ow s3.2.2.2.2.1 (p.2.aA.aD.aQ:List gR),ow s3.2.2.2.2.2.1 (p.2.aA.aJ:List aR),ow s3.2.2.2.2.2.2.1 (p.2.aA.dI:List Int),ow s3.2.2.2.2.2.2.2.1 (p.2.Cells:List Int),ow s3.2.2.2.2.2.2.2.2.1 (p.2.aM:List bJ),ow s3.2.2.2.2.2.2.2.2.2.1 (p.2.bL:List Queue),ow s3.2.2.2.2.2.2.2.2.2.2 (p.2.Log:List Ev),.box 1 [.h s3.1 p.2.aA.Mem.aC.Bytes.length,.h s3.2.1 p.2.aA.Mem.aC.Class.length,.h s3.2.2.1 p.2.aA.Mem.aB.Global.length,.h s3.2.2.2.1 p.2.aA.Mem.aB.aX.length,I p.2.aA.aD.aG,.h s3.2.2.2.2.1 p.2.aA.aD.aQ.length,.h s3.2.2.2.2.2.1 p.2.aA.aJ.length,.h s3.2.2.2.2.2.2.1 p.2.aA.dI.length,.h s3.2.2.2.2.2.2.2.1 p.2.Cells.length,.h s3.2.2.2.2.2.2.2.2.1 p.2.aM.length,.h s3.2.2.2.2.2.2.2.2.2.1 p.2.bL.length,.h s3.2.2.2.2.2.2.2.2.2.2 p.2.Log.length,I p.2.aN]]) Q (eP [8,36,37,38] Q Q (eP [44,45] Q Q (fun hG1=>sF Q<|oO oI 13 [] h2 () Q Q Q Q Q Q Q<|rW (p:=(true,x9)) () [16,0,1,2,3,4,5,6,7,8,9,10,11] hG1 Q)<|fun hG1=>sF Q<|oO oI 13 [] h2 () Q Q Q Q Q Q Q<|rW (p:=(decide ((aZ (x16.1+1)) < x9.aA.aD.aG),x9)) () [16,0,1,2,3,4,5,6,7,8,9,10,11] hG1 Q)<|fun hG1=>sF Q<|oO oI 13 [] h2 () Q Q Q Q Q Q Q<|rW (p:=(false,x9)) () [16,0,1,2,3,4,5,6,7,8,9,10,11] hG1 Q) fun⟨x17,x18⟩ _=>bU [54] Q Q (IM hr1 hF1<|cN Q Q)<|E9 [1,2,3,4,5,6,7,8,9,10,11,12,0] Q)<|CK [0,1,2,3,4,5,6,7,8,9,10,11,12] Q) fun x10 _=>dK 0 2 nK [] 2 [] Q (c0 Q (fun h=>M1 (h.o 4 Q)) fun x12=>eP [58,59] Q Q (eP [63,64,65] Q Q (c1 Q (fun h=>aCU (h.o 0 Q) (h.o 1 Q) (h.o 2 Q) (h.o 3 Q) (h.o 4 Q) (h.o 5 Q) (h.o 6 Q) (h.o 7 Q) (h.o 8 Q) (h.o 9 Q) (h.o 10 Q)) fun x13 s5=>c0 Q (fun h=>KI (h.o 12 Q) (h.o 13 Q)) fun x14=>cA [] Q Q)<|cA [] Q Q)<|cA [] Q Q) fun x11=>cN Q Q
end
end Go.Proofs.YtbdmodalljibjaaGreat
end
noncomputable section
set_option linter.unusedVariables false
set_option linter.unusedSimpArgs false
namespace Go.Gv
theorem map_take{α β:Type}(f:α→β){l:List α}{k:Nat}(h:k < l.length):(l.take (k+1)).map f=(l.take k).map f ++ [f l[k]]:=by
  rw [List.take_succ_eq_append_getElem h,List.map_append];rfl
end Go.Gv
end
noncomputable section
set_option linter.unusedVariables false
set_option linter.unusedSimpArgs false
set_option linter.unusedSectionVars false
namespace Go.Gv
def rowAt(l:List cT)(k:Nat):cT:=l.getD k ⟨0,0⟩
theorem NJ{l:List cT}{k:Nat}(h:k < l.length):rowAt l k=l[k]:=by
  unfold rowAt;rw [List.getD_eq_getElem?_getD,List.getElem?_eq_getElem h];rfl
theorem UM{l:List aR}(h:(bE l).length≤1073741824)(hl:l.length≤maxLen):DK l=some (decide (nF l)):=by
  unfold DK vX
  rw [EI h hl]
  simp only [Option.bind_some]
  by_cases h3:l.length=3
  · have n1:((l.length:Int) != 3)=false:=by simp;omega
    simp only [n1,Bool.false_eq_true,if_false]
    by_cases h24:(bE l).length≤24
    · rw [if_neg (by simp;omega)]
      have hst:∀k,k < (bE l).length→pC (bE l) (((bE l).take k).map iY,(k:Int))=if uQ (rowAt (bE l) k)∧iY (rowAt (bE l) k)∉((bE l).take k).map iY then some (.next (((bE l).take (k+1)).map iY,((k+1:Nat):Int))) else some (.stop (Out.ret false)):=by
        intro k hk
        simp only [pC,pB]
        rw [if_pos (by simp;omega),aT hk,NJ hk]
        simp only [Option.bind_some,cM,bQ]
        by_cases q:kA (bE l)[k].Handle
        · have hm:=q.mod
          rw [if_pos q,if_neg (by simp;omega)]
          by_cases q2:0≤(bE l)[k].aG∧(bE l)[k].aG≤100000
          · rw [decide_eq_true q2]
            simp only [Bool.not_true,Bool.false_eq_true,if_false]
            rw [GY (by simp [maxLen];omega)]
            simp only [Option.bind_some]
            by_cases q3:(bE l)[k].Handle % 32∈((bE l).take k).map iY
            · rw [decide_eq_true q3];simp only [if_true];rw [if_neg (show ¬(uQ (bE l)[k]∧iY (bE l)[k]∉((bE l).take k).map iY) from fun x=>x.2 q3)]
            · rw [decide_eq_false q3]
              simp only [Bool.false_eq_true,if_false]
              rw [if_pos (show uQ (bE l)[k]∧iY (bE l)[k]∉((bE l).take k).map iY from ⟨⟨q,q2⟩,q3⟩),aO (by simp;omega),aK (by omega) (by omega),map_take _ hk];rfl
          · rw [decide_eq_false q2]
            simp only [Bool.not_false,if_true]
            rw [if_neg (fun x:uQ _∧_=>q2 x.1.2)]
        · rw [if_neg q,if_pos (by simp),if_neg (fun x:uQ _∧_=>q x.1.1)];rfl
      have key:=rL (f:=pC (bE l)) (bE l).length (fun k=>(((bE l).take k).map iY,(k:Int))) (fun k=>uQ (rowAt (bE l) k)∧iY (rowAt (bE l) k)∉((bE l).take k).map iY) (Out.brk ()) (Out.ret false) (fun k hk hx=>by rw [hst k hk,if_pos hx]) (fun k hk hx=>by rw [hst k hk,if_neg hx]) (by simp [pC])
      rw [List.take_zero,List.map_nil,show((0:Nat):Int)=0 from rfl] at key
      rw [key]
      have hiff:nF l↔∀k,k < (bE l).length→uQ (rowAt (bE l) k)∧iY (rowAt (bE l) k)∉((bE l).take k).map iY:=by
        constructor
        · rintro⟨_,_,q1,q2⟩ k hk
          rw [NJ hk]
          refine⟨q1 _ (List.getElem_mem hk),?_⟩
          have:=(JG _).1 q2 k (by simpa using hk)
          rw [List.getElem_map,←List.map_take] at this
          exact this
        · intro q
          refine⟨h3,h24,fun x hx=>?_,(JG _).2 fun k hk=>?_⟩
          · obtain⟨k,hk,rfl⟩:=List.mem_iff_getElem.1 hx
            have:=(q k hk).1;rw [NJ hk] at this;exact this
          · have hk':k < (bE l).length:=by simpa using hk
            have:=(q k hk').2;rw [NJ hk'] at this
            rw [List.getElem_map,←List.map_take];exact this
      by_cases q:nF l
      · rw [if_pos (hiff.1 q),decide_eq_true q];rfl
      · rw [if_neg (fun x=>q (hiff.2 x)),decide_eq_false q];rfl
    · rw [if_pos (by simp;omega),decide_eq_false (fun q:nF l=>h24 q.2.1)]
  · have n1:((l.length:Int) != 3)=true:=by simp;omega
    simp only [n1,if_true]
    rw [decide_eq_false (fun q:nF l=>h3 q.1)]
end Go.Gv
end
noncomputable section
set_option linter.unusedVariables false
set_option linter.unusedSimpArgs false
set_option linter.unusedSectionVars false
namespace Go.Gv
noncomputable section
variable {m:Mem} (hsh:d7 m.aC) (hl:(dC m.aB).length≤1073741824) (hg:m.aB.Global.length≤maxLen) (ho:m.aB.aX.length≤maxLen)
include hl hg ho
include hsh
end
noncomputable section
variable {b:aA} (hf:b.Mem.aC.Bytes.length≤maxLen∧(dC b.Mem.aB).length≤1073741824∧b.aD.aQ.length≤maxLen∧b.aJ.length≤maxLen∧(bE b.aJ).length≤1073741824∧b.dI.length≤maxLen)
include hf
theorem YA:FW b=some (decide (l7 b)):=by
  obtain⟨f1,f2,f3,f4,f5,f6⟩:=hf
  unfold FW nH
  rw [GZ f1 f2,fL,UM f5 f4,uR f6]
  by_cases q1:oM b.Mem
  · by_cases q2:FR b.aD
    · by_cases q3:nF b.aJ
      · by_cases q4:EX b.dI
        · have hg:b.Mem.aB.Global.length≤maxLen:=by rw [q1.1.2.1];simp [maxLen]
          have ho:b.Mem.aB.aX.length≤maxLen:=by rw [q1.1.2.2.1];simp [maxLen]
          have hmx:(1073741824:Nat)≤maxLen:=by simp [maxLen]
          simp only [decide_eq_true q1,decide_eq_true q2,decide_eq_true q3,decide_eq_true q4,Option.bind_some,Bool.not_true,Bool.false_eq_true,if_false]
          rw [EI f5 f4]
          simp only [Option.bind_some]
          have hst:∀k (hk:k < (bE b.aJ).length),rO b (bE b.aJ) (k:Int)=if sZ b (bE b.aJ)[k] then some (.next ((k+1:Nat):Int)) else some (.stop (Out.ret false)):=by
            intro k hk
            simp only [rO,y8]
            rw [if_pos (by simp;omega),aT hk,gQ (show k < maxLen by omega)]
            generalize (bE b.aJ)[k]=r
            simp only [Option.bind_some,o9 q1.1.1.1 f2 hg ho]
            by_cases a1:nG b.Mem r.Handle
            · rw [decide_eq_true a1]
              simp only [Bool.not_true,Bool.false_eq_true,if_false]
              by_cases a2:r.aG≤b.aD.aG
              · rw [if_neg (by simp;omega),if_pos ⟨a1,a2⟩]
              · rw [if_pos (by simp;omega),if_neg (fun x=>a2 x.2)]
            · rw [decide_eq_false a1]
              simp only [Bool.not_false,if_true]
              rw [if_neg (fun x=>a1 x.1)]
          have key:=iJ (f:=rO b (bE b.aJ)) (bE b.aJ) (fun k=>(k:Int)) (sZ b) (Out.brk ()) (Out.ret false) (fun k hk hx=>by rw [hst k hk,if_pos hx]) (fun k hk hx=>by rw [hst k hk,if_neg hx]) (by simp [rO])
          rw [show((0:Nat):Int)=0 from rfl] at key
          rw [key]
          by_cases q:∀r∈bE b.aJ,sZ b r
          · rw [if_pos q,decide_eq_true (show l7 b from ⟨⟨q1,q2,q3,q4⟩,q⟩)];rfl
          · rw [if_neg q,decide_eq_false (fun x:l7 b=>q x.2)];rfl
        · rw [decide_eq_false (fun x:l7 b=>q4 x.1.2.2.2),decide_eq_true q1,decide_eq_true q2,decide_eq_true q3,decide_eq_false q4];rfl
      · rw [decide_eq_false (fun x:l7 b=>q3 x.1.2.2.1),decide_eq_true q1,decide_eq_true q2,decide_eq_false q3];rfl
    · rw [decide_eq_false (fun x:l7 b=>q2 x.1.2.1),decide_eq_true q1,decide_eq_false q2];rfl
  · rw [decide_eq_false (fun x:l7 b=>q1 x.1.1),decide_eq_false q1];rfl
end
end Go.Gv
end
noncomputable section
set_option linter.unusedVariables false
set_option linter.unusedSimpArgs false
set_option linter.unusedSectionVars false
namespace Go.Gv
theorem aCV{l:List bJ}(hl:l.length≤maxLen)(f:bJ→Bool)(g:bJ→Option Bool)(hg:∀x∈l,g x=some (f x)):jD l g=some (l.any f):=by
  obtain⟨o,e,h⟩:=EJ l f (body:=jC l g) (fun k hk=>by
    simp only [jC]
    rw [if_pos (by simp;omega),aT hk,gQ (mR hk hl)]
    simp only [Option.bind_some,hg _ (List.getElem_mem hk)]) (by simp [jC])
  unfold jD rP
  rw [e]
  cases o with
  | brk u=>simp only at h;simp [nI,wX,h]
  | ret r=>simp only at h;simp [nI,h]
theorem Q2(h:Int):gD h=some (decide (cS h)):=by
  unfold gD vY cS
  rw [dM]
  by_cases q:h=0 <;> simp [q]
theorem JV(h:Int):nR h=some (decide (cS h)):=by
  unfold nR qX cS
  rw [gM]
  by_cases q:h=0 <;> simp [q]
theorem aEX(j:bJ):JN j=some (decide (XN j)):=by
  unfold JN uT
  rw [QO,JV,JV]
  cases hb:j.kU
  · rw [show decide (XN j)=decide (j=QT) from decide_eq_decide.2 (MT hb)];rfl
  · rw [show decide (XN j)=decide (kW j.Op∧cS j.H∧cS j.Old) from decide_eq_decide.2 (y5 hb)]
    by_cases h1:kW j.Op
    · by_cases h2:cS j.H <;> simp [h1,h2]
    · simp [h1]
noncomputable section
variable {s:aE} (hf:s.aA.Mem.aC.Bytes.length≤maxLen∧(dC s.aA.Mem.aB).length≤1073741824∧s.aA.aD.aQ.length≤maxLen∧s.aA.aJ.length≤maxLen∧(bE s.aA.aJ).length≤1073741824∧s.aA.dI.length≤maxLen) (ht:s.bL.length≤maxLen) (hq:∀q∈s.bL,q.gO.length≤maxLen) (hcl:s.Cells.length≤maxLen) (hjl:s.aM.length≤maxLen)
include hf ht
theorem UN:y9 s=some (decide (CD s)):=by
  unfold y9 jN
  rw [YA hf,QP ht,bQ]
  by_cases h1:l7 s.aA
  · by_cases h2:s.Cells.length=2
    · by_cases h3:s.aM.length=3
      · by_cases h4:EZ s.bL
        · by_cases h5:0≤s.aN∧s.aN≤1000000
          · have c2:((s.Cells.length:Int) != 2)=false:=by simp;omega
            have c3:((s.aM.length:Int) != 3)=false:=by simp;omega
            simp only [decide_eq_true h1,decide_eq_true h4,decide_eq_true h5,c2,c3,Option.bind_some,Bool.not_true,Bool.false_eq_true,if_false]
            have k2:loop (lS s) 0=some (if ∀h∈s.Cells,cS h then Out.brk () else Out.ret false):=by
              have hb:∀k (hk:k < s.Cells.length),lS s (k:Int)=if cS s.Cells[k] then some (.next ((k+1:Nat):Int)) else some (.stop (Out.ret false)):=fun k hk=>by
                simp only [lS]
                rw [if_pos (by simp;omega),aT hk,Option.bind_some,Q2,Option.bind_some,aK (by omega) (by omega)]
                by_cases q:cS s.Cells[k] <;> simp [q]
              exact iJ (f:=lS s) s.Cells (fun k=>(k:Int)) cS _ _ (fun k hk hp=>by rw [hb k hk,if_pos hp]) (fun k hk hp=>by rw [hb k hk,if_neg hp]) (by simp [lS,h2])
            have k3:loop (lR s) 0=some (if ∀j∈s.aM,XN j then Out.brk () else Out.ret false):=by
              have hb:∀k (hk:k < s.aM.length),lR s (k:Int)=if XN s.aM[k] then some (.next ((k+1:Nat):Int)) else some (.stop (Out.ret false)):=fun k hk=>by
                simp only [lR]
                rw [if_pos (by simp;omega),aT hk]
                generalize s.aM[k]=j
                simp only [Option.bind_some,dX,QN,Q2,aK (show -9223372036854775808≤(k:Int)+1 by omega) (show(k:Int)+1≤9223372036854775807 by omega)]
                cases hb:j.kU
                · by_cases e:j=QT
                  · have a1:cS j.H:=by rw [e];exact .inl rfl
                    have a2:cS j.Old:=by rw [e];exact .inl rfl
                    have e':j=(⟨false,(⟨0,0,0,0⟩:dN),0,0,(⟨0,0,0,0,0,0,0,0,0,false⟩:Sub),0,0,0,0⟩:bJ):=e
                    simp only [Bool.not_false,if_true,decide_eq_true e',Bool.not_true,Bool.false_eq_true,if_false,decide_eq_true a1,decide_eq_true a2,if_pos ((MT hb).2 e)];rfl
                  · have e':¬j=(⟨false,(⟨0,0,0,0⟩:dN),0,0,(⟨0,0,0,0,0,0,0,0,0,false⟩:Sub),0,0,0,0⟩:bJ):=e
                    simp only [Bool.not_false,if_true,decide_eq_false e',Bool.false_eq_true,if_false,if_neg (fun q=>e ((MT hb).1 q))]
                · by_cases a0:kW j.Op
                  · by_cases a1:cS j.H
                    · by_cases a2:cS j.Old <;> simp [a0,a1,a2,y5 hb]
                    · simp [a0,a1,y5 hb]
                  · simp [a0,y5 hb]
              exact iJ (f:=lR s) s.aM (fun k=>(k:Int)) XN _ _ (fun k hk hp=>by rw [hb k hk,if_pos hp]) (fun k hk hp=>by rw [hb k hk,if_neg hp]) (by simp [lR,h3])
            rw [k2]
            by_cases q2:∀h∈s.Cells,cS h
            · rw [if_pos q2]
              simp only [Option.bind_some,KR,KQ]
              rw [k3]
              by_cases q3:∀j∈s.aM,XN j
              · rw [if_pos q3,decide_eq_true (show CD s from ⟨h1,h2,h3,h4,h5,q2,q3⟩)];rfl
              · rw [if_neg q3,decide_eq_false (fun a:CD s=>q3 a.2.2.2.2.2.2)];rfl
            · rw [if_neg q2,decide_eq_false (fun a:CD s=>q2 a.2.2.2.2.2.1)];rfl
          · rw [decide_eq_false (fun a:CD s=>h5 a.2.2.2.2.1)]
            simp [h1,h2,h3,h4,h5]
        · rw [decide_eq_false (fun a:CD s=>h4 a.2.2.2.1)]
          simp [h1,h2,h3,h4]
      · rw [decide_eq_false (fun a:CD s=>h3 a.2.2.1)]
        have c3:((s.aM.length:Int) != 3)=true:=by simp;omega
        simp [h1,h2,h3,c3]
    · rw [decide_eq_false (fun a:CD s=>h2 a.2.1)]
      have c2:((s.Cells.length:Int) != 2)=true:=by simp;omega
      simp [h1,h2,c2]
  · rw [decide_eq_false (fun a:CD s=>h1 a.1)];simp [h1]
include hq hcl hjl
theorem UO:zB s=some (decide (CD s)):=by
  have e1:rQ=fun x=>some (!decide (cS x)):=funext fun x=>by unfold rQ;rw [JV];rfl
  have e2:∀x∈s.aM,zA x=some (!decide (XN x)):=fun x _=>by unfold zA;rw [aEX];rfl
  unfold zB gE
  rw [EL hf,QQ ht hq,dL,show(fun y0=>rQ y0)=fun x=>some (!decide (cS x)) from e1,yX hcl,AZ,aCV hjl _ _ e2,AZ]
  by_cases h1:l7 s.aA
  · by_cases h2:s.Cells.length=2
    · by_cases h3:s.aM.length=3
      · have c2:((s.Cells.length:Int) == 2)=true:=by simp;omega
        have c3:((s.aM.length:Int) == 3)=true:=by simp;omega
        by_cases h4:EZ s.bL
        · by_cases h5:0≤s.aN∧s.aN≤1000000
          · by_cases q2:∀h∈s.Cells,cS h
            · by_cases q3:∀j∈s.aM,XN j
              · rw [decide_eq_true (show CD s from ⟨h1,h2,h3,h4,h5,q2,q3⟩)]
                simp only [decide_eq_true h1,decide_eq_true h4,decide_eq_true h5,decide_eq_true q2,decide_eq_true q3,c2,c3,Option.bind_some,Bool.not_true,Bool.not_false,Bool.false_eq_true,if_false,if_true]
              · rw [decide_eq_false (fun a:CD s=>q3 a.2.2.2.2.2.2)]
                simp only [decide_eq_true h1,decide_eq_true h4,decide_eq_true h5,decide_eq_true q2,decide_eq_false q3,c2,c3,Option.bind_some,Bool.not_true,Bool.not_false,Bool.false_eq_true,if_false,if_true]
            · rw [decide_eq_false (fun a:CD s=>q2 a.2.2.2.2.2.1)]
              simp only [decide_eq_true h1,decide_eq_true h4,decide_eq_true h5,decide_eq_false q2,c2,c3,Option.bind_some,Bool.not_true,Bool.not_false,Bool.false_eq_true,if_false,if_true]
          · rw [decide_eq_false (fun a:CD s=>h5 a.2.2.2.2.1)]
            simp only [decide_eq_true h1,decide_eq_true h4,decide_eq_false h5,c2,c3,Option.bind_some,Bool.false_eq_true,if_false,if_true]
        · rw [decide_eq_false (fun a:CD s=>h4 a.2.2.2.1)]
          simp only [decide_eq_true h1,decide_eq_false h4,c2,c3,Option.bind_some,Bool.false_eq_true,if_false,if_true]
      · rw [decide_eq_false (fun a:CD s=>h3 a.2.2.1)]
        have c2:((s.Cells.length:Int) == 2)=true:=by simp;omega
        have c3:((s.aM.length:Int) == 3)=false:=by simp;omega
        simp only [decide_eq_true h1,c2,c3,Option.bind_some,Bool.false_eq_true,if_false,if_true]
    · rw [decide_eq_false (fun a:CD s=>h2 a.2.1)]
      have c2:((s.Cells.length:Int) == 2)=false:=by simp;omega
      simp only [decide_eq_true h1,c2,Option.bind_some,Bool.false_eq_true,if_false,if_true]
  · rw [decide_eq_false (fun a:CD s=>h1 a.1)];simp only [decide_eq_false h1,Option.bind_some,Bool.false_eq_true,if_false]
end
end Go.Gv
end
noncomputable section
set_option linter.unusedVariables false
set_option linter.unusedSimpArgs false
set_option linter.unusedSectionVars false
namespace Go.Gv
theorem aPG{s:aE}(h:QX s):y9 s=some (decide (CD s)):=UN h.fits (by have:=h.2.2.2.1;simp only [maxLen];omega)
theorem aPH{s:aE}(h:QX s):zB s=some (decide (CD s)):=
  have hM:∀{n:Nat},n≤1048576→n≤maxLen:=fun h=>by simp only [maxLen];omega
  UO h.fits (hM h.2.2.2.1) (fun q hq=>hM (h.2.2.2.2.1 q hq)) (hM h.2.1) (hM h.2.2.1)
theorem aEY{s:aE}(h:CD s)(hl:s.Log.length≤1000000):QX s:=by
  have ht:=h.2.2.2.1
  exact⟨h.1.small,by have:=h.2.1;omega,by have:=h.2.2.1;omega,by have:=ht.1;omega,fun q hq=>by have:=(ht.2 q hq).1;omega,by omega⟩
end Go.Gv
end
noncomputable section
set_option linter.unusedVariables false
set_option linter.unusedSimpArgs false
set_option linter.unusedSectionVars false
namespace Go.Gv
theorem aAX(b:aA)(w:Int)(s:Sub):(f8 b w s).2.Kind=s.Kind:=by
  unfold f8 XP MU QV y6 MY ZJ CE
  simp only [apply_ite Prod.snd,apply_ite Sub.Kind,ite_self]
theorem YB{b:aA}{w:Int}{s:Sub}(h:s.Kind=1∨s.Kind=2∨s.Kind=4):(f8 b w s).1.aD=b.aD:=by
  unfold f8
  rcases h with k | k | k
  · simp only [k,if_true]
    unfold XP MU
    simp only [apply_ite Prod.fst,apply_ite aA.aD,ite_self]
  · simp only [k]
    unfold QV
    simp [apply_ite Prod.fst,apply_ite aA.aD]
  · simp only [k]
    unfold MY
    simp [apply_ite Prod.fst,apply_ite aA.aD]
theorem g9{j:bJ}(h1:j.Op.Kind≠1)(h2:j.Op.Kind≠2∧j.Op.Kind≠5∨j.Pc≠0)(h4:j.Op.Kind≠4∨j.Pc≠0∧(j.Pc=1→j.Sub.Kind=4)):Calm j:=
  ⟨fun q=>by have:=q.2;omega,fun q=>by have:=q.2;omega,fun q=>absurd q h1,fun q p=>by rcases h4 with h | h;exact absurd q h;exact h.2 p⟩
theorem aEZ{j:bJ}(h1:j.Op.Kind=1)(h2:j.Sub.Kind=1∨j.Sub.Kind=2):Calm j:=⟨fun q=>by have:=q.2.1;omega,fun q=>by have:=q.2.1;omega,fun _=>h2,fun q=>by omega⟩
noncomputable section
variable {c:aD} {J:Int→bJ} (h:Ep c J)
include h
variable {w:Int} (hw:0≤w∧w≤2) {j:bJ}
include hw
theorem Ep.still(hn:¬kC (J w))(hj:Calm j):Ep c (upJ J w j):=
  h.step hw rfl (fun _ _ _=>rfl) (hj.ji _ _) (fun _ o1 o2=>by
    obtain⟨a1,a2⟩:=h.2 w hw hn o1 o2
    exact⟨a1,fun e a har _=>a2 e a har⟩) (fun q=>absurd q hj.2.1)
theorem Ep.aQD(hc:FR c)(hn:¬kC (J w))(hj:Calm j):Ep (MW c w).1 (upJ J w j):=by
  unfold MW
  by_cases q:(cC c w).On
  · rw [if_pos q]
    refine h.step hw rfl (fun v hv hvw=>by rw [z6 hc hw hv,if_neg hvw]) (hj.ji _ _) (fun _ o1=>?_) (fun q=>absurd q hj.2.1)
    rw [z6 hc hw hw,if_pos rfl] at o1
    cases o1
  · rw [if_neg q];exact h.still hw hn hj
omit h hw in
theorem aM9(hc:FR c){q:Int}(hq:0≤q∧q≤2)(e:Int):(BU c q e).1.aG=c.aG∧(∀v,0≤v∧v≤2→(cC (BU c q e).1 v).On=(cC c v).On∧(cC (BU c q e).1 v).aG=(cC c v).aG∧((cC (BU c q e).1 v).cR=false→(cC c v).cR=false)) ∧
    ((BU c q e).2=true→(cC (BU c q e).1 q).On=true→(cC (BU c q e).1 q).cR=false→(cC c q).aG=e):=by
  unfold BU
  by_cases k1:(cC c q).On=false∨(cC c q).cR=true∨(cC c q).aG=e
  · rw [if_pos k1]
    refine⟨rfl,fun v hv=>⟨rfl,rfl,id⟩,fun _ o1 o2=>?_⟩
    rcases k1 with k | k | k
    · rw [k] at o1;cases o1
    · rw [k] at o2;cases o2
    · exact k
  · rw [if_neg k1]
    by_cases k2:(cC c q).Seen=2
    · rw [if_pos k2]
      refine⟨rfl,fun v hv=>?_,fun _ _ o2=>?_⟩
      · rw [z6 hc hq hv]
        by_cases z:v=q
        · subst z;rw [if_pos rfl];exact⟨rfl,rfl,fun x=>by cases x⟩
        · rw [if_neg z];exact⟨rfl,rfl,id⟩
      · rw [z6 hc hq hq,if_pos rfl] at o2;cases o2
    · rw [if_neg k2]
      refine⟨rfl,fun v hv=>?_,fun x=>by cases x⟩
      rw [z6 hc hq hv]
      by_cases z:v=q
      · subst z;rw [if_pos rfl];exact⟨rfl,rfl,id⟩
      · rw [if_neg z];exact⟨rfl,rfl,id⟩
theorem Ep.advance{b:aA}(hb:b.aD=c)(hc:FR c)(hj:J w=j)(hA:Adv j){fin:bJ}(hf:Calm fin) :
    Ep (y6 b j.Sub).1.aD (upJ J w (if (y6 b j.Sub).2.dB then fin else {j with Sub:=(y6 b j.Sub).2})):=by
  have hji:=h.1 w hw
  rw [hj] at hji
  have hk4:=hA.2.1
  obtain⟨k,d,hpc⟩:=(hji hA.1).2.2.1 hA
  have nopin:∀s:Sub,¬kC {j with Sub:=s}:=fun s q=>by have:=q.2.1;simp only at this;omega
  have nopw:¬kC (J w):=by rw [hj];exact nopin j.Sub
  have mk:∀(s:Sub) (p:gR) (e:Int),(s.Kind=3∧s.dB=false∧(s.Pc=0∨s.E≤e∧(s.Pc=1∧(0≤s.B∧s.B≤2)∨s.Pc=2∧s.B=3)))→JI e p {j with Sub:=s}:=fun s p e hs _=>⟨fun q=>by simp only at q;omega,fun _ q=>by simp only at q;have:=hA.2.2;omega,fun _=>hs,fun q=>absurd q (nopin s)⟩
  unfold y6
  rw [hb]
  rcases hpc with p0 | ⟨el,⟨p1,B0,B2⟩ | ⟨p2,B3⟩⟩
  · simp only [if_pos p0,d,Bool.false_eq_true,if_false,hb]
    refine h.step hw rfl (fun _ _ _=>rfl) (mk _ _ _ ⟨k,rfl,.inr ⟨Int.le_refl _,.inl ⟨rfl,by simp,by simp⟩⟩⟩) (fun _ o1 o2=>?_) (fun _=>.inr rfl)
    obtain⟨a1,a2⟩:=h.2 w hw nopw o1 o2
    exact⟨a1,fun e a har _=>a2 e a har⟩
  · obtain ⟨le, lv, lq⟩ := aM9 hc (q := j.Sub.B) ⟨B0, B2⟩ j.Sub.E
    simp only [if_neg (show ¬j.Sub.Pc=0 by omega),if_pos p1,if_pos (show 0≤j.Sub.B∧j.Sub.B≤2 from ⟨B0,B2⟩)]
    have others:∀v,0≤v∧v≤2→JI (BU c j.Sub.B j.Sub.E).1.aG (cC (BU c j.Sub.B j.Sub.E).1 v) (J v):=fun v hv=>by
      have:=h.1 v hv
      rw [le]
      intro hbv
      obtain⟨x1,x2,x3,x4⟩:=this hbv
      exact⟨x1,x2,x3,fun q=>by rw [(lv v hv).2.1];exact x4 q⟩
    cases hl:(BU c j.Sub.B j.Sub.E).2
    · simp only [Bool.false_eq_true,if_false,CE,if_true]
      refine⟨fun v hv=>?_,fun p hp hn o1 o2=>?_⟩
      · by_cases q:v=w
        · subst q;rw [y7];exact hf.ji _ _
        · rw [lQ _ _ q];exact others v hv
      · have hn':¬kC (J p):=by
          by_cases q:p=w
          · rw [q];exact nopw
          · rw [lQ _ _ q] at hn;exact hn
        obtain⟨y1,y2,y3⟩:=lv p hp
        rw [y1] at o1
        obtain⟨a1,a2⟩:=h.2 p hp hn' o1 (y3 o2)
        rw [le,y2]
        refine⟨a1,fun e a har=>?_⟩
        by_cases q:a=w
        · subst q;rw [y7];exact fun q=>absurd q hf.2.1
        · rw [lQ _ _ q];exact a2 e a har
    · simp only [if_true,d,Bool.false_eq_true,if_false]
      refine⟨fun v hv=>?_,fun p hp hn o1 o2=>?_⟩
      · by_cases q:v=w
        · subst q
          rw [y7,le]
          refine mk _ _ _ ⟨k,rfl,.inr ⟨el,?_⟩⟩
          by_cases z:j.Sub.B=2
          · exact .inr ⟨by simp only [if_pos z],by simp only;omega⟩
          · exact .inl ⟨by simp only [if_neg z],by simp only;omega,by simp only;omega⟩
        · rw [lQ _ _ q];exact others v hv
      · have hn':¬kC (J p):=by
          by_cases q:p=w
          · rw [q];exact nopw
          · rw [lQ _ _ q] at hn;exact hn
        obtain⟨y1,y2,y3⟩:=lv p hp
        have o1':=o1
        rw [y1] at o1'
        obtain⟨a1,a2⟩:=h.2 p hp hn' o1' (y3 o2)
        rw [le,y2]
        refine⟨a1,fun e a har=>?_⟩
        by_cases q:a=w
        · subst q
          rw [y7]
          intro _ _ hE
          simp only at hE ⊢
          have hB:=a2 e a har (by rw [hj];exact hA) (by rw [hj];omega) (by rw [hj];exact hE)
          rw [hj] at hB
          by_cases z:j.Sub.B=p
          · rw [←z] at o1 o2
            have:=lq hl o1 o2
            rw [z] at this
            omega
          · omega
        · rw [lQ _ _ q];exact a2 e a har
  · simp only [if_neg (show ¬j.Sub.Pc=0 by omega),if_neg (show ¬j.Sub.Pc=1 by omega),if_pos p2,CE,if_true]
    unfold aAP
    by_cases q:c.aG=j.Sub.E∧j.Sub.E≠100000
    · simp only [if_pos q]
      refine⟨fun v hv=>?_,fun p hp hn o1 o2=>?_⟩
      · by_cases z:v=w
        · subst z;rw [y7];exact hf.ji _ _
        · rw [lQ _ _ z]
          intro hbv
          obtain⟨x1,x2,x3,x4⟩:=h.1 v hv hbv
          refine⟨x1,x2,fun q=>?_,fun q=>?_⟩
          · obtain⟨z1,z2,z3⟩:=x3 q
            exact⟨z1,z2,z3.imp id fun z4=>⟨by simp only;omega,z4.2⟩⟩
          · obtain⟨z1,z2,z3⟩:=x4 q
            exact⟨z1,z2,z3.imp id fun z4=>z4.imp (fun z5=>⟨z5.1,z5.2.1,by simp only;omega⟩) id⟩
      · have hn':¬kC (J p):=by
          by_cases z:p=w
          · rw [z];exact nopw
          · rw [lQ _ _ z] at hn;exact hn
        have o1':(cC c p).On=true:=o1
        have o2':(cC c p).cR=false:=o2
        obtain⟨a1,a2⟩:=h.2 p hp hn' o1' o2'
        have hpk:=(XQ hc hp).1.2
        have hne:c.aG≠(cC c p).aG+1:=fun e=>by
          have:=a2 e w hw (by rw [hj];exact hA) (by rw [hj];omega) (by rw [hj];exact q.1.symm)
          rw [hj] at this;omega
        have hep:cC ⟨j.Sub.E+1,c.aQ⟩ p=cC c p:=rfl
        rw [hep]
        refine⟨by simp only;omega,fun e a har hA' hp' hE'=>?_⟩
        exfalso
        by_cases z:a=w
        · subst z;rw [y7] at hA';exact hf.2.1 hA'
        · rw [lQ _ _ z] at hA' hp' hE'
          obtain⟨_,_,z3⟩:=(h.1 a har hA'.1).2.2.1 hA'
          rcases z3 with z3 | z3
          · exact hp' z3
          · simp only at hE';omega
    · simp only [if_neg q]
      exact h.still hw nopw hf
end
end Go.Gv
end
noncomputable section
set_option linter.unusedVariables false
set_option linter.unusedSimpArgs false
set_option linter.unusedSectionVars false
namespace Go.Gv
theorem SC{s:aE}(h3:s.aM.length=3){w v:Int}(hw:0≤w∧w≤2)(hv:0≤v∧v≤2)(b:aA)(c:List Int)(j:bJ)(t:List Queue)(l:List Ev)(n:Int):fW ⟨b,c,s.aM.set w.toNat j,t,l,n⟩ v=upJ (fW s) w j v:=by
  unfold fW upJ
  simp only [List.getD_eq_getElem?_getD,List.getElem?_set]
  by_cases q:v=w
  · subst q;simp [show v.toNat < s.aM.length by omega]
  · rw [if_neg q,if_neg (by omega)]
noncomputable section
variable (s:aE) (w:Int) (j:bJ)
theorem aTK{c:Prop}[Decidable c]{x y:Int}(hx:x=1∨x=2)(hy:y=1∨y=2):(if c then x else y)=1∨(if c then x else y)=2:=by split <;> assumption
theorem aJG(h:j.Sub.Kind=1∨j.Sub.Kind=2):(aEG s w j).b.aD=s.aA.aD∧(aEG s w j).j.Op=j.Op∧((aEG s w j).j.Sub.Kind=1∨(aEG s w j).j.Sub.Kind=2):=by
  have hc:=YB (b:=s.aA) (w:=w) (s:=j.Sub) (by omega)
  have hk:=aAX s.aA w j.Sub
  unfold aEG iE R5
  refine⟨?_,?_,?_⟩
  · simp only [apply_ite JR.b,apply_ite aA.aD,hc,ite_self]
  · simp only [apply_ite JR.j,apply_ite bJ.Op,ite_self]
  · simp only [apply_ite JR.j,apply_ite bJ.Sub,apply_ite Sub.Kind,hk]
    repeat' (first | exact h | exact .inr rfl | apply aTK)
theorem aR1{c:Prop}[Decidable c]{x y:Int}(hx:x≠0)(hy:y≠0):(if c then x else y)≠0:=by split <;> assumption
theorem aJH(h0:j.Pc≠0)(h4:j.Pc≠4):(aCC s w j).b.aD=s.aA.aD∧(aCC s w j).j.Op=j.Op∧(aCC s w j).j.Pc≠0:=by
  unfold aCC R6 iE
  rw [if_neg h0]
  simp only [if_neg h4]
  refine⟨?_,?_,?_⟩
  · simp only [apply_ite JR.b,apply_ite aA.aD,ite_self]
  · simp only [apply_ite JR.j,apply_ite bJ.Op,ite_self]
  · simp only [apply_ite JR.j,apply_ite bJ.Pc]
    repeat' (first | decide | apply aR1)
theorem aJI:(aJD s w j).b.aD=s.aA.aD∧(aJD s w j).j.Op=j.Op:=by
  unfold aJD iE
  exact⟨by simp only [apply_ite JR.b,apply_ite aA.aD,ite_self],by simp only [apply_ite JR.j,apply_ite bJ.Op,ite_self]⟩
theorem aGR:(aAT s w j).b.aD=s.aA.aD∧(aAT s w j).j.Op=j.Op:=by
  unfold aAT R6 iE
  exact⟨by simp only [apply_ite JR.b,apply_ite aA.aD,ite_self],by simp only [apply_ite JR.j,apply_ite bJ.Op,ite_self]⟩
end
noncomputable section
variable {s:aE} (hs:CD s) {w:Int} (hw:0≤w∧w≤2) (h:Ep s.aA.aD (fW s))
include hs hw h
theorem aR2{j:bJ}(hj:fW s w=j)(hb:j.kU=true)(hk:1≤j.Op.Kind∧j.Op.Kind≤7)(hp9:j.Pc≠9):Ep (aM3 s w j).b.aD (upJ (fW s) w (aM3 s w j).j):=by
  have hc:=hs.1.1.2.1
  have hji:=h.1 w hw
  rw [hj] at hji
  obtain⟨i1,i2,i3,i4⟩:=hji hb
  have npw:¬kC j→¬kC (fW s w):=fun q=>by rw [hj];exact q
  unfold aM3
  by_cases k1:j.Op.Kind=1
  · rw [if_pos k1]
    obtain⟨e1,e2,e3⟩:=aJG s w j (i1 k1)
    rw [e1]
    exact h.still hw (npw fun q=>by have:=q.2.1;omega) (aEZ (by rw [e2];exact k1) e3)
  rw [if_neg k1]
  by_cases k2:j.Op.Kind=2
  · rw [if_pos k2]
    by_cases p0:j.Pc=0
    · have hP:kC j:=⟨hb,.inl k2,p0⟩
      obtain⟨k,d,_⟩:=i4 hP
      have es:f8 s.aA w j.Sub=ZJ s.aA w j.Sub:=by unfold f8;simp [k,d]
      have:=h.pin hw (b:=s.aA) rfl hc hj hP (fin:=iE {j with Sub:=(f8 s.aA w j.Sub).2} 1 0) (g9 (by simp only [iE];omega) (.inr (by simp [iE])) (.inl (by simp only [iE];omega)))
      unfold aCC
      rw [if_pos p0]
      simp only [es] at this ⊢
      exact this
    · by_cases p4:j.Pc=4
      · unfold aCC
        simp only [if_neg p0,if_neg (show ¬j.Pc=1 by omega),if_neg (show ¬j.Pc=2 by omega),if_neg (show ¬j.Pc=3 by omega),if_pos p4]
        exact h.aQD hw hc (npw fun q=>p0 q.2.2) (g9 (by simp only [iE];omega) (.inr (by simp [iE])) (.inl (by simp only [iE];omega)))
      · obtain⟨e1,e2,e3⟩:=aJH s w j p0 p4
        rw [e1]
        exact h.still hw (npw fun q=>p0 q.2.2) (g9 (by rw [e2];omega) (.inr e3) (.inl (by rw [e2];omega)))
  rw [if_neg k2]
  by_cases k3:j.Op.Kind=3
  · rw [if_pos k3]
    obtain⟨e1,e2⟩:=aJI s w j
    rw [e1]
    exact h.still hw (npw fun q=>by have:=q.2.1;omega) (g9 (by rw [e2];omega) (.inl (by rw [e2];omega)) (.inl (by rw [e2];omega)))
  rw [if_neg k3]
  by_cases k7:j.Op.Kind=7
  · rw [if_pos k7]
    obtain⟨e1,e2⟩:=aGR s w j
    rw [e1]
    exact h.still hw (npw fun q=>by have:=q.2.1;omega) (g9 (by rw [e2];omega) (.inl (by rw [e2];omega)) (.inl (by rw [e2];omega)))
  rw [if_neg k7]
  unfold aCD
  by_cases k6:j.Op.Kind=6
  · rw [if_pos k6]
    by_cases p0:j.Pc=0
    · rw [if_pos p0]
      exact h.aQD hw hc (npw fun q=>by have:=q.2.1;omega) (g9 (by simp only [iE];omega) (.inr (by simp [iE])) (.inl (by simp only [iE];omega)))
    · rw [if_neg p0]
      exact h.still hw (npw fun q=>p0 q.2.2) (g9 (by simp only [iE];omega) (.inr (by simp [iE])) (.inl (by simp only [iE];omega)))
  rw [if_neg k6]
  by_cases k5:j.Op.Kind=5
  · by_cases p0:j.Pc=0
    · have hP:kC j:=⟨hb,.inr k5,p0⟩
      obtain⟨k,d,_⟩:=i4 hP
      have es:f8 s.aA w j.Sub=ZJ s.aA w j.Sub:=by unfold f8;simp [k,d]
      have:=h.pin hw (b:=s.aA) rfl hc hj hP (fin:=iE {j with Sub:=(f8 s.aA w j.Sub).2} 9 (f8 s.aA w j.Sub).2.Code) (g9 (by simp only [iE];omega) (.inr (by simp [iE])) (.inl (by simp only [iE];omega)))
      rw [if_pos (.inl p0)]
      simp only [es,if_pos k5] at this ⊢
      exact this
    · rw [if_neg (fun q=>q.elim p0 fun q=>q.2 k5)]
      exact h.still hw (npw fun q=>p0 q.2.2) (g9 (by simp only [iE];omega) (.inr (by simp [iE])) (.inl (by simp only [iE];omega)))
  have k4:j.Op.Kind=4:=by omega
  have np:¬kC (fW s w):=npw fun q=>by have:=q.2.1;omega
  by_cases p0:j.Pc=0
  · have hA:Adv j:=⟨hb,k4,p0⟩
    obtain⟨k,d,_⟩:=i3 hA
    have es:f8 s.aA w j.Sub=y6 s.aA j.Sub:=by unfold f8;simp [k,d]
    have:=h.advance hw (b:=s.aA) rfl hc hj hA (fin:=iE {j with Sub:=R5 4 0} 1 0) (g9 (by simp only [iE];omega) (.inr (by simp [iE])) (.inr ⟨by simp [iE],fun _=>rfl⟩))
    rw [if_pos (.inl p0)]
    simp only [es,if_neg k5,if_pos p0] at this ⊢
    exact this
  by_cases p1:j.Pc=1
  · rw [if_pos (.inr ⟨p1,k5⟩)]
    have hk:=i2 k4 p1
    have hcl:=YB (b:=s.aA) (w:=w) (s:=j.Sub) (by omega)
    have hkk:=aAX s.aA w j.Sub
    simp only [hcl,if_neg k5,if_neg p0]
    refine h.still hw np ?_
    split
    · exact g9 (by simp only [iE];omega) (.inr (by simp [iE])) (.inr ⟨by simp [iE],fun q=>by simp [iE] at q⟩)
    · exact g9 (by simp only;omega) (.inr p0) (.inr ⟨p0,fun _=>by simp only [hkk];exact hk⟩)
  · rw [if_neg (fun q=>q.elim p0 fun q=>p1 q.1)]
    exact h.still hw np (g9 (by simp only [iE];omega) (.inr (by simp [iE])) (.inr ⟨by simp [iE],fun q=>by simp [iE] at q⟩))
theorem aPI:Ep (QY s w).aA.aD (fW (QY s w)):=by
  have h3:=hs.2.2.1
  have hjk:XN (fW s w):=by
    have h:=DR hs hw
    rw [eO hw.1 (by omega)] at h
    injection h with h
    rw [←h];exact hs.2.2.2.2.2.2 _ (List.getElem_mem _)
  unfold QY
  cases hb:(fW s w).kU with
  | false =>
    rw [if_pos rfl]
    have np:¬kC (fW s w):=fun q=>by have:=q.1;rw [hb] at this;cases this
    unfold aCE
    cases ho:aAU s.bL w with
    | nil=>exact h
    | cons o r =>
      simp only
      by_cases s0:s.aN=1000000
      · rw [if_pos s0];exact h
      rw [if_neg s0]
      refine Ep.congr ?_ (fun v hv=>SC h3 hw hv _ _ _ _ _ _)
      simp only
      unfold aGK
      by_cases k1:o.Kind=1
      · rw [if_pos k1]
        exact h.still hw np (aEZ k1 (.inl rfl))
      rw [if_neg k1]
      by_cases k2:o.Kind=2∨o.Kind=5
      · rw [if_pos k2]
        cases hon:(cC s.aA.aD w).On
        · simp only [Bool.false_eq_true,if_false]
          refine h.step hw rfl (fun _ _ _=>rfl) (fun _=>⟨fun q=>absurd q k1,fun q=>by simp only at q;omega,fun q=>by have:=q.2.1;simp only at this;omega,fun _=>⟨rfl,rfl,.inl rfl⟩⟩) (fun _ o1=>?_) (fun q=>by have:=q.2.1;simp only at this;omega)
          rw [hon] at o1;cases o1
        · simp only [if_true]
          exact h.still hw np (g9 k1 (.inr (by simp)) (.inl (by simp only;omega)))
      rw [if_neg k2]
      by_cases k4:o.Kind=4
      · rw [if_pos k4]
        refine h.step hw rfl (fun _ _ _=>rfl) (fun _=>⟨fun q=>absurd q k1,fun _ q=>by simp at q,fun _=>⟨rfl,rfl,.inl rfl⟩,fun q=>by have:=q.2.1;simp only at this;omega⟩) (fun _ o1 o2=>?_) (fun _=>.inl rfl)
        obtain⟨a1,a2⟩:=h.2 w hw np o1 o2
        exact⟨a1,fun e a har _=>a2 e a har⟩
      · rw [if_neg k4]
        exact h.still hw np (g9 k1 (.inl (by simp only;omega)) (.inl k4))
  | true =>
    rw [if_neg (by simp)]
    by_cases p9:(fW s w).Pc=9
    · rw [if_pos p9]
      refine Ep.congr ?_ (fun v hv=>SC h3 hw hv _ _ _ _ _ _)
      exact h.still hw (fun q=>by have:=q.2.2;omega) (g9 (by decide) (.inl (by decide)) (.inl (by decide)))
    · rw [if_neg p9]
      refine Ep.congr ?_ (fun v hv=>SC h3 hw hv _ _ _ _ _ _)
      exact aR2 hs hw h rfl hb ((y5 hb).1 hjk).1.1 p9
end
theorem ep0(t:List Queue):Ep (wK t).aA.aD (fW (wK t)):=by
  have hj:∀w:Int,fW (wK t) w=QT:=fun w=>by
    unfold fW wK
    simp only [List.getD_eq_getElem?_getD,List.getElem?_replicate]
    split <;> rfl
  have hp:∀w:Int,cC (wK t).aA.aD w=⟨false,0,false,0⟩:=fun w=>by
    unfold cC wK aEE
    simp only [List.getD_eq_getElem?_getD,List.getElem?_replicate]
    split <;> rfl
  exact⟨fun w _ hb=>by rw [hj] at hb;simp [QT] at hb,fun p _ _ o1=>by rw [hp] at o1;simp at o1⟩
def lD(s:aE):Nat→List Int
  | 0=>[]
  | k+1=>if M0 s k then lD s k ++ [(k:Int)] else lD s k
theorem YC(s:aE)(k:Nat):(lD s k).length≤k:=by
  induction k with
  | zero=>simp [lD]
  | succ k ih=>unfold lD;split <;> (try simp) <;> omega
theorem aGS(s:aE)(n:Nat):∀x∈lD s n,∃k:Nat,k < n∧x=k∧M0 s k:=by
  induction n with
  | zero=>intro x hx;simp [lD] at hx
  | succ n ih =>
    intro x hx
    unfold lD at hx
    split at hx
    · rename_i q
      rcases List.mem_append.1 hx with hx | hx
      · obtain⟨k,a,b,c⟩:=ih x hx;exact⟨k,by omega,b,c⟩
      · exact⟨n,by omega,List.mem_singleton.1 hx,q⟩
    · obtain⟨k,a,b,c⟩:=ih x hx;exact⟨k,by omega,b,c⟩
theorem aNA{s:aE}(hs:CD s)(hl:s.Log.length≤1000000):JO s=some (lD s 3)∧JQ s=some (lD s 3):=by
  have hsm:=aEY hs hl
  have hjx:∀k:Nat,k < 3→idx s.aM (k:Int)=some (fW s k):=fun k hk=>DR hs (by omega)
  have hpx:∀k:Nat,k < 3→idx s.aA.aD.aQ (k:Int)=some (cC s.aA.aD k):=fun k hk=>tB hs.1.1.2.1 (by omega)
  have hcond:∀k:Nat,M0 s k↔((cC s.aA.aD k).On=true∧(!(fW s k).kU)=true):=fun k=>by unfold M0;simp
  have hlen:=YC s
  have ew:∀k:Nat,k < 3→aZ ((k:Int)+1)=((k+1:Nat):Int):=fun k hk=>by rw [aK (by omega) (by omega)];rfl
  have hj3:=hs.2.2.1
  constructor
  · unfold JO
    rw [aPH hsm,decide_eq_true hs,Option.bind_some,if_neg (by simp)]
    have key:loop (uU s) ([],0)=some (lD s 3):=f9 (f:=uU s) 3 (fun k=>(lD s k,(k:Int))) _ (fun k hk=>by
      have hk3:=hlen k
      simp only [uU,A6,A5]
      rw [if_pos (by simp;omega),hjx k hk,hpx k hk]
      simp only [Option.bind_some,ew k hk]
      by_cases q:M0 s k
      · obtain⟨q1,q2⟩:=(hcond k).1 q
        rw [if_pos q1,if_pos q2,aO (by simp;omega)]
        simp only [lD,if_pos q]
      · simp only [lD,if_neg q]
        rw [hcond] at q
        by_cases q1:(cC s.aA.aD k).On=true
        · rw [if_pos q1,if_neg (fun q2=>q ⟨q1,q2⟩)]
        · rw [if_neg q1];rfl) (by simp [uU,hj3])
    rw [key];rfl
  · unfold JQ
    rw [aPG hsm,decide_eq_true hs,Option.bind_some]
    have key:loop (uW s true) ([],0)=some (lD s 3):=f9 (f:=uW s true) 3 (fun k=>(lD s k,(k:Int))) _ (fun k hk=>by
      have hk3:=hlen k
      simp only [uW,uV,A8,A7]
      rw [if_pos (by simp;omega),if_pos trivial,hpx k hk]
      simp only [Option.bind_some,ew k hk]
      by_cases q:M0 s k
      · obtain⟨q1,q2⟩:=(hcond k).1 q
        rw [if_pos q1,hjx k hk,Option.bind_some,if_pos q2,aO (by simp;omega)]
        simp only [lD,if_pos q]
      · simp only [lD,if_neg q]
        rw [hcond] at q
        by_cases q1:(cC s.aA.aD k).On=true
        · rw [if_pos q1,hjx k hk,Option.bind_some,if_neg (fun q2=>q ⟨q1,q2⟩)]
        · rw [if_neg q1];rfl) (by simp [uW,uV])
    rw [key];rfl
theorem aE0{c:aD}(hc:FR c){w:Int}(hw:0≤w∧w≤2):A4 c w=some (if (cC c w).On=true∧(cC c w).cR=false then ((cC c w).aG,true) else (0,false)):=by
  unfold A4 nJ
  rw [lP hc.small.2,decide_eq_true hc,hY,decide_eq_true hw,tB hc hw]
  simp only [Option.bind_some,Bool.not_true,Bool.false_eq_true,if_false,iH,fY]
  cases (cC c w).On <;> cases (cC c w).cR <;> simp
theorem aCW{code:List UInt8}(_:fit code):G7 code=some true:=by
  unfold G7 LX
  rw [Option.bind_some]
  by_cases hcl:1048576 < (code.length:Int)
  · rw [if_pos (by simpa using hcl)]
  rw [if_neg (by simpa using hcl)]
  obtain⟨x,ex,hT,hp⟩:=XU (code:=code) (by omega)
  rw [ex,Option.bind_some,aEJ hT,Option.bind_some]
  by_cases ht:EZ x.bL
  · rw [decide_eq_true ht,if_neg (by simp)]
    obtain⟨s,es,hs,hE,hl⟩:=aQB hT hp (fun s=>Ep s.aA.aD (fW s)) (fun t _ _=>ep0 t) (fun s w hs hw h=>aPI hs hw h) ht
    have hc:=hs.1.1.2.1
    obtain⟨e1,e2⟩:=aNA hs (by omega)
    rw [es,Option.bind_some,e1,Option.bind_some]
    have hlen:=YC s 3
    have key:loop (nM (lD s 3)) (0,s)=some (Out.brk s):=f9 (f:=nM (lD s 3)) (lD s 3).length (fun k=>((k:Int),s)) _ (fun k hk=>by
      obtain⟨v,hv,ev,q1,q2⟩:=aGS s 3 _ (List.getElem_mem hk)
      have hvr:0≤(v:Int)∧(v:Int)≤2:=by omega
      simp only [nM,nL]
      rw [if_pos (by simp;omega),aT hk,Option.bind_some,ev,aE0 hc hvr,Option.bind_some]
      have ew:aZ ((k:Int)+1)=((k+1:Nat):Int):=by rw [aK (by omega) (by omega)];rfl
      by_cases m:(cC s.aA.aD v).cR=false
      · have hpk:=(XQ hc hvr).1
        have hce:=hc.1
        obtain⟨a1,_⟩:=hE.2 v hvr (fun q=>by have:=q.1;rw [q2] at this;cases this) q1 m
        simp only [if_pos (show(cC s.aA.aD v).On=true∧(cC s.aA.aD v).cR=false from ⟨q1,m⟩),if_true]
        rw [if_neg (by simp;omega),aK (x:=(cC s.aA.aD v).aG+1) (by omega) (by omega),if_neg (by simp;omega),ew]
      · simp only [if_neg (show ¬((cC s.aA.aD v).On=true∧(cC s.aA.aD v).cR=false) from fun q=>m q.2),Bool.false_eq_true,if_false,ew]) (by simp [nM])
    rw [show((0:Int),s)=(((0:Nat):Int),s) from rfl] at key
    rw [show((0:Int),s)=(((0:Nat):Int),s) from rfl,key,Option.bind_some]
    simp only [II,IH,fL,decide_eq_true hc,Option.bind_some,if_true,e2,OH (show(lD s 3).length≤1000000000 by omega),nK]
    rw [if_pos (by have:=hs.2.2.1;simp [this])]
  · rw [decide_eq_false ht];rfl
end Go.Gv
end
