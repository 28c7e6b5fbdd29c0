import Derived.Test.YtgboekoingacfaaGreatXLF
import Derived.ProofKit
import Derived.OpenShut
import Derived.ShutString
import Derived.ChangeOld
import Derived.Below
import Derived.Carry
import Derived.Deep.Slices
import Derived.Test.YtgboekoingacfaaGreatProg
set_option linter.unusedVariables false
set_option linter.unusedSimpArgs false
set_option linter.unusedSectionVars false
set_option linter.constructorNameAsVariable false
set_option linter.unnecessarySimpa false
noncomputable section
namespace Go.Gv
noncomputable section
variable {P:Program} {o:Oper} {e:Env} {w w':World} {c:Ctx} {L:List Chunk} {R:List Fact} {x:Operand} {v:Value} {k:IntKind} {i:Int} {t:TypeId}
end
theorem QX{P:Program}{w:World}{t:TypeId}{cs vs:Array Value}{j m:Nat}(ha:∀w,(isAgg t).run P w=.ok true w)(hz:∀w,(sizeOf t).run P w=.ok m w)(hv:cs.extract j (j+m)=vs):(part t cs j).run P w=.ok (.agg vs) w:=by simp [part,ha,hz,hv]
theorem aH7{P:Program}{o:Oper}{e:Env}{w:World}{x y:Operand}{t z':TypeId}{xs ys:Array Value}{fs:Array Field}{b:Bool}(hg:P.eqGuardType P.depth t=false)(hst:P.stoodInHeld t=false)(hu:P.underlying t=some (.struct fs))(hb:∀w,(Op.eqFields 9999 xs ys (match P.underlying t with | some (.struct fs)=>fs | _=>#[]).toList).run P w=.ok b w)(ho:o.op=.binOp .eql t x y z')(hx:ev e x=some (.agg xs))(hy:ev e y=some (.agg ys)):kI P o e w (.bool b) w:=fun _ a hA=>by
  have hf:P.fieldsOf t=fs:=by simp [Program.fieldsOf,hu]
  rw [hu] at hb
  have h1:binOp .eql t (.agg xs) (.agg ys)=(do pure (.bool (←Op.equal t (.agg xs) (.agg ys)))):=rfl
  simp [execOp,ho,hA.eval hx,hA.eval hy,run_eqGuard_agg _ _ _ _ _ _ _ hg,h1,Op.equal,Op.maxDepth,run_equalIn_struct _ _ _ _ _ (by rw [hf];exact hu) hst,hf,hb]
theorem FT{P:Program}{w:World}{d:Nat}{t:TypeId}{xs ys:Array Value}{fs:Array Field}{b:Bool}(hst:P.stoodInHeld t=false)(hu:P.underlying t=some (.struct fs))(hb:(Op.eqFields d xs ys (match P.underlying t with | some (.struct fs)=>fs | _=>#[]).toList).run P w=.ok b w):(Op.equalIn (d+1) t (.agg xs) (.agg ys)).run P w=.ok b w:=by
  have hf:P.fieldsOf t=fs:=by simp [Program.fieldsOf,hu]
  rw [hu] at hb
  rw [run_equalIn_struct _ _ _ _ _ (by rw [hf];exact hu) hst,hf];exact hb
noncomputable section
variable {P:Program} {ops:Array Oper} {N:Act→World→Prop} {X:Nat→Act→World→Prop} {T:Act→World→Prop} {S:World→Prop} {fuel n d i:Nat} {UO:Array Bool} {e:Env} {w w':World} {o:Oper} {v:Value}
end
end Go.Gv
end
noncomputable section
namespace Go.Gv
open Go.ChangeShapes Go.WideShapes Go.ChangeAt Go.RowKit
theorem OE{P:Program}{t:TypeId}(hu:P.underlying t=some .bool):bT P t Bool:=fun h=>by
  obtain⟨b,rfl,_⟩:=DataW.trod_bool hu h
  exact⟨b,rfl,trivial⟩
end Go.Gv
end
noncomputable section
namespace Go.Gv
noncomputable section
variable {P:Program} {T:TT} {hT:LS P T} {n:Nat} {c:Ctx} {B0:Bl} {N:Act→World→Prop} {X:Nat→Act→World→Prop} {Q:Act→World→Prop} {K K':List Fr} {m m':Nat} {e e':SE} {L L':List Ch} {cf cf1 cf2:F9} {o:Oper} {Lv:List Ch} {d:Nat}
noncomputable section
variable {x y:Operand} {t z:TypeId} {k:IntKind} {i j:Int} {α:Type} {A:Option α} {q:α}
theorem eqS{xs ys:List SV}{vx vy:List Value}{fs:Array Field}{b:Bool}(hg:P.eqGuardType P.depth t=false)(hst:P.stoodInHeld t=false)(hu:P.underlying t=some (.struct fs))(hb:∀w,(Op.eqFields 9999 vx.toArray vy.toArray (match P.underlying t with | some (.struct fs)=>fs | _=>#[]).toList).run P w=.ok b w)(hs:opS (wD T n K cf m e L)=some (o,Lv,cf1,cf2,K',m',e',L'))(ho:(o.op,o.dst)=(.binOp .eql t x y z,some d))(hx:(rI e' x).map nbS=some (.g xs))(hy:(rI e' y).map nbS=some (.g ys))(hvx:cV (eQ []) xs=some vx)(hvy:cV (eQ []) ys=some vy)
    (kk:G (.mk P T hT n c B0 N X Q) K' m' ((d,.b b) :: e') L' cf2):G (.mk P T hT n c B0 N X Q) K m e L cf:=
  pu hs (congrArg Prod.snd ho) (fun B a w hA _=>⟨_,rfl,aH7 hg hst hu hb (congrArg Prod.fst ho) (aQT hA hx hvx) (aQT hA hy hvy)⟩) kk
end
end
end Go.Gv
end
noncomputable section
set_option linter.unusedVariables false
namespace Go.Gv
noncomputable section
variable {B B':Bl} {i j:Nat}
end
noncomputable section
variable {n:Nat} {c:Ctx} {B0:Bl} {m:Nat} {e:SE} {L:List Ch}
end
theorem fG{P:Program}{T:TT}{hT:LS P T}{n:Nat}{c:Ctx}{B0:Bl}{N:Act→World→Prop}{X:Nat→Act→World→Prop}{Q:Act→World→Prop}{K:List Fr}{m:Nat}{e e1:SE}{L L1:List Ch}{cf:F9}(h1:aQP e=some e1)(h2:aQQ L=some L1)(k:G (.mk P T hT n c B0 N X Q) K m e1 L1 cf):G (.mk P T hT n c B0 N X Q) K m e L cf:=by
  have:=YC h1
  have:=YD h2
  subst e1;subst L1
  exact k
end Go.Gv
end
noncomputable section
namespace Go.Gv
theorem aQD{S:gI}{w:World}(d:Ev):bC.rd S w [.int .i64 (d.Kind),.int .i64 (d.XZ),.int .i64 (d.aK),.int .i64 (d.Cell),.int .i64 (d.Handle),.int .i64 (d.eY),.int .i64 (d.Code)] d:=⟨[.int .i64 (d.Kind)],[.int .i64 (d.XZ),.int .i64 (d.aK),.int .i64 (d.Cell),.int .i64 (d.Handle),.int .i64 (d.eY),.int .i64 (d.Code)],rfl,rfl,⟨[.int .i64 (d.XZ)],[.int .i64 (d.aK),.int .i64 (d.Cell),.int .i64 (d.Handle),.int .i64 (d.eY),.int .i64 (d.Code)],rfl,rfl,⟨[.int .i64 (d.aK)],[.int .i64 (d.Cell),.int .i64 (d.Handle),.int .i64 (d.eY),.int .i64 (d.Code)],rfl,rfl,⟨[.int .i64 (d.Cell)],[.int .i64 (d.Handle),.int .i64 (d.eY),.int .i64 (d.Code)],rfl,rfl,⟨[.int .i64 (d.Handle)],[.int .i64 (d.eY),.int .i64 (d.Code)],rfl,rfl,⟨[.int .i64 (d.eY)],[.int .i64 (d.Code)],rfl,rfl,rfl⟩⟩⟩⟩⟩⟩
end Go.Gv
end
noncomputable section
set_option linter.unusedVariables false
namespace Go.Gv
noncomputable section
def m3(a_:aC)(left:Int):Option Int:=
  (jF a_.Bytes left).bind fun x1=>(if decide (x1 < 0) then some (-1) else (jF a_.Class x1).bind fun x2=>(if decide (x2 < 0) then some (-1) else some x2))
def lK(a_:aG)(left:Int):Option Int:=
  (jF a_.bB left).bind fun x1=>(if decide (x1 < 0) then some (-1) else some x1)
def oL(x5:Int):Option Int:=
  some x5
def gX(a_:List aG):(Int×Int)→Option (Step (Int×Int) (Out Int Int))
  | (x3,x4)=>(if decide (x4 < (a_.length:Int)) then (idx a_ x4).bind fun x6=>(lK x6 x3).bind fun x7=>(if decide (x7 < 0) then some (.stop (Out.ret (-1))) else some (.next (x7,aI (x4+1)))) else some (.stop (Out.brk x3)))
def oM:(Out Int Int)→Option Int
  | .brk x5=>oL x5
  | .ret r=>some r
def iJ(a_:List aG)(left:Int):Option Int:=
  (if decide ((aI (left - (a_.length:Int))) < 0) then some (-1) else (loop (gX a_) (aI (left - (a_.length:Int)),0)).bind (oM))
def lL(a_:aB)(left:Int):Option Int:=
  (iJ a_.Global left).bind fun x1=>(if decide (x1 < 0) then some (-1) else (iJ a_.bA x1).bind fun x2=>(if decide (x2 < 0) then some (-1) else some x2))
def pO(a_:Mem)(left:Int):Option Int:=
  (m3 a_.aC left).bind fun x1=>(if decide (x1 < 0) then some (-1) else (lL a_.aB x1).bind fun x2=>(if decide (x2 < 0) then some (-1) else some x2))
def m4(a_:List cQ)(left:Int):Option Int:=
  (if decide ((aI (left - (a_.length:Int))) < 0) then some (-1) else some (aI (left - (a_.length:Int))))
def lM(a_:aD)(left:Int):Option Int:=
  (m4 a_.aM left).bind fun x1=>(if decide (x1 < 0) then some (-1) else some x1)
def lN(a_:List bP)(left:Int):Option Int:=
  (if decide ((aI (left - (a_.length:Int))) < 0) then some (-1) else some (aI (left - (a_.length:Int))))
def lO(a_:aP)(left:Int):Option Int:=
  (lN a_.Rows left).bind fun x1=>(if decide (x1 < 0) then some (-1) else some x1)
def oN(x5:Int):Option Int:=
  some x5
def gY(a_:List aP):(Int×Int)→Option (Step (Int×Int) (Out Int Int))
  | (x3,x4)=>(if decide (x4 < (a_.length:Int)) then (idx a_ x4).bind fun x6=>(lO x6 x3).bind fun x7=>(if decide (x7 < 0) then some (.stop (Out.ret (-1))) else some (.next (x7,aI (x4+1)))) else some (.stop (Out.brk x3)))
def oO:(Out Int Int)→Option Int
  | .brk x5=>oN x5
  | .ret r=>some r
def kQ(a_:List aP)(left:Int):Option Int:=
  (if decide ((aI (left - (a_.length:Int))) < 0) then some (-1) else (loop (gY a_) (aI (left - (a_.length:Int)),0)).bind (oO))
def m5(a_:aA)(left:Int):Option Int:=
  (pO a_.Mem left).bind fun x1=>(if decide (x1 < 0) then some (-1) else (lM a_.aD x1).bind fun x2=>(if decide (x2 < 0) then some (-1) else (kQ a_.aH x2).bind fun x3=>(if decide (x3 < 0) then some (-1) else (jF a_.bO x3).bind fun x4=>(if decide (x4 < 0) then some (-1) else some x4))))
def m6(a_:List bG)(left:Int):Option Int:=
  (if decide ((aI (left - (a_.length:Int))) < 0) then some (-1) else some (aI (left - (a_.length:Int))))
def pP(a_:List Ev)(left:Int):Option Int:=
  (if decide ((aI (left - (a_.length:Int))) < 0) then some (-1) else some (aI (left - (a_.length:Int))))
def jJ(a_:aE)(left:Int):Option Int:=
  (m5 a_.aA left).bind fun x1=>(if decide (x1 < 0) then some (-1) else (jF a_.Cells x1).bind fun x2=>(if decide (x2 < 0) then some (-1) else (m6 a_.aR x2).bind fun x3=>(if decide (x3 < 0) then some (-1) else (uJ a_.aU x3).bind fun x4=>(if decide (x4 < 0) then some (-1) else (pP a_.Log x4).bind fun x5=>(if decide (x5 < 0) then some (-1) else some x5)))))
def tM:Option Bool:=
  some true
def dZ(x5:List Int)(x6 x8:Int)(x9:Bool):Option (Step ((List Int)×Int) (Out Unit Bool)):=
  (if x9 then some (.stop (Out.ret false)) else need (x5.length+([x8]).length≤1073741824) (some (.next (x5++([x8]),aI (x6+1)))))
def d6(x1:(List bP)):((List Int)×Int)→Option (Step ((List Int)×Int) (Out Unit Bool))
  | (x5,x6)=>(if decide (x6 < (x1.length:Int)) then (idx x1 x6).bind fun x7=>(kL x7.Handle).bind fun x8=>(if decide (x8 < 0) then dZ x5 x6 x8 true else (dD x7.aJ 0 100000).bind fun x10=>(if !x10 then dZ x5 x6 x8 true else (DQ x5 x8).bind fun x11=>dZ x5 x6 x8 x11)) else some (.stop (Out.brk ())))
def tN:(Out Unit Bool)→Option Bool
  | .brk ()=>tM
  | .ret r=>some r
def eZ(x1:(List bP))(x2:Bool):Option Bool:=
  (if x2 then some false else (loop (d6 x1) (([]:List Int),0)).bind (tN))
def i7(l:List aP):Option Bool:=
  (rK l).bind fun x1=>(if (l.length:Int) != 3 then eZ x1 true else eZ x1 (decide (24 < (x1.length:Int))))
def uY:Option Bool:=
  some true
def gH(x4:Int)(x5:Bool):Option (Step Int (Out Unit Bool)):=
  (if x5 then some (.stop (Out.ret false)) else some (.next (aI (x4+1))))
def eN(b:aA)(x2:(List bP)):Int→Option (Step Int (Out Unit Bool))
  | x4=>(if decide (x4 < (x2.length:Int)) then (idx x2 x4).bind fun x6=>(wZ b.Mem x6.Handle).bind fun x7=>(if !x7 then gH x4 true else gH x4 (decide (b.aD.aJ < x6.aJ))) else some (.stop (Out.brk ())))
def uZ:(Out Unit Bool)→Option Bool
  | .brk ()=>uY
  | .ret r=>some r
def dF(b:aA)(x1:Bool):Option Bool:=
  (if x1 then some false else (rK b.aH).bind fun x2=>(loop (eN b x2) 0).bind (uZ))
def j7(b:aA):Option Bool:=
  (GF b.Mem).bind fun x8=>(if !x8 then dF b true else (tG b.aD).bind fun x9=>(if !x9 then dF b true else (i7 b.aH).bind fun x10=>(if !x10 then dF b true else (DR b.bO).bind fun x11=>dF b (!x11))))
def iQ(x1:Bool):Option Bool:=
  some x1
def cC(h:Int):Option Bool:=
  (if h == 0 then iQ true else (nE h).bind fun x2=>iQ x2)
def zE:Option Bool:=
  some true
def bR(x5:Int)(x7:Bool):Option (Step Int (Out Unit Bool)):=
  (if x7 then some (.stop (Out.ret false)) else some (.next (aI (x5+1))))
def eI(s:aE):Int→Option (Step Int (Out Unit Bool))
  | x5=>(if decide (x5 < 3) then (idx s.aR x5).bind fun x6=>(if !x6.g7 then (if !(decide (x6=(⟨false,(⟨0,0,0,0⟩:cM),0,0,(⟨0,0,0,0,0,0,0,0,0,false⟩:Sub),0,0,0,0⟩:bG))) then bR x5 true else (if x6.g7 then (CN x6.Op).bind fun x8=>(if !x8 then bR x5 true else (cC x6.H).bind fun x9=>(if !x9 then bR x5 true else (cC x6.Old).bind fun x10=>bR x5 (!x10))) else (cC x6.H).bind fun x11=>(if !x11 then bR x5 true else (cC x6.Old).bind fun x12=>bR x5 (!x12)))) else (if x6.g7 then (CN x6.Op).bind fun x13=>(if !x13 then bR x5 true else (cC x6.H).bind fun x14=>(if !x14 then bR x5 true else (cC x6.Old).bind fun x15=>bR x5 (!x15))) else (cC x6.H).bind fun x16=>(if !x16 then bR x5 true else (cC x6.Old).bind fun x17=>bR x5 (!x17)))) else some (.stop (Out.brk ())))
def zF:(Out Unit Bool)→Option Bool
  | .brk ()=>zE
  | .ret r=>some r
def pZ(s:aE):Option Bool:=
  (loop (eI s) 0).bind (zF)
def eJ(s:aE):Int→Option (Step Int (Out Unit Bool))
  | x3=>(if decide (x3 < 2) then (idx s.Cells x3).bind fun x18=>(cC x18).bind fun x19=>(if !x19 then some (.stop (Out.ret false)) else some (.next (aI (x3+1)))) else some (.stop (Out.brk ())))
def p5(s:aE):(Out Unit Bool)→Option Bool
  | .brk ()=>pZ s
  | .ret r=>some r
def dL(s:aE)(x1:Bool):Option Bool:=
  (if x1 then some false else (loop (eJ s) 0).bind (p5 s))
def i9(s:aE):Option Bool:=
  (j7 s.aA).bind fun x20=>(if !x20 then dL s true else (if (s.Cells.length:Int) != 2 then dL s true else (if (s.aR.length:Int) != 3 then dL s true else (w3 s.aU).bind fun x21=>(if !x21 then dL s true else (dD s.aK 0 1000000).bind fun x22=>dL s (!x22)))))
def m7(a_:aC):Option aC:=
  (jG a_.Bytes).bind fun x1=>(jG a_.Class).bind fun x2=>some (⟨x1,x2⟩:aC)
def lP(a_:aG):Option aG:=
  (jG a_.bB).bind fun x1=>some (⟨x1⟩:aG)
def oP(x5:List aG):Option (List aG):=
  some x5
def kG(a_:List aG):((List aG)×Int)→Option (Step ((List aG)×Int) (List aG))
  | (x3,x4)=>(if decide (x4 < (a_.length:Int)) then (idx a_ x4).bind fun x6=>(lP x6).bind fun x7=>(idx x3 x4).bind fun x8=>some (.next (x3.set x4.toNat x7,aI (x4+1))) else some (.stop (x3)))
def oQ:(List aG)→Option (List aG)
  | x5=>oP x5
def iK(a_:List aG):Option (List aG):=
  need (0≤((a_.length:Int):Int)∧((a_.length:Int):Int)≤4294967296) ((loop (kG a_) (List.replicate ((a_.length:Int).toNat) (⟨[]⟩:aG),0)).bind (oQ))
def lQ(a_:aB):Option aB:=
  (iK a_.Global).bind fun x1=>(iK a_.bA).bind fun x2=>some (⟨x1,x2⟩:aB)
def pQ(a_:Mem):Option Mem:=
  (m7 a_.aC).bind fun x1=>(lQ a_.aB).bind fun x2=>some (⟨x1,x2⟩:Mem)
def tX(a_:cQ):Option cQ:=
  some a_
def rP(x5:List cQ):Option (List cQ):=
  some x5
def mD(a_:List cQ):((List cQ)×Int)→Option (Step ((List cQ)×Int) (List cQ))
  | (x3,x4)=>(if decide (x4 < (a_.length:Int)) then (idx a_ x4).bind fun x6=>(tX x6).bind fun x7=>(idx x3 x4).bind fun x8=>some (.next (x3.set x4.toNat x7,aI (x4+1))) else some (.stop (x3)))
def rQ:(List cQ)→Option (List cQ)
  | x5=>rP x5
def m8(a_:List cQ):Option (List cQ):=
  need (0≤((a_.length:Int):Int)∧((a_.length:Int):Int)≤4294967296) ((loop (mD a_) (List.replicate ((a_.length:Int).toNat) (⟨false,0,false,0⟩:cQ),0)).bind (rQ))
def lR(a_:aD):Option aD:=
  (m8 a_.aM).bind fun x1=>some (⟨a_.aJ,x1⟩:aD)
def rR(a_:bP):Option bP:=
  some a_
def p7(x5:List bP):Option (List bP):=
  some x5
def lC(a_:List bP):((List bP)×Int)→Option (Step ((List bP)×Int) (List bP))
  | (x3,x4)=>(if decide (x4 < (a_.length:Int)) then (idx a_ x4).bind fun x6=>(rR x6).bind fun x7=>(idx x3 x4).bind fun x8=>some (.next (x3.set x4.toNat x7,aI (x4+1))) else some (.stop (x3)))
def p8:(List bP)→Option (List bP)
  | x5=>p7 x5
def lS(a_:List bP):Option (List bP):=
  need (0≤((a_.length:Int):Int)∧((a_.length:Int):Int)≤4294967296) ((loop (lC a_) (List.replicate ((a_.length:Int).toNat) (⟨0,0⟩:bP),0)).bind (p8))
def lT(a_:aP):Option aP:=
  (lS a_.Rows).bind fun x1=>some (⟨x1⟩:aP)
def oR(x5:List aP):Option (List aP):=
  some x5
def kH(a_:List aP):((List aP)×Int)→Option (Step ((List aP)×Int) (List aP))
  | (x3,x4)=>(if decide (x4 < (a_.length:Int)) then (idx a_ x4).bind fun x6=>(lT x6).bind fun x7=>(idx x3 x4).bind fun x8=>some (.next (x3.set x4.toNat x7,aI (x4+1))) else some (.stop (x3)))
def oS:(List aP)→Option (List aP)
  | x5=>oR x5
def kR(a_:List aP):Option (List aP):=
  need (0≤((a_.length:Int):Int)∧((a_.length:Int):Int)≤4294967296) ((loop (kH a_) (List.replicate ((a_.length:Int).toNat) (⟨[]⟩:aP),0)).bind (oS))
def m9(a_:aA):Option aA:=
  (pQ a_.Mem).bind fun x1=>(lR a_.aD).bind fun x2=>(kR a_.aH).bind fun x3=>(jG a_.bO).bind fun x4=>some (⟨x1,x2,x3,x4⟩:aA)
def BN(a_:Sub):Option Sub:=
  some a_
def tY(a_:bG):Option bG:=
  (RR a_.Op).bind fun x1=>(BN a_.Sub).bind fun x2=>some ({a_ with Op:=x1,Sub:=x2}:bG)
def rS(x5:List bG):Option (List bG):=
  some x5
def mE(a_:List bG):((List bG)×Int)→Option (Step ((List bG)×Int) (List bG))
  | (x3,x4)=>(if decide (x4 < (a_.length:Int)) then (idx a_ x4).bind fun x6=>(tY x6).bind fun x7=>(idx x3 x4).bind fun x8=>some (.next (x3.set x4.toNat x7,aI (x4+1))) else some (.stop (x3)))
def rT:(List bG)→Option (List bG)
  | x5=>rS x5
def nA(a_:List bG):Option (List bG):=
  need (0≤((a_.length:Int):Int)∧((a_.length:Int):Int)≤4294967296) ((loop (mE a_) (List.replicate ((a_.length:Int).toNat) (⟨false,(⟨0,0,0,0⟩:cM),0,0,(⟨0,0,0,0,0,0,0,0,0,false⟩:Sub),0,0,0,0⟩:bG),0)).bind (rT))
def wQ(a_:Ev):Option Ev:=
  some a_
def sY(x5:List Ev):Option (List Ev):=
  some x5
def nJ(a_:List Ev):((List Ev)×Int)→Option (Step ((List Ev)×Int) (List Ev))
  | (x3,x4)=>(if decide (x4 < (a_.length:Int)) then (idx a_ x4).bind fun x6=>(wQ x6).bind fun x7=>(idx x3 x4).bind fun x8=>some (.next (x3.set x4.toNat x7,aI (x4+1))) else some (.stop (x3)))
def sZ:(List Ev)→Option (List Ev)
  | x5=>sY x5
def pR(a_:List Ev):Option (List Ev):=
  need (0≤((a_.length:Int):Int)∧((a_.length:Int):Int)≤4294967296) ((loop (nJ a_) (List.replicate ((a_.length:Int).toNat) (⟨0,0,0,0,0,0,0⟩:Ev),0)).bind (sZ))
def cD(a_:aE):Option aE:=
  (m9 a_.aA).bind fun x1=>(jG a_.Cells).bind fun x2=>(nA a_.aR).bind fun x3=>(uK a_.aU).bind fun x4=>(pR a_.Log).bind fun x5=>some (⟨x1,x2,x3,x4,x5,a_.aK⟩:aE)
def dV(x1:Bool):Option Bool:=
  some x1
def fA(r_:bP)(k0:aA):Option Bool:=
  (AN k0.Mem r_.Handle).bind fun x2=>(if !x2 then dV true else dV (decide (k0.aD.aJ < r_.aJ)))
def g8(l:aP)(k0:aA):Option Bool:=
  (kO l.Rows (fun y0=>fA y0 k0)).bind fun x1=>some x1
def dI(b:aA)(x1:Bool):Option Bool:=
  (if x1 then some false else (j4 b.aH (fun y0=>g8 y0 b)).bind fun x2=>some (!x2))
def j8(b:aA):Option Bool:=
  (GN b.Mem).bind fun x3=>(if !x3 then dI b true else (tI b.aD).bind fun x4=>(if !x4 then dI b true else (rZ b.aH).bind fun x5=>(if !x5 then dI b true else (DU b.bO).bind fun x6=>dI b (!x6))))
def gQ(h:Int):Option Bool:=
  (kU h).bind fun x1=>some (!x1)
def iY:Option Int:=
  some (-1)
def dJ(s:List bG)(f:(bG→Option Bool)):Int→Option (Step Int (Out Unit Int))
  | x2=>(if decide (x2 < (s.length:Int)) then (idx s x2).bind fun x3=>(f x3).bind fun x4=>(if x4 then some (.stop (Out.ret x2)) else some (.next (aI (x2+1)))) else some (.stop (Out.brk ())))
def eW:(Out Unit Int)→Option Int
  | .brk ()=>iY
  | .ret r=>some r
def gR(s:List bG)(f:(bG→Option Bool)):Option Int:=
  (loop (dJ s f) 0).bind (eW)
def cT(s:List bG)(f:(bG→Option Bool)):Option Bool:=
  (gR s f).bind fun x1=>some (decide (0≤x1))
def iL(x1:Bool):Option Bool:=
  some x1
def pS(j:bG):Option Bool:=
  (if !j.g7 then some (decide (j=(⟨false,(⟨0,0,0,0⟩:cM),0,0,(⟨0,0,0,0,0,0,0,0,0,false⟩:Sub),0,0,0,0⟩:bG))) else (KX j.Op).bind fun x2=>(if x2 then (kU j.H).bind fun x3=>(if x3 then (kU j.Old).bind fun x4=>iL x4 else iL false) else iL false))
def jK(j:bG):Option Bool:=
  (pS j).bind fun x1=>some (!x1)
def cE(x1:Bool):Option Bool:=
  some x1
def jA(s:aE):Option Bool:=
  (j8 s.aA).bind fun x2=>(if x2 then (if (s.Cells.length:Int) == 2 then (if (s.aR.length:Int) == 3 then (AO s.aU).bind fun x3=>(if x3 then (fO s.aK 0 1000000).bind fun x4=>(if x4 then (iW s.Cells (fun y0=>gQ y0)).bind fun x5=>(if !x5 then (cT s.aR (fun y0=>jK y0)).bind fun x6=>cE (!x6) else cE false) else cE false) else cE false) else cE false) else cE false) else cE false)
def aCC:Option Bool:=
  some true
def sB(s:aE):Int→Option (Step Int (Out Unit Bool))
  | x4=>(if decide (x4 < (s.aU.length:Int)) then (idx s.aU x4).bind fun x5=>(if decide (0 < (x5.kJ.length:Int)) then some (.stop (Out.ret false)) else some (.next (aI (x4+1)))) else some (.stop (Out.brk ())))
def aCD:(Out Unit Bool)→Option Bool
  | .brk ()=>aCC
  | .ret r=>some r
def QY(s:aE):Option Bool:=
  (loop (sB s) 0).bind (aCD)
def sC(s:aE):Int→Option (Step Int (Out Unit Bool))
  | x2=>(if decide (x2 < (s.aR.length:Int)) then (idx s.aR x2).bind fun x6=>(if x6.g7 then some (.stop (Out.ret false)) else some (.next (aI (x2+1)))) else some (.stop (Out.brk ())))
def QZ(s:aE):(Out Unit Bool)→Option Bool
  | .brk ()=>QY s
  | .ret r=>some r
def IY(s:aE):Option Bool:=
  (loop (sC s) 0).bind (QZ s)
def W5(x7:aE):Option aE:=
  some x7
def oT(x5:Int)(x8:Bool)(x9:aE):Option (Step (Int×aE) aE):=
  (if x8 then (DS x9 (Int.tmod x5 3)).bind fun x10=>some (.next (aI (x5+1),x10)) else some (.stop (x9)))
def oV:(Int×aE)→Option (Step (Int×aE) aE)
  | (x5,x6)=>(IY x6).bind fun x11=>(if !x11 then oT x5 (decide (x5 < 3000)) x6 else oT x5 false x6)
def W6:aE→Option aE
  | x7=>W5 x7
def AQ(s:aE):Option aE:=
  (qW s).bind fun x1=>(i9 s).bind fun x2=>(if !x2 then some x1 else (loop (oV) (0,x1)).bind (W6))
def J3(j:bG):Option Bool:=
  some j.g7
def J4(q:Queue):Option Bool:=
  some (decide (0 < (q.kJ.length:Int)))
def AD(x1:Bool):Option Bool:=
  some x1
def IZ(s:aE):Option Bool:=
  (cT s.aR (fun y0=>J3 y0)).bind fun x2=>(if !x2 then (pM s.aU (fun y0=>J4 y0)).bind fun x3=>AD (!x3) else AD false)
def W7(x7:aE):Option aE:=
  some x7
def oW(x5:Int)(x8:Bool)(x9:aE):Option (Step (Int×aE) aE):=
  (if x8 then (rV x9 (Int.tmod x5 3)).bind fun x10=>some (.next (aI (x5+1),x10)) else some (.stop (x9)))
def oX:(Int×aE)→Option (Step (Int×aE) aE)
  | (x5,x6)=>(if decide (x5 < 3000) then (IZ x6).bind fun x11=>oW x5 (!x11) x6 else oW x5 false x6)
def W8:aE→Option aE
  | x7=>W7 x7
def xT(s:aE):Option aE:=
  (mX s).bind fun x1=>(jA s).bind fun x2=>(if !x2 then some x1 else (loop (oX) (0,x1)).bind (W8))
def CB(aS:aE)(x10:Bool)(x11 x12:aE):Option Bool:=
  (if x10 then some false else (eK x12 1).bind fun x13=>(eM (⟨(⟨(⟨(⟨x13.2.1,x13.2.2.1⟩:aC),(⟨x13.2.2.2.1,x13.2.2.2.2.1⟩:aB)⟩:Mem),(⟨x12.aA.aD.aJ,x13.2.2.2.2.2.1⟩:aD),x13.2.2.2.2.2.2.1,x13.2.2.2.2.2.2.2.1⟩:aA),x13.2.2.2.2.2.2.2.2.1,x13.2.2.2.2.2.2.2.2.2.1,x13.2.2.2.2.2.2.2.2.2.2.1,x13.2.2.2.2.2.2.2.2.2.2.2,x12.aK⟩:aE) 1).bind fun x14=>(if decide (x14 < 0) then some false else (if x14 != x13.1 then some false else (cD aS).bind fun x15=>(xT x15).bind fun x16=>(cL x16 x11).bind fun x17=>(if !x17 then some false else (eM (⟨(⟨(⟨(⟨x13.2.1,x13.2.2.1⟩:aC),(⟨x13.2.2.2.1,x13.2.2.2.2.1⟩:aB)⟩:Mem),(⟨x12.aA.aD.aJ,x13.2.2.2.2.2.1⟩:aD),x13.2.2.2.2.2.2.1,x13.2.2.2.2.2.2.2.1⟩:aA),x13.2.2.2.2.2.2.2.2.1,x13.2.2.2.2.2.2.2.2.2.1,x13.2.2.2.2.2.2.2.2.2.2.1,x13.2.2.2.2.2.2.2.2.2.2.2,x12.aK⟩:aE) 1).bind fun x18=>(if decide (x18 < 0) then some false else (if x18 != x13.1 then some false else some true))))))
def XU(aS:aE):Option Bool:=
  (jJ aS 1048576).bind fun x1=>(if decide (x1 < 0) then some true else (cD aS).bind fun x2=>(AQ x2).bind fun x3=>(cD aS).bind fun x4=>(xT x4).bind fun x5=>(cL x5 x3).bind fun x6=>(if !x6 then some false else (cD aS).bind fun x7=>(cL x4 x7).bind fun x8=>(if !x8 then some false else (eK x4 1).bind fun x9=>(if decide (x9.1 < 0) then CB aS true x3 x5 else (cL x5 x3).bind fun x19=>CB aS (!x19) x3 x5))))
end
end Go.Gv
end
noncomputable section
set_option linter.unusedVariables false
set_option maxHeartbeats 4000000
set_option maxRecDepth 100000
namespace Go.Proofs.YtgboekoingacfaaGreat
open Go.Gv
theorem J5(D:Nat)(d d':cM)(w:World):(Op.eqFields (D+2) #[.int .i64 (d.Kind),.int .i64 (d.Cell),.int .i64 (d.gD),.int .i64 (d.eY)] #[.int .i64 (d'.Kind),.int .i64 (d'.Cell),.int .i64 (d'.gD),.int .i64 (d'.eY)] (match Tryz.prog.underlying 121 with | some (.struct fs)=>fs | _=>#[]).toList).run Tryz.prog w=.ok (decide (d=d')) w:=by
  rw [Tryz.underlying121]
  have h:(d.Kind == d'.Kind && (d.Cell == d'.Cell && (d.gD == d'.gD && (d.eY == d'.eY && true))))=decide (d=d'):=by
    cases d;cases d';rw [Bool.eq_iff_iff];simp
  rw [←h]
  exact bY _ _ _ _ _ rfl (cA Tryz.isAgg3 rfl) (cA Tryz.isAgg3 rfl) (fL Tryz.underlying3)<|
    bY _ _ _ _ _ rfl (cA Tryz.isAgg3 rfl) (cA Tryz.isAgg3 rfl) (fL Tryz.underlying3)<|
    bY _ _ _ _ _ rfl (cA Tryz.isAgg3 rfl) (cA Tryz.isAgg3 rfl) (fL Tryz.underlying3)<|
    bY _ _ _ _ _ rfl (cA Tryz.isAgg3 rfl) (cA Tryz.isAgg3 rfl) (fL Tryz.underlying3)<|
    KJ _ _ _
theorem J6(D:Nat)(d d':Sub)(w:World):(Op.eqFields (D+2) #[.int .i64 (d.Kind),.int .i64 (d.A),.int .i64 (d.Pc),.int .i64 (d.E),.int .i64 (d.Row),.int .i64 (d.B),.int .i64 (d.H),.int .i64 (d.Out),.int .i64 (d.Code),.bool (d.dW)] #[.int .i64 (d'.Kind),.int .i64 (d'.A),.int .i64 (d'.Pc),.int .i64 (d'.E),.int .i64 (d'.Row),.int .i64 (d'.B),.int .i64 (d'.H),.int .i64 (d'.Out),.int .i64 (d'.Code),.bool (d'.dW)] (match Tryz.prog.underlying 123 with | some (.struct fs)=>fs | _=>#[]).toList).run Tryz.prog w=.ok (decide (d=d')) w:=by
  rw [Tryz.underlying123]
  have h:(d.Kind == d'.Kind && (d.A == d'.A && (d.Pc == d'.Pc && (d.E == d'.E && (d.Row == d'.Row && (d.B == d'.B && (d.H == d'.H && (d.Out == d'.Out && (d.Code == d'.Code && (d.dW == d'.dW && true))))))))))=decide (d=d'):=by
    cases d;cases d';rw [Bool.eq_iff_iff];simp
  rw [←h]
  exact bY _ _ _ _ _ rfl (cA Tryz.isAgg3 rfl) (cA Tryz.isAgg3 rfl) (fL Tryz.underlying3)<|
    bY _ _ _ _ _ rfl (cA Tryz.isAgg3 rfl) (cA Tryz.isAgg3 rfl) (fL Tryz.underlying3)<|
    bY _ _ _ _ _ rfl (cA Tryz.isAgg3 rfl) (cA Tryz.isAgg3 rfl) (fL Tryz.underlying3)<|
    bY _ _ _ _ _ rfl (cA Tryz.isAgg3 rfl) (cA Tryz.isAgg3 rfl) (fL Tryz.underlying3)<|
    bY _ _ _ _ _ rfl (cA Tryz.isAgg3 rfl) (cA Tryz.isAgg3 rfl) (fL Tryz.underlying3)<|
    bY _ _ _ _ _ rfl (cA Tryz.isAgg3 rfl) (cA Tryz.isAgg3 rfl) (fL Tryz.underlying3)<|
    bY _ _ _ _ _ rfl (cA Tryz.isAgg3 rfl) (cA Tryz.isAgg3 rfl) (fL Tryz.underlying3)<|
    bY _ _ _ _ _ rfl (cA Tryz.isAgg3 rfl) (cA Tryz.isAgg3 rfl) (fL Tryz.underlying3)<|
    bY _ _ _ _ _ rfl (cA Tryz.isAgg3 rfl) (cA Tryz.isAgg3 rfl) (fL Tryz.underlying3)<|
    bY _ _ _ _ _ rfl (cA Tryz.isAgg4 rfl) (cA Tryz.isAgg4 rfl) (SK Tryz.underlying4)<|
    KJ _ _ _
theorem xU(D:Nat)(d d':bG)(w:World):(Op.eqFields (D+3) #[.bool (d.g7),.int .i64 (d.Op.Kind),.int .i64 (d.Op.Cell),.int .i64 (d.Op.gD),.int .i64 (d.Op.eY),.int .i64 (d.aK),.int .i64 (d.Pc),.int .i64 (d.Sub.Kind),.int .i64 (d.Sub.A),.int .i64 (d.Sub.Pc),.int .i64 (d.Sub.E),.int .i64 (d.Sub.Row),.int .i64 (d.Sub.B),.int .i64 (d.Sub.H),.int .i64 (d.Sub.Out),.int .i64 (d.Sub.Code),.bool (d.Sub.dW),.int .i64 (d.H),.int .i64 (d.Old),.int .i64 (d.eY),.int .i64 (d.Code)] #[.bool (d'.g7),.int .i64 (d'.Op.Kind),.int .i64 (d'.Op.Cell),.int .i64 (d'.Op.gD),.int .i64 (d'.Op.eY),.int .i64 (d'.aK),.int .i64 (d'.Pc),.int .i64 (d'.Sub.Kind),.int .i64 (d'.Sub.A),.int .i64 (d'.Sub.Pc),.int .i64 (d'.Sub.E),.int .i64 (d'.Sub.Row),.int .i64 (d'.Sub.B),.int .i64 (d'.Sub.H),.int .i64 (d'.Sub.Out),.int .i64 (d'.Sub.Code),.bool (d'.Sub.dW),.int .i64 (d'.H),.int .i64 (d'.Old),.int .i64 (d'.eY),.int .i64 (d'.Code)] (match Tryz.prog.underlying 125 with | some (.struct fs)=>fs | _=>#[]).toList).run Tryz.prog w=.ok (decide (d=d')) w:=by
  rw [Tryz.underlying125]
  have h:(d.g7 == d'.g7 && (decide (d.Op=d'.Op) && (d.aK == d'.aK && (d.Pc == d'.Pc && (decide (d.Sub=d'.Sub) && (d.H == d'.H && (d.Old == d'.Old && (d.eY == d'.eY && (d.Code == d'.Code && true)))))))))=decide (d=d'):=by
    cases d;cases d';rw [Bool.eq_iff_iff];simp
  rw [←h]
  exact bY _ _ _ _ _ rfl (cA Tryz.isAgg4 rfl) (cA Tryz.isAgg4 rfl) (SK Tryz.underlying4)<|
    bY _ _ _ _ _ rfl (QX (vs:=#[.int .i64 (d.Op.Kind),.int .i64 (d.Op.Cell),.int .i64 (d.Op.gD),.int .i64 (d.Op.eY)]) Tryz.isAgg121 Tryz.sizeOf121 rfl) (QX (vs:=#[.int .i64 (d'.Op.Kind),.int .i64 (d'.Op.Cell),.int .i64 (d'.Op.gD),.int .i64 (d'.Op.eY)]) Tryz.isAgg121 Tryz.sizeOf121 rfl) (FT Tryz.stoodInHeld121 Tryz.underlying121 (J5 D _ _ w))<|
    bY _ _ _ _ _ rfl (cA Tryz.isAgg3 rfl) (cA Tryz.isAgg3 rfl) (fL Tryz.underlying3)<|
    bY _ _ _ _ _ rfl (cA Tryz.isAgg3 rfl) (cA Tryz.isAgg3 rfl) (fL Tryz.underlying3)<|
    bY _ _ _ _ _ rfl (QX (vs:=#[.int .i64 (d.Sub.Kind),.int .i64 (d.Sub.A),.int .i64 (d.Sub.Pc),.int .i64 (d.Sub.E),.int .i64 (d.Sub.Row),.int .i64 (d.Sub.B),.int .i64 (d.Sub.H),.int .i64 (d.Sub.Out),.int .i64 (d.Sub.Code),.bool (d.Sub.dW)]) Tryz.isAgg123 Tryz.sizeOf123 rfl) (QX (vs:=#[.int .i64 (d'.Sub.Kind),.int .i64 (d'.Sub.A),.int .i64 (d'.Sub.Pc),.int .i64 (d'.Sub.E),.int .i64 (d'.Sub.Row),.int .i64 (d'.Sub.B),.int .i64 (d'.Sub.H),.int .i64 (d'.Sub.Out),.int .i64 (d'.Sub.Code),.bool (d'.Sub.dW)]) Tryz.isAgg123 Tryz.sizeOf123 rfl) (FT Tryz.stoodInHeld123 Tryz.underlying123 (J6 D _ _ w))<|
    bY _ _ _ _ _ rfl (cA Tryz.isAgg3 rfl) (cA Tryz.isAgg3 rfl) (fL Tryz.underlying3)<|
    bY _ _ _ _ _ rfl (cA Tryz.isAgg3 rfl) (cA Tryz.isAgg3 rfl) (fL Tryz.underlying3)<|
    bY _ _ _ _ _ rfl (cA Tryz.isAgg3 rfl) (cA Tryz.isAgg3 rfl) (fL Tryz.underlying3)<|
    bY _ _ _ _ _ rfl (cA Tryz.isAgg3 rfl) (cA Tryz.isAgg3 rfl) (fL Tryz.underlying3)<|
    KJ _ _ _
end Go.Proofs.YtgboekoingacfaaGreat
end
noncomputable section
set_option linter.unusedVariables false
set_option maxHeartbeats 4000000
set_option maxRecDepth 100000
namespace Go.Proofs.YtgboekoingacfaaGreat
open Go.Gv
noncomputable section
variable {κ:Ctx}
theorem D4{a_:aC}{left:Int}{s1 s2:AC}(h1:aQ κ s1 a_.Bytes)(h2:aQ κ s2 a_.Class):V0 Tryz.prog κ 152 (m3 a_ left) [.g [.h s1 a_.Bytes.length,.h s2 a_.Class.length],I left] I:=
 bM tok Tryz.call152 Tryz.func152 Tryz.results152 rfl rfl<|c0 rfl (fun h=>iF (h.a h1)) fun x1=>aV [10] rfl rfl (aY rfl rfl)<|c0 rfl (fun h=>iF (h.a h2)) fun x2=>aV [16] rfl rfl (aY rfl rfl)<|aY rfl rfl
theorem BT{a_:aG}{left:Int}{s1:AC}(h1:aQ κ s1 a_.bB):V0 Tryz.prog κ 308 (lK a_ left) [.g [.h s1 a_.bB.length],I left] I:=
 bM tok Tryz.call308 Tryz.func308 Tryz.results308 rfl rfl<|c0 rfl (fun h=>iF (h.a h1)) fun x1=>aV [10] rfl rfl (aY rfl rfl)<|aY rfl rfl
theorem qB{a_:List aG}{left:Int}{s1:AC}(h1:aQ κ s1 a_):V0 Tryz.prog κ 241 (iJ a_ left) [.h s1 a_.length,I left] I:=
 bM tok Tryz.call241 Tryz.func241 Tryz.results241 rfl rfl<|aV [11] rfl rfl (aY rfl rfl)<|mQ () [0] (fun(p:Int×Int) (_:Unit)=>[(1,I p.1),(5,I p.2)]) [] [] (fun p _=>[]) Out.brk [] (fun(x5:Int) (_:Unit)=>[(1,I x5)]) [] (fun x5 _=>[]) rfl rfl (fun hF1 ⟨x3,x4⟩ _ hr1=>aV [15] rfl rfl (eG qR rfl h1 rfl fun x6 s2 h2=>c0 rfl (fun h=>BT (h.a h2)) fun x7=>aV [25] rfl rfl (eX hr1 hF1<|aY rfl rfl)<|pX [] rfl)<|jE [] rfl) fun x5 _=>aY rfl rfl
theorem BU{a_:aB}{left:Int}{s1 s2:AC}(h1:aQ κ s1 a_.Global)(h2:aQ κ s2 a_.bA):V0 Tryz.prog κ 153 (lL a_ left) [.g [.h s1 a_.Global.length,.h s2 a_.bA.length],I left] I:=
 bM tok Tryz.call153 Tryz.func153 Tryz.results153 rfl rfl<|c0 rfl (fun h=>qB (h.a h1)) fun x1=>aV [10] rfl rfl (aY rfl rfl)<|c0 rfl (fun h=>qB (h.a h2)) fun x2=>aV [16] rfl rfl (aY rfl rfl)<|aY rfl rfl
theorem HB{a_:Mem}{left:Int}{s1 s2 s3 s4:AC}(h1:aQ κ s1 a_.aC.Bytes)(h2:aQ κ s2 a_.aC.Class)(h3:aQ κ s3 a_.aB.Global)(h4:aQ κ s4 a_.aB.bA):V0 Tryz.prog κ 85 (pO a_ left) [.g [.h s1 a_.aC.Bytes.length,.h s2 a_.aC.Class.length,.h s3 a_.aB.Global.length,.h s4 a_.aB.bA.length],I left] I:=
 bM tok Tryz.call85 Tryz.func85 Tryz.results85 rfl rfl<|c0 rfl (fun h=>D4 (h.a h1) (h.a h2)) fun x1=>aV [10] rfl rfl (aY rfl rfl)<|c0 rfl (fun h=>BU (h.a h3) (h.a h4)) fun x2=>aV [16] rfl rfl (aY rfl rfl)<|aY rfl rfl
theorem D5{a_:List cQ}{left:Int}{s1:AC}(h1:aQ κ s1 a_):V0 Tryz.prog κ 154 (m4 a_ left) [.h s1 a_.length,I left] I:=
 bM tok Tryz.call154 Tryz.func154 Tryz.results154 rfl rfl<|aV [10] rfl rfl (aY rfl rfl)<|aY rfl rfl
theorem BV{a_:aD}{left:Int}{s1:AC}(h1:aQ κ s1 a_.aM):V0 Tryz.prog κ 86 (lM a_ left) [.g [I a_.aJ,.h s1 a_.aM.length],I left] I:=
 bM tok Tryz.call86 Tryz.func86 Tryz.results86 rfl rfl<|c0 rfl (fun h=>D5 (h.a h1)) fun x1=>aV [10] rfl rfl (aY rfl rfl)<|aY rfl rfl
theorem BW{a_:List bP}{left:Int}{s1:AC}(h1:aQ κ s1 a_):V0 Tryz.prog κ 242 (lN a_ left) [.h s1 a_.length,I left] I:=
 bM tok Tryz.call242 Tryz.func242 Tryz.results242 rfl rfl<|aV [10] rfl rfl (aY rfl rfl)<|aY rfl rfl
theorem BX{a_:aP}{left:Int}{s1:AC}(h1:aQ κ s1 a_.Rows):V0 Tryz.prog κ 155 (lO a_ left) [.g [.h s1 a_.Rows.length],I left] I:=
 bM tok Tryz.call155 Tryz.func155 Tryz.results155 rfl rfl<|c0 rfl (fun h=>BW (h.a h1)) fun x1=>aV [10] rfl rfl (aY rfl rfl)<|aY rfl rfl
theorem zG{a_:List aP}{left:Int}{s1:AC}(h1:aQ κ s1 a_):V0 Tryz.prog κ 87 (kQ a_ left) [.h s1 a_.length,I left] I:=
 bM tok Tryz.call87 Tryz.func87 Tryz.results87 rfl rfl<|aV [11] rfl rfl (aY rfl rfl)<|mQ () [0] (fun(p:Int×Int) (_:Unit)=>[(1,I p.1),(5,I p.2)]) [] [] (fun p _=>[]) Out.brk [] (fun(x5:Int) (_:Unit)=>[(1,I x5)]) [] (fun x5 _=>[]) rfl rfl (fun hF1 ⟨x3,x4⟩ _ hr1=>aV [15] rfl rfl (eG sU rfl h1 rfl fun x6 s2 h2=>c0 rfl (fun h=>BX (h.a h2)) fun x7=>aV [25] rfl rfl (eX hr1 hF1<|aY rfl rfl)<|pX [] rfl)<|jE [] rfl) fun x5 _=>aY rfl rfl
theorem D6{a_:aA}{left:Int}{s1 s2 s3 s4 s5 s6 s7:AC}(h1:aQ κ s1 a_.Mem.aC.Bytes)(h2:aQ κ s2 a_.Mem.aC.Class)(h3:aQ κ s3 a_.Mem.aB.Global)(h4:aQ κ s4 a_.Mem.aB.bA)(h5:aQ κ s5 a_.aD.aM)(h6:aQ κ s6 a_.aH)(h7:aQ κ s7 a_.bO):V0 Tryz.prog κ 36 (m5 a_ left) [.g [.h s1 a_.Mem.aC.Bytes.length,.h s2 a_.Mem.aC.Class.length,.h s3 a_.Mem.aB.Global.length,.h s4 a_.Mem.aB.bA.length,I a_.aD.aJ,.h s5 a_.aD.aM.length,.h s6 a_.aH.length,.h s7 a_.bO.length],I left] I:=
 bM tok Tryz.call36 Tryz.func36 Tryz.results36 rfl rfl<|c0 rfl (fun h=>HB (h.a h1) (h.a h2) (h.a h3) (h.a h4)) fun x1=>aV [10] rfl rfl (aY rfl rfl)<|c0 rfl (fun h=>BV (h.a h5)) fun x2=>aV [16] rfl rfl (aY rfl rfl)<|c0 rfl (fun h=>zG (h.a h6)) fun x3=>aV [22] rfl rfl (aY rfl rfl)<|c0 rfl (fun h=>iF (h.a h7)) fun x4=>aV [28] rfl rfl (aY rfl rfl)<|aY rfl rfl
theorem D7{a_:List bG}{left:Int}{s1:AC}(h1:aQ κ s1 a_):V0 Tryz.prog κ 38 (m6 a_ left) [.h s1 a_.length,I left] I:=
 bM tok Tryz.call38 Tryz.func38 Tryz.results38 rfl rfl<|aV [10] rfl rfl (aY rfl rfl)<|aY rfl rfl
theorem HC{a_:List Ev}{left:Int}{s1:AC}(h1:aQ κ s1 a_):V0 Tryz.prog κ 40 (pP a_ left) [.h s1 a_.length,I left] I:=
 bM tok Tryz.call40 Tryz.func40 Tryz.results40 rfl rfl<|aV [10] rfl rfl (aY rfl rfl)<|aY rfl rfl
theorem BY{a_:aE}{left:Int}{s1 s2 s3 s4 s5 s6 s7 s8 s9 s10 s11:AC}(h1:aQ κ s1 a_.aA.Mem.aC.Bytes)(h2:aQ κ s2 a_.aA.Mem.aC.Class)(h3:aQ κ s3 a_.aA.Mem.aB.Global)(h4:aQ κ s4 a_.aA.Mem.aB.bA)(h5:aQ κ s5 a_.aA.aD.aM)(h6:aQ κ s6 a_.aA.aH)(h7:aQ κ s7 a_.aA.bO)(h8:aQ κ s8 a_.Cells)(h9:aQ κ s9 a_.aR)(h10:aQ κ s10 a_.aU)(h11:aQ κ s11 a_.Log):V0 Tryz.prog κ 10 (jJ a_ left) [.g [.h s1 a_.aA.Mem.aC.Bytes.length,.h s2 a_.aA.Mem.aC.Class.length,.h s3 a_.aA.Mem.aB.Global.length,.h s4 a_.aA.Mem.aB.bA.length,I a_.aA.aD.aJ,.h s5 a_.aA.aD.aM.length,.h s6 a_.aA.aH.length,.h s7 a_.aA.bO.length,.h s8 a_.Cells.length,.h s9 a_.aR.length,.h s10 a_.aU.length,.h s11 a_.Log.length,I a_.aK],I left] I:=
 bM tok Tryz.call10 Tryz.func10 Tryz.results10 rfl rfl<|c0 rfl (fun h=>D6 (h.a h1) (h.a h2) (h.a h3) (h.a h4) (h.a h5) (h.a h6) (h.a h7)) fun x1=>aV [10] rfl rfl (aY rfl rfl)<|c0 rfl (fun h=>iF (h.a h8)) fun x2=>aV [16] rfl rfl (aY rfl rfl)<|c0 rfl (fun h=>D7 (h.a h9)) fun x3=>aV [22] rfl rfl (aY rfl rfl)<|c0 rfl (fun h=>y6 (h.a h10)) fun x4=>aV [28] rfl rfl (aY rfl rfl)<|c0 rfl (fun h=>HC (h.a h11)) fun x5=>aV [34] rfl rfl (aY rfl rfl)<|aY rfl rfl
theorem vA{l:List aP}{s1:AC}(h1:aQ κ s1 l):V0 Tryz.prog κ 162 (i7 l) [.h s1 l.length] .b:=
 bM tok Tryz.call162 Tryz.func162 Tryz.results162 rfl rfl<|c1 rfl (fun h=>rW (h.a h1)) fun x1 s2=>fS 0 0 (eZ x1) [3] 16 [0] rfl (fN [11,12] rfl rfl (cR [0] rfl rfl)<|cR [0] rfl rfl) fun x2=>aV [16] rfl rfl (aY rfl rfl)<|fun hF=>LR (α:=Int) bD rfl rfl rfl rfl fun s3=>wi hF<|mQ s3 [3] (fun(p:(List Int)×Int) (s5:AC)=>[(4,.h s5 p.1.length),(5,I p.2)]) [1,0] [0] (fun p s5=>[ow s5 (p.1:List Int)]) Out.brk [] (fun(_:Unit) (_:Unit)=>[]) [] (fun _ _=>[]) rfl rfl (fun hF2 ⟨x5,x6⟩ s5 hr2=>aV [21] rfl rfl (mP kK 1 rfl rfl rfl fun x7 h2 _ h3=>fun hG2=>dT 0 h3 h2 rfl rfl rfl rfl rfl<|wi hG2<|c0 rfl (fun _=>j6) fun x8=>mH 0 1 (dZ x5 x6 x8) [3,4,5,6] (fun(x9:Bool) (_:Unit)=>[(45,.b x9)]) [0] (fun x9 _=>[ow s2 (x1:List bP)]) rfl (fN [31,32] rfl rfl (fun hG2=>sF rfl<|tZ kK 2 [] h2 () rfl rfl rfl rfl rfl rfl rfl<|wY () [5,0] hG2 rfl)<|fun hG2=>dT 0 h3 h2 rfl rfl rfl rfl rfl<|wi hG2<|c0 rfl (fun _=>cB) fun x10=>fN [39,40,41] rfl rfl (fun hG2=>sF rfl<|tZ kK 2 [] h2 () rfl rfl rfl rfl rfl rfl rfl<|wY () [5,0] hG2 rfl)<|c0 rfl (fun h=>GY (h.o 0 rfl)) fun x11=>fun hG2=>sF rfl<|tZ kK 2 [] h2 () rfl rfl rfl rfl rfl rfl rfl<|wY () [5,0] hG2 rfl) fun x9 _=>aV [45] rfl rfl (eX hr2 hF2<|aY rfl rfl)<|fun hG2=>lt1 rfl bD rfl rfl rfl rfl fun s6=>ap 1 bD rfl rfl rfl rfl rfl rfl rfl (fun h=>(h.o 2 rfl)) rfl rfl hG2 fun hG2 s7=>wi hG2<|nxW s7 [1,0] rfl)<|jE [] rfl) fun() _=>aY rfl rfl
theorem xA{b:aA}{s1 s2 s3 s4 s5 s6 s7:AC}(h1:aQ κ s1 b.Mem.aC.Bytes)(h2:aQ κ s2 b.Mem.aC.Class)(h3:aQ κ s3 b.Mem.aB.Global)(h4:aQ κ s4 b.Mem.aB.bA)(h5:aQ κ s5 b.aD.aM)(h6:aQ κ s6 b.aH)(h7:aQ κ s7 b.bO):V0 Tryz.prog κ 92 (j7 b) [.g [.h s1 b.Mem.aC.Bytes.length,.h s2 b.Mem.aC.Class.length,.h s3 b.Mem.aB.Global.length,.h s4 b.Mem.aB.bA.length,I b.aD.aJ,.h s5 b.aD.aM.length,.h s6 b.aH.length,.h s7 b.bO.length]] .b:=
 bM tok Tryz.call92 Tryz.func92 Tryz.results92 rfl rfl<|fS 0 1 (dF b) [1] 26 [0] rfl (c0 rfl (fun h=>K7 (h.a h1) (h.a h2) (h.a h3) (h.a h4)) fun x8=>fN [8,9] rfl rfl (cR [0] rfl rfl)<|c0 rfl (fun h=>uQ (h.a h5)) fun x9=>fN [13,14,15] rfl rfl (cR [0] rfl rfl)<|c0 rfl (fun h=>vA (h.a h6)) fun x10=>fN [19,20,21] rfl rfl (cR [0] rfl rfl)<|c0 rfl (fun h=>GZ (h.a h7)) fun x11=>cR [0] rfl rfl) fun x1=>aV [26] rfl rfl (aY rfl rfl)<|c1 rfl (fun h=>rW (h.a h6)) fun x2 s8=>CH 4 [1,3] [1,0] Out.brk [] [] rfl rfl (fun hF2 x4 hr2=>aV [33] rfl rfl (fS 0 1 (gH x4) [1,3,4] 55 [0,1] rfl (jP aL [1] rfl<|mP kK 0 rfl rfl rfl fun x6 h8 _ h9=>fun hG2=>dT 1 h9 h8 rfl rfl rfl rfl rfl<|wi hG2<|c0 rfl (fun h=>BF (h.a h1) (h.a h2) (h.a h3) (h.a h4)) fun x7=>fN [44,45] rfl rfl (fun hG2=>sF rfl<|tZ kK 2 [] h8 () rfl rfl rfl rfl rfl rfl rfl<|wY () [5,1] hG2 rfl)<|fun hG2=>dT 1 h9 h8 rfl rfl rfl rfl rfl<|sF rfl<|tZ kK 2 [] h8 () rfl rfl rfl rfl rfl rfl rfl<|wY () [5,1] hG2 rfl) fun x5=>aV [55] rfl rfl (eX hr2 hF2<|aY rfl rfl)<|pX [0,1] rfl)<|jE [] rfl)<|aY rfl rfl
theorem cN{h:Int}:V0 Tryz.prog κ 94 (cC h) [I h] .b:=
 bM tok Tryz.call94 Tryz.func94 Tryz.results94 rfl rfl<|fS 0 0 iQ [] 2 [] rfl (fN [4,5] rfl rfl (cR [] rfl rfl)<|c0 rfl (fun _=>nV) fun x2=>cR [] rfl rfl) fun x1=>aY rfl rfl
theorem xV{s:aE}{s1 s2 s3 s4 s5 s6 s7 s8 s9 s10 s11:AC}(h1:aQ κ s1 s.aA.Mem.aC.Bytes)(h2:aQ κ s2 s.aA.Mem.aC.Class)(h3:aQ κ s3 s.aA.Mem.aB.Global)(h4:aQ κ s4 s.aA.Mem.aB.bA)(h5:aQ κ s5 s.aA.aD.aM)(h6:aQ κ s6 s.aA.aH)(h7:aQ κ s7 s.aA.bO)(h8:aQ κ s8 s.Cells)(h9:aQ κ s9 s.aR)(h10:aQ κ s10 s.aU)(h11:aQ κ s11 s.Log):V0 Tryz.prog κ 42 (i9 s) [.g [.h s1 s.aA.Mem.aC.Bytes.length,.h s2 s.aA.Mem.aC.Class.length,.h s3 s.aA.Mem.aB.Global.length,.h s4 s.aA.Mem.aB.bA.length,I s.aA.aD.aJ,.h s5 s.aA.aD.aM.length,.h s6 s.aA.aH.length,.h s7 s.aA.bO.length,.h s8 s.Cells.length,.h s9 s.aR.length,.h s10 s.aU.length,.h s11 s.Log.length,I s.aK]] .b:=
 bM tok Tryz.call42 Tryz.func42 Tryz.results42 rfl rfl<|fS 0 1 (dL s) [1] 33 [0] rfl (c0 rfl (fun h=>xA (h.a h1) (h.a h2) (h.a h3) (h.a h4) (h.a h5) (h.a h6) (h.a h7)) fun x20=>fN [9,10] rfl rfl (cR [0] rfl rfl)<|fN [14,15,16] rfl rfl (cR [0] rfl rfl)<|fN [20,21,22] rfl rfl (cR [0] rfl rfl)<|c0 rfl (fun h=>BG (h.a h10)) fun x21=>fN [26,27,28] rfl rfl (cR [0] rfl rfl)<|c0 rfl (fun _=>cB) fun x22=>cR [0] rfl rfl) fun x1=>aV [33] rfl rfl (aY rfl rfl)<|CH 3 [1] [0] Out.brk [1] [0] rfl rfl (fun hF2 x3 hr2=>aV [35] rfl rfl (UT rfl h8 rfl fun x18=>c0 rfl (fun _=>cN) fun x19=>aV [44] rfl rfl (eX hr2 hF2<|aY rfl rfl)<|pX [0] rfl)<|jE [0] rfl)<|CH 4 [1] [0] Out.brk [] [] rfl rfl (fun hF3 x5 hr3=>aV [46] rfl rfl (eG gZ rfl h9 rfl fun x6 _ _=>fS 0 3 (bR x5) [1,4] 83 [0] rfl (fN [56,57] rfl rfl (fun hG3=>neS Tryz.eqGuardType125 Tryz.stoodInHeld125 Tryz.underlying125 (xU 9996 x6 (⟨false,(⟨0,0,0,0⟩:cM),0,0,(⟨0,0,0,0,0,0,0,0,0,false⟩:Sub),0,0,0,0⟩:bG)) rfl rfl rfl rfl rfl rfl<|wi hG3<|fN [60,61,62] rfl rfl (cR [0] rfl rfl)<|fN [55,64,65] rfl rfl (c0 rfl (fun _=>DH) fun x8=>fN [69,70,71,72] rfl rfl (cR [0] rfl rfl)<|c0 rfl (fun _=>cN) fun x9=>fN [76,77,78] rfl rfl (cR [0] rfl rfl)<|c0 rfl (fun _=>cN) fun x10=>cR [0] rfl rfl)<|c0 rfl (fun _=>cN) fun x11=>fN [76,77,78] rfl rfl (cR [0] rfl rfl)<|c0 rfl (fun _=>cN) fun x12=>cR [0] rfl rfl)<|fN [55,64,65] rfl rfl (c0 rfl (fun _=>DH) fun x13=>fN [69,70,71,72] rfl rfl (cR [0] rfl rfl)<|c0 rfl (fun _=>cN) fun x14=>fN [76,77,78] rfl rfl (cR [0] rfl rfl)<|c0 rfl (fun _=>cN) fun x15=>cR [0] rfl rfl)<|c0 rfl (fun _=>cN) fun x16=>fN [76,77,78] rfl rfl (cR [0] rfl rfl)<|c0 rfl (fun _=>cN) fun x17=>cR [0] rfl rfl) fun x7=>aV [83] rfl rfl (eX hr3 hF3<|aY rfl rfl)<|pX [0] rfl)<|jE [] rfl)<|aY rfl rfl
theorem D8{a_:aC}{s1 s2:AC}(h1:aQ κ s1 a_.Bytes)(h2:aQ κ s2 a_.Class):VS Tryz.prog κ 177 (m7 a_) [.g [.h s1 a_.Bytes.length,.h s2 a_.Class.length]] [] [] (fun r (y:AC×AC)=>.g [.h y.1 r.Bytes.length,.h y.2 r.Class.length]) (fun r y=>[ow y.1 r.Bytes,ow y.2 r.Class]):=
 bM tok Tryz.call177 Tryz.func177 Tryz.results177 rfl rfl<|c1 rfl (fun h=>iG (h.a h1)) fun x1 s3=>c1 rfl (fun h=>iG (h.a h2)) fun x2 s4=>gL (s3,s4) [3,4] rfl rfl
theorem BZ{a_:aG}{s1:AC}(h1:aQ κ s1 a_.bB):VS Tryz.prog κ 327 (lP a_) [.g [.h s1 a_.bB.length]] [] [] (fun r (y:AC)=>.g [.h y r.bB.length]) (fun r y=>[ow y r.bB]):=
 bM tok Tryz.call327 Tryz.func327 Tryz.results327 rfl rfl<|c1 rfl (fun h=>iG (h.a h1)) fun x1 s2=>gL s2 [3] rfl rfl
theorem qC{a_:List aG}{s1:AC}(h1:aQ κ s1 a_):VS Tryz.prog κ 263 (iK a_) [.h s1 a_.length] [] [] (fun r (y:AC)=>.h y r.length) (fun r y=>[ow y r]):=
 bM tok Tryz.call263 Tryz.func263 Tryz.results263 rfl rfl<|fun hF=>lV ((⟨[]⟩:aG):aG) dN (fun _=>(lJ (mW (⟨[]⟩:aG)) (uN GC))) rfl rfl rfl rfl rfl rfl rfl hF fun hF s2=>wi hF<|mQ () [0] (fun(p:(List aG)×Int) (_:Unit)=>[(3,.h s2 p.1.length),(4,I p.2)]) [0] [] (fun p _=>[ow s2 (p.1:List aG)]) id [] (fun(x5:(List aG)) (_:Unit)=>[(3,.h s2 x5.length)]) [] (fun x5 _=>[ow s2 (x5:List aG)]) rfl rfl (fun hF1 ⟨x3,x4⟩ _ hr1=>aV [11] rfl rfl (eG qR rfl h1 rfl fun x6 s3 h2=>c1 rfl (fun h=>BZ (h.a h2)) fun x7 s4=>mP kZ 0 rfl rfl rfl fun x8 h3 s5 h4=>fun hG1=>dT 1 h4 h3 rfl rfl rfl rfl rfl<|sF rfl<|nD kZ 3 [2] [3,14] x7 s4 rfl rfl rfl rfl rfl rfl rfl rfl<|EY () [7] hG1 rfl)<|jE [0] rfl) fun x5 _=>gL s2 [0] rfl rfl
theorem B3{a_:aB}{s1 s2:AC}(h1:aQ κ s1 a_.Global)(h2:aQ κ s2 a_.bA):VS Tryz.prog κ 178 (lQ a_) [.g [.h s1 a_.Global.length,.h s2 a_.bA.length]] [] [] (fun r (y:AC×AC)=>.g [.h y.1 r.Global.length,.h y.2 r.bA.length]) (fun r y=>[ow y.1 r.Global,ow y.2 r.bA]):=
 bM tok Tryz.call178 Tryz.func178 Tryz.results178 rfl rfl<|c1 rfl (fun h=>qC (h.a h1)) fun x1 s3=>c1 rfl (fun h=>qC (h.a h2)) fun x2 s4=>gL (s3,s4) [3,4] rfl rfl
theorem HD{a_:Mem}{s1 s2 s3 s4:AC}(h1:aQ κ s1 a_.aC.Bytes)(h2:aQ κ s2 a_.aC.Class)(h3:aQ κ s3 a_.aB.Global)(h4:aQ κ s4 a_.aB.bA):VS Tryz.prog κ 102 (pQ a_) [.g [.h s1 a_.aC.Bytes.length,.h s2 a_.aC.Class.length,.h s3 a_.aB.Global.length,.h s4 a_.aB.bA.length]] [] [] (fun r (y:AC×AC×AC×AC)=>.g [.h y.1 r.aC.Bytes.length,.h y.2.1 r.aC.Class.length,.h y.2.2.1 r.aB.Global.length,.h y.2.2.2 r.aB.bA.length]) (fun r y=>[ow y.1 r.aC.Bytes,ow y.2.1 r.aC.Class,ow y.2.2.1 r.aB.Global,ow y.2.2.2 r.aB.bA]):=
 bM tok Tryz.call102 Tryz.func102 Tryz.results102 rfl rfl<|c1 rfl (fun h=>D8 (h.a h1) (h.a h2)) fun x1 s5=>c1 rfl (fun h=>B3 (h.a h3) (h.a h4)) fun x2 s6=>gL (s5.1,s5.2,s6.1,s6.2) [3,4,5,6] rfl rfl
theorem HE{a_:cQ}:V0 Tryz.prog κ 264 (tX a_) [.g [.b a_.On,I a_.aJ,.b a_.jD,I a_.Seen]] (fun r=>.g [.b r.On,I r.aJ,.b r.jD,I r.Seen]):=
 bM tok Tryz.call264 Tryz.func264 Tryz.results264 rfl rfl<|aY rfl rfl
theorem D9{a_:List cQ}{s1:AC}(h1:aQ κ s1 a_):VS Tryz.prog κ 179 (m8 a_) [.h s1 a_.length] [] [] (fun r (y:AC)=>.h y r.length) (fun r y=>[ow y r]):=
 bM tok Tryz.call179 Tryz.func179 Tryz.results179 rfl rfl<|fun hF=>lV ((⟨false,0,false,0⟩:cQ):cQ) sO (fun w=>fM (ZD (⟨false,0,false,0⟩:cQ)) w) rfl rfl rfl rfl rfl rfl rfl hF fun hF s2=>wi hF<|mQ () [0] (fun(p:(List cQ)×Int) (_:Unit)=>[(3,.h s2 p.1.length),(4,I p.2)]) [0] [] (fun p _=>[ow s2 (p.1:List cQ)]) id [] (fun(x5:(List cQ)) (_:Unit)=>[(3,.h s2 x5.length)]) [] (fun x5 _=>[ow s2 (x5:List cQ)]) rfl rfl (fun hF1 ⟨x3,x4⟩ _ hr1=>aV [11] rfl rfl (eG DY rfl h1 rfl fun x6 _ _=>c0 rfl (fun _=>HE) fun x7=>mP wG 0 rfl rfl rfl fun x8 h2 _ h3=>fun hG1=>dT 1 h3 h2 rfl rfl rfl rfl rfl<|sF rfl<|nD wG 2 [] [3,14] x7 () rfl rfl rfl rfl rfl rfl rfl rfl<|EY () [5] hG1 rfl)<|jE [0] rfl) fun x5 _=>gL s2 [0] rfl rfl
theorem B4{a_:aD}{s1:AC}(h1:aQ κ s1 a_.aM):VS Tryz.prog κ 103 (lR a_) [.g [I a_.aJ,.h s1 a_.aM.length]] [] [] (fun r (y:AC)=>.g [I r.aJ,.h y r.aM.length]) (fun r y=>[ow y r.aM]):=
 bM tok Tryz.call103 Tryz.func103 Tryz.results103 rfl rfl<|c1 rfl (fun h=>D9 (h.a h1)) fun x1 s2=>gL s2 [3] rfl rfl
theorem EA{a_:bP}:V0 Tryz.prog κ 328 (rR a_) [.g [I a_.Handle,I a_.aJ]] (fun r=>.g [I r.Handle,I r.aJ]):=
 bM tok Tryz.call328 Tryz.func328 Tryz.results328 rfl rfl<|aY rfl rfl
theorem B5{a_:List bP}{s1:AC}(h1:aQ κ s1 a_):VS Tryz.prog κ 265 (lS a_) [.h s1 a_.length] [] [] (fun r (y:AC)=>.h y r.length) (fun r y=>[ow y r]):=
 bM tok Tryz.call265 Tryz.func265 Tryz.results265 rfl rfl<|fun hF=>lV ((⟨0,0⟩:bP):bP) pJ (fun w=>fM (aIZ (⟨0,0⟩:bP)) w) rfl rfl rfl rfl rfl rfl rfl hF fun hF s2=>wi hF<|mQ () [0] (fun(p:(List bP)×Int) (_:Unit)=>[(3,.h s2 p.1.length),(4,I p.2)]) [0] [] (fun p _=>[ow s2 (p.1:List bP)]) id [] (fun(x5:(List bP)) (_:Unit)=>[(3,.h s2 x5.length)]) [] (fun x5 _=>[ow s2 (x5:List bP)]) rfl rfl (fun hF1 ⟨x3,x4⟩ _ hr1=>aV [11] rfl rfl (eG DF rfl h1 rfl fun x6 _ _=>c0 rfl (fun _=>EA) fun x7=>mP kK 0 rfl rfl rfl fun x8 h2 _ h3=>fun hG1=>dT 1 h3 h2 rfl rfl rfl rfl rfl<|sF rfl<|nD kK 2 [] [3,14] x7 () rfl rfl rfl rfl rfl rfl rfl rfl<|EY () [5] hG1 rfl)<|jE [0] rfl) fun x5 _=>gL s2 [0] rfl rfl
theorem B6{a_:aP}{s1:AC}(h1:aQ κ s1 a_.Rows):VS Tryz.prog κ 180 (lT a_) [.g [.h s1 a_.Rows.length]] [] [] (fun r (y:AC)=>.g [.h y r.Rows.length]) (fun r y=>[ow y r.Rows]):=
 bM tok Tryz.call180 Tryz.func180 Tryz.results180 rfl rfl<|c1 rfl (fun h=>B5 (h.a h1)) fun x1 s2=>gL s2 [3] rfl rfl
theorem zH{a_:List aP}{s1:AC}(h1:aQ κ s1 a_):VS Tryz.prog κ 104 (kR a_) [.h s1 a_.length] [] [] (fun r (y:AC)=>.h y r.length) (fun r y=>[ow y r]):=
 bM tok Tryz.call104 Tryz.func104 Tryz.results104 rfl rfl<|fun hF=>lV ((⟨[]⟩:aP):aP) qP (fun _=>(lJ (JB (⟨[]⟩:aP)) (uN GC))) rfl rfl rfl rfl rfl rfl rfl hF fun hF s2=>wi hF<|mQ () [0] (fun(p:(List aP)×Int) (_:Unit)=>[(3,.h s2 p.1.length),(4,I p.2)]) [0] [] (fun p _=>[ow s2 (p.1:List aP)]) id [] (fun(x5:(List aP)) (_:Unit)=>[(3,.h s2 x5.length)]) [] (fun x5 _=>[ow s2 (x5:List aP)]) rfl rfl (fun hF1 ⟨x3,x4⟩ _ hr1=>aV [11] rfl rfl (eG sU rfl h1 rfl fun x6 s3 h2=>c1 rfl (fun h=>B6 (h.a h2)) fun x7 s4=>mP mI 0 rfl rfl rfl fun x8 h3 s5 h4=>fun hG1=>dT 1 h4 h3 rfl rfl rfl rfl rfl<|sF rfl<|nD mI 3 [2] [3,14] x7 s4 rfl rfl rfl rfl rfl rfl rfl rfl<|EY () [7] hG1 rfl)<|jE [0] rfl) fun x5 _=>gL s2 [0] rfl rfl
theorem EB{a_:aA}{s1 s2 s3 s4 s5 s6 s7:AC}(h1:aQ κ s1 a_.Mem.aC.Bytes)(h2:aQ κ s2 a_.Mem.aC.Class)(h3:aQ κ s3 a_.Mem.aB.Global)(h4:aQ κ s4 a_.Mem.aB.bA)(h5:aQ κ s5 a_.aD.aM)(h6:aQ κ s6 a_.aH)(h7:aQ κ s7 a_.bO):VS Tryz.prog κ 45 (m9 a_) [.g [.h s1 a_.Mem.aC.Bytes.length,.h s2 a_.Mem.aC.Class.length,.h s3 a_.Mem.aB.Global.length,.h s4 a_.Mem.aB.bA.length,I a_.aD.aJ,.h s5 a_.aD.aM.length,.h s6 a_.aH.length,.h s7 a_.bO.length]] [] [] (fun r (y:AC×AC×AC×AC×AC×AC×AC)=>.g [.h y.1 r.Mem.aC.Bytes.length,.h y.2.1 r.Mem.aC.Class.length,.h y.2.2.1 r.Mem.aB.Global.length,.h y.2.2.2.1 r.Mem.aB.bA.length,I r.aD.aJ,.h y.2.2.2.2.1 r.aD.aM.length,.h y.2.2.2.2.2.1 r.aH.length,.h y.2.2.2.2.2.2 r.bO.length]) (fun r y=>[ow y.1 r.Mem.aC.Bytes,ow y.2.1 r.Mem.aC.Class,ow y.2.2.1 r.Mem.aB.Global,ow y.2.2.2.1 r.Mem.aB.bA,ow y.2.2.2.2.1 r.aD.aM,ow y.2.2.2.2.2.1 r.aH,ow y.2.2.2.2.2.2 r.bO]):=
 bM tok Tryz.call45 Tryz.func45 Tryz.results45 rfl rfl<|c1 rfl (fun h=>HD (h.a h1) (h.a h2) (h.a h3) (h.a h4)) fun x1 s8=>c1 rfl (fun h=>B4 (h.a h5)) fun x2 s9=>c1 rfl (fun h=>zH (h.a h6)) fun x3 s10=>c1 rfl (fun h=>iG (h.a h7)) fun x4 s11=>gL (s8.1,s8.2.1,s8.2.2.1,s8.2.2.2,s9,s10,s11) [3,4,5,6,7,8,9] rfl rfl
theorem HF{a_:Sub}:V0 Tryz.prog κ 182 (BN a_) [.g [I a_.Kind,I a_.A,I a_.Pc,I a_.E,I a_.Row,I a_.B,I a_.H,I a_.Out,I a_.Code,.b a_.dW]] (fun r=>.g [I r.Kind,I r.A,I r.Pc,I r.E,I r.Row,I r.B,I r.H,I r.Out,I r.Code,.b r.dW]):=
 bM tok Tryz.call182 Tryz.func182 Tryz.results182 rfl rfl<|aY rfl rfl
theorem HH{a_:bG}:V0 Tryz.prog κ 105 (tY a_) [.g [.b a_.g7,I a_.Op.Kind,I a_.Op.Cell,I a_.Op.gD,I a_.Op.eY,I a_.aK,I a_.Pc,I a_.Sub.Kind,I a_.Sub.A,I a_.Sub.Pc,I a_.Sub.E,I a_.Sub.Row,I a_.Sub.B,I a_.Sub.H,I a_.Sub.Out,I a_.Sub.Code,.b a_.Sub.dW,I a_.H,I a_.Old,I a_.eY,I a_.Code]] (fun r=>.g [.b r.g7,I r.Op.Kind,I r.Op.Cell,I r.Op.gD,I r.Op.eY,I r.aK,I r.Pc,I r.Sub.Kind,I r.Sub.A,I r.Sub.Pc,I r.Sub.E,I r.Sub.Row,I r.Sub.B,I r.Sub.H,I r.Sub.Out,I r.Sub.Code,.b r.Sub.dW,I r.H,I r.Old,I r.eY,I r.Code]):=
 bM tok Tryz.call105 Tryz.func105 Tryz.results105 rfl rfl<|c0 rfl (fun _=>TW) fun x1=>c0 rfl (fun _=>HF) fun x2=>aY rfl rfl
theorem EC{a_:List bG}{s1:AC}(h1:aQ κ s1 a_):VS Tryz.prog κ 47 (nA a_) [.h s1 a_.length] [] [] (fun r (y:AC)=>.h y r.length) (fun r y=>[ow y r]):=
 bM tok Tryz.call47 Tryz.func47 Tryz.results47 rfl rfl<|fun hF=>lV ((⟨false,(⟨0,0,0,0⟩:cM),0,0,(⟨0,0,0,0,0,0,0,0,0,false⟩:Sub),0,0,0,0⟩:bG):bG) bN (fun w=>fM (jQ (⟨false,(⟨0,0,0,0⟩:cM),0,0,(⟨0,0,0,0,0,0,0,0,0,false⟩:Sub),0,0,0,0⟩:bG)) w) rfl rfl rfl rfl rfl rfl rfl hF fun hF s2=>wi hF<|mQ () [0] (fun(p:(List bG)×Int) (_:Unit)=>[(3,.h s2 p.1.length),(4,I p.2)]) [0] [] (fun p _=>[ow s2 (p.1:List bG)]) id [] (fun(x5:(List bG)) (_:Unit)=>[(3,.h s2 x5.length)]) [] (fun x5 _=>[ow s2 (x5:List bG)]) rfl rfl (fun hF1 ⟨x3,x4⟩ _ hr1=>aV [11] rfl rfl (eG gZ rfl h1 rfl fun x6 _ _=>c0 rfl (fun _=>HH) fun x7=>mP eO 0 rfl rfl rfl fun x8 h2 _ h3=>fun hG1=>dT 1 h3 h2 rfl rfl rfl rfl rfl<|sF rfl<|nD eO 2 [] [3,14] x7 () rfl rfl rfl rfl rfl rfl rfl rfl<|EY () [5] hG1 rfl)<|jE [0] rfl) fun x5 _=>gL s2 [0] rfl rfl
theorem J7{a_:Ev}:V0 Tryz.prog κ 107 (wQ a_) [.g [I a_.Kind,I a_.XZ,I a_.aK,I a_.Cell,I a_.Handle,I a_.eY,I a_.Code]] (fun r=>.g [I r.Kind,I r.XZ,I r.aK,I r.Cell,I r.Handle,I r.eY,I r.Code]):=
 bM tok Tryz.call107 Tryz.func107 Tryz.results107 rfl rfl<|aY rfl rfl
theorem HI{a_:List Ev}{s1:AC}(h1:aQ κ s1 a_):VS Tryz.prog κ 49 (pR a_) [.h s1 a_.length] [] [] (fun r (y:AC)=>.h y r.length) (fun r y=>[ow y r]):=
 bM tok Tryz.call49 Tryz.func49 Tryz.results49 rfl rfl<|fun hF=>lV ((⟨0,0,0,0,0,0,0⟩:Ev):Ev) cS (fun w=>fM (aQD (⟨0,0,0,0,0,0,0⟩:Ev)) w) rfl rfl rfl rfl rfl rfl rfl hF fun hF s2=>wi hF<|mQ () [0] (fun(p:(List Ev)×Int) (_:Unit)=>[(3,.h s2 p.1.length),(4,I p.2)]) [0] [] (fun p _=>[ow s2 (p.1:List Ev)]) id [] (fun(x5:(List Ev)) (_:Unit)=>[(3,.h s2 x5.length)]) [] (fun x5 _=>[ow s2 (x5:List Ev)]) rfl rfl (fun hF1 ⟨x3,x4⟩ _ hr1=>aV [11] rfl rfl (eG UW rfl h1 rfl fun x6 _ _=>c0 rfl (fun _=>J7) fun x7=>mP oEv 0 rfl rfl rfl fun x8 h2 _ h3=>fun hG1=>dT 1 h3 h2 rfl rfl rfl rfl rfl<|sF rfl<|nD oEv 2 [] [3,14] x7 () rfl rfl rfl rfl rfl rfl rfl rfl<|EY () [5] hG1 rfl)<|jE [0] rfl) fun x5 _=>gL s2 [0] rfl rfl
theorem jL{a_:aE}{s1 s2 s3 s4 s5 s6 s7 s8 s9 s10 s11:AC}(h1:aQ κ s1 a_.aA.Mem.aC.Bytes)(h2:aQ κ s2 a_.aA.Mem.aC.Class)(h3:aQ κ s3 a_.aA.Mem.aB.Global)(h4:aQ κ s4 a_.aA.Mem.aB.bA)(h5:aQ κ s5 a_.aA.aD.aM)(h6:aQ κ s6 a_.aA.aH)(h7:aQ κ s7 a_.aA.bO)(h8:aQ κ s8 a_.Cells)(h9:aQ κ s9 a_.aR)(h10:aQ κ s10 a_.aU)(h11:aQ κ s11 a_.Log):VS Tryz.prog κ 12 (cD a_) [.g [.h s1 a_.aA.Mem.aC.Bytes.length,.h s2 a_.aA.Mem.aC.Class.length,.h s3 a_.aA.Mem.aB.Global.length,.h s4 a_.aA.Mem.aB.bA.length,I a_.aA.aD.aJ,.h s5 a_.aA.aD.aM.length,.h s6 a_.aA.aH.length,.h s7 a_.aA.bO.length,.h s8 a_.Cells.length,.h s9 a_.aR.length,.h s10 a_.aU.length,.h s11 a_.Log.length,I a_.aK]] [] [] (fun r (y:AC×AC×AC×AC×AC×AC×AC×AC×AC×AC×AC)=>.g [.h y.1 r.aA.Mem.aC.Bytes.length,.h y.2.1 r.aA.Mem.aC.Class.length,.h y.2.2.1 r.aA.Mem.aB.Global.length,.h y.2.2.2.1 r.aA.Mem.aB.bA.length,I r.aA.aD.aJ,.h y.2.2.2.2.1 r.aA.aD.aM.length,.h y.2.2.2.2.2.1 r.aA.aH.length,.h y.2.2.2.2.2.2.1 r.aA.bO.length,.h y.2.2.2.2.2.2.2.1 r.Cells.length,.h y.2.2.2.2.2.2.2.2.1 r.aR.length,.h y.2.2.2.2.2.2.2.2.2.1 r.aU.length,.h y.2.2.2.2.2.2.2.2.2.2 r.Log.length,I r.aK]) (fun r y=>[ow y.1 r.aA.Mem.aC.Bytes,ow y.2.1 r.aA.Mem.aC.Class,ow y.2.2.1 r.aA.Mem.aB.Global,ow y.2.2.2.1 r.aA.Mem.aB.bA,ow y.2.2.2.2.1 r.aA.aD.aM,ow y.2.2.2.2.2.1 r.aA.aH,ow y.2.2.2.2.2.2.1 r.aA.bO,ow y.2.2.2.2.2.2.2.1 r.Cells,ow y.2.2.2.2.2.2.2.2.1 r.aR,ow y.2.2.2.2.2.2.2.2.2.1 r.aU,ow y.2.2.2.2.2.2.2.2.2.2 r.Log]):=
 bM tok Tryz.call12 Tryz.func12 Tryz.results12 rfl rfl<|c1 rfl (fun h=>EB (h.a h1) (h.a h2) (h.a h3) (h.a h4) (h.a h5) (h.a h6) (h.a h7)) fun x1 s12=>c1 rfl (fun h=>iG (h.a h8)) fun x2 s13=>c1 rfl (fun h=>EC (h.a h9)) fun x3 s14=>c1 rfl (fun h=>y7 (h.a h10)) fun x4 s15=>c1 rfl (fun h=>HI (h.a h11)) fun x5 s16=>gL (s12.1,s12.2.1,s12.2.2.1,s12.2.2.2.1,s12.2.2.2.2.1,s12.2.2.2.2.2.1,s12.2.2.2.2.2.2,s13,s14,s15,s16) [3,4,5,6,7,8,9,10,11,12,13] rfl rfl
theorem qY{r_:bP}{k0:aA}{s1 s2 s3 s4 s5 s6 s7:AC}{b0:Nat×Nat}(h1:aQ κ s1 k0.Mem.aC.Bytes)(h2:aQ κ s2 k0.Mem.aC.Class)(h3:aQ κ s3 k0.Mem.aB.Global)(h4:aQ κ s4 k0.Mem.aB.bA)(h5:aQ κ s5 k0.aD.aM)(h6:aQ κ s6 k0.aH)(h7:aQ κ s7 k0.bO):VS Tryz.prog κ 195 (fA r_ k0) [.g [I r_.Handle,I r_.aJ],.p 0 0] [b0] [.ro 0 [.h s1 k0.Mem.aC.Bytes.length,.h s2 k0.Mem.aC.Class.length,.h s3 k0.Mem.aB.Global.length,.h s4 k0.Mem.aB.bA.length,I k0.aD.aJ,.h s5 k0.aD.aM.length,.h s6 k0.aH.length,.h s7 k0.bO.length]] (fun r (_:Unit)=>.b r) (fun _ _=>[]):=
 bM tok Tryz.call195 Tryz.func195 Tryz.results195 rfl rfl<|fS 0 2 dV [] 3 [] rfl (c0 rfl (fun h=>DZ (h.a h1) (h.a h2) (h.a h3) (h.a h4)) fun x2=>fN [9,10] rfl rfl (cR [] rfl rfl)<|cR [] rfl rfl) fun x1=>aY rfl rfl
theorem tO{l:aP}{k0:aA}{s1:AC}{s2 s3 s4 s5 s6 s7 s8:AC}{b0:Nat×Nat}(h1:aQ κ s1 l.Rows)(h2:aQ κ s2 k0.Mem.aC.Bytes)(h3:aQ κ s3 k0.Mem.aC.Class)(h4:aQ κ s4 k0.Mem.aB.Global)(h5:aQ κ s5 k0.Mem.aB.bA)(h6:aQ κ s6 k0.aD.aM)(h7:aQ κ s7 k0.aH)(h8:aQ κ s8 k0.bO):VS Tryz.prog κ 193 (g8 l k0) [.g [.h s1 l.Rows.length],.p 0 0] [b0] [.ro 0 [.h s2 k0.Mem.aC.Bytes.length,.h s3 k0.Mem.aC.Class.length,.h s4 k0.Mem.aB.Global.length,.h s5 k0.Mem.aB.bA.length,I k0.aD.aJ,.h s6 k0.aD.aM.length,.h s7 k0.aH.length,.h s8 k0.bO.length]] (fun r (_:Unit)=>.b r) (fun _ _=>[]):=
 bM tok Tryz.call193 Tryz.func193 Tryz.results193 rfl rfl<|fun hF=>mf [0] rfl rfl rfl<|wi hF<|aHO [0] rfl rfl rfl rfl (fun h=>fun hB=>oG (h.a h1) (aHN (cs:=[(0,[.h s2 k0.Mem.aC.Bytes.length,.h s3 k0.Mem.aC.Class.length,.h s4 k0.Mem.aB.Global.length,.h s5 k0.Mem.aB.bA.length,I k0.aD.aJ,.h s6 k0.aD.aM.length,.h s7 k0.aH.length,.h s8 k0.bO.length])]) Tryz.call195 hB rfl fun hk _=>qY (rk hk (h.a h2)) (rk hk (h.a h3)) (rk hk (h.a h4)) (rk hk (h.a h5)) (rk hk (h.a h6)) (rk hk (h.a h7)) (rk hk (h.a h8)))) fun x1=>aY rfl rfl
theorem xB{b:aA}{s1 s2 s3 s4 s5 s6 s7:AC}(h1:aQ κ s1 b.Mem.aC.Bytes)(h2:aQ κ s2 b.Mem.aC.Class)(h3:aQ κ s3 b.Mem.aB.Global)(h4:aQ κ s4 b.Mem.aB.bA)(h5:aQ κ s5 b.aD.aM)(h6:aQ κ s6 b.aH)(h7:aQ κ s7 b.bO):V0 Tryz.prog κ 113 (j8 b) [.g [.h s1 b.Mem.aC.Bytes.length,.h s2 b.Mem.aC.Class.length,.h s3 b.Mem.aB.Global.length,.h s4 b.Mem.aB.bA.length,I b.aD.aJ,.h s5 b.aD.aM.length,.h s6 b.aH.length,.h s7 b.bO.length]] .b:=
 bM tok Tryz.call113 Tryz.func113 Tryz.results113 rfl rfl<|fS 0 1 (dI b) [1] 24 [0] rfl (c0 rfl (fun h=>K8 (h.a h1) (h.a h2) (h.a h3) (h.a h4)) fun x3=>fN [6,7] rfl rfl (cR [0] rfl rfl)<|c0 rfl (fun h=>uR (h.a h5)) fun x4=>fN [11,12,13] rfl rfl (cR [0] rfl rfl)<|c0 rfl (fun h=>xQ (h.a h6)) fun x5=>fN [17,18,19] rfl rfl (cR [0] rfl rfl)<|c0 rfl (fun h=>G4 (h.a h7)) fun x6=>cR [0] rfl rfl) fun x1=>aV [24] rfl rfl (aY rfl rfl)<|fun hF=>mf [0] rfl rfl rfl<|wi hF<|aHO [0] rfl rfl rfl rfl (fun h=>fun hB=>nM (h.a h6) (aHN (cs:=[(0,[.h s1 b.Mem.aC.Bytes.length,.h s2 b.Mem.aC.Class.length,.h s3 b.Mem.aB.Global.length,.h s4 b.Mem.aB.bA.length,I b.aD.aJ,.h s5 b.aD.aM.length,.h s6 b.aH.length,.h s7 b.bO.length])]) Tryz.call193 hB rfl fun hk hy=>tO hy (rk hk (h.a h1)) (rk hk (h.a h2)) (rk hk (h.a h3)) (rk hk (h.a h4)) (rk hk (h.a h5)) (rk hk (h.a h6)) (rk hk (h.a h7)))) fun x2=>aY rfl rfl
theorem wR{h:Int}:V0 Tryz.prog κ 117 (gQ h) [I h] .b:=
 bM tok Tryz.call117 Tryz.func117 Tryz.results117 rfl rfl<|c0 rfl (fun _=>qH) fun x1=>aY rfl rfl
theorem pT{s:List bG}{f:(bG→Option Bool)}{s1:AC}{g_f:FuncId}{cap_f:List Value}(h1:aQ κ s1 s)(h_f:Fu1 Tryz.prog κ (gZ:UA bG) .b g_f cap_f f):V0 Tryz.prog κ 203 (gR s f) [.h s1 s.length,.k (.func (.func g_f) #[] cap_f.toArray)] I:=
 bM tok Tryz.call203 Tryz.func203 Tryz.results203 rfl rfl<|CH 8 [0,1,7] [] Out.brk [] [] rfl rfl (fun hF1 x2 hr1=>aV [9] rfl rfl (eG gZ rfl h1 rfl fun x3 _ _=>fun hG1=>fa1 h_f x3 () rfl rfl rfl rfl rfl trivial hG1 fun x4 _ hG1=>wi hG1<|aV [16] rfl rfl (eX hr1 hF1<|aY rfl rfl)<|pX [] rfl)<|jE [] rfl)<|aY rfl rfl
theorem j5{s:List bG}{f:(bG→Option Bool)}{s1:AC}{g_f:FuncId}{cap_f:List Value}(h1:aQ κ s1 s)(h_f:Fu1 Tryz.prog κ (gZ:UA bG) .b g_f cap_f f):V0 Tryz.prog κ 119 (cT s f) [.h s1 s.length,.k (.func (.func g_f) #[] cap_f.toArray)] .b:=
 bM tok Tryz.call119 Tryz.func119 Tryz.results119 rfl rfl<|c0 rfl (fun h=>pT (h.a h1) (h.u1 h_f)) fun x1=>aY rfl rfl
theorem HJ{j:bG}:V0 Tryz.prog κ 121 (pS j) [.g [.b j.g7,I j.Op.Kind,I j.Op.Cell,I j.Op.gD,I j.Op.eY,I j.aK,I j.Pc,I j.Sub.Kind,I j.Sub.A,I j.Sub.Pc,I j.Sub.E,I j.Sub.Row,I j.Sub.B,I j.Sub.H,I j.Sub.Out,I j.Sub.Code,.b j.Sub.dW,I j.H,I j.Old,I j.eY,I j.Code]] .b:=
 bM tok Tryz.call121 Tryz.func121 Tryz.results121 rfl rfl<|aV [5] rfl rfl (fun hF=>eqS Tryz.eqGuardType125 Tryz.stoodInHeld125 Tryz.underlying125 (xU 9996 j (⟨false,(⟨0,0,0,0⟩:cM),0,0,(⟨0,0,0,0,0,0,0,0,0,false⟩:Sub),0,0,0,0⟩:bG)) rfl rfl rfl rfl rfl rfl<|wi hF<|aY rfl rfl)<|fS 0 1 iL [] 2 [] rfl (c0 rfl (fun _=>TX) fun x2=>fN [11,12] rfl rfl (c0 rfl (fun _=>qH) fun x3=>fN [15,16,17] rfl rfl (c0 rfl (fun _=>qH) fun x4=>cR [] rfl rfl)<|cR [] rfl rfl)<|cR [] rfl rfl) fun x1=>aY rfl rfl
theorem wS{j:bG}:V0 Tryz.prog κ 120 (jK j) [.g [.b j.g7,I j.Op.Kind,I j.Op.Cell,I j.Op.gD,I j.Op.eY,I j.aK,I j.Pc,I j.Sub.Kind,I j.Sub.A,I j.Sub.Pc,I j.Sub.E,I j.Sub.Row,I j.Sub.B,I j.Sub.H,I j.Sub.Out,I j.Sub.Code,.b j.Sub.dW,I j.H,I j.Old,I j.eY,I j.Code]] .b:=
 bM tok Tryz.call120 Tryz.func120 Tryz.results120 rfl rfl<|c0 rfl (fun _=>HJ) fun x1=>aY rfl rfl
theorem xW{s:aE}{s1 s2 s3 s4 s5 s6 s7 s8 s9 s10 s11:AC}(h1:aQ κ s1 s.aA.Mem.aC.Bytes)(h2:aQ κ s2 s.aA.Mem.aC.Class)(h3:aQ κ s3 s.aA.Mem.aB.Global)(h4:aQ κ s4 s.aA.Mem.aB.bA)(h5:aQ κ s5 s.aA.aD.aM)(h6:aQ κ s6 s.aA.aH)(h7:aQ κ s7 s.aA.bO)(h8:aQ κ s8 s.Cells)(h9:aQ κ s9 s.aR)(h10:aQ κ s10 s.aU)(h11:aQ κ s11 s.Log):V0 Tryz.prog κ 51 (jA s) [.g [.h s1 s.aA.Mem.aC.Bytes.length,.h s2 s.aA.Mem.aC.Class.length,.h s3 s.aA.Mem.aB.Global.length,.h s4 s.aA.Mem.aB.bA.length,I s.aA.aD.aJ,.h s5 s.aA.aD.aM.length,.h s6 s.aA.aH.length,.h s7 s.aA.bO.length,.h s8 s.Cells.length,.h s9 s.aR.length,.h s10 s.aU.length,.h s11 s.Log.length,I s.aK]] .b:=
 bM tok Tryz.call51 Tryz.func51 Tryz.results51 rfl rfl<|fS 0 1 cE [] 2 [] rfl (c0 rfl (fun h=>xB (h.a h1) (h.a h2) (h.a h3) (h.a h4) (h.a h5) (h.a h6) (h.a h7)) fun x2=>fN [5,6] rfl rfl (fN [10,11,12] rfl rfl (fN [16,17,18] rfl rfl (c0 rfl (fun h=>D0 (h.a h10)) fun x3=>fN [21,22,23] rfl rfl (c0 rfl (fun _=>fJ) fun x4=>fN [26,27,28] rfl rfl (c0 rfl (fun h=>lD (h.a h8) (aDP Tryz.call117 fun _=>wR)) fun x5=>fN [32,33,34] rfl rfl (c0 rfl (fun h=>j5 (h.a h9) (aDP Tryz.call120 fun _=>wS)) fun x6=>cR [] rfl rfl)<|cR [] rfl rfl)<|cR [] rfl rfl)<|cR [] rfl rfl)<|cR [] rfl rfl)<|cR [] rfl rfl)<|cR [] rfl rfl) fun x1=>aY rfl rfl
theorem xC{a_ b:aC}{s1 s2:AC}{s3 s4:AC}(h1:aQ κ s1 a_.Bytes)(h2:aQ κ s2 a_.Class)(h3:aQ κ s3 b.Bytes)(h4:aQ κ s4 b.Class):V0 Tryz.prog κ 216 (qK a_ b) [.g [.h s1 a_.Bytes.length,.h s2 a_.Class.length],.g [.h s3 b.Bytes.length,.h s4 b.Class.length]] .b:=
 bM tok Tryz.call216 Tryz.func216 Tryz.results216 rfl rfl<|c0 rfl (fun h=>fK (h.a h1) (h.a h3)) fun x1=>aV [10] rfl rfl (aY rfl rfl)<|c0 rfl (fun h=>fK (h.a h2) (h.a h4)) fun x2=>aV [16] rfl rfl (aY rfl rfl)<|aY rfl rfl
theorem vB{a_ b:aG}{s1:AC}{s2:AC}(h1:aQ κ s1 a_.bB)(h2:aQ κ s2 b.bB):V0 Tryz.prog κ 353 (nP a_ b) [.g [.h s1 a_.bB.length],.g [.h s2 b.bB.length]] .b:=
 bM tok Tryz.call353 Tryz.func353 Tryz.results353 rfl rfl<|c0 rfl (fun h=>fK (h.a h1) (h.a h2)) fun x1=>aV [10] rfl rfl (aY rfl rfl)<|aY rfl rfl
theorem mC{a_ b:List aG}{s1:AC}{s2:AC}(h1:aQ κ s1 a_)(h2:aQ κ s2 b):V0 Tryz.prog κ 293 (lX a_ b) [.h s1 a_.length,.h s2 b.length] .b:=
 bM tok Tryz.call293 Tryz.func293 Tryz.results293 rfl rfl<|aV [10] rfl rfl (aY rfl rfl)<|CH 5 [0,1] [] Out.brk [] [] rfl rfl (fun hF1 x2 hr1=>aV [14] rfl rfl (jP aL [] rfl<|eG qR rfl h1 rfl fun x3 s3 h3=>eG qR rfl h2 rfl fun x4 s4 h4=>c0 rfl (fun h=>vB (h.a h3) (h.a h4)) fun x5=>aV [26] rfl rfl (eX hr1 hF1<|aY rfl rfl)<|pX [] rfl)<|jE [] rfl)<|aY rfl rfl
theorem vC{a_ b:aB}{s1 s2:AC}{s3 s4:AC}(h1:aQ κ s1 a_.Global)(h2:aQ κ s2 a_.bA)(h3:aQ κ s3 b.Global)(h4:aQ κ s4 b.bA):V0 Tryz.prog κ 217 (nQ a_ b) [.g [.h s1 a_.Global.length,.h s2 a_.bA.length],.g [.h s3 b.Global.length,.h s4 b.bA.length]] .b:=
 bM tok Tryz.call217 Tryz.func217 Tryz.results217 rfl rfl<|c0 rfl (fun h=>mC (h.a h1) (h.a h3)) fun x1=>aV [10] rfl rfl (aY rfl rfl)<|c0 rfl (fun h=>mC (h.a h2) (h.a h4)) fun x2=>aV [16] rfl rfl (aY rfl rfl)<|aY rfl rfl
theorem AE{a_ b:Mem}{s1 s2 s3 s4:AC}{s5 s6 s7 s8:AC}(h1:aQ κ s1 a_.aC.Bytes)(h2:aQ κ s2 a_.aC.Class)(h3:aQ κ s3 a_.aB.Global)(h4:aQ κ s4 a_.aB.bA)(h5:aQ κ s5 b.aC.Bytes)(h6:aQ κ s6 b.aC.Class)(h7:aQ κ s7 b.aB.Global)(h8:aQ κ s8 b.aB.bA):V0 Tryz.prog κ 129 (sJ a_ b) [.g [.h s1 a_.aC.Bytes.length,.h s2 a_.aC.Class.length,.h s3 a_.aB.Global.length,.h s4 a_.aB.bA.length],.g [.h s5 b.aC.Bytes.length,.h s6 b.aC.Class.length,.h s7 b.aB.Global.length,.h s8 b.aB.bA.length]] .b:=
 bM tok Tryz.call129 Tryz.func129 Tryz.results129 rfl rfl<|c0 rfl (fun h=>xC (h.a h1) (h.a h2) (h.a h5) (h.a h6)) fun x1=>aV [10] rfl rfl (aY rfl rfl)<|c0 rfl (fun h=>vC (h.a h3) (h.a h4) (h.a h7) (h.a h8)) fun x2=>aV [16] rfl rfl (aY rfl rfl)<|aY rfl rfl
theorem AF{a_ b:cQ}:V0 Tryz.prog κ 294 (sK a_ b) [.g [.b a_.On,I a_.aJ,.b a_.jD,I a_.Seen],.g [.b b.On,I b.aJ,.b b.jD,I b.Seen]] .b:=
 bM tok Tryz.call294 Tryz.func294 Tryz.results294 rfl rfl<|aV [9] rfl rfl (aY rfl rfl)<|aV [14] rfl rfl (aY rfl rfl)<|aV [19] rfl rfl (aY rfl rfl)<|aV [24] rfl rfl (aY rfl rfl)<|aY rfl rfl
theorem xD{a_ b:List cQ}{s1:AC}{s2:AC}(h1:aQ κ s1 a_)(h2:aQ κ s2 b):V0 Tryz.prog κ 218 (qL a_ b) [.h s1 a_.length,.h s2 b.length] .b:=
 bM tok Tryz.call218 Tryz.func218 Tryz.results218 rfl rfl<|aV [10] rfl rfl (aY rfl rfl)<|CH 5 [0,1] [] Out.brk [] [] rfl rfl (fun hF1 x2 hr1=>aV [14] rfl rfl (jP aL [] rfl<|eG DY rfl h1 rfl fun x3 _ _=>eG DY rfl h2 rfl fun x4 _ _=>c0 rfl (fun _=>AF) fun x5=>aV [26] rfl rfl (eX hr1 hF1<|aY rfl rfl)<|pX [] rfl)<|jE [] rfl)<|aY rfl rfl
theorem vD{a_ b:aD}{s1:AC}{s2:AC}(h1:aQ κ s1 a_.aM)(h2:aQ κ s2 b.aM):V0 Tryz.prog κ 130 (nR a_ b) [.g [I a_.aJ,.h s1 a_.aM.length],.g [I b.aJ,.h s2 b.aM.length]] .b:=
 bM tok Tryz.call130 Tryz.func130 Tryz.results130 rfl rfl<|aV [9] rfl rfl (aY rfl rfl)<|c0 rfl (fun h=>xD (h.a h1) (h.a h2)) fun x1=>aV [15] rfl rfl (aY rfl rfl)<|aY rfl rfl
theorem xE{a_ b:bP}:V0 Tryz.prog κ 354 (qM a_ b) [.g [I a_.Handle,I a_.aJ],.g [I b.Handle,I b.aJ]] .b:=
 bM tok Tryz.call354 Tryz.func354 Tryz.results354 rfl rfl<|aV [9] rfl rfl (aY rfl rfl)<|aV [14] rfl rfl (aY rfl rfl)<|aY rfl rfl
theorem vF{a_ b:List bP}{s1:AC}{s2:AC}(h1:aQ κ s1 a_)(h2:aQ κ s2 b):V0 Tryz.prog κ 295 (nS a_ b) [.h s1 a_.length,.h s2 b.length] .b:=
 bM tok Tryz.call295 Tryz.func295 Tryz.results295 rfl rfl<|aV [10] rfl rfl (aY rfl rfl)<|CH 5 [0,1] [] Out.brk [] [] rfl rfl (fun hF1 x2 hr1=>aV [14] rfl rfl (jP aL [] rfl<|eG DF rfl h1 rfl fun x3 _ _=>eG DF rfl h2 rfl fun x4 _ _=>c0 rfl (fun _=>xE) fun x5=>aV [26] rfl rfl (eX hr1 hF1<|aY rfl rfl)<|pX [] rfl)<|jE [] rfl)<|aY rfl rfl
theorem vG{a_ b:aP}{s1:AC}{s2:AC}(h1:aQ κ s1 a_.Rows)(h2:aQ κ s2 b.Rows):V0 Tryz.prog κ 219 (nT a_ b) [.g [.h s1 a_.Rows.length],.g [.h s2 b.Rows.length]] .b:=
 bM tok Tryz.call219 Tryz.func219 Tryz.results219 rfl rfl<|c0 rfl (fun h=>vF (h.a h1) (h.a h2)) fun x1=>aV [10] rfl rfl (aY rfl rfl)<|aY rfl rfl
theorem tP{a_ b:List aP}{s1:AC}{s2:AC}(h1:aQ κ s1 a_)(h2:aQ κ s2 b):V0 Tryz.prog κ 131 (mL a_ b) [.h s1 a_.length,.h s2 b.length] .b:=
 bM tok Tryz.call131 Tryz.func131 Tryz.results131 rfl rfl<|aV [10] rfl rfl (aY rfl rfl)<|CH 5 [0,1] [] Out.brk [] [] rfl rfl (fun hF1 x2 hr1=>aV [14] rfl rfl (jP aL [] rfl<|eG sU rfl h1 rfl fun x3 s3 h3=>eG sU rfl h2 rfl fun x4 s4 h4=>c0 rfl (fun h=>vG (h.a h3) (h.a h4)) fun x5=>aV [26] rfl rfl (eX hr1 hF1<|aY rfl rfl)<|pX [] rfl)<|jE [] rfl)<|aY rfl rfl
theorem xF{a_ b:aA}{s1 s2 s3 s4 s5 s6 s7:AC}{s8 s9 s10 s11 s12 s13 s14:AC}(h1:aQ κ s1 a_.Mem.aC.Bytes)(h2:aQ κ s2 a_.Mem.aC.Class)(h3:aQ κ s3 a_.Mem.aB.Global)(h4:aQ κ s4 a_.Mem.aB.bA)(h5:aQ κ s5 a_.aD.aM)(h6:aQ κ s6 a_.aH)(h7:aQ κ s7 a_.bO)(h8:aQ κ s8 b.Mem.aC.Bytes)(h9:aQ κ s9 b.Mem.aC.Class)(h10:aQ κ s10 b.Mem.aB.Global)(h11:aQ κ s11 b.Mem.aB.bA)(h12:aQ κ s12 b.aD.aM)(h13:aQ κ s13 b.aH)(h14:aQ κ s14 b.bO):V0 Tryz.prog κ 54 (qN a_ b) [.g [.h s1 a_.Mem.aC.Bytes.length,.h s2 a_.Mem.aC.Class.length,.h s3 a_.Mem.aB.Global.length,.h s4 a_.Mem.aB.bA.length,I a_.aD.aJ,.h s5 a_.aD.aM.length,.h s6 a_.aH.length,.h s7 a_.bO.length],.g [.h s8 b.Mem.aC.Bytes.length,.h s9 b.Mem.aC.Class.length,.h s10 b.Mem.aB.Global.length,.h s11 b.Mem.aB.bA.length,I b.aD.aJ,.h s12 b.aD.aM.length,.h s13 b.aH.length,.h s14 b.bO.length]] .b:=
 bM tok Tryz.call54 Tryz.func54 Tryz.results54 rfl rfl<|c0 rfl (fun h=>AE (h.a h1) (h.a h2) (h.a h3) (h.a h4) (h.a h8) (h.a h9) (h.a h10) (h.a h11)) fun x1=>aV [10] rfl rfl (aY rfl rfl)<|c0 rfl (fun h=>vD (h.a h5) (h.a h12)) fun x2=>aV [16] rfl rfl (aY rfl rfl)<|c0 rfl (fun h=>tP (h.a h6) (h.a h13)) fun x3=>aV [22] rfl rfl (aY rfl rfl)<|c0 rfl (fun h=>fK (h.a h7) (h.a h14)) fun x4=>aV [28] rfl rfl (aY rfl rfl)<|aY rfl rfl
theorem AG{a_ b:Sub}:V0 Tryz.prog κ 221 (sL a_ b) [.g [I a_.Kind,I a_.A,I a_.Pc,I a_.E,I a_.Row,I a_.B,I a_.H,I a_.Out,I a_.Code,.b a_.dW],.g [I b.Kind,I b.A,I b.Pc,I b.E,I b.Row,I b.B,I b.H,I b.Out,I b.Code,.b b.dW]] .b:=
 bM tok Tryz.call221 Tryz.func221 Tryz.results221 rfl rfl<|aV [9] rfl rfl (aY rfl rfl)<|aV [14] rfl rfl (aY rfl rfl)<|aV [19] rfl rfl (aY rfl rfl)<|aV [24] rfl rfl (aY rfl rfl)<|aV [29] rfl rfl (aY rfl rfl)<|aV [34] rfl rfl (aY rfl rfl)<|aV [39] rfl rfl (aY rfl rfl)<|aV [44] rfl rfl (aY rfl rfl)<|aV [49] rfl rfl (aY rfl rfl)<|aV [54] rfl rfl (aY rfl rfl)<|aY rfl rfl
theorem AH{a_ b:bG}:V0 Tryz.prog κ 132 (sM a_ b) [.g [.b a_.g7,I a_.Op.Kind,I a_.Op.Cell,I a_.Op.gD,I a_.Op.eY,I a_.aK,I a_.Pc,I a_.Sub.Kind,I a_.Sub.A,I a_.Sub.Pc,I a_.Sub.E,I a_.Sub.Row,I a_.Sub.B,I a_.Sub.H,I a_.Sub.Out,I a_.Sub.Code,.b a_.Sub.dW,I a_.H,I a_.Old,I a_.eY,I a_.Code],.g [.b b.g7,I b.Op.Kind,I b.Op.Cell,I b.Op.gD,I b.Op.eY,I b.aK,I b.Pc,I b.Sub.Kind,I b.Sub.A,I b.Sub.Pc,I b.Sub.E,I b.Sub.Row,I b.Sub.B,I b.Sub.H,I b.Sub.Out,I b.Sub.Code,.b b.Sub.dW,I b.H,I b.Old,I b.eY,I b.Code]] .b:=
 bM tok Tryz.call132 Tryz.func132 Tryz.results132 rfl rfl<|aV [9] rfl rfl (aY rfl rfl)<|c0 rfl (fun _=>OU) fun x1=>aV [15] rfl rfl (aY rfl rfl)<|aV [20] rfl rfl (aY rfl rfl)<|aV [25] rfl rfl (aY rfl rfl)<|c0 rfl (fun _=>AG) fun x2=>aV [31] rfl rfl (aY rfl rfl)<|aV [36] rfl rfl (aY rfl rfl)<|aV [41] rfl rfl (aY rfl rfl)<|aV [46] rfl rfl (aY rfl rfl)<|aV [51] rfl rfl (aY rfl rfl)<|aY rfl rfl
theorem xG{a_ b:List bG}{s1:AC}{s2:AC}(h1:aQ κ s1 a_)(h2:aQ κ s2 b):V0 Tryz.prog κ 56 (qO a_ b) [.h s1 a_.length,.h s2 b.length] .b:=
 bM tok Tryz.call56 Tryz.func56 Tryz.results56 rfl rfl<|aV [10] rfl rfl (aY rfl rfl)<|CH 5 [0,1] [] Out.brk [] [] rfl rfl (fun hF1 x2 hr1=>aV [14] rfl rfl (jP aL [] rfl<|eG gZ rfl h1 rfl fun x3 _ _=>eG gZ rfl h2 rfl fun x4 _ _=>c0 rfl (fun _=>AH) fun x5=>aV [26] rfl rfl (eX hr1 hF1<|aY rfl rfl)<|pX [] rfl)<|jE [] rfl)<|aY rfl rfl
theorem DN{a_ b:Ev}:V0 Tryz.prog κ 134 (vQ a_ b) [.g [I a_.Kind,I a_.XZ,I a_.aK,I a_.Cell,I a_.Handle,I a_.eY,I a_.Code],.g [I b.Kind,I b.XZ,I b.aK,I b.Cell,I b.Handle,I b.eY,I b.Code]] .b:=
 bM tok Tryz.call134 Tryz.func134 Tryz.results134 rfl rfl<|aV [9] rfl rfl (aY rfl rfl)<|aV [14] rfl rfl (aY rfl rfl)<|aV [19] rfl rfl (aY rfl rfl)<|aV [24] rfl rfl (aY rfl rfl)<|aV [29] rfl rfl (aY rfl rfl)<|aV [34] rfl rfl (aY rfl rfl)<|aV [39] rfl rfl (aY rfl rfl)<|aY rfl rfl
theorem AI{a_ b:List Ev}{s1:AC}{s2:AC}(h1:aQ κ s1 a_)(h2:aQ κ s2 b):V0 Tryz.prog κ 58 (sN a_ b) [.h s1 a_.length,.h s2 b.length] .b:=
 bM tok Tryz.call58 Tryz.func58 Tryz.results58 rfl rfl<|aV [10] rfl rfl (aY rfl rfl)<|CH 5 [0,1] [] Out.brk [] [] rfl rfl (fun hF1 x2 hr1=>aV [14] rfl rfl (jP aL [] rfl<|eG UW rfl h1 rfl fun x3 _ _=>eG UW rfl h2 rfl fun x4 _ _=>c0 rfl (fun _=>DN) fun x5=>aV [26] rfl rfl (eX hr1 hF1<|aY rfl rfl)<|pX [] rfl)<|jE [] rfl)<|aY rfl rfl
theorem iM{a_ b:aE}{s1 s2 s3 s4 s5 s6 s7 s8 s9 s10 s11:AC}{s12 s13 s14 s15 s16 s17 s18 s19 s20 s21 s22:AC}(h1:aQ κ s1 a_.aA.Mem.aC.Bytes)(h2:aQ κ s2 a_.aA.Mem.aC.Class)(h3:aQ κ s3 a_.aA.Mem.aB.Global)(h4:aQ κ s4 a_.aA.Mem.aB.bA)(h5:aQ κ s5 a_.aA.aD.aM)(h6:aQ κ s6 a_.aA.aH)(h7:aQ κ s7 a_.aA.bO)(h8:aQ κ s8 a_.Cells)(h9:aQ κ s9 a_.aR)(h10:aQ κ s10 a_.aU)(h11:aQ κ s11 a_.Log)(h12:aQ κ s12 b.aA.Mem.aC.Bytes)(h13:aQ κ s13 b.aA.Mem.aC.Class)(h14:aQ κ s14 b.aA.Mem.aB.Global)(h15:aQ κ s15 b.aA.Mem.aB.bA)(h16:aQ κ s16 b.aA.aD.aM)(h17:aQ κ s17 b.aA.aH)(h18:aQ κ s18 b.aA.bO)(h19:aQ κ s19 b.Cells)(h20:aQ κ s20 b.aR)(h21:aQ κ s21 b.aU)(h22:aQ κ s22 b.Log):V0 Tryz.prog κ 14 (cL a_ b) [.g [.h s1 a_.aA.Mem.aC.Bytes.length,.h s2 a_.aA.Mem.aC.Class.length,.h s3 a_.aA.Mem.aB.Global.length,.h s4 a_.aA.Mem.aB.bA.length,I a_.aA.aD.aJ,.h s5 a_.aA.aD.aM.length,.h s6 a_.aA.aH.length,.h s7 a_.aA.bO.length,.h s8 a_.Cells.length,.h s9 a_.aR.length,.h s10 a_.aU.length,.h s11 a_.Log.length,I a_.aK],.g [.h s12 b.aA.Mem.aC.Bytes.length,.h s13 b.aA.Mem.aC.Class.length,.h s14 b.aA.Mem.aB.Global.length,.h s15 b.aA.Mem.aB.bA.length,I b.aA.aD.aJ,.h s16 b.aA.aD.aM.length,.h s17 b.aA.aH.length,.h s18 b.aA.bO.length,.h s19 b.Cells.length,.h s20 b.aR.length,.h s21 b.aU.length,.h s22 b.Log.length,I b.aK]] .b:=
 bM tok Tryz.call14 Tryz.func14 Tryz.results14 rfl rfl<|c0 rfl (fun h=>xF (h.a h1) (h.a h2) (h.a h3) (h.a h4) (h.a h5) (h.a h6) (h.a h7) (h.a h12) (h.a h13) (h.a h14) (h.a h15) (h.a h16) (h.a h17) (h.a h18)) fun x1=>aV [10] rfl rfl (aY rfl rfl)<|c0 rfl (fun h=>fK (h.a h8) (h.a h19)) fun x2=>aV [16] rfl rfl (aY rfl rfl)<|c0 rfl (fun h=>xG (h.a h9) (h.a h20)) fun x3=>aV [22] rfl rfl (aY rfl rfl)<|c0 rfl (fun h=>vV (h.a h10) (h.a h21)) fun x4=>aV [28] rfl rfl (aY rfl rfl)<|c0 rfl (fun h=>AI (h.a h11) (h.a h22)) fun x5=>aV [34] rfl rfl (aY rfl rfl)<|aV [39] rfl rfl (aY rfl rfl)<|aY rfl rfl
theorem dU{a_:List Int}{k:Int}{s1:AC}:VS Tryz.prog κ 60 (gU a_ k) [.h s1 a_.length,I k] [] [ow s1 (a_:List Int)] (fun(r:Int×(List Int)) (y:Unit)=>I r.1) (fun(r:Int×(List Int)) (y:Unit)=>[.o (bH [AC.v s1 a_.length] r.2)]):=
 bM tok Tryz.call60 Tryz.func60 Tryz.results60 rfl rfl<|mQ () [] (fun(p:(List Int)×Int×Int) (_:Unit)=>[(0,.h s1 p.1.length),(1,I p.2.1),(5,I p.2.2)]) [0] [] (fun p _=>[ow s1 (p.1:List Int)]) id [] (fun(p:(List Int)×Int) (_:Unit)=>[(0,.h s1 p.1.length),(1,I p.2)]) [] (fun p _=>[ow s1 (p.1:List Int)]) rfl rfl (fun hF1 ⟨x4,x5,x6⟩ _ hr1=>fun hG1=>nd hG1 fun hl3 hG1=>wi hG1<|aV [9] rfl rfl (mP oI 0 rfl rfl rfl fun x9 h1 _ h2=>fun hG1=>dT 0 h2 h1 rfl rfl rfl rfl rfl<|sF rfl<|nD oI 1 [] [0,7,12] x5 () rfl rfl rfl rfl rfl rfl rfl rfl<|EY () [4] hG1 rfl)<|jE [0] rfl) fun⟨x7,x8⟩ _=>fun hF=>nd hF fun hl2 hF=>sR rfl<|pV 0 hl2 rfl<|nB (hT:=tok) () [0] hF rfl Tryz.results60 rfl rfl rfl rfl
theorem sD{a_:List bP}{k:Int}{s1:AC}:VS Tryz.prog κ 147 (lF a_ k) [.h s1 a_.length,I k] [] [ow s1 (a_:List bP)] (fun(r:Int×(List bP)) (y:Unit)=>I r.1) (fun(r:Int×(List bP)) (y:Unit)=>[.o (bH [AC.v s1 a_.length] r.2)]):=
 bM tok Tryz.call147 Tryz.func147 Tryz.results147 rfl rfl<|mQ () [] (fun(p:(List bP)×Int×Int) (_:Unit)=>[(0,.h s1 p.1.length),(1,I p.2.1),(5,I p.2.2)]) [0] [] (fun p _=>[ow s1 (p.1:List bP)]) id [] (fun(p:(List bP)×Int) (_:Unit)=>[(0,.h s1 p.1.length),(1,I p.2)]) [] (fun p _=>[ow s1 (p.1:List bP)]) rfl rfl (fun hF1 ⟨x4,x5,x6⟩ _ hr1=>fun hG1=>nd hG1 fun hl3 hG1=>wi hG1<|aV [9] rfl rfl (mP kK 0 rfl rfl rfl fun x9 h1 _ h2=>fun hG1=>dT 0 h2 h1 rfl rfl rfl rfl rfl<|dT 0 h2 h1 rfl rfl rfl rfl rfl<|sF rfl<|nD kK 1 [] [0,7,12,19] (⟨x5,aI (x5+1)⟩:bP) () rfl rfl rfl rfl rfl rfl rfl rfl<|EY () [4] hG1 rfl)<|jE [0] rfl) fun⟨x7,x8⟩ _=>fun hF=>nd hF fun hl2 hF=>sR rfl<|pV 0 hl2 rfl<|nB (hT:=tok) () [0] hF rfl Tryz.results147 rfl rfl rfl rfl
theorem qZ{a_:List aP}{k:Int}{s1:AC}:VS Tryz.prog κ 77 (jS a_ k) [.h s1 a_.length,I k] [] [ow s1 (a_:List aP)] (fun(r:Int×(List aP)) (y:Unit)=>I r.1) (fun(r:Int×(List aP)) (y:Unit)=>[.o (bH [AC.v s1 a_.length] r.2)]):=
 bM tok Tryz.call77 Tryz.func77 Tryz.results77 rfl rfl<|mQ () [] (fun(p:(List aP)×Int×Int) (_:Unit)=>[(0,.h s1 p.1.length),(1,I p.2.1),(5,I p.2.2)]) [0] [] (fun p _=>[ow s1 (p.1:List aP)]) id [] (fun(p:(List aP)×Int) (_:Unit)=>[(0,.h s1 p.1.length),(1,I p.2)]) [] (fun p _=>[ow s1 (p.1:List aP)]) rfl rfl (fun hF1 ⟨x4,x5,x6⟩ _ hr1=>fun hG1=>nd hG1 fun hl3 hG1=>wi hG1<|aV [9] rfl rfl (mP mI 0 rfl rfl rfl fun x9 h1 s2 h2=>fun hG1=>dT 0 h2 h1 rfl rfl rfl rfl rfl<|wi hG1<|fZ [4] rfl rfl rfl rfl (fun _=>sD) fun x10 _=>fun hG1=>un 5 [16] [] [(2,0)] rfl rfl rfl rfl rfl rfl fun hl4=>sF rfl<|nD mI 1 [5] [0,7,12] (⟨x10.2⟩:aP) s2 rfl rfl rfl rfl rfl rfl rfl rfl<|EY () [6] hG1 rfl)<|jE [0] rfl) fun⟨x7,x8⟩ _=>fun hF=>nd hF fun hl2 hF=>sR rfl<|pV 0 hl2 rfl<|nB (hT:=tok) () [0] hF rfl Tryz.results77 rfl rfl rfl rfl
theorem zI{a_:aC}{k:Int}{s1 s2:AC}:VS Tryz.prog κ 223 (qD a_ k) [.g [.h s1 a_.Bytes.length,.h s2 a_.Class.length],I k] [] [ow s1 (a_.Bytes:List Int),ow s2 (a_.Class:List Int)] (fun(r:Int×(List Int)×(List Int)) (y:Unit)=>I r.1) (fun(r:Int×(List Int)×(List Int)) (y:Unit)=>[.o (bH [AC.v s1 a_.Bytes.length] r.2.1),.o (bH [AC.v s2 a_.Class.length] r.2.2)]):=
 bM tok Tryz.call223 Tryz.func223 Tryz.results223 rfl rfl<|fZ [0] rfl rfl rfl rfl (fun _=>dU) fun x1 _=>fun hF=>un 3 [6] [(0,0)] [(2,0)] rfl rfl rfl rfl rfl rfl fun hl1=>wi hF<|fZ [1] rfl rfl rfl rfl (fun _=>dU) fun x2 _=>fun hF=>un 4 [10] [(0,1)] [(2,1)] rfl rfl rfl rfl rfl rfl fun hl2=>sR rfl<|pV 3 hl1 rfl<|pV 4 hl2 rfl<|nB (hT:=tok) () [3,4] hF rfl Tryz.results223 rfl rfl rfl rfl
theorem j9{a_:List aG}{k:Int}{s1:AC}:VS Tryz.prog κ 75 (iO a_ k) [.h s1 a_.length,I k] [] [ow s1 (a_:List aG)] (fun(r:Int×(List aG)) (y:Unit)=>I r.1) (fun(r:Int×(List aG)) (y:Unit)=>[.o (bH [AC.v s1 a_.length] r.2)]):=
 bM tok Tryz.call75 Tryz.func75 Tryz.results75 rfl rfl<|mQ () [] (fun(p:(List aG)×Int×Int) (_:Unit)=>[(0,.h s1 p.1.length),(1,I p.2.1),(5,I p.2.2)]) [0] [] (fun p _=>[ow s1 (p.1:List aG)]) id [] (fun(p:(List aG)×Int) (_:Unit)=>[(0,.h s1 p.1.length),(1,I p.2)]) [] (fun p _=>[ow s1 (p.1:List aG)]) rfl rfl (fun hF1 ⟨x4,x5,x6⟩ _ hr1=>fun hG1=>nd hG1 fun hl3 hG1=>wi hG1<|aV [9] rfl rfl (mP kZ 0 rfl rfl rfl fun x9 h1 s2 h2=>fun hG1=>dT 0 h2 h1 rfl rfl rfl rfl rfl<|wi hG1<|fZ [4] rfl rfl rfl rfl (fun _=>dU) fun x10 _=>fun hG1=>un 5 [16] [] [(2,0)] rfl rfl rfl rfl rfl rfl fun hl4=>sF rfl<|nD kZ 1 [5] [0,7,12] (⟨x10.2⟩:aG) s2 rfl rfl rfl rfl rfl rfl rfl rfl<|EY () [6] hG1 rfl)<|jE [0] rfl) fun⟨x7,x8⟩ _=>fun hF=>nd hF fun hl2 hF=>sR rfl<|pV 0 hl2 rfl<|nB (hT:=tok) () [0] hF rfl Tryz.results75 rfl rfl rfl rfl
theorem wT{a_:aB}{k:Int}{s1 s2:AC}:VS Tryz.prog κ 224 (oB a_ k) [.g [.h s1 a_.Global.length,.h s2 a_.bA.length],I k] [] [ow s1 (a_.Global:List aG),ow s2 (a_.bA:List aG)] (fun(r:Int×(List aG)×(List aG)) (y:Unit)=>I r.1) (fun(r:Int×(List aG)×(List aG)) (y:Unit)=>[.o (bH [AC.v s1 a_.Global.length] r.2.1),.o (bH [AC.v s2 a_.bA.length] r.2.2)]):=
 bM tok Tryz.call224 Tryz.func224 Tryz.results224 rfl rfl<|fZ [0] rfl rfl rfl rfl (fun _=>j9) fun x1 _=>fun hF=>un 3 [6] [(0,0)] [(2,0)] rfl rfl rfl rfl rfl rfl fun hl1=>wi hF<|fZ [1] rfl rfl rfl rfl (fun _=>j9) fun x2 _=>fun hF=>un 4 [10] [(0,1)] [(2,1)] rfl rfl rfl rfl rfl rfl fun hl2=>sR rfl<|pV 3 hl1 rfl<|pV 4 hl2 rfl<|nB (hT:=tok) () [3,4] hF rfl Tryz.results224 rfl rfl rfl rfl
theorem B7{a_:Mem}{k:Int}{s1 s2 s3 s4:AC}:VS Tryz.prog κ 135 (r9 a_ k) [.g [.h s1 a_.aC.Bytes.length,.h s2 a_.aC.Class.length,.h s3 a_.aB.Global.length,.h s4 a_.aB.bA.length],I k] [] [ow s1 (a_.aC.Bytes:List Int),ow s2 (a_.aC.Class:List Int),ow s3 (a_.aB.Global:List aG),ow s4 (a_.aB.bA:List aG)] (fun(r:Int×(List Int)×(List Int)×(List aG)×(List aG)) (y:Unit)=>I r.1) (fun(r:Int×(List Int)×(List Int)×(List aG)×(List aG)) (y:Unit)=>[.o (bH [AC.v s1 a_.aC.Bytes.length] r.2.1),.o (bH [AC.v s2 a_.aC.Class.length] r.2.2.1),.o (bH [AC.v s3 a_.aB.Global.length] r.2.2.2.1),.o (bH [AC.v s4 a_.aB.bA.length] r.2.2.2.2)]):=
 bM tok Tryz.call135 Tryz.func135 Tryz.results135 rfl rfl<|fZ [0,1] rfl rfl rfl rfl (fun _=>zI) fun x1 _=>fun hF=>un 5 [] [(0,0),(6,0)] [(4,0)] rfl rfl rfl rfl rfl rfl fun hl1=>fG rfl rfl<|un 6 [] [(0,1),(6,1)] [(4,1)] rfl rfl rfl rfl rfl rfl fun hl2=>fG rfl rfl<|wi hF<|fZ [2,3] rfl rfl rfl rfl (fun _=>wT) fun x2 _=>fun hF=>un 7 [] [(0,2),(10,0)] [(4,2)] rfl rfl rfl rfl rfl rfl fun hl3=>fG rfl rfl<|un 8 [] [(0,3),(10,1)] [(4,3)] rfl rfl rfl rfl rfl rfl fun hl4=>fG rfl rfl<|sR rfl<|pV 5 hl1 rfl<|pV 6 hl2 rfl<|pV 7 hl3 rfl<|pV 8 hl4 rfl<|nB (hT:=tok) () [5,6,7,8] hF rfl Tryz.results135 rfl rfl rfl rfl
theorem tQ{a_:List cQ}{k:Int}{s1:AC}:VS Tryz.prog κ 76 (lY a_ k) [.h s1 a_.length,I k] [] [ow s1 (a_:List cQ)] (fun(r:Int×(List cQ)) (y:Unit)=>I r.1) (fun(r:Int×(List cQ)) (y:Unit)=>[.o (bH [AC.v s1 a_.length] r.2)]):=
 bM tok Tryz.call76 Tryz.func76 Tryz.results76 rfl rfl<|mQ () [] (fun(p:(List cQ)×Int×Int) (_:Unit)=>[(0,.h s1 p.1.length),(1,I p.2.1),(5,I p.2.2)]) [0] [] (fun p _=>[ow s1 (p.1:List cQ)]) id [] (fun(p:(List cQ)×Int) (_:Unit)=>[(0,.h s1 p.1.length),(1,I p.2)]) [] (fun p _=>[ow s1 (p.1:List cQ)]) rfl rfl (fun hF1 ⟨x4,x5,x6⟩ _ hr1=>fun hG1=>nd hG1 fun hl3 hG1=>wi hG1<|aV [9] rfl rfl (mP wG 0 rfl rfl rfl fun x9 h1 _ h2=>fun hG1=>dT 0 h2 h1 rfl rfl rfl rfl rfl<|dT 0 h2 h1 rfl rfl rfl rfl rfl<|dT 0 h2 h1 rfl rfl rfl rfl rfl<|dT 0 h2 h1 rfl rfl rfl rfl rfl<|sF rfl<|nD wG 1 [] [0,7,12,21,28,37] (⟨(Int.tmod x5 3) == 0,aI (x5+1),(Int.tmod (aI ((aI (x5+1))+1)) 3) == 0,aI ((aI ((aI (x5+1))+1))+1)⟩:cQ) () rfl rfl rfl rfl rfl rfl rfl rfl<|EY () [4] hG1 rfl)<|jE [0] rfl) fun⟨x7,x8⟩ _=>fun hF=>nd hF fun hl2 hF=>sR rfl<|pV 0 hl2 rfl<|nB (hT:=tok) () [0] hF rfl Tryz.results76 rfl rfl rfl rfl
theorem wU{a_:aD}{k:Int}{s1:AC}:VS Tryz.prog κ 136 (oC a_ k) [.g [I a_.aJ,.h s1 a_.aM.length],I k] [] [ow s1 (a_.aM:List cQ)] (fun(r:Int×(List cQ)) (y:Unit)=>I r.1) (fun(r:Int×(List cQ)) (y:Unit)=>[.o (bH [AC.v s1 a_.aM.length] r.2)]):=
 bM tok Tryz.call136 Tryz.func136 Tryz.results136 rfl rfl<|fZ [0] rfl rfl rfl rfl (fun _=>tQ) fun x1 _=>fun hF=>un 2 [6] [(0,1)] [(1,1)] rfl rfl rfl rfl rfl rfl fun hl1=>sR rfl<|pV 2 hl1 rfl<|nB (hT:=tok) () [2] hF rfl Tryz.results136 rfl rfl rfl rfl
theorem zJ{a_:aA}{k:Int}{s1 s2 s3 s4 s5 s6 s7:AC}:VS Tryz.prog κ 59 (qE a_ k) [.g [.h s1 a_.Mem.aC.Bytes.length,.h s2 a_.Mem.aC.Class.length,.h s3 a_.Mem.aB.Global.length,.h s4 a_.Mem.aB.bA.length,I a_.aD.aJ,.h s5 a_.aD.aM.length,.h s6 a_.aH.length,.h s7 a_.bO.length],I k] [] [ow s1 (a_.Mem.aC.Bytes:List Int),ow s2 (a_.Mem.aC.Class:List Int),ow s3 (a_.Mem.aB.Global:List aG),ow s4 (a_.Mem.aB.bA:List aG),ow s5 (a_.aD.aM:List cQ),ow s6 (a_.aH:List aP),ow s7 (a_.bO:List Int)] (fun(r:Int×(List Int)×(List Int)×(List aG)×(List aG)×(List cQ)×(List aP)×(List Int)) (y:Unit)=>I r.1) (fun(r:Int×(List Int)×(List Int)×(List aG)×(List aG)×(List cQ)×(List aP)×(List Int)) (y:Unit)=>[.o (bH [AC.v s1 a_.Mem.aC.Bytes.length] r.2.1),.o (bH [AC.v s2 a_.Mem.aC.Class.length] r.2.2.1),.o (bH [AC.v s3 a_.Mem.aB.Global.length] r.2.2.2.1),.o (bH [AC.v s4 a_.Mem.aB.bA.length] r.2.2.2.2.1),.o (bH [AC.v s5 a_.aD.aM.length] r.2.2.2.2.2.1),.o (bH [AC.v s6 a_.aH.length] r.2.2.2.2.2.2.1),.o (bH [AC.v s7 a_.bO.length] r.2.2.2.2.2.2.2)]):=
 bM tok Tryz.call59 Tryz.func59 Tryz.results59 rfl rfl<|fZ [0,1,2,3] rfl rfl rfl rfl (fun _=>B7) fun x1 _=>fun hF=>un 8 [] [(0,0),(6,0)] [(7,0)] rfl rfl rfl rfl rfl rfl fun hl1=>fG rfl rfl<|un 9 [] [(0,1),(6,1)] [(7,1)] rfl rfl rfl rfl rfl rfl fun hl2=>fG rfl rfl<|un 10 [] [(0,2),(6,2)] [(7,2)] rfl rfl rfl rfl rfl rfl fun hl3=>fG rfl rfl<|un 11 [] [(0,3),(6,3)] [(7,3)] rfl rfl rfl rfl rfl rfl fun hl4=>fG rfl rfl<|wi hF<|fZ [4] rfl rfl rfl rfl (fun _=>wU) fun x2 _=>fun hF=>un 12 [] [(0,5),(10,1)] [(7,5)] rfl rfl rfl rfl rfl rfl fun hl5=>wi hF<|fZ [5] rfl rfl rfl rfl (fun _=>qZ) fun x3 _=>fun hF=>un 13 [14] [(0,6)] [(7,6)] rfl rfl rfl rfl rfl rfl fun hl6=>wi hF<|fZ [6] rfl rfl rfl rfl (fun _=>dU) fun x4 _=>fun hF=>un 14 [18] [(0,7)] [(7,7)] rfl rfl rfl rfl rfl rfl fun hl7=>sR rfl<|pV 8 hl1 rfl<|pV 9 hl2 rfl<|pV 10 hl3 rfl<|pV 11 hl4 rfl<|pV 12 hl5 rfl<|pV 13 hl6 rfl<|pV 14 hl7 rfl<|nB (hT:=tok) () [8,9,10,11,12,13,14] hF rfl Tryz.results59 rfl rfl rfl rfl
theorem tR{a_:List bG}{k:Int}{s1:AC}:VS Tryz.prog κ 61 (lZ a_ k) [.h s1 a_.length,I k] [] [ow s1 (a_:List bG)] (fun(r:Int×(List bG)) (y:Unit)=>I r.1) (fun(r:Int×(List bG)) (y:Unit)=>[.o (bH [AC.v s1 a_.length] r.2)]):=
 bM tok Tryz.call61 Tryz.func61 Tryz.results61 rfl rfl<|mQ () [] (fun(p:(List bG)×Int×Int) (_:Unit)=>[(0,.h s1 p.1.length),(1,I p.2.1),(5,I p.2.2)]) [0] [] (fun p _=>[ow s1 (p.1:List bG)]) id [] (fun(p:(List bG)×Int) (_:Unit)=>[(0,.h s1 p.1.length),(1,I p.2)]) [] (fun p _=>[ow s1 (p.1:List bG)]) rfl rfl (fun hF1 ⟨x4,x5,x6⟩ _ hr1=>fun hG1=>nd hG1 fun hl3 hG1=>wi hG1<|aV [9] rfl rfl (mP eO 0 rfl rfl rfl fun x9 h1 _ h2=>fun hG1=>dT 0 h2 h1 rfl rfl rfl rfl rfl<|dT 0 h2 h1 rfl rfl rfl rfl rfl<|dT 0 h2 h1 rfl rfl rfl rfl rfl<|dT 0 h2 h1 rfl rfl rfl rfl rfl<|dT 0 h2 h1 rfl rfl rfl rfl rfl<|dT 0 h2 h1 rfl rfl rfl rfl rfl<|dT 0 h2 h1 rfl rfl rfl rfl rfl<|dT 0 h2 h1 rfl rfl rfl rfl rfl<|dT 0 h2 h1 rfl rfl rfl rfl rfl<|dT 0 h2 h1 rfl rfl rfl rfl rfl<|dT 0 h2 h1 rfl rfl rfl rfl rfl<|dT 0 h2 h1 rfl rfl rfl rfl rfl<|dT 0 h2 h1 rfl rfl rfl rfl rfl<|dT 0 h2 h1 rfl rfl rfl rfl rfl<|dT 0 h2 h1 rfl rfl rfl rfl rfl<|dT 0 h2 h1 rfl rfl rfl rfl rfl<|dT 0 h2 h1 rfl rfl rfl rfl rfl<|dT 0 h2 h1 rfl rfl rfl rfl rfl<|dT 0 h2 h1 rfl rfl rfl rfl rfl<|dT 0 h2 h1 rfl rfl rfl rfl rfl<|dT 0 h2 h1 rfl rfl rfl rfl rfl<|sF rfl<|nD eO 1 [] [0,7,12,21,29,37,45,53,60,67,75,83,91,99,107,115,123,131,139,149,156,163,170] (⟨(Int.tmod x5 3) == 0,(⟨aI (x5+1),aI ((aI (x5+1))+1),aI ((aI ((aI (x5+1))+1))+1),aI ((aI ((aI ((aI (x5+1))+1))+1))+1)⟩:cM),aI ((aI ((aI ((aI ((aI (x5+1))+1))+1))+1))+1),aI ((aI ((aI ((aI ((aI ((aI (x5+1))+1))+1))+1))+1))+1),(⟨aI ((aI ((aI ((aI ((aI ((aI ((aI (x5+1))+1))+1))+1))+1))+1))+1),aI ((aI ((aI ((aI ((aI ((aI ((aI ((aI (x5+1))+1))+1))+1))+1))+1))+1))+1),aI ((aI ((aI ((aI ((aI ((aI ((aI ((aI ((aI (x5+1))+1))+1))+1))+1))+1))+1))+1))+1),aI ((aI ((aI ((aI ((aI ((aI ((aI ((aI ((aI ((aI (x5+1))+1))+1))+1))+1))+1))+1))+1))+1))+1),aI ((aI ((aI ((aI ((aI ((aI ((aI ((aI ((aI ((aI ((aI (x5+1))+1))+1))+1))+1))+1))+1))+1))+1))+1))+1),aI ((aI ((aI ((aI ((aI ((aI ((aI ((aI ((aI ((aI ((aI ((aI (x5+1))+1))+1))+1))+1))+1))+1))+1))+1))+1))+1))+1),aI ((aI ((aI ((aI ((aI ((aI ((aI ((aI ((aI ((aI ((aI ((aI ((aI (x5+1))+1))+1))+1))+1))+1))+1))+1))+1))+1))+1))+1))+1),aI ((aI ((aI ((aI ((aI ((aI ((aI ((aI ((aI ((aI ((aI ((aI ((aI ((aI (x5+1))+1))+1))+1))+1))+1))+1))+1))+1))+1))+1))+1))+1))+1),aI ((aI ((aI ((aI ((aI ((aI ((aI ((aI ((aI ((aI ((aI ((aI ((aI ((aI ((aI (x5+1))+1))+1))+1))+1))+1))+1))+1))+1))+1))+1))+1))+1))+1))+1),(Int.tmod (aI ((aI ((aI ((aI ((aI ((aI ((aI ((aI ((aI ((aI ((aI ((aI ((aI ((aI ((aI ((aI (x5+1))+1))+1))+1))+1))+1))+1))+1))+1))+1))+1))+1))+1))+1))+1))+1)) 3) == 0⟩:Sub),aI ((aI ((aI ((aI ((aI ((aI ((aI ((aI ((aI ((aI ((aI ((aI ((aI ((aI ((aI ((aI ((aI (x5+1))+1))+1))+1))+1))+1))+1))+1))+1))+1))+1))+1))+1))+1))+1))+1))+1),aI ((aI ((aI ((aI ((aI ((aI ((aI ((aI ((aI ((aI ((aI ((aI ((aI ((aI ((aI ((aI ((aI ((aI (x5+1))+1))+1))+1))+1))+1))+1))+1))+1))+1))+1))+1))+1))+1))+1))+1))+1))+1),aI ((aI ((aI ((aI ((aI ((aI ((aI ((aI ((aI ((aI ((aI ((aI ((aI ((aI ((aI ((aI ((aI ((aI ((aI (x5+1))+1))+1))+1))+1))+1))+1))+1))+1))+1))+1))+1))+1))+1))+1))+1))+1))+1))+1),aI ((aI ((aI ((aI ((aI ((aI ((aI ((aI ((aI ((aI ((aI ((aI ((aI ((aI ((aI ((aI ((aI ((aI ((aI ((aI (x5+1))+1))+1))+1))+1))+1))+1))+1))+1))+1))+1))+1))+1))+1))+1))+1))+1))+1))+1))+1)⟩:bG) () rfl rfl rfl rfl rfl rfl rfl rfl<|EY () [4] hG1 rfl)<|jE [0] rfl) fun⟨x7,x8⟩ _=>fun hF=>nd hF fun hl2 hF=>sR rfl<|pV 0 hl2 rfl<|nB (hT:=tok) () [0] hF rfl Tryz.results61 rfl rfl rfl rfl
theorem vH{a_:List cM}{k:Int}{s1:AC}:VS Tryz.prog κ 137 (nU a_ k) [.h s1 a_.length,I k] [] [ow s1 (a_:List cM)] (fun(r:Int×(List cM)) (y:Unit)=>I r.1) (fun(r:Int×(List cM)) (y:Unit)=>[.o (bH [AC.v s1 a_.length] r.2)]):=
 bM tok Tryz.call137 Tryz.func137 Tryz.results137 rfl rfl<|mQ () [] (fun(p:(List cM)×Int×Int) (_:Unit)=>[(0,.h s1 p.1.length),(1,I p.2.1),(5,I p.2.2)]) [0] [] (fun p _=>[ow s1 (p.1:List cM)]) id [] (fun(p:(List cM)×Int) (_:Unit)=>[(0,.h s1 p.1.length),(1,I p.2)]) [] (fun p _=>[ow s1 (p.1:List cM)]) rfl rfl (fun hF1 ⟨x4,x5,x6⟩ _ hr1=>fun hG1=>nd hG1 fun hl3 hG1=>wi hG1<|aV [9] rfl rfl (mP aAP 0 rfl rfl rfl fun x9 h1 _ h2=>fun hG1=>dT 0 h2 h1 rfl rfl rfl rfl rfl<|dT 0 h2 h1 rfl rfl rfl rfl rfl<|dT 0 h2 h1 rfl rfl rfl rfl rfl<|dT 0 h2 h1 rfl rfl rfl rfl rfl<|sF rfl<|nD aAP 1 [] [0,7,12,19,26,33] (⟨x5,aI (x5+1),aI ((aI (x5+1))+1),aI ((aI ((aI (x5+1))+1))+1)⟩:cM) () rfl rfl rfl rfl rfl rfl rfl rfl<|EY () [4] hG1 rfl)<|jE [0] rfl) fun⟨x7,x8⟩ _=>fun hF=>nd hF fun hl2 hF=>sR rfl<|pV 0 hl2 rfl<|nB (hT:=tok) () [0] hF rfl Tryz.results137 rfl rfl rfl rfl
theorem pA{a_:List Queue}{k:Int}{s1:AC}:VS Tryz.prog κ 62 (jC a_ k) [.h s1 a_.length,I k] [] [ow s1 (a_:List Queue)] (fun(r:Int×(List Queue)) (y:Unit)=>I r.1) (fun(r:Int×(List Queue)) (y:Unit)=>[.o (bH [AC.v s1 a_.length] r.2)]):=
 bM tok Tryz.call62 Tryz.func62 Tryz.results62 rfl rfl<|mQ () [] (fun(p:(List Queue)×Int×Int) (_:Unit)=>[(0,.h s1 p.1.length),(1,I p.2.1),(5,I p.2.2)]) [0] [] (fun p _=>[ow s1 (p.1:List Queue)]) id [] (fun(p:(List Queue)×Int) (_:Unit)=>[(0,.h s1 p.1.length),(1,I p.2)]) [] (fun p _=>[ow s1 (p.1:List Queue)]) rfl rfl (fun hF1 ⟨x4,x5,x6⟩ _ hr1=>fun hG1=>nd hG1 fun hl3 hG1=>wi hG1<|aV [9] rfl rfl (mP rL 0 rfl rfl rfl fun x9 h1 s2 h2=>fun hG1=>dT 0 h2 h1 rfl rfl rfl rfl rfl<|wi hG1<|fZ [4] rfl rfl rfl rfl (fun _=>vH) fun x10 _=>fun hG1=>un 5 [16] [] [(2,0)] rfl rfl rfl rfl rfl rfl fun hl4=>sF rfl<|nD rL 1 [5] [0,7,12] (⟨x10.2⟩:Queue) s2 rfl rfl rfl rfl rfl rfl rfl rfl<|EY () [6] hG1 rfl)<|jE [0] rfl) fun⟨x7,x8⟩ _=>fun hF=>nd hF fun hl2 hF=>sR rfl<|pV 0 hl2 rfl<|nB (hT:=tok) () [0] hF rfl Tryz.results62 rfl rfl rfl rfl
theorem vI{a_:List Ev}{k:Int}{s1:AC}:VS Tryz.prog κ 63 (mZ a_ k) [.h s1 a_.length,I k] [] [ow s1 (a_:List Ev)] (fun(r:Int×(List Ev)) (y:Unit)=>I r.1) (fun(r:Int×(List Ev)) (y:Unit)=>[.o (bH [AC.v s1 a_.length] r.2)]):=
 bM tok Tryz.call63 Tryz.func63 Tryz.results63 rfl rfl<|mQ () [] (fun(p:(List Ev)×Int×Int) (_:Unit)=>[(0,.h s1 p.1.length),(1,I p.2.1),(5,I p.2.2)]) [0] [] (fun p _=>[ow s1 (p.1:List Ev)]) id [] (fun(p:(List Ev)×Int) (_:Unit)=>[(0,.h s1 p.1.length),(1,I p.2)]) [] (fun p _=>[ow s1 (p.1:List Ev)]) rfl rfl (fun hF1 ⟨x4,x5,x6⟩ _ hr1=>fun hG1=>nd hG1 fun hl3 hG1=>wi hG1<|aV [9] rfl rfl (mP oEv 0 rfl rfl rfl fun x9 h1 _ h2=>fun hG1=>dT 0 h2 h1 rfl rfl rfl rfl rfl<|dT 0 h2 h1 rfl rfl rfl rfl rfl<|dT 0 h2 h1 rfl rfl rfl rfl rfl<|dT 0 h2 h1 rfl rfl rfl rfl rfl<|dT 0 h2 h1 rfl rfl rfl rfl rfl<|dT 0 h2 h1 rfl rfl rfl rfl rfl<|dT 0 h2 h1 rfl rfl rfl rfl rfl<|sF rfl<|nD oEv 1 [] [0,7,12,19,26,33,40,47,54] (⟨x5,aI (x5+1),aI ((aI (x5+1))+1),aI ((aI ((aI (x5+1))+1))+1),aI ((aI ((aI ((aI (x5+1))+1))+1))+1),aI ((aI ((aI ((aI ((aI (x5+1))+1))+1))+1))+1),aI ((aI ((aI ((aI ((aI ((aI (x5+1))+1))+1))+1))+1))+1)⟩:Ev) () rfl rfl rfl rfl rfl rfl rfl rfl<|EY () [4] hG1 rfl)<|jE [0] rfl) fun⟨x7,x8⟩ _=>fun hF=>nd hF fun hl2 hF=>sR rfl<|pV 0 hl2 rfl<|nB (hT:=tok) () [0] hF rfl Tryz.results63 rfl rfl rfl rfl
theorem oY{a_:aE}{k:Int}{s1 s2 s3 s4 s5 s6 s7 s8 s9 s10 s11:AC}:VS Tryz.prog κ 15 (eK a_ k) [.g [.h s1 a_.aA.Mem.aC.Bytes.length,.h s2 a_.aA.Mem.aC.Class.length,.h s3 a_.aA.Mem.aB.Global.length,.h s4 a_.aA.Mem.aB.bA.length,I a_.aA.aD.aJ,.h s5 a_.aA.aD.aM.length,.h s6 a_.aA.aH.length,.h s7 a_.aA.bO.length,.h s8 a_.Cells.length,.h s9 a_.aR.length,.h s10 a_.aU.length,.h s11 a_.Log.length,I a_.aK],I k] [] [ow s1 (a_.aA.Mem.aC.Bytes:List Int),ow s2 (a_.aA.Mem.aC.Class:List Int),ow s3 (a_.aA.Mem.aB.Global:List aG),ow s4 (a_.aA.Mem.aB.bA:List aG),ow s5 (a_.aA.aD.aM:List cQ),ow s6 (a_.aA.aH:List aP),ow s7 (a_.aA.bO:List Int),ow s8 (a_.Cells:List Int),ow s9 (a_.aR:List bG),ow s10 (a_.aU:List Queue),ow s11 (a_.Log:List Ev)] (fun(r:Int×(List Int)×(List Int)×(List aG)×(List aG)×(List cQ)×(List aP)×(List Int)×(List Int)×(List bG)×(List Queue)×(List Ev)) (y:Unit)=>I r.1) (fun(r:Int×(List Int)×(List Int)×(List aG)×(List aG)×(List cQ)×(List aP)×(List Int)×(List Int)×(List bG)×(List Queue)×(List Ev)) (y:Unit)=>[.o (bH [AC.v s1 a_.aA.Mem.aC.Bytes.length] r.2.1),.o (bH [AC.v s2 a_.aA.Mem.aC.Class.length] r.2.2.1),.o (bH [AC.v s3 a_.aA.Mem.aB.Global.length] r.2.2.2.1),.o (bH [AC.v s4 a_.aA.Mem.aB.bA.length] r.2.2.2.2.1),.o (bH [AC.v s5 a_.aA.aD.aM.length] r.2.2.2.2.2.1),.o (bH [AC.v s6 a_.aA.aH.length] r.2.2.2.2.2.2.1),.o (bH [AC.v s7 a_.aA.bO.length] r.2.2.2.2.2.2.2.1),.o (bH [AC.v s8 a_.Cells.length] r.2.2.2.2.2.2.2.2.1),.o (bH [AC.v s9 a_.aR.length] r.2.2.2.2.2.2.2.2.2.1),.o (bH [AC.v s10 a_.aU.length] r.2.2.2.2.2.2.2.2.2.2.1),.o (bH [AC.v s11 a_.Log.length] r.2.2.2.2.2.2.2.2.2.2.2)]):=
 bM tok Tryz.call15 Tryz.func15 Tryz.results15 rfl rfl<|fZ [0,1,2,3,4,5,6] rfl rfl rfl rfl (fun _=>zJ) fun x1 _=>fun hF=>un 12 [] [(0,0),(6,0)] [(11,0)] rfl rfl rfl rfl rfl rfl fun hl1=>fG rfl rfl<|un 13 [] [(0,1),(6,1)] [(11,1)] rfl rfl rfl rfl rfl rfl fun hl2=>fG rfl rfl<|un 14 [] [(0,2),(6,2)] [(11,2)] rfl rfl rfl rfl rfl rfl fun hl3=>fG rfl rfl<|un 15 [] [(0,3),(6,3)] [(11,3)] rfl rfl rfl rfl rfl rfl fun hl4=>fG rfl rfl<|un 16 [] [(0,5),(6,5)] [(11,5)] rfl rfl rfl rfl rfl rfl fun hl5=>fG rfl rfl<|un 17 [] [(0,6),(6,6)] [(11,6)] rfl rfl rfl rfl rfl rfl fun hl6=>fG rfl rfl<|un 18 [] [(0,7),(6,7)] [(11,7)] rfl rfl rfl rfl rfl rfl fun hl7=>fG rfl rfl<|wi hF<|fZ [7] rfl rfl rfl rfl (fun _=>dU) fun x2 _=>fun hF=>un 19 [10] [(0,8)] [(11,8)] rfl rfl rfl rfl rfl rfl fun hl8=>wi hF<|fZ [8] rfl rfl rfl rfl (fun _=>tR) fun x3 _=>fun hF=>un 20 [14] [(0,9)] [(11,9)] rfl rfl rfl rfl rfl rfl fun hl9=>wi hF<|fZ [9] rfl rfl rfl rfl (fun _=>pA) fun x4 _=>fun hF=>un 21 [18] [(0,10)] [(11,10)] rfl rfl rfl rfl rfl rfl fun hl10=>wi hF<|fZ [10] rfl rfl rfl rfl (fun _=>vI) fun x5 _=>fun hF=>un 22 [22] [(0,11)] [(11,11)] rfl rfl rfl rfl rfl rfl fun hl11=>sR rfl<|pV 12 hl1 rfl<|pV 13 hl2 rfl<|pV 14 hl3 rfl<|pV 15 hl4 rfl<|pV 16 hl5 rfl<|pV 17 hl6 rfl<|pV 18 hl7 rfl<|pV 19 hl8 rfl<|pV 20 hl9 rfl<|pV 21 hl10 rfl<|pV 22 hl11 rfl<|nB (hT:=tok) () [12,13,14,15,16,17,18,19,20,21,22] hF rfl Tryz.results15 rfl rfl rfl rfl
theorem d7{a_:List Int}{k:Int}{s1:AC}(h1:aQ κ s1 a_):V0 Tryz.prog κ 65 (d8 a_ k) [.h s1 a_.length,I k] I:=
 bM tok Tryz.call65 Tryz.func65 Tryz.results65 rfl rfl<|mQ () [0] (fun(p:Int×Int) (_:Unit)=>[(1,I p.1),(5,I p.2)]) [] [] (fun p _=>[]) Out.brk [] (fun(x5:Int) (_:Unit)=>[(1,I x5)]) [] (fun x5 _=>[]) rfl rfl (fun hF1 ⟨x3,x4⟩ _ hr1=>aV [9] rfl rfl (UT rfl h1 rfl fun x6=>aV [17] rfl rfl (eX hr1 hF1<|aY rfl rfl)<|pX [] rfl)<|jE [] rfl) fun x5 _=>aY rfl rfl
theorem sE{a_:List bP}{k:Int}{s1:AC}(h1:aQ κ s1 a_):V0 Tryz.prog κ 148 (fE a_ k) [.h s1 a_.length,I k] I:=
 bM tok Tryz.call148 Tryz.func148 Tryz.results148 rfl rfl<|mQ () [0] (fun(p:Int×Int) (_:Unit)=>[(1,I p.1),(5,I p.2)]) [] [] (fun p _=>[]) Out.brk [] (fun(x5:Int) (_:Unit)=>[(1,I x5)]) [] (fun x5 _=>[]) rfl rfl (fun hF1 ⟨x3,x4⟩ _ hr1=>aV [9] rfl rfl (eG DF rfl h1 rfl fun x6 _ _=>aV [18] rfl rfl (eX hr1 hF1<|aY rfl rfl)<|eG DF rfl h1 rfl fun x7 _ _=>aV [27] rfl rfl (eX hr1 hF1<|aY rfl rfl)<|pX [] rfl)<|jE [] rfl) fun x5 _=>aY rfl rfl
theorem rA{a_:List aP}{k:Int}{s1:AC}(h1:aQ κ s1 a_):V0 Tryz.prog κ 80 (jT a_ k) [.h s1 a_.length,I k] I:=
 bM tok Tryz.call80 Tryz.func80 Tryz.results80 rfl rfl<|mQ () [0] (fun(p:Int×Int) (_:Unit)=>[(1,I p.1),(5,I p.2)]) [] [] (fun p _=>[]) Out.brk [] (fun(x5:Int) (_:Unit)=>[(1,I x5)]) [] (fun x5 _=>[]) rfl rfl (fun hF1 ⟨x3,x4⟩ _ hr1=>aV [9] rfl rfl (eG sU rfl h1 rfl fun x6 s2 h2=>c0 rfl (fun h=>sE (h.a h2)) fun x7=>aV [20] rfl rfl (eX hr1 hF1<|aY rfl rfl)<|pX [] rfl)<|jE [] rfl) fun x5 _=>aY rfl rfl
theorem zK{a_:aC}{k:Int}{s1 s2:AC}(h1:aQ κ s1 a_.Bytes)(h2:aQ κ s2 a_.Class):V0 Tryz.prog κ 225 (qF a_ k) [.g [.h s1 a_.Bytes.length,.h s2 a_.Class.length],I k] I:=
 bM tok Tryz.call225 Tryz.func225 Tryz.results225 rfl rfl<|c0 rfl (fun h=>d7 (h.a h1)) fun x1=>aV [10] rfl rfl (aY rfl rfl)<|c0 rfl (fun h=>d7 (h.a h2)) fun x2=>aV [16] rfl rfl (aY rfl rfl)<|aY rfl rfl
theorem kA{a_:List aG}{k:Int}{s1:AC}(h1:aQ κ s1 a_):V0 Tryz.prog κ 78 (iP a_ k) [.h s1 a_.length,I k] I:=
 bM tok Tryz.call78 Tryz.func78 Tryz.results78 rfl rfl<|mQ () [0] (fun(p:Int×Int) (_:Unit)=>[(1,I p.1),(5,I p.2)]) [] [] (fun p _=>[]) Out.brk [] (fun(x5:Int) (_:Unit)=>[(1,I x5)]) [] (fun x5 _=>[]) rfl rfl (fun hF1 ⟨x3,x4⟩ _ hr1=>aV [9] rfl rfl (eG qR rfl h1 rfl fun x6 s2 h2=>c0 rfl (fun h=>d7 (h.a h2)) fun x7=>aV [20] rfl rfl (eX hr1 hF1<|aY rfl rfl)<|pX [] rfl)<|jE [] rfl) fun x5 _=>aY rfl rfl
theorem wV{a_:aB}{k:Int}{s1 s2:AC}(h1:aQ κ s1 a_.Global)(h2:aQ κ s2 a_.bA):V0 Tryz.prog κ 226 (oD a_ k) [.g [.h s1 a_.Global.length,.h s2 a_.bA.length],I k] I:=
 bM tok Tryz.call226 Tryz.func226 Tryz.results226 rfl rfl<|c0 rfl (fun h=>kA (h.a h1)) fun x1=>aV [10] rfl rfl (aY rfl rfl)<|c0 rfl (fun h=>kA (h.a h2)) fun x2=>aV [16] rfl rfl (aY rfl rfl)<|aY rfl rfl
theorem B8{a_:Mem}{k:Int}{s1 s2 s3 s4:AC}(h1:aQ κ s1 a_.aC.Bytes)(h2:aQ κ s2 a_.aC.Class)(h3:aQ κ s3 a_.aB.Global)(h4:aQ κ s4 a_.aB.bA):V0 Tryz.prog κ 138 (sA a_ k) [.g [.h s1 a_.aC.Bytes.length,.h s2 a_.aC.Class.length,.h s3 a_.aB.Global.length,.h s4 a_.aB.bA.length],I k] I:=
 bM tok Tryz.call138 Tryz.func138 Tryz.results138 rfl rfl<|c0 rfl (fun h=>zK (h.a h1) (h.a h2)) fun x1=>aV [10] rfl rfl (aY rfl rfl)<|c0 rfl (fun h=>wV (h.a h3) (h.a h4)) fun x2=>aV [16] rfl rfl (aY rfl rfl)<|aY rfl rfl
theorem tS{a_:List cQ}{k:Int}{s1:AC}(h1:aQ κ s1 a_):V0 Tryz.prog κ 79 (l4 a_ k) [.h s1 a_.length,I k] I:=
 bM tok Tryz.call79 Tryz.func79 Tryz.results79 rfl rfl<|mQ () [0] (fun(p:Int×Int) (_:Unit)=>[(1,I p.1),(5,I p.2)]) [] [] (fun p _=>[]) Out.brk [] (fun(x5:Int) (_:Unit)=>[(1,I x5)]) [] (fun x5 _=>[]) rfl rfl (fun hF1 ⟨x3,x4⟩ _ hr1=>aV [9] rfl rfl (eG DY rfl h1 rfl fun x6 _ _=>aV [20] rfl rfl (eX hr1 hF1<|aY rfl rfl)<|eG DY rfl h1 rfl fun x7 _ _=>aV [29] rfl rfl (eX hr1 hF1<|aY rfl rfl)<|eG DY rfl h1 rfl fun x8 _ _=>aV [40] rfl rfl (eX hr1 hF1<|aY rfl rfl)<|eG DY rfl h1 rfl fun x9 _ _=>aV [49] rfl rfl (eX hr1 hF1<|aY rfl rfl)<|pX [] rfl)<|jE [] rfl) fun x5 _=>aY rfl rfl
theorem wW{a_:aD}{k:Int}{s1:AC}(h1:aQ κ s1 a_.aM):V0 Tryz.prog κ 139 (oE a_ k) [.g [I a_.aJ,.h s1 a_.aM.length],I k] I:=
 bM tok Tryz.call139 Tryz.func139 Tryz.results139 rfl rfl<|c0 rfl (fun h=>tS (h.a h1)) fun x1=>aV [10] rfl rfl (aY rfl rfl)<|aY rfl rfl
theorem zL{a_:aA}{k:Int}{s1 s2 s3 s4 s5 s6 s7:AC}(h1:aQ κ s1 a_.Mem.aC.Bytes)(h2:aQ κ s2 a_.Mem.aC.Class)(h3:aQ κ s3 a_.Mem.aB.Global)(h4:aQ κ s4 a_.Mem.aB.bA)(h5:aQ κ s5 a_.aD.aM)(h6:aQ κ s6 a_.aH)(h7:aQ κ s7 a_.bO):V0 Tryz.prog κ 64 (qG a_ k) [.g [.h s1 a_.Mem.aC.Bytes.length,.h s2 a_.Mem.aC.Class.length,.h s3 a_.Mem.aB.Global.length,.h s4 a_.Mem.aB.bA.length,I a_.aD.aJ,.h s5 a_.aD.aM.length,.h s6 a_.aH.length,.h s7 a_.bO.length],I k] I:=
 bM tok Tryz.call64 Tryz.func64 Tryz.results64 rfl rfl<|c0 rfl (fun h=>B8 (h.a h1) (h.a h2) (h.a h3) (h.a h4)) fun x1=>aV [10] rfl rfl (aY rfl rfl)<|c0 rfl (fun h=>wW (h.a h5)) fun x2=>aV [16] rfl rfl (aY rfl rfl)<|c0 rfl (fun h=>rA (h.a h6)) fun x3=>aV [22] rfl rfl (aY rfl rfl)<|c0 rfl (fun h=>d7 (h.a h7)) fun x4=>aV [28] rfl rfl (aY rfl rfl)<|aY rfl rfl
theorem tT{a_:List bG}{k:Int}{s1:AC}(h1:aQ κ s1 a_):V0 Tryz.prog κ 66 (l5 a_ k) [.h s1 a_.length,I k] I:=
 bM tok Tryz.call66 Tryz.func66 Tryz.results66 rfl rfl<|mQ () [0] (fun(p:Int×Int) (_:Unit)=>[(1,I p.1),(5,I p.2)]) [] [] (fun p _=>[]) Out.brk [] (fun(x5:Int) (_:Unit)=>[(1,I x5)]) [] (fun x5 _=>[]) rfl rfl (fun hF1 ⟨x3,x4⟩ _ hr1=>aV [9] rfl rfl (eG gZ rfl h1 rfl fun x6 _ _=>aV [20] rfl rfl (eX hr1 hF1<|aY rfl rfl)<|eG gZ rfl h1 rfl fun x7 _ _=>aV [30] rfl rfl (eX hr1 hF1<|aY rfl rfl)<|eG gZ rfl h1 rfl fun x8 _ _=>aV [40] rfl rfl (eX hr1 hF1<|aY rfl rfl)<|eG gZ rfl h1 rfl fun x9 _ _=>aV [50] rfl rfl (eX hr1 hF1<|aY rfl rfl)<|eG gZ rfl h1 rfl fun x10 _ _=>aV [60] rfl rfl (eX hr1 hF1<|aY rfl rfl)<|eG gZ rfl h1 rfl fun x11 _ _=>aV [69] rfl rfl (eX hr1 hF1<|aY rfl rfl)<|eG gZ rfl h1 rfl fun x12 _ _=>aV [78] rfl rfl (eX hr1 hF1<|aY rfl rfl)<|eG gZ rfl h1 rfl fun x13 _ _=>aV [88] rfl rfl (eX hr1 hF1<|aY rfl rfl)<|eG gZ rfl h1 rfl fun x14 _ _=>aV [98] rfl rfl (eX hr1 hF1<|aY rfl rfl)<|eG gZ rfl h1 rfl fun x15 _ _=>aV [108] rfl rfl (eX hr1 hF1<|aY rfl rfl)<|eG gZ rfl h1 rfl fun x16 _ _=>aV [118] rfl rfl (eX hr1 hF1<|aY rfl rfl)<|eG gZ rfl h1 rfl fun x17 _ _=>aV [128] rfl rfl (eX hr1 hF1<|aY rfl rfl)<|eG gZ rfl h1 rfl fun x18 _ _=>aV [138] rfl rfl (eX hr1 hF1<|aY rfl rfl)<|eG gZ rfl h1 rfl fun x19 _ _=>aV [148] rfl rfl (eX hr1 hF1<|aY rfl rfl)<|eG gZ rfl h1 rfl fun x20 _ _=>aV [158] rfl rfl (eX hr1 hF1<|aY rfl rfl)<|eG gZ rfl h1 rfl fun x21 _ _=>aV [168] rfl rfl (eX hr1 hF1<|aY rfl rfl)<|eG gZ rfl h1 rfl fun x22 _ _=>aV [180] rfl rfl (eX hr1 hF1<|aY rfl rfl)<|eG gZ rfl h1 rfl fun x23 _ _=>aV [189] rfl rfl (eX hr1 hF1<|aY rfl rfl)<|eG gZ rfl h1 rfl fun x24 _ _=>aV [198] rfl rfl (eX hr1 hF1<|aY rfl rfl)<|eG gZ rfl h1 rfl fun x25 _ _=>aV [207] rfl rfl (eX hr1 hF1<|aY rfl rfl)<|eG gZ rfl h1 rfl fun x26 _ _=>aV [216] rfl rfl (eX hr1 hF1<|aY rfl rfl)<|pX [] rfl)<|jE [] rfl) fun x5 _=>aY rfl rfl
theorem vJ{a_:List cM}{k:Int}{s1:AC}(h1:aQ κ s1 a_):V0 Tryz.prog κ 140 (iB a_ k) [.h s1 a_.length,I k] I:=
 bM tok Tryz.call140 Tryz.func140 Tryz.results140 rfl rfl<|mQ () [0] (fun(p:Int×Int) (_:Unit)=>[(1,I p.1),(5,I p.2)]) [] [] (fun p _=>[]) Out.brk [] (fun(x5:Int) (_:Unit)=>[(1,I x5)]) [] (fun x5 _=>[]) rfl rfl (fun hF1 ⟨x3,x4⟩ _ hr1=>aV [9] rfl rfl (eG RG rfl h1 rfl fun x6 _ _=>aV [18] rfl rfl (eX hr1 hF1<|aY rfl rfl)<|eG RG rfl h1 rfl fun x7 _ _=>aV [27] rfl rfl (eX hr1 hF1<|aY rfl rfl)<|eG RG rfl h1 rfl fun x8 _ _=>aV [36] rfl rfl (eX hr1 hF1<|aY rfl rfl)<|eG RG rfl h1 rfl fun x9 _ _=>aV [45] rfl rfl (eX hr1 hF1<|aY rfl rfl)<|pX [] rfl)<|jE [] rfl) fun x5 _=>aY rfl rfl
theorem rB{a_:List Queue}{k:Int}{s1:AC}(h1:aQ κ s1 a_):V0 Tryz.prog κ 67 (jU a_ k) [.h s1 a_.length,I k] I:=
 bM tok Tryz.call67 Tryz.func67 Tryz.results67 rfl rfl<|mQ () [0] (fun(p:Int×Int) (_:Unit)=>[(1,I p.1),(5,I p.2)]) [] [] (fun p _=>[]) Out.brk [] (fun(x5:Int) (_:Unit)=>[(1,I x5)]) [] (fun x5 _=>[]) rfl rfl (fun hF1 ⟨x3,x4⟩ _ hr1=>aV [9] rfl rfl (eG FH rfl h1 rfl fun x6 s2 h2=>c0 rfl (fun h=>vJ (h.a h2)) fun x7=>aV [20] rfl rfl (eX hr1 hF1<|aY rfl rfl)<|pX [] rfl)<|jE [] rfl) fun x5 _=>aY rfl rfl
theorem vK{a_:List Ev}{k:Int}{s1:AC}(h1:aQ κ s1 a_):V0 Tryz.prog κ 68 (m0 a_ k) [.h s1 a_.length,I k] I:=
 bM tok Tryz.call68 Tryz.func68 Tryz.results68 rfl rfl<|mQ () [0] (fun(p:Int×Int) (_:Unit)=>[(1,I p.1),(5,I p.2)]) [] [] (fun p _=>[]) Out.brk [] (fun(x5:Int) (_:Unit)=>[(1,I x5)]) [] (fun x5 _=>[]) rfl rfl (fun hF1 ⟨x3,x4⟩ _ hr1=>aV [9] rfl rfl (eG UW rfl h1 rfl fun x6 _ _=>aV [18] rfl rfl (eX hr1 hF1<|aY rfl rfl)<|eG UW rfl h1 rfl fun x7 _ _=>aV [27] rfl rfl (eX hr1 hF1<|aY rfl rfl)<|eG UW rfl h1 rfl fun x8 _ _=>aV [36] rfl rfl (eX hr1 hF1<|aY rfl rfl)<|eG UW rfl h1 rfl fun x9 _ _=>aV [45] rfl rfl (eX hr1 hF1<|aY rfl rfl)<|eG UW rfl h1 rfl fun x10 _ _=>aV [54] rfl rfl (eX hr1 hF1<|aY rfl rfl)<|eG UW rfl h1 rfl fun x11 _ _=>aV [63] rfl rfl (eX hr1 hF1<|aY rfl rfl)<|eG UW rfl h1 rfl fun x12 _ _=>aV [72] rfl rfl (eX hr1 hF1<|aY rfl rfl)<|pX [] rfl)<|jE [] rfl) fun x5 _=>aY rfl rfl
theorem oZ{a_:aE}{k:Int}{s1 s2 s3 s4 s5 s6 s7 s8 s9 s10 s11:AC}(h1:aQ κ s1 a_.aA.Mem.aC.Bytes)(h2:aQ κ s2 a_.aA.Mem.aC.Class)(h3:aQ κ s3 a_.aA.Mem.aB.Global)(h4:aQ κ s4 a_.aA.Mem.aB.bA)(h5:aQ κ s5 a_.aA.aD.aM)(h6:aQ κ s6 a_.aA.aH)(h7:aQ κ s7 a_.aA.bO)(h8:aQ κ s8 a_.Cells)(h9:aQ κ s9 a_.aR)(h10:aQ κ s10 a_.aU)(h11:aQ κ s11 a_.Log):V0 Tryz.prog κ 16 (eM a_ k) [.g [.h s1 a_.aA.Mem.aC.Bytes.length,.h s2 a_.aA.Mem.aC.Class.length,.h s3 a_.aA.Mem.aB.Global.length,.h s4 a_.aA.Mem.aB.bA.length,I a_.aA.aD.aJ,.h s5 a_.aA.aD.aM.length,.h s6 a_.aA.aH.length,.h s7 a_.aA.bO.length,.h s8 a_.Cells.length,.h s9 a_.aR.length,.h s10 a_.aU.length,.h s11 a_.Log.length,I a_.aK],I k] I:=
 bM tok Tryz.call16 Tryz.func16 Tryz.results16 rfl rfl<|c0 rfl (fun h=>zL (h.a h1) (h.a h2) (h.a h3) (h.a h4) (h.a h5) (h.a h6) (h.a h7)) fun x1=>aV [10] rfl rfl (aY rfl rfl)<|c0 rfl (fun h=>d7 (h.a h8)) fun x2=>aV [16] rfl rfl (aY rfl rfl)<|c0 rfl (fun h=>tT (h.a h9)) fun x3=>aV [22] rfl rfl (aY rfl rfl)<|c0 rfl (fun h=>rB (h.a h10)) fun x4=>aV [28] rfl rfl (aY rfl rfl)<|c0 rfl (fun h=>vK (h.a h11)) fun x5=>aV [34] rfl rfl (aY rfl rfl)<|aY rfl rfl
theorem Y2{s:aE}{s1 s2 s3 s4 s5 s6 s7 s8 s9 s10 s11:AC}(h1:aQ κ s1 s.aA.Mem.aC.Bytes)(h2:aQ κ s2 s.aA.Mem.aC.Class)(h3:aQ κ s3 s.aA.Mem.aB.Global)(h4:aQ κ s4 s.aA.Mem.aB.bA)(h5:aQ κ s5 s.aA.aD.aM)(h6:aQ κ s6 s.aA.aH)(h7:aQ κ s7 s.aA.bO)(h8:aQ κ s8 s.Cells)(h9:aQ κ s9 s.aR)(h10:aQ κ s10 s.aU)(h11:aQ κ s11 s.Log):V0 Tryz.prog κ 69 (IY s) [.g [.h s1 s.aA.Mem.aC.Bytes.length,.h s2 s.aA.Mem.aC.Class.length,.h s3 s.aA.Mem.aB.Global.length,.h s4 s.aA.Mem.aB.bA.length,I s.aA.aD.aJ,.h s5 s.aA.aD.aM.length,.h s6 s.aA.aH.length,.h s7 s.aA.bO.length,.h s8 s.Cells.length,.h s9 s.aR.length,.h s10 s.aU.length,.h s11 s.Log.length,I s.aK]] .b:=
 bM tok Tryz.call69 Tryz.func69 Tryz.results69 rfl rfl<|CH 3 [1] [0] Out.brk [1] [0] rfl rfl (fun hF1 x2 hr1=>aV [9] rfl rfl (eG gZ rfl h9 rfl fun x6 _ _=>aV [17] rfl rfl (eX hr1 hF1<|aY rfl rfl)<|pX [0] rfl)<|jE [0] rfl)<|CH 4 [1] [0] Out.brk [] [] rfl rfl (fun hF2 x4 hr2=>aV [22] rfl rfl (eG FH rfl h10 rfl fun x5 s12 h12=>aV [32] rfl rfl (eX hr2 hF2<|aY rfl rfl)<|pX [0] rfl)<|jE [] rfl)<|aY rfl rfl
theorem ZZ{s:aE}{s1 s2 s3 s4 s5 s6 s7 s8 s9 s10 s11:AC}(h1:aQ κ s1 s.aA.Mem.aC.Bytes)(h2:aQ κ s2 s.aA.Mem.aC.Class)(h3:aQ κ s3 s.aA.Mem.aB.Global)(h4:aQ κ s4 s.aA.Mem.aB.bA)(h5:aQ κ s5 s.aA.aD.aM)(h6:aQ κ s6 s.aA.aH)(h7:aQ κ s7 s.aA.bO)(h8:aQ κ s8 s.Cells)(h9:aQ κ s9 s.aR)(h10:aQ κ s10 s.aU)(h11:aQ κ s11 s.Log):VS Tryz.prog κ 19 (AQ s) [.g [.h s1 s.aA.Mem.aC.Bytes.length,.h s2 s.aA.Mem.aC.Class.length,.h s3 s.aA.Mem.aB.Global.length,.h s4 s.aA.Mem.aB.bA.length,I s.aA.aD.aJ,.h s5 s.aA.aD.aM.length,.h s6 s.aA.aH.length,.h s7 s.aA.bO.length,.h s8 s.Cells.length,.h s9 s.aR.length,.h s10 s.aU.length,.h s11 s.Log.length,I s.aK]] [] [] (fun r (y:AC×AC×AC×AC×AC×AC×AC×AC×AC×AC×AC)=>.g [.h y.1 r.aA.Mem.aC.Bytes.length,.h y.2.1 r.aA.Mem.aC.Class.length,.h y.2.2.1 r.aA.Mem.aB.Global.length,.h y.2.2.2.1 r.aA.Mem.aB.bA.length,I r.aA.aD.aJ,.h y.2.2.2.2.1 r.aA.aD.aM.length,.h y.2.2.2.2.2.1 r.aA.aH.length,.h y.2.2.2.2.2.2.1 r.aA.bO.length,.h y.2.2.2.2.2.2.2.1 r.Cells.length,.h y.2.2.2.2.2.2.2.2.1 r.aR.length,.h y.2.2.2.2.2.2.2.2.2.1 r.aU.length,.h y.2.2.2.2.2.2.2.2.2.2 r.Log.length,I r.aK]) (fun r y=>[ow y.1 r.aA.Mem.aC.Bytes,ow y.2.1 r.aA.Mem.aC.Class,ow y.2.2.1 r.aA.Mem.aB.Global,ow y.2.2.2.1 r.aA.Mem.aB.bA,ow y.2.2.2.2.1 r.aA.aD.aM,ow y.2.2.2.2.2.1 r.aA.aH,ow y.2.2.2.2.2.2.1 r.aA.bO,ow y.2.2.2.2.2.2.2.1 r.Cells,ow y.2.2.2.2.2.2.2.2.1 r.aR,ow y.2.2.2.2.2.2.2.2.2.1 r.aU,ow y.2.2.2.2.2.2.2.2.2.2 r.Log]):=
 bM tok Tryz.call19 Tryz.func19 Tryz.results19 rfl rfl<|c1 rfl (fun h=>rM (h.a h1) (h.a h2) (h.a h3) (h.a h4) (h.a h5) (h.a h6) (h.a h7) (h.a h8) (h.a h9) (h.a h10) (h.a h11)) fun x1 s12=>c0 rfl (fun h=>xV (h.a h1) (h.a h2) (h.a h3) (h.a h4) (h.a h5) (h.a h6) (h.a h7) (h.a h8) (h.a h9) (h.a h10) (h.a h11)) fun x2=>aV [9] rfl rfl (gL (s12.1,s12.2.1,s12.2.2.1,s12.2.2.2.1,s12.2.2.2.2.1,s12.2.2.2.2.2.1,s12.2.2.2.2.2.2.1,s12.2.2.2.2.2.2.2.1,s12.2.2.2.2.2.2.2.2.1,s12.2.2.2.2.2.2.2.2.2.1,s12.2.2.2.2.2.2.2.2.2.2) [2,3,4,5,6,7,8,9,10,11,12] rfl rfl)<|mQ (s12.1,s12.2.1,s12.2.2.1,s12.2.2.2.1,s12.2.2.2.2.1,s12.2.2.2.2.2.1,s12.2.2.2.2.2.2.1,s12.2.2.2.2.2.2.2.1,s12.2.2.2.2.2.2.2.2.1,s12.2.2.2.2.2.2.2.2.2.1,s12.2.2.2.2.2.2.2.2.2.2) [2,3] (fun(p:Int×aE) (u:AC×AC×AC×AC×AC×AC×AC×AC×AC×AC×AC)=>[(4,I p.1)]) [2,3,4,5,6,7,8,9,10,11,12,13,1] [1] (fun p u=>[ow u.1 (p.2.aA.Mem.aC.Bytes:List Int),ow u.2.1 (p.2.aA.Mem.aC.Class:List Int),ow u.2.2.1 (p.2.aA.Mem.aB.Global:List aG),ow u.2.2.2.1 (p.2.aA.Mem.aB.bA:List aG),ow u.2.2.2.2.1 (p.2.aA.aD.aM:List cQ),ow u.2.2.2.2.2.1 (p.2.aA.aH:List aP),ow u.2.2.2.2.2.2.1 (p.2.aA.bO:List Int),ow u.2.2.2.2.2.2.2.1 (p.2.Cells:List Int),ow u.2.2.2.2.2.2.2.2.1 (p.2.aR:List bG),ow u.2.2.2.2.2.2.2.2.2.1 (p.2.aU:List Queue),ow u.2.2.2.2.2.2.2.2.2.2 (p.2.Log:List Ev),.box 2 [.h u.1 p.2.aA.Mem.aC.Bytes.length,.h u.2.1 p.2.aA.Mem.aC.Class.length,.h u.2.2.1 p.2.aA.Mem.aB.Global.length,.h u.2.2.2.1 p.2.aA.Mem.aB.bA.length,I p.2.aA.aD.aJ,.h u.2.2.2.2.1 p.2.aA.aD.aM.length,.h u.2.2.2.2.2.1 p.2.aA.aH.length,.h u.2.2.2.2.2.2.1 p.2.aA.bO.length,.h u.2.2.2.2.2.2.2.1 p.2.Cells.length,.h u.2.2.2.2.2.2.2.2.1 p.2.aR.length,.h u.2.2.2.2.2.2.2.2.2.1 p.2.aU.length,.h u.2.2.2.2.2.2.2.2.2.2 p.2.Log.length,I p.2.aK]]) id [2,3] (fun(x7:aE) (u:AC×AC×AC×AC×AC×AC×AC×AC×AC×AC×AC)=>[]) [1] (fun x7 u=>[ow u.1 (x7.aA.Mem.aC.Bytes:List Int),ow u.2.1 (x7.aA.Mem.aC.Class:List Int),ow u.2.2.1 (x7.aA.Mem.aB.Global:List aG),ow u.2.2.2.1 (x7.aA.Mem.aB.bA:List aG),ow u.2.2.2.2.1 (x7.aA.aD.aM:List cQ),ow u.2.2.2.2.2.1 (x7.aA.aH:List aP),ow u.2.2.2.2.2.2.1 (x7.aA.bO:List Int),ow u.2.2.2.2.2.2.2.1 (x7.Cells:List Int),ow u.2.2.2.2.2.2.2.2.1 (x7.aR:List bG),ow u.2.2.2.2.2.2.2.2.2.1 (x7.aU:List Queue),ow u.2.2.2.2.2.2.2.2.2.2 (x7.Log:List Ev),.box 2 [.h u.1 x7.aA.Mem.aC.Bytes.length,.h u.2.1 x7.aA.Mem.aC.Class.length,.h u.2.2.1 x7.aA.Mem.aB.Global.length,.h u.2.2.2.1 x7.aA.Mem.aB.bA.length,I x7.aA.aD.aJ,.h u.2.2.2.2.1 x7.aA.aD.aM.length,.h u.2.2.2.2.2.1 x7.aA.aH.length,.h u.2.2.2.2.2.2.1 x7.aA.bO.length,.h u.2.2.2.2.2.2.2.1 x7.Cells.length,.h u.2.2.2.2.2.2.2.2.1 x7.aR.length,.h u.2.2.2.2.2.2.2.2.2.1 x7.aU.length,.h u.2.2.2.2.2.2.2.2.2.2 x7.Log.length,I x7.aK]]) rfl rfl (fun hF1 ⟨x5,x6⟩ ⟨s24,s25,s26,s27,s28,s29,s30,s31,s32,s33,s34⟩ hr1=>mH 0 3 (fun(p:Bool×aE)=>oT x5 p.1 p.2) [2,3,4] (fun(p:Bool×aE) (_:Unit)=>[(17,.b p.1)]) [12] (fun p _=>[ow s24 (p.2.aA.Mem.aC.Bytes:List Int),ow s25 (p.2.aA.Mem.aC.Class:List Int),ow s26 (p.2.aA.Mem.aB.Global:List aG),ow s27 (p.2.aA.Mem.aB.bA:List aG),ow s28 (p.2.aA.aD.aM:List cQ),ow s29 (p.2.aA.aH:List aP),ow s30 (p.2.aA.bO:List Int),ow s31 (p.2.Cells:List Int),ow s32 (p.2.aR:List bG),ow s33 (p.2.aU:List Queue),ow s34 (p.2.Log:List Ev),.box 2 [.h s24 p.2.aA.Mem.aC.Bytes.length,.h s25 p.2.aA.Mem.aC.Class.length,.h s26 p.2.aA.Mem.aB.Global.length,.h s27 p.2.aA.Mem.aB.bA.length,I p.2.aA.aD.aJ,.h s28 p.2.aA.aD.aM.length,.h s29 p.2.aA.aH.length,.h s30 p.2.aA.bO.length,.h s31 p.2.Cells.length,.h s32 p.2.aR.length,.h s33 p.2.aU.length,.h s34 p.2.Log.length,I p.2.aK]]) rfl (c0 rfl (fun h=>Y2 (h.o 0 rfl) (h.o 1 rfl) (h.o 2 rfl) (h.o 3 rfl) (h.o 4 rfl) (h.o 5 rfl) (h.o 6 rfl) (h.o 7 rfl) (h.o 8 rfl) (h.o 9 rfl) (h.o 10 rfl)) fun x11=>fN [13,14] rfl rfl (cR (p:=(decide (x5 < 3000),x6)) [0,1,2,3,4,5,6,7,8,9,10,11,12] rfl rfl)<|cR (p:=(false,x6)) [0,1,2,3,4,5,6,7,8,9,10,11,12] rfl rfl) fun⟨x8,x9⟩ _=>aV [17] rfl rfl (fZ [0,1,2,3,4,5,6,7,8,9,10] rfl rfl rfl rfl (fun _=>G0) fun x10 s46=>nxW (s46.1,s46.2.1,s46.2.2.1,s46.2.2.2.1,s46.2.2.2.2.1,s46.2.2.2.2.2.1,s46.2.2.2.2.2.2.1,s46.2.2.2.2.2.2.2.1,s46.2.2.2.2.2.2.2.2.1,s46.2.2.2.2.2.2.2.2.2.1,s46.2.2.2.2.2.2.2.2.2.2) [13,14,15,16,17,18,19,20,21,22,23,11,12] rfl)<|bkW (s24,s25,s26,s27,s28,s29,s30,s31,s32,s33,s34) [0,1,2,3,4,5,6,7,8,9,10,11,12] rfl) fun x7 ⟨s35,s36,s37,s38,s39,s40,s41,s42,s43,s44,s45⟩=>gL (s35,s36,s37,s38,s39,s40,s41,s42,s43,s44,s45) [0,1,2,3,4,5,6,7,8,9,10] rfl rfl
theorem Z0{j:bG}:V0 Tryz.prog κ 141 (J3 j) [.g [.b j.g7,I j.Op.Kind,I j.Op.Cell,I j.Op.gD,I j.Op.eY,I j.aK,I j.Pc,I j.Sub.Kind,I j.Sub.A,I j.Sub.Pc,I j.Sub.E,I j.Sub.Row,I j.Sub.B,I j.Sub.H,I j.Sub.Out,I j.Sub.Code,.b j.Sub.dW,I j.H,I j.Old,I j.eY,I j.Code]] .b:=
 bM tok Tryz.call141 Tryz.func141 Tryz.results141 rfl rfl<|aY rfl rfl
theorem Z1{q:Queue}{s1:AC}(h1:aQ κ s1 q.kJ):V0 Tryz.prog κ 143 (J4 q) [.g [.h s1 q.kJ.length]] .b:=
 bM tok Tryz.call143 Tryz.func143 Tryz.results143 rfl rfl<|aY rfl rfl
theorem Y3{s:aE}{s1 s2 s3 s4 s5 s6 s7 s8 s9 s10 s11:AC}(h1:aQ κ s1 s.aA.Mem.aC.Bytes)(h2:aQ κ s2 s.aA.Mem.aC.Class)(h3:aQ κ s3 s.aA.Mem.aB.Global)(h4:aQ κ s4 s.aA.Mem.aB.bA)(h5:aQ κ s5 s.aA.aD.aM)(h6:aQ κ s6 s.aA.aH)(h7:aQ κ s7 s.aA.bO)(h8:aQ κ s8 s.Cells)(h9:aQ κ s9 s.aR)(h10:aQ κ s10 s.aU)(h11:aQ κ s11 s.Log):V0 Tryz.prog κ 70 (IZ s) [.g [.h s1 s.aA.Mem.aC.Bytes.length,.h s2 s.aA.Mem.aC.Class.length,.h s3 s.aA.Mem.aB.Global.length,.h s4 s.aA.Mem.aB.bA.length,I s.aA.aD.aJ,.h s5 s.aA.aD.aM.length,.h s6 s.aA.aH.length,.h s7 s.aA.bO.length,.h s8 s.Cells.length,.h s9 s.aR.length,.h s10 s.aU.length,.h s11 s.Log.length,I s.aK]] .b:=
 bM tok Tryz.call70 Tryz.func70 Tryz.results70 rfl rfl<|fS 0 1 AD [] 2 [] rfl (c0 rfl (fun h=>j5 (h.a h9) (aDP Tryz.call141 fun _=>Z0)) fun x2=>fN [6,7] rfl rfl (c0 rfl (fun h=>AB (h.a h10) (aDP Tryz.call143 fun hy=>Z1 hy)) fun x3=>cR [] rfl rfl)<|cR [] rfl rfl) fun x1=>aY rfl rfl
theorem TF{s:aE}{s1 s2 s3 s4 s5 s6 s7 s8 s9 s10 s11:AC}(h1:aQ κ s1 s.aA.Mem.aC.Bytes)(h2:aQ κ s2 s.aA.Mem.aC.Class)(h3:aQ κ s3 s.aA.Mem.aB.Global)(h4:aQ κ s4 s.aA.Mem.aB.bA)(h5:aQ κ s5 s.aA.aD.aM)(h6:aQ κ s6 s.aA.aH)(h7:aQ κ s7 s.aA.bO)(h8:aQ κ s8 s.Cells)(h9:aQ κ s9 s.aR)(h10:aQ κ s10 s.aU)(h11:aQ κ s11 s.Log):VS Tryz.prog κ 20 (xT s) [.g [.h s1 s.aA.Mem.aC.Bytes.length,.h s2 s.aA.Mem.aC.Class.length,.h s3 s.aA.Mem.aB.Global.length,.h s4 s.aA.Mem.aB.bA.length,I s.aA.aD.aJ,.h s5 s.aA.aD.aM.length,.h s6 s.aA.aH.length,.h s7 s.aA.bO.length,.h s8 s.Cells.length,.h s9 s.aR.length,.h s10 s.aU.length,.h s11 s.Log.length,I s.aK]] [] [] (fun r (y:AC×AC×AC×AC×AC×AC×AC×AC×AC×AC×AC)=>.g [.h y.1 r.aA.Mem.aC.Bytes.length,.h y.2.1 r.aA.Mem.aC.Class.length,.h y.2.2.1 r.aA.Mem.aB.Global.length,.h y.2.2.2.1 r.aA.Mem.aB.bA.length,I r.aA.aD.aJ,.h y.2.2.2.2.1 r.aA.aD.aM.length,.h y.2.2.2.2.2.1 r.aA.aH.length,.h y.2.2.2.2.2.2.1 r.aA.bO.length,.h y.2.2.2.2.2.2.2.1 r.Cells.length,.h y.2.2.2.2.2.2.2.2.1 r.aR.length,.h y.2.2.2.2.2.2.2.2.2.1 r.aU.length,.h y.2.2.2.2.2.2.2.2.2.2 r.Log.length,I r.aK]) (fun r y=>[ow y.1 r.aA.Mem.aC.Bytes,ow y.2.1 r.aA.Mem.aC.Class,ow y.2.2.1 r.aA.Mem.aB.Global,ow y.2.2.2.1 r.aA.Mem.aB.bA,ow y.2.2.2.2.1 r.aA.aD.aM,ow y.2.2.2.2.2.1 r.aA.aH,ow y.2.2.2.2.2.2.1 r.aA.bO,ow y.2.2.2.2.2.2.2.1 r.Cells,ow y.2.2.2.2.2.2.2.2.1 r.aR,ow y.2.2.2.2.2.2.2.2.2.1 r.aU,ow y.2.2.2.2.2.2.2.2.2.2 r.Log]):=
 bM tok Tryz.call20 Tryz.func20 Tryz.results20 rfl rfl<|c1 rfl (fun h=>oF (h.a h1) (h.a h2) (h.a h3) (h.a h4) (h.a h5) (h.a h6) (h.a h7) (h.a h8) (h.a h9) (h.a h10) (h.a h11)) fun x1 s12=>c0 rfl (fun h=>xW (h.a h1) (h.a h2) (h.a h3) (h.a h4) (h.a h5) (h.a h6) (h.a h7) (h.a h8) (h.a h9) (h.a h10) (h.a h11)) fun x2=>aV [9] rfl rfl (gL (s12.1,s12.2.1,s12.2.2.1,s12.2.2.2.1,s12.2.2.2.2.1,s12.2.2.2.2.2.1,s12.2.2.2.2.2.2.1,s12.2.2.2.2.2.2.2.1,s12.2.2.2.2.2.2.2.2.1,s12.2.2.2.2.2.2.2.2.2.1,s12.2.2.2.2.2.2.2.2.2.2) [2,3,4,5,6,7,8,9,10,11,12] rfl rfl)<|mQ (s12.1,s12.2.1,s12.2.2.1,s12.2.2.2.1,s12.2.2.2.2.1,s12.2.2.2.2.2.1,s12.2.2.2.2.2.2.1,s12.2.2.2.2.2.2.2.2.2.2) [2,3] (fun(p:Int×aE) (u:AC×AC×AC×AC×AC×AC×AC×AC)=>[(4,I p.1)]) [2,3,4,5,6,7,8,9,10,11,12,13,1] [1] (fun p u=>[ow u.1 (p.2.aA.Mem.aC.Bytes:List Int),ow u.2.1 (p.2.aA.Mem.aC.Class:List Int),ow u.2.2.1 (p.2.aA.Mem.aB.Global:List aG),ow u.2.2.2.1 (p.2.aA.Mem.aB.bA:List aG),ow u.2.2.2.2.1 (p.2.aA.aD.aM:List cQ),ow u.2.2.2.2.2.1 (p.2.aA.aH:List aP),ow u.2.2.2.2.2.2.1 (p.2.aA.bO:List Int),ow s12.2.2.2.2.2.2.2.1 (p.2.Cells:List Int),ow s12.2.2.2.2.2.2.2.2.1 (p.2.aR:List bG),ow s12.2.2.2.2.2.2.2.2.2.1 (p.2.aU:List Queue),ow u.2.2.2.2.2.2.2 (p.2.Log:List Ev),.box 2 [.h u.1 p.2.aA.Mem.aC.Bytes.length,.h u.2.1 p.2.aA.Mem.aC.Class.length,.h u.2.2.1 p.2.aA.Mem.aB.Global.length,.h u.2.2.2.1 p.2.aA.Mem.aB.bA.length,I p.2.aA.aD.aJ,.h u.2.2.2.2.1 p.2.aA.aD.aM.length,.h u.2.2.2.2.2.1 p.2.aA.aH.length,.h u.2.2.2.2.2.2.1 p.2.aA.bO.length,.h s12.2.2.2.2.2.2.2.1 p.2.Cells.length,.h s12.2.2.2.2.2.2.2.2.1 p.2.aR.length,.h s12.2.2.2.2.2.2.2.2.2.1 p.2.aU.length,.h u.2.2.2.2.2.2.2 p.2.Log.length,I p.2.aK]]) id [2,3] (fun(x7:aE) (u:AC×AC×AC×AC×AC×AC×AC×AC)=>[]) [1] (fun x7 u=>[ow u.1 (x7.aA.Mem.aC.Bytes:List Int),ow u.2.1 (x7.aA.Mem.aC.Class:List Int),ow u.2.2.1 (x7.aA.Mem.aB.Global:List aG),ow u.2.2.2.1 (x7.aA.Mem.aB.bA:List aG),ow u.2.2.2.2.1 (x7.aA.aD.aM:List cQ),ow u.2.2.2.2.2.1 (x7.aA.aH:List aP),ow u.2.2.2.2.2.2.1 (x7.aA.bO:List Int),ow s12.2.2.2.2.2.2.2.1 (x7.Cells:List Int),ow s12.2.2.2.2.2.2.2.2.1 (x7.aR:List bG),ow s12.2.2.2.2.2.2.2.2.2.1 (x7.aU:List Queue),ow u.2.2.2.2.2.2.2 (x7.Log:List Ev),.box 2 [.h u.1 x7.aA.Mem.aC.Bytes.length,.h u.2.1 x7.aA.Mem.aC.Class.length,.h u.2.2.1 x7.aA.Mem.aB.Global.length,.h u.2.2.2.1 x7.aA.Mem.aB.bA.length,I x7.aA.aD.aJ,.h u.2.2.2.2.1 x7.aA.aD.aM.length,.h u.2.2.2.2.2.1 x7.aA.aH.length,.h u.2.2.2.2.2.2.1 x7.aA.bO.length,.h s12.2.2.2.2.2.2.2.1 x7.Cells.length,.h s12.2.2.2.2.2.2.2.2.1 x7.aR.length,.h s12.2.2.2.2.2.2.2.2.2.1 x7.aU.length,.h u.2.2.2.2.2.2.2 x7.Log.length,I x7.aK]]) rfl rfl (fun hF1 ⟨x5,x6⟩ ⟨s21,s22,s23,s24,s25,s26,s27,s28⟩ hr1=>mH 0 3 (fun(p:Bool×aE)=>oW x5 p.1 p.2) [2,3,4] (fun(p:Bool×aE) (_:Unit)=>[(17,.b p.1)]) [12] (fun p _=>[ow s21 (p.2.aA.Mem.aC.Bytes:List Int),ow s22 (p.2.aA.Mem.aC.Class:List Int),ow s23 (p.2.aA.Mem.aB.Global:List aG),ow s24 (p.2.aA.Mem.aB.bA:List aG),ow s25 (p.2.aA.aD.aM:List cQ),ow s26 (p.2.aA.aH:List aP),ow s27 (p.2.aA.bO:List Int),ow s12.2.2.2.2.2.2.2.1 (p.2.Cells:List Int),ow s12.2.2.2.2.2.2.2.2.1 (p.2.aR:List bG),ow s12.2.2.2.2.2.2.2.2.2.1 (p.2.aU:List Queue),ow s28 (p.2.Log:List Ev),.box 2 [.h s21 p.2.aA.Mem.aC.Bytes.length,.h s22 p.2.aA.Mem.aC.Class.length,.h s23 p.2.aA.Mem.aB.Global.length,.h s24 p.2.aA.Mem.aB.bA.length,I p.2.aA.aD.aJ,.h s25 p.2.aA.aD.aM.length,.h s26 p.2.aA.aH.length,.h s27 p.2.aA.bO.length,.h s12.2.2.2.2.2.2.2.1 p.2.Cells.length,.h s12.2.2.2.2.2.2.2.2.1 p.2.aR.length,.h s12.2.2.2.2.2.2.2.2.2.1 p.2.aU.length,.h s28 p.2.Log.length,I p.2.aK]]) rfl (fN [12,13] rfl rfl (c0 rfl (fun h=>Y3 (h.o 0 rfl) (h.o 1 rfl) (h.o 2 rfl) (h.o 3 rfl) (h.o 4 rfl) (h.o 5 rfl) (h.o 6 rfl) (h.o 7 rfl) (h.o 8 rfl) (h.o 9 rfl) (h.o 10 rfl)) fun x11=>cR (p:=(!x11,x6)) [0,1,2,3,4,5,6,7,8,9,10,11,12] rfl rfl)<|cR (p:=(false,x6)) [0,1,2,3,4,5,6,7,8,9,10,11,12] rfl rfl) fun⟨x8,x9⟩ _=>aV [17] rfl rfl (pG 11 2 0 13 [0,1,2,3,4,5,6,7,8,9,10] rfl rfl rfl rfl rfl (fun _=>uT) fun x10 s37=>nxW (s37.1,s37.2.1,s37.2.2.1,s37.2.2.2.1,s37.2.2.2.2.1,s37.2.2.2.2.2.1,s37.2.2.2.2.2.2.1,s37.2.2.2.2.2.2.2) [13,14,15,16,17,18,19,20,21,22,23,11,12] rfl)<|bkW (s21,s22,s23,s24,s25,s26,s27,s28) [0,1,2,3,4,5,6,7,8,9,10,11,12] rfl) fun x7 ⟨s29,s30,s31,s32,s33,s34,s35,s36⟩=>gL (s29,s30,s31,s32,s33,s34,s35,s12.2.2.2.2.2.2.2.1,s12.2.2.2.2.2.2.2.2.1,s12.2.2.2.2.2.2.2.2.2.1,s36) [0,1,2,3,4,5,6,7,8,9,10] rfl rfl
theorem aFG{aS:aE}{s1 s2 s3 s4 s5 s6 s7 s8 s9 s10 s11:AC}(h1:aQ κ s1 aS.aA.Mem.aC.Bytes)(h2:aQ κ s2 aS.aA.Mem.aC.Class)(h3:aQ κ s3 aS.aA.Mem.aB.Global)(h4:aQ κ s4 aS.aA.Mem.aB.bA)(h5:aQ κ s5 aS.aA.aD.aM)(h6:aQ κ s6 aS.aA.aH)(h7:aQ κ s7 aS.aA.bO)(h8:aQ κ s8 aS.Cells)(h9:aQ κ s9 aS.aR)(h10:aQ κ s10 aS.aU)(h11:aQ κ s11 aS.Log):V0 Tryz.prog κ 5 (XU aS) [.g [.h s1 aS.aA.Mem.aC.Bytes.length,.h s2 aS.aA.Mem.aC.Class.length,.h s3 aS.aA.Mem.aB.Global.length,.h s4 aS.aA.Mem.aB.bA.length,I aS.aA.aD.aJ,.h s5 aS.aA.aD.aM.length,.h s6 aS.aA.aH.length,.h s7 aS.aA.bO.length,.h s8 aS.Cells.length,.h s9 aS.aR.length,.h s10 aS.aU.length,.h s11 aS.Log.length,I aS.aK]] .b:=
 bM tok Tryz.call5 Tryz.func5 Tryz.results5 rfl rfl<|c0 rfl (fun h=>BY (h.a h1) (h.a h2) (h.a h3) (h.a h4) (h.a h5) (h.a h6) (h.a h7) (h.a h8) (h.a h9) (h.a h10) (h.a h11)) fun x1=>aV [15] rfl rfl (aY rfl rfl)<|c1 rfl (fun h=>jL (h.a h1) (h.a h2) (h.a h3) (h.a h4) (h.a h5) (h.a h6) (h.a h7) (h.a h8) (h.a h9) (h.a h10) (h.a h11)) fun x2 s12=>c1 rfl (fun h=>ZZ (h.o 1 rfl) (h.o 2 rfl) (h.o 3 rfl) (h.o 4 rfl) (h.o 5 rfl) (h.o 6 rfl) (h.o 7 rfl) (h.o 8 rfl) (h.o 9 rfl) (h.o 10 rfl) (h.o 11 rfl)) fun x3 s13=>c1 rfl (fun h=>jL (h.a h1) (h.a h2) (h.a h3) (h.a h4) (h.a h5) (h.a h6) (h.a h7) (h.a h8) (h.a h9) (h.a h10) (h.a h11)) fun x4 s14=>c1 rfl (fun h=>TF (h.o 24 rfl) (h.o 25 rfl) (h.o 26 rfl) (h.o 27 rfl) (h.o 28 rfl) (h.o 29 rfl) (h.o 30 rfl) (h.o 31 rfl) (h.o 32 rfl) (h.o 33 rfl) (h.o 34 rfl)) fun x5 s15=>c0 rfl (fun h=>iM (h.o 36 rfl) (h.o 37 rfl) (h.o 38 rfl) (h.o 39 rfl) (h.o 40 rfl) (h.o 41 rfl) (h.o 42 rfl) (h.o 43 rfl) (h.o 44 rfl) (h.o 45 rfl) (h.o 46 rfl) (h.o 12 rfl) (h.o 13 rfl) (h.o 14 rfl) (h.o 15 rfl) (h.o 16 rfl) (h.o 17 rfl) (h.o 18 rfl) (h.o 19 rfl) (h.o 20 rfl) (h.o 21 rfl) (h.o 22 rfl)) fun x6=>aV [26] rfl rfl (aY rfl rfl)<|jP aL [0,23,35,47] rfl<|c1 rfl (fun h=>jL (h.a h1) (h.a h2) (h.a h3) (h.a h4) (h.a h5) (h.a h6) (h.a h7) (h.a h8) (h.a h9) (h.a h10) (h.a h11)) fun x7 s16=>c0 rfl (fun h=>iM (h.o 24 rfl) (h.o 25 rfl) (h.o 26 rfl) (h.o 27 rfl) (h.o 28 rfl) (h.o 29 rfl) (h.o 30 rfl) (h.o 31 rfl) (h.o 32 rfl) (h.o 33 rfl) (h.o 34 rfl) (h.o 48 rfl) (h.o 49 rfl) (h.o 50 rfl) (h.o 51 rfl) (h.o 52 rfl) (h.o 53 rfl) (h.o 54 rfl) (h.o 55 rfl) (h.o 56 rfl) (h.o 57 rfl) (h.o 58 rfl)) fun x8=>aV [31] rfl rfl (aY rfl rfl)<|fZ [24,25,26,27,28,29,30,31,32,33,34] rfl rfl rfl rfl (fun _=>oY) fun x9 _=>fun hF=>un 59 [] [(20,0),(21,0),(27,0),(32,0)] [(35,0)] rfl rfl rfl rfl rfl rfl fun hl1=>fG rfl rfl<|un 60 [] [(20,1),(21,1),(27,1),(32,1)] [(35,1)] rfl rfl rfl rfl rfl rfl fun hl2=>fG rfl rfl<|un 61 [] [(20,2),(21,2),(27,2),(32,2)] [(35,2)] rfl rfl rfl rfl rfl rfl fun hl3=>fG rfl rfl<|un 62 [] [(20,3),(21,3),(27,3),(32,3)] [(35,3)] rfl rfl rfl rfl rfl rfl fun hl4=>fG rfl rfl<|un 63 [] [(20,5),(21,5),(27,5),(32,5)] [(35,5)] rfl rfl rfl rfl rfl rfl fun hl5=>fG rfl rfl<|un 64 [] [(20,6),(21,6),(27,6),(32,6)] [(35,6)] rfl rfl rfl rfl rfl rfl fun hl6=>fG rfl rfl<|un 65 [] [(20,7),(21,7),(27,7),(32,7)] [(35,7)] rfl rfl rfl rfl rfl rfl fun hl7=>fG rfl rfl<|un 66 [] [(20,8),(21,8),(27,8),(32,8)] [(35,8)] rfl rfl rfl rfl rfl rfl fun hl8=>fG rfl rfl<|un 67 [] [(20,9),(21,9),(27,9),(32,9)] [(35,9)] rfl rfl rfl rfl rfl rfl fun hl9=>fG rfl rfl<|un 68 [] [(20,10),(21,10),(27,10),(32,10)] [(35,10)] rfl rfl rfl rfl rfl rfl fun hl10=>fG rfl rfl<|un 69 [] [(20,11),(21,11),(27,11),(32,11)] [(35,11)] rfl rfl rfl rfl rfl rfl fun hl11=>fG rfl rfl<|wi hF<|mH 0 4 (fun(p:Bool×aE×aE)=>CB aS p.1 p.2.1 p.2.2) [1,4,6] (fun(p:Bool×aE×aE) (_:Unit)=>[(42,.b p.1)]) [0] (fun p _=>[ow s13.1 (p.2.1.aA.Mem.aC.Bytes:List Int),ow s13.2.1 (p.2.1.aA.Mem.aC.Class:List Int),ow s13.2.2.1 (p.2.1.aA.Mem.aB.Global:List aG),ow s13.2.2.2.1 (p.2.1.aA.Mem.aB.bA:List aG),ow s13.2.2.2.2.1 (p.2.1.aA.aD.aM:List cQ),ow s13.2.2.2.2.2.1 (p.2.1.aA.aH:List aP),ow s13.2.2.2.2.2.2.1 (p.2.1.aA.bO:List Int),ow s13.2.2.2.2.2.2.2.1 (p.2.1.Cells:List Int),ow s13.2.2.2.2.2.2.2.2.1 (p.2.1.aR:List bG),ow s13.2.2.2.2.2.2.2.2.2.1 (p.2.1.aU:List Queue),ow s13.2.2.2.2.2.2.2.2.2.2 (p.2.1.Log:List Ev),.box 1 [.h s13.1 p.2.1.aA.Mem.aC.Bytes.length,.h s13.2.1 p.2.1.aA.Mem.aC.Class.length,.h s13.2.2.1 p.2.1.aA.Mem.aB.Global.length,.h s13.2.2.2.1 p.2.1.aA.Mem.aB.bA.length,I p.2.1.aA.aD.aJ,.h s13.2.2.2.2.1 p.2.1.aA.aD.aM.length,.h s13.2.2.2.2.2.1 p.2.1.aA.aH.length,.h s13.2.2.2.2.2.2.1 p.2.1.aA.bO.length,.h s13.2.2.2.2.2.2.2.1 p.2.1.Cells.length,.h s13.2.2.2.2.2.2.2.2.1 p.2.1.aR.length,.h s13.2.2.2.2.2.2.2.2.2.1 p.2.1.aU.length,.h s13.2.2.2.2.2.2.2.2.2.2 p.2.1.Log.length,I p.2.1.aK],ow s15.1 (p.2.2.aA.Mem.aC.Bytes:List Int),ow s15.2.1 (p.2.2.aA.Mem.aC.Class:List Int),ow s15.2.2.1 (p.2.2.aA.Mem.aB.Global:List aG),ow s15.2.2.2.1 (p.2.2.aA.Mem.aB.bA:List aG),ow s15.2.2.2.2.1 (p.2.2.aA.aD.aM:List cQ),ow s15.2.2.2.2.2.1 (p.2.2.aA.aH:List aP),ow s15.2.2.2.2.2.2.1 (p.2.2.aA.bO:List Int),ow s15.2.2.2.2.2.2.2.1 (p.2.2.Cells:List Int),ow s15.2.2.2.2.2.2.2.2.1 (p.2.2.aR:List bG),ow s15.2.2.2.2.2.2.2.2.2.1 (p.2.2.aU:List Queue),ow s15.2.2.2.2.2.2.2.2.2.2 (p.2.2.Log:List Ev),.box 3 [.h s15.1 p.2.2.aA.Mem.aC.Bytes.length,.h s15.2.1 p.2.2.aA.Mem.aC.Class.length,.h s15.2.2.1 p.2.2.aA.Mem.aB.Global.length,.h s15.2.2.2.1 p.2.2.aA.Mem.aB.bA.length,I p.2.2.aA.aD.aJ,.h s15.2.2.2.2.1 p.2.2.aA.aD.aM.length,.h s15.2.2.2.2.2.1 p.2.2.aA.aH.length,.h s15.2.2.2.2.2.2.1 p.2.2.aA.bO.length,.h s15.2.2.2.2.2.2.2.1 p.2.2.Cells.length,.h s15.2.2.2.2.2.2.2.2.1 p.2.2.aR.length,.h s15.2.2.2.2.2.2.2.2.2.1 p.2.2.aU.length,.h s15.2.2.2.2.2.2.2.2.2.2 p.2.2.Log.length,I p.2.2.aK]]) rfl (fN [36,37] rfl rfl (cR (p:=(true,x3,x5)) [12,13,14,15,16,17,18,19,20,21,22,23,36,37,38,39,40,41,42,43,44,45,46,47,0] rfl rfl)<|c0 rfl (fun h=>iM (h.o 36 rfl) (h.o 37 rfl) (h.o 38 rfl) (h.o 39 rfl) (h.o 40 rfl) (h.o 41 rfl) (h.o 42 rfl) (h.o 43 rfl) (h.o 44 rfl) (h.o 45 rfl) (h.o 46 rfl) (h.o 12 rfl) (h.o 13 rfl) (h.o 14 rfl) (h.o 15 rfl) (h.o 16 rfl) (h.o 17 rfl) (h.o 18 rfl) (h.o 19 rfl) (h.o 20 rfl) (h.o 21 rfl) (h.o 22 rfl)) fun x19=>cR (p:=(!x19,x3,x5)) [12,13,14,15,16,17,18,19,20,21,22,23,36,37,38,39,40,41,42,43,44,45,46,47,0] rfl rfl) fun⟨x10,x11,x12⟩ _=>aV [42] rfl rfl (aY rfl rfl)<|fZ [12,13,14,15,16,17,18,19,20,21,22] rfl rfl rfl rfl (fun _=>oY) fun x13 _=>fun hF=>un 25 [] [(43,0)] [(23,0)] rfl rfl rfl rfl rfl rfl fun hl12=>fG rfl rfl<|un 26 [] [(43,1)] [(23,1)] rfl rfl rfl rfl rfl rfl fun hl13=>fG rfl rfl<|un 27 [] [(43,2)] [(23,2)] rfl rfl rfl rfl rfl rfl fun hl14=>fG rfl rfl<|un 28 [] [(43,3)] [(23,3)] rfl rfl rfl rfl rfl rfl fun hl15=>fG rfl rfl<|un 29 [] [(43,5)] [(23,5)] rfl rfl rfl rfl rfl rfl fun hl16=>fG rfl rfl<|un 30 [] [(43,6)] [(23,6)] rfl rfl rfl rfl rfl rfl fun hl17=>fG rfl rfl<|un 31 [] [(43,7)] [(23,7)] rfl rfl rfl rfl rfl rfl fun hl18=>fG rfl rfl<|un 32 [] [(43,8)] [(23,8)] rfl rfl rfl rfl rfl rfl fun hl19=>fG rfl rfl<|un 33 [] [(43,9)] [(23,9)] rfl rfl rfl rfl rfl rfl fun hl20=>fG rfl rfl<|un 34 [] [(43,10)] [(23,10)] rfl rfl rfl rfl rfl rfl fun hl21=>fG rfl rfl<|un 35 [] [(43,11)] [(23,11)] rfl rfl rfl rfl rfl rfl fun hl22=>fG rfl rfl<|wi hF<|c0 rfl (fun h=>oZ (a_:=(⟨(⟨(⟨(⟨x13.2.1,x13.2.2.1⟩:aC),(⟨x13.2.2.2.1,x13.2.2.2.2.1⟩:aB)⟩:Mem),(⟨x12.aA.aD.aJ,x13.2.2.2.2.2.1⟩:aD),x13.2.2.2.2.2.2.1,x13.2.2.2.2.2.2.2.1⟩:aA),x13.2.2.2.2.2.2.2.2.1,x13.2.2.2.2.2.2.2.2.2.1,x13.2.2.2.2.2.2.2.2.2.2.1,x13.2.2.2.2.2.2.2.2.2.2.2,x12.aK⟩:aE)) (h.o 25 rfl) (h.o 26 rfl) (h.o 27 rfl) (h.o 28 rfl) (h.o 29 rfl) (h.o 30 rfl) (h.o 31 rfl) (h.o 32 rfl) (h.o 33 rfl) (h.o 34 rfl) (h.o 35 rfl)) fun x14=>aV [50] rfl rfl (aY rfl rfl)<|aV [53] rfl rfl (aY rfl rfl)<|c1 rfl (fun h=>jL (h.a h1) (h.a h2) (h.a h3) (h.a h4) (h.a h5) (h.a h6) (h.a h7) (h.a h8) (h.a h9) (h.a h10) (h.a h11)) fun x15 s17=>c1 rfl (fun h=>TF (h.o 36 rfl) (h.o 37 rfl) (h.o 38 rfl) (h.o 39 rfl) (h.o 40 rfl) (h.o 41 rfl) (h.o 42 rfl) (h.o 43 rfl) (h.o 44 rfl) (h.o 45 rfl) (h.o 46 rfl)) fun x16 s18=>c0 rfl (fun h=>iM (h.o 47 rfl) (h.o 48 rfl) (h.o 49 rfl) (h.o 50 rfl) (h.o 51 rfl) (h.o 52 rfl) (h.o 53 rfl) (h.o 54 rfl) (h.o 55 rfl) (h.o 56 rfl) (h.o 57 rfl) (h.o 0 rfl) (h.o 1 rfl) (h.o 2 rfl) (h.o 3 rfl) (h.o 4 rfl) (h.o 5 rfl) (h.o 6 rfl) (h.o 7 rfl) (h.o 8 rfl) (h.o 9 rfl) (h.o 10 rfl)) fun x17=>aV [60] rfl rfl (aY rfl rfl)<|c0 rfl (fun h=>oZ (a_:=(⟨(⟨(⟨(⟨x13.2.1,x13.2.2.1⟩:aC),(⟨x13.2.2.2.1,x13.2.2.2.2.1⟩:aB)⟩:Mem),(⟨x12.aA.aD.aJ,x13.2.2.2.2.2.1⟩:aD),x13.2.2.2.2.2.2.1,x13.2.2.2.2.2.2.2.1⟩:aA),x13.2.2.2.2.2.2.2.2.1,x13.2.2.2.2.2.2.2.2.2.1,x13.2.2.2.2.2.2.2.2.2.2.1,x13.2.2.2.2.2.2.2.2.2.2.2,x12.aK⟩:aE)) (h.o 25 rfl) (h.o 26 rfl) (h.o 27 rfl) (h.o 28 rfl) (h.o 29 rfl) (h.o 30 rfl) (h.o 31 rfl) (h.o 32 rfl) (h.o 33 rfl) (h.o 34 rfl) (h.o 35 rfl)) fun x18=>aV [65] rfl rfl (aY rfl rfl)<|aV [68] rfl rfl (aY rfl rfl)<|aY rfl rfl
end
end Go.Proofs.YtgboekoingacfaaGreat
end
noncomputable section
set_option linter.unusedVariables false
set_option linter.unusedSimpArgs false
namespace Go.Gv
theorem map_take{α β:Type}(f:α→β){l:List α}{k:Nat}(h:k < l.length):(l.take (k+1)).map f=(l.take k).map f ++ [f l[k]]:=by
  rw [List.take_succ_eq_append_getElem h,List.map_append];rfl
end Go.Gv
end
noncomputable section
set_option linter.unusedVariables false
set_option linter.unusedSimpArgs false
set_option linter.unusedSectionVars false
namespace Go.Gv
def rowAt(l:List bP)(k:Nat):bP:=l.getD k ⟨0,0⟩
theorem nN{l:List bP}{k:Nat}(h:k < l.length):rowAt l k=l[k]:=by
  unfold rowAt;rw [List.getD_eq_getElem?_getD,List.getElem?_eq_getElem h];rfl
theorem tU{l:List aP}(h:(bI l).length≤1073741824)(hl:l.length≤maxLen):i7 l=some (decide (pK l)):=by
  unfold i7 eZ
  rw [pY h hl]
  simp only [Option.bind_some]
  by_cases h3:l.length=3
  · have n1:((l.length:Int) != 3)=false:=by simp;omega
    simp only [n1,Bool.false_eq_true,if_false]
    by_cases h24:(bI l).length≤24
    · rw [if_neg (by simp;omega)]
      have hst:∀k,k < (bI l).length→d6 (bI l) (((bI l).take k).map iH,(k:Int))=if qX (rowAt (bI l) k)∧iH (rowAt (bI l) k)∉((bI l).take k).map iH then some (.next (((bI l).take (k+1)).map iH,((k+1:Nat):Int))) else some (.stop (Out.ret false)):=by
        intro k hk
        simp only [d6,dZ]
        rw [if_pos (by simp;omega),aT hk,nN hk]
        simp only [Option.bind_some,kE,fP]
        by_cases q:EE (bI l)[k].Handle
        · have hm:=q.mod
          rw [if_pos q,if_neg (by simp;omega)]
          by_cases q2:0≤(bI l)[k].aJ∧(bI l)[k].aJ≤100000
          · rw [decide_eq_true q2]
            simp only [Bool.not_true,Bool.false_eq_true,if_false]
            rw [D1 (by simp [maxLen];omega)]
            simp only [Option.bind_some]
            by_cases q3:(bI l)[k].Handle % 32∈((bI l).take k).map iH
            · rw [decide_eq_true q3];simp only [if_true];rw [if_neg (show ¬(qX (bI l)[k]∧iH (bI l)[k]∉((bI l).take k).map iH) from fun x=>x.2 q3)]
            · rw [decide_eq_false q3]
              simp only [Bool.false_eq_true,if_false]
              rw [if_pos (show qX (bI l)[k]∧iH (bI l)[k]∉((bI l).take k).map iH from ⟨⟨q,q2⟩,q3⟩),aO (by simp;omega),aZ (by omega) (by omega),map_take _ hk];rfl
          · rw [decide_eq_false q2]
            simp only [Bool.not_false,if_true]
            rw [if_neg (fun x:qX _∧_=>q2 x.1.2)]
        · rw [if_neg q,if_pos (by simp),if_neg (fun x:qX _∧_=>q x.1.1)];rfl
      have key:=BI (f:=d6 (bI l)) (bI l).length (fun k=>(((bI l).take k).map iH,(k:Int))) (fun k=>qX (rowAt (bI l) k)∧iH (rowAt (bI l) k)∉((bI l).take k).map iH) (Out.brk ()) (Out.ret false) (fun k hk hx=>by rw [hst k hk,if_pos hx]) (fun k hk hx=>by rw [hst k hk,if_neg hx]) (by simp [d6])
      rw [List.take_zero,List.map_nil,show((0:Nat):Int)=0 from rfl] at key
      rw [key]
      have hiff:pK l↔∀k,k < (bI l).length→qX (rowAt (bI l) k)∧iH (rowAt (bI l) k)∉((bI l).take k).map iH:=by
        constructor
        · rintro⟨_,_,q1,q2⟩ k hk
          rw [nN hk]
          refine⟨q1 _ (List.getElem_mem hk),?_⟩
          have:=(y9 _).1 q2 k (by simpa using hk)
          rw [List.getElem_map,←List.map_take] at this
          exact this
        · intro q
          refine⟨h3,h24,fun x hx=>?_,(y9 _).2 fun k hk=>?_⟩
          · obtain⟨k,hk,rfl⟩:=List.mem_iff_getElem.1 hx
            have:=(q k hk).1;rw [nN hk] at this;exact this
          · have hk':k < (bI l).length:=by simpa using hk
            have:=(q k hk').2;rw [nN hk'] at this
            rw [List.getElem_map,←List.map_take];exact this
      by_cases q:pK l
      · rw [if_pos (hiff.1 q),decide_eq_true q];rfl
      · rw [if_neg (fun x=>q (hiff.2 x)),decide_eq_false q];rfl
    · rw [if_pos (by simp;omega),decide_eq_false (fun q:pK l=>h24 q.2.1)]
  · have n1:((l.length:Int) != 3)=true:=by simp;omega
    simp only [n1,if_true]
    rw [decide_eq_false (fun q:pK l=>h3 q.1)]
end Go.Gv
end
noncomputable section
set_option linter.unusedVariables false
set_option linter.unusedSimpArgs false
set_option linter.unusedSectionVars false
namespace Go.Gv
noncomputable section
variable {m:Mem} (hsh:oH m.aC) (hl:(jW m.aB).length≤1073741824) (hg:m.aB.Global.length≤maxLen) (ho:m.aB.bA.length≤maxLen)
include hl hg ho
include hsh
end
noncomputable section
variable {b:aA} (hf:b.Mem.aC.Bytes.length≤maxLen∧(jW b.Mem.aB).length≤1073741824∧b.aD.aM.length≤maxLen∧b.aH.length≤maxLen∧(bI b.aH).length≤1073741824∧b.bO.length≤maxLen)
include hf
theorem vM:j7 b=some (decide (kP b)):=by
  obtain⟨f1,f2,f3,f4,f5,f6⟩:=hf
  unfold j7 dF
  rw [IV f1 f2,tK,tU f5 f4,D2 f6]
  by_cases q1:G6 b.Mem
  · by_cases q2:COk b.aD
    · by_cases q3:pK b.aH
      · by_cases q4:RW b.bO
        · have hg:b.Mem.aB.Global.length≤maxLen:=by rw [q1.1.2.1];simp [maxLen]
          have ho:b.Mem.aB.bA.length≤maxLen:=by rw [q1.1.2.2.1];simp [maxLen]
          have hmx:(1073741824:Nat)≤maxLen:=by simp [maxLen]
          simp only [decide_eq_true q1,decide_eq_true q2,decide_eq_true q3,decide_eq_true q4,Option.bind_some,Bool.not_true,Bool.false_eq_true,if_false]
          rw [pY f5 f4]
          simp only [Option.bind_some]
          have hst:∀k (hk:k < (bI b.aH).length),eN b (bI b.aH) (k:Int)=if i6 b (bI b.aH)[k] then some (.next ((k+1:Nat):Int)) else some (.stop (Out.ret false)):=by
            intro k hk
            simp only [eN,gH]
            rw [if_pos (by simp;omega),aT hk,bV (show k < maxLen by omega)]
            generalize (bI b.aH)[k]=r
            simp only [Option.bind_some,zA q1.1.1.1 f2 hg ho]
            by_cases a1:FQ b.Mem r.Handle
            · rw [decide_eq_true a1]
              simp only [Bool.not_true,Bool.false_eq_true,if_false]
              by_cases a2:r.aJ≤b.aD.aJ
              · rw [if_neg (by simp;omega),if_pos ⟨a1,a2⟩]
              · rw [if_pos (by simp;omega),if_neg (fun x=>a2 x.2)]
            · rw [decide_eq_false a1]
              simp only [Bool.not_false,if_true]
              rw [if_neg (fun x=>a1 x.1)]
          have key:=lA (f:=eN b (bI b.aH)) (bI b.aH) (fun k=>(k:Int)) (i6 b) (Out.brk ()) (Out.ret false) (fun k hk hx=>by rw [hst k hk,if_pos hx]) (fun k hk hx=>by rw [hst k hk,if_neg hx]) (by simp [eN])
          rw [show((0:Nat):Int)=0 from rfl] at key
          rw [key]
          by_cases q:∀r∈bI b.aH,i6 b r
          · rw [if_pos q,decide_eq_true (show kP b from ⟨⟨q1,q2,q3,q4⟩,q⟩)];rfl
          · rw [if_neg q,decide_eq_false (fun x:kP b=>q x.2)];rfl
        · rw [decide_eq_false (fun x:kP b=>q4 x.1.2.2.2),decide_eq_true q1,decide_eq_true q2,decide_eq_true q3,decide_eq_false q4];rfl
      · rw [decide_eq_false (fun x:kP b=>q3 x.1.2.2.1),decide_eq_true q1,decide_eq_true q2,decide_eq_false q3];rfl
    · rw [decide_eq_false (fun x:kP b=>q2 x.1.2.1),decide_eq_true q1,decide_eq_false q2];rfl
  · rw [decide_eq_false (fun x:kP b=>q1 x.1.1),decide_eq_false q1];rfl
theorem vN:j8 b=some (decide (kP b)):=by
  obtain⟨f1,f2,f3,f4,f5,f6⟩:=hf
  unfold j8 dI
  rw [IW f1 f2,tL f3,vX f5,D3 f6]
  by_cases q1:G6 b.Mem
  · by_cases q2:COk b.aD
    · by_cases q3:pK b.aH
      · by_cases q4:RW b.bO
        · have hg:b.Mem.aB.Global.length≤maxLen:=by rw [q1.1.2.1];simp [maxLen]
          have ho:b.Mem.aB.bA.length≤maxLen:=by rw [q1.1.2.2.1];simp [maxLen]
          have hmx:(1073741824:Nat)≤maxLen:=by simp [maxLen]
          simp only [decide_eq_true q1,decide_eq_true q2,decide_eq_true q3,decide_eq_true q4,Option.bind_some,Bool.not_true,Bool.false_eq_true,if_false]
          have e1:(fun y0=>fA y0 b)=fun r:bP=>some (!decide (i6 b r)):=by
            funext r
            unfold fA dV
            rw [BL q1.1.1.1 f2 hg ho]
            by_cases a1:FQ b.Mem r.Handle
            · by_cases a2:r.aJ≤b.aD.aJ
              · rw [decide_eq_true a1,decide_eq_true (show i6 b r from ⟨a1,a2⟩),decide_eq_false (show ¬b.aD.aJ < r.aJ by omega)];rfl
              · rw [decide_eq_true a1,decide_eq_false (fun x:i6 b r=>a2 x.2),decide_eq_true (show b.aD.aJ < r.aJ by omega)];rfl
            · rw [decide_eq_false a1,decide_eq_false (fun x:i6 b r=>a1 x.1)];rfl
          have e2:∀l∈b.aH,(fun y0=>g8 y0 b) l=some (!decide (∀r∈l.Rows,i6 b r)):=fun l hl=>by
            have:=C3 hl
            simp only [g8]
            rw [e1,IX (by omega),uI];rfl
          rw [FP f4 _ _ e2,uI]
          have hiff:kP b↔∀l∈b.aH,∀r∈l.Rows,i6 b r:=by
            constructor
            · intro x l hl r hr
              exact x.2 r (List.mem_flatMap.2 ⟨l,hl,hr⟩)
            · intro x
              refine⟨⟨q1,q2,q3,q4⟩,fun r hr=>?_⟩
              obtain⟨l,hl,hr⟩:=List.mem_flatMap.1 hr
              exact x l hl r hr
          simp only [Option.bind_some,Bool.not_not,hiff]
        · rw [decide_eq_false (fun x:kP b=>q4 x.1.2.2.2),decide_eq_true q1,decide_eq_true q2,decide_eq_true q3,decide_eq_false q4];rfl
      · rw [decide_eq_false (fun x:kP b=>q3 x.1.2.2.1),decide_eq_true q1,decide_eq_true q2,decide_eq_false q3];rfl
    · rw [decide_eq_false (fun x:kP b=>q2 x.1.2.1),decide_eq_true q1,decide_eq_false q2];rfl
  · rw [decide_eq_false (fun x:kP b=>q1 x.1.1),decide_eq_false q1];rfl
end
end Go.Gv
end
noncomputable section
set_option linter.unusedVariables false
set_option linter.unusedSimpArgs false
set_option linter.unusedSectionVars false
namespace Go.Gv
theorem G7.fits{b:aA}(h:G7 b):b.Mem.aC.Bytes.length≤maxLen∧(jW b.Mem.aB).length≤1073741824∧b.aD.aM.length≤maxLen∧b.aH.length≤maxLen∧(bI b.aH).length≤1073741824∧b.bO.length≤maxLen:=by
  have hb:(1048576:Nat)≤maxLen:=by simp [maxLen]
  have g1:=h.1.1;have g2:=h.1.2.2.2.2;have g3:=h.2.1;have g4:=h.2.2.1;have g5:=h.2.2.2.1;have g6:=h.2.2.2.2
  exact⟨by omega,by omega,by omega,by omega,by omega,by omega⟩
end Go.Gv
end
noncomputable section
set_option linter.unusedVariables false
set_option linter.unusedSimpArgs false
set_option linter.unusedSectionVars false
namespace Go.Gv
theorem AJ{l:List bG}(hl:l.length≤maxLen)(f:bG→Bool)(g:bG→Option Bool)(hg:∀x∈l,g x=some (f x)):cT l g=some (l.any f):=by
  obtain⟨o,e,h⟩:=MR l f (body:=dJ l g) (fun k hk=>by
    simp only [dJ]
    rw [if_pos (by simp;omega),aT hk,bV (cG hk hl)]
    simp only [Option.bind_some,hg _ (List.getElem_mem hk)]) (by simp [dJ])
  unfold cT gR
  rw [e]
  cases o with
  | brk u=>simp only at h;simp [eW,iY,h]
  | ret r=>simp only at h;simp [eW,h]
theorem vO(h:Int):cC h=some (decide (cZ h)):=by
  unfold cC iQ cZ
  rw [l9]
  by_cases q:h=0 <;> simp [q]
theorem pU(h:Int):kU h=some (decide (cZ h)):=by
  unfold kU xO cZ
  rw [oJ]
  by_cases q:h=0 <;> simp [q]
theorem J8(j:bG):pS j=some (decide (V6 j)):=by
  unfold pS iL
  rw [QU,pU,pU]
  cases hb:j.g7
  · rw [show decide (V6 j)=decide (j=aAZ) from decide_eq_decide.2 (zU hb)];rfl
  · rw [show decide (V6 j)=decide (BM j.Op∧cZ j.H∧cZ j.Old) from decide_eq_decide.2 (uU hb)]
    by_cases h1:BM j.Op
    · by_cases h2:cZ j.H <;> simp [h1,h2]
    · simp [h1]
noncomputable section
variable {s:aE} (hf:s.aA.Mem.aC.Bytes.length≤maxLen∧(jW s.aA.Mem.aB).length≤1073741824∧s.aA.aD.aM.length≤maxLen∧s.aA.aH.length≤maxLen∧(bI s.aA.aH).length≤1073741824∧s.aA.bO.length≤maxLen) (ht:s.aU.length≤maxLen) (hq:∀q∈s.aU,q.kJ.length≤maxLen) (hcl:s.Cells.length≤maxLen) (hjl:s.aR.length≤maxLen)
include hf ht
theorem zN:i9 s=some (decide (pW s)):=by
  unfold i9 dL
  rw [vM hf,G8 ht,fP]
  by_cases h1:kP s.aA
  · by_cases h2:s.Cells.length=2
    · by_cases h3:s.aR.length=3
      · by_cases h4:LQ s.aU
        · by_cases h5:0≤s.aK∧s.aK≤1000000
          · have c2:((s.Cells.length:Int) != 2)=false:=by simp;omega
            have c3:((s.aR.length:Int) != 3)=false:=by simp;omega
            simp only [decide_eq_true h1,decide_eq_true h4,decide_eq_true h5,c2,c3,Option.bind_some,Bool.not_true,Bool.false_eq_true,if_false]
            have k2:loop (eJ s) 0=some (if ∀h∈s.Cells,cZ h then Out.brk () else Out.ret false):=by
              have hb:∀k (hk:k < s.Cells.length),eJ s (k:Int)=if cZ s.Cells[k] then some (.next ((k+1:Nat):Int)) else some (.stop (Out.ret false)):=fun k hk=>by
                simp only [eJ]
                rw [if_pos (by simp;omega),aT hk,Option.bind_some,vO,Option.bind_some,aZ (by omega) (by omega)]
                by_cases q:cZ s.Cells[k] <;> simp [q]
              exact lA (f:=eJ s) s.Cells (fun k=>(k:Int)) cZ _ _ (fun k hk hp=>by rw [hb k hk,if_pos hp]) (fun k hk hp=>by rw [hb k hk,if_neg hp]) (by simp [eJ,h2])
            have k3:loop (eI s) 0=some (if ∀j∈s.aR,V6 j then Out.brk () else Out.ret false):=by
              have hb:∀k (hk:k < s.aR.length),eI s (k:Int)=if V6 s.aR[k] then some (.next ((k+1:Nat):Int)) else some (.stop (Out.ret false)):=fun k hk=>by
                simp only [eI]
                rw [if_pos (by simp;omega),aT hk]
                generalize s.aR[k]=j
                simp only [Option.bind_some,bR,QT,vO,aZ (show -9223372036854775808≤(k:Int)+1 by omega) (show(k:Int)+1≤9223372036854775807 by omega)]
                cases hb:j.g7
                · by_cases e:j=aAZ
                  · have a1:cZ j.H:=by rw [e];exact .inl rfl
                    have a2:cZ j.Old:=by rw [e];exact .inl rfl
                    have e':j=(⟨false,(⟨0,0,0,0⟩:cM),0,0,(⟨0,0,0,0,0,0,0,0,0,false⟩:Sub),0,0,0,0⟩:bG):=e
                    simp only [Bool.not_false,if_true,decide_eq_true e',Bool.not_true,Bool.false_eq_true,if_false,decide_eq_true a1,decide_eq_true a2,if_pos ((zU hb).2 e)];rfl
                  · have e':¬j=(⟨false,(⟨0,0,0,0⟩:cM),0,0,(⟨0,0,0,0,0,0,0,0,0,false⟩:Sub),0,0,0,0⟩:bG):=e
                    simp only [Bool.not_false,if_true,decide_eq_false e',Bool.false_eq_true,if_false,if_neg (fun q=>e ((zU hb).1 q))]
                · by_cases a0:BM j.Op
                  · by_cases a1:cZ j.H
                    · by_cases a2:cZ j.Old <;> simp [a0,a1,a2,uU hb]
                    · simp [a0,a1,uU hb]
                  · simp [a0,uU hb]
              exact lA (f:=eI s) s.aR (fun k=>(k:Int)) V6 _ _ (fun k hk hp=>by rw [hb k hk,if_pos hp]) (fun k hk hp=>by rw [hb k hk,if_neg hp]) (by simp [eI,h3])
            rw [k2]
            by_cases q2:∀h∈s.Cells,cZ h
            · rw [if_pos q2]
              simp only [Option.bind_some,p5,pZ]
              rw [k3]
              by_cases q3:∀j∈s.aR,V6 j
              · rw [if_pos q3,decide_eq_true (show pW s from ⟨h1,h2,h3,h4,h5,q2,q3⟩)];rfl
              · rw [if_neg q3,decide_eq_false (fun a:pW s=>q3 a.2.2.2.2.2.2)];rfl
            · rw [if_neg q2,decide_eq_false (fun a:pW s=>q2 a.2.2.2.2.2.1)];rfl
          · rw [decide_eq_false (fun a:pW s=>h5 a.2.2.2.2.1)]
            simp [h1,h2,h3,h4,h5]
        · rw [decide_eq_false (fun a:pW s=>h4 a.2.2.2.1)]
          simp [h1,h2,h3,h4]
      · rw [decide_eq_false (fun a:pW s=>h3 a.2.2.1)]
        have c3:((s.aR.length:Int) != 3)=true:=by simp;omega
        simp [h1,h2,h3,c3]
    · rw [decide_eq_false (fun a:pW s=>h2 a.2.1)]
      have c2:((s.Cells.length:Int) != 2)=true:=by simp;omega
      simp [h1,h2,c2]
  · rw [decide_eq_false (fun a:pW s=>h1 a.1)];simp [h1]
include hq hcl hjl
theorem zO:jA s=some (decide (pW s)):=by
  have e1:gQ=fun x=>some (!decide (cZ x)):=funext fun x=>by unfold gQ;rw [pU];rfl
  have e2:∀x∈s.aR,jK x=some (!decide (V6 x)):=fun x _=>by unfold jK;rw [J8];rfl
  unfold jA cE
  rw [vN hf,G9 ht hq,kD,show(fun y0=>gQ y0)=fun x=>some (!decide (cZ x)) from e1,DK hcl,uI,AJ hjl _ _ e2,uI]
  by_cases h1:kP s.aA
  · by_cases h2:s.Cells.length=2
    · by_cases h3:s.aR.length=3
      · have c2:((s.Cells.length:Int) == 2)=true:=by simp;omega
        have c3:((s.aR.length:Int) == 3)=true:=by simp;omega
        by_cases h4:LQ s.aU
        · by_cases h5:0≤s.aK∧s.aK≤1000000
          · by_cases q2:∀h∈s.Cells,cZ h
            · by_cases q3:∀j∈s.aR,V6 j
              · rw [decide_eq_true (show pW s from ⟨h1,h2,h3,h4,h5,q2,q3⟩)]
                simp only [decide_eq_true h1,decide_eq_true h4,decide_eq_true h5,decide_eq_true q2,decide_eq_true q3,c2,c3,Option.bind_some,Bool.not_true,Bool.not_false,Bool.false_eq_true,if_false,if_true]
              · rw [decide_eq_false (fun a:pW s=>q3 a.2.2.2.2.2.2)]
                simp only [decide_eq_true h1,decide_eq_true h4,decide_eq_true h5,decide_eq_true q2,decide_eq_false q3,c2,c3,Option.bind_some,Bool.not_true,Bool.not_false,Bool.false_eq_true,if_false,if_true]
            · rw [decide_eq_false (fun a:pW s=>q2 a.2.2.2.2.2.1)]
              simp only [decide_eq_true h1,decide_eq_true h4,decide_eq_true h5,decide_eq_false q2,c2,c3,Option.bind_some,Bool.not_true,Bool.not_false,Bool.false_eq_true,if_false,if_true]
          · rw [decide_eq_false (fun a:pW s=>h5 a.2.2.2.2.1)]
            simp only [decide_eq_true h1,decide_eq_true h4,decide_eq_false h5,c2,c3,Option.bind_some,Bool.false_eq_true,if_false,if_true]
        · rw [decide_eq_false (fun a:pW s=>h4 a.2.2.2.1)]
          simp only [decide_eq_true h1,decide_eq_false h4,c2,c3,Option.bind_some,Bool.false_eq_true,if_false,if_true]
      · rw [decide_eq_false (fun a:pW s=>h3 a.2.2.1)]
        have c2:((s.Cells.length:Int) == 2)=true:=by simp;omega
        have c3:((s.aR.length:Int) == 3)=false:=by simp;omega
        simp only [decide_eq_true h1,c2,c3,Option.bind_some,Bool.false_eq_true,if_false,if_true]
    · rw [decide_eq_false (fun a:pW s=>h2 a.2.1)]
      have c2:((s.Cells.length:Int) == 2)=false:=by simp;omega
      simp only [decide_eq_true h1,c2,Option.bind_some,Bool.false_eq_true,if_false,if_true]
  · rw [decide_eq_false (fun a:pW s=>h1 a.1)];simp only [decide_eq_false h1,Option.bind_some,Bool.false_eq_true,if_false]
end
end Go.Gv
end
noncomputable section
set_option linter.unusedVariables false
set_option linter.unusedSimpArgs false
namespace Go.Gv
theorem aCE{v:aC}(hf:fit v){n:Int}(h0:0≤n)(h1:n≤1048576):m3 v n=some (if (dE v:Int)≤n then n - dE v else -1):=by
  unfold m3 dE
  rw [uV (hf.1) (by omega) (by omega)]
  by_cases q0:(bK v.Bytes:Int)≤n
  · rw [if_pos q0];simp only [Option.bind_some];rw [if_neg (by simp only [decide_eq_true_eq];omega)]
    rw [uV (hf.2) (by omega) (by omega)]
    by_cases q1:(bK v.Class:Int)≤n - (bK v.Bytes:Nat)
    · rw [if_pos q1];simp only [Option.bind_some];rw [if_neg (by simp only [decide_eq_true_eq];omega),if_pos (by omega)];congr 1;omega
    · rw [if_neg q1,if_neg (by omega)];rfl
  · rw [if_neg q0,if_neg (by omega)];rfl
theorem aCF{v:aC}(h:dE v≤4194304):m7 v=some v:=by
  have h0:bK v.Bytes≤4194304:=by unfold dE at h;omega
  have h1:bK v.Class≤4194304:=by unfold dE at h;omega
  unfold m7
  simp only [uW h0,uW h1,Option.bind_some]
theorem VX{v:aC}(h:dE v≤4194304):qK v v=some true:=by
  have h0:bK v.Bytes≤4194304:=by unfold dE at h;omega
  have h1:bK v.Class≤4194304:=by unfold dE at h;omega
  unfold qK
  simp [rJ h0,rJ h1]
theorem XG{v:aG}(hf:fit v){n:Int}(h0:0≤n)(h1:n≤1048576):lK v n=some (if (cP v:Int)≤n then n - cP v else -1):=by
  unfold lK cP
  rw [uV (hf) (by omega) (by omega)]
  by_cases q0:(bK v.bB:Int)≤n
  · rw [if_pos q0];simp only [Option.bind_some];rw [if_neg (by simp only [decide_eq_true_eq];omega)]
  · rw [if_neg q0];rfl
theorem XH{v:aG}(h:cP v≤4194304):lP v=some v:=by
  have h0:bK v.bB≤4194304:=by unfold cP at h;omega
  unfold lP
  simp only [uW h0,Option.bind_some]
theorem Q0{v:aG}(h:cP v≤4194304):nP v v=some true:=by
  have h0:bK v.bB≤4194304:=by unfold cP at h;omega
  unfold nP
  simp [rJ h0]
theorem mR{l:List aG}{x:aG}(h:x∈l):cP x≤bU l:=by have:=LA (f:=cP) h;unfold bU;omega
theorem mS(l:List aG):l.length≤bU l:=by unfold bU;omega
theorem FU{l:List aG}(hf:fit l){n:Int}(h0:0≤n)(h1:n≤1048576):iJ l n=some (if (bU l:Int)≤n then n - bU l else -1):=by
  have hm:l.length≤9223372036854775807:=hf.1
  unfold iJ bU
  rw [aZ (by omega) (by omega)]
  by_cases h:(l.length:Int)≤n
  · rw [if_neg (by simp;omega),VW (sz:=cP) (f:=gX l) l hf.1 (fun k hk q q0 q1=>?_) (fun q=>by simp [gX]) (by omega) (by omega)]
    · by_cases h2:((l.map cP).sum:Int)≤n - l.length
      · rw [if_pos h2,if_pos (by omega)];simp only [Option.bind_some,oM,oL];congr 1;omega
      · rw [if_neg h2,if_neg (by omega)];rfl
    · simp only [gX]
      rw [if_pos (by simp;omega),aT hk]
      simp only [Option.bind_some]
      rw [XG (hf.2 _ (List.getElem_mem hk)) q0 q1]
      simp only [Option.bind_some]
      by_cases h2:(cP l[k]:Int)≤q
      · rw [if_pos h2,if_pos h2,if_neg (by simp only [decide_eq_true_eq];omega),bV (cG hk hf.1)]
      · rw [if_neg h2,if_neg h2];rfl
  · rw [if_pos (by simp;omega),if_neg (by omega)]
theorem FV{l:List aG}(h:bU l≤4194304):iK l=some l:=by
  have hl:=mS l
  unfold iK
  rw [aO (by omega),Int.toNat_natCast,l8 l id]
  · simp [oQ,oP]
  · intro acc k hk he
    simp only [kG]
    rw [if_pos (by simp;omega),aT hk]
    simp only [Option.bind_some,XH (Nat.le_trans (mR (List.getElem_mem hk)) h)]
    rw [aT (by omega)]
    simp only [Option.bind_some]
    rw [aZ (by omega) (by omega)]
    simp
  · intro acc
    simp [kG]
theorem yN{l:List aG}(h:bU l≤4194304):lX l l=some true:=by
  have hl:=mS l
  unfold lX
  have key:loop (fT l l) 0=some (Out.brk ()):=by
    refine fI (f:=fT l l) l.length (fun k=>(k:Int)) _ (fun k hk=>?_) ?_
    · simp only [fT]
      rw [if_pos (by simp;omega),aT hk,aZ (by omega) (by omega)]
      simp [Q0 (Nat.le_trans (mR (List.getElem_mem hk)) h)]
    · simp [fT]
  simp [key,A1,A0]
theorem XI{v:aB}(hf:fit v){n:Int}(h0:0≤n)(h1:n≤1048576):lL v n=some (if (dA v:Int)≤n then n - dA v else -1):=by
  unfold lL dA
  rw [FU (hf.1) (by omega) (by omega)]
  by_cases q0:(bU v.Global:Int)≤n
  · rw [if_pos q0];simp only [Option.bind_some];rw [if_neg (by simp only [decide_eq_true_eq];omega)]
    rw [FU (hf.2) (by omega) (by omega)]
    by_cases q1:(bU v.bA:Int)≤n - (bU v.Global:Nat)
    · rw [if_pos q1];simp only [Option.bind_some];rw [if_neg (by simp only [decide_eq_true_eq];omega),if_pos (by omega)];congr 1;omega
    · rw [if_neg q1,if_neg (by omega)];rfl
  · rw [if_neg q0,if_neg (by omega)];rfl
theorem XJ{v:aB}(h:dA v≤4194304):lQ v=some v:=by
  have h0:bU v.Global≤4194304:=by unfold dA at h;omega
  have h1:bU v.bA≤4194304:=by unfold dA at h;omega
  unfold lQ
  simp only [FV h0,FV h1,Option.bind_some]
theorem Q1{v:aB}(h:dA v≤4194304):nQ v v=some true:=by
  have h0:bU v.Global≤4194304:=by unfold dA at h;omega
  have h1:bU v.bA≤4194304:=by unfold dA at h;omega
  unfold nQ
  simp [yN h0,yN h1]
theorem aH8{v:Mem}(hf:fit v){n:Int}(h0:0≤n)(h1:n≤1048576):pO v n=some (if (dP v:Int)≤n then n - dP v else -1):=by
  unfold pO dP
  rw [aCE (hf.1) (by omega) (by omega)]
  by_cases q0:(dE v.aC:Int)≤n
  · rw [if_pos q0];simp only [Option.bind_some];rw [if_neg (by simp only [decide_eq_true_eq];omega)]
    rw [XI (hf.2) (by omega) (by omega)]
    by_cases q1:(dA v.aB:Int)≤n - (dE v.aC:Nat)
    · rw [if_pos q1];simp only [Option.bind_some];rw [if_neg (by simp only [decide_eq_true_eq];omega),if_pos (by omega)];congr 1;omega
    · rw [if_neg q1,if_neg (by omega)];rfl
  · rw [if_neg q0,if_neg (by omega)];rfl
theorem aH9{v:Mem}(h:dP v≤4194304):pQ v=some v:=by
  have h0:dE v.aC≤4194304:=by unfold dP at h;omega
  have h1:dA v.aB≤4194304:=by unfold dP at h;omega
  unfold pQ
  simp only [aCF h0,XJ h1,Option.bind_some]
theorem aCG{v:Mem}(h:dP v≤4194304):sJ v v=some true:=by
  have h0:dE v.aC≤4194304:=by unfold dP at h;omega
  have h1:dA v.aB≤4194304:=by unfold dP at h;omega
  unfold sJ
  simp [VX h0,Q1 h1]
theorem aIA(a:cQ):tX a=some a:=rfl
theorem aCH(a:cQ):sK a a=some true:=by simp [sK]
theorem qI(l:List cQ):l.length≤eV l:=by unfold eV;omega
theorem aCI{l:List cQ}(hf:fit l){n:Int}(h0:0≤n)(h1:n≤1048576):m4 l n=some (if (eV l:Int)≤n then n - eV l else -1):=by
  have hm:l.length≤9223372036854775807:=hf.1
  unfold m4 eV
  rw [aZ (by omega) (by omega)]
  by_cases h:(l.length:Int)≤n
  · rw [if_pos h,if_neg (by simp;omega)]
  · rw [if_neg h,if_pos (by simp;omega)]
theorem aCJ{l:List cQ}(h:eV l≤4194304):m8 l=some l:=by
  have hl:=qI l
  unfold m8
  rw [aO (by omega),Int.toNat_natCast,l8 l id]
  · simp [rQ,rP]
  · intro acc k hk he
    simp only [mD]
    rw [if_pos (by simp;omega),aT hk]
    simp only [Option.bind_some,aIA]
    rw [aT (by omega)]
    simp only [Option.bind_some]
    rw [aZ (by omega) (by omega)]
    simp
  · intro acc
    simp [mD]
theorem VY{l:List cQ}(h:eV l≤4194304):qL l l=some true:=by
  have hl:=qI l
  unfold qL
  have key:loop (iD l l) 0=some (Out.brk ()):=by
    refine fI (f:=iD l l) l.length (fun k=>(k:Int)) _ (fun k hk=>?_) ?_
    · simp only [iD]
      rw [if_pos (by simp;omega),aT hk,aZ (by omega) (by omega)]
      simp [aCH]
    · simp [iD]
  simp [key,FD,FC]
theorem XL{v:aD}(hf:fit v){n:Int}(h0:0≤n)(h1:n≤1048576):lM v n=some (if (dB v:Int)≤n then n - dB v else -1):=by
  unfold lM dB
  rw [aCI (hf.2) (by omega) (by omega)]
  by_cases q0:(eV v.aM:Int)≤n
  · rw [if_pos q0];simp only [Option.bind_some];rw [if_neg (by simp only [decide_eq_true_eq];omega)]
  · rw [if_neg q0];rfl
theorem XM{v:aD}(h:dB v≤4194304):lR v=some v:=by
  have h0:eV v.aM≤4194304:=by unfold dB at h;omega
  unfold lR
  simp only [aCJ h0,Option.bind_some]
theorem Q2{v:aD}(h:dB v≤4194304):nR v v=some true:=by
  have h0:eV v.aM≤4194304:=by unfold dB at h;omega
  unfold nR
  simp [VY h0]
theorem aCK(a:bP):rR a=some a:=rfl
theorem VZ(a:bP):qM a a=some true:=by simp [qM]
theorem o4(l:List bP):l.length≤eE l:=by unfold eE;omega
theorem XN{l:List bP}(hf:fit l){n:Int}(h0:0≤n)(h1:n≤1048576):lN l n=some (if (eE l:Int)≤n then n - eE l else -1):=by
  have hm:l.length≤9223372036854775807:=hf.1
  unfold lN eE
  rw [aZ (by omega) (by omega)]
  by_cases h:(l.length:Int)≤n
  · rw [if_pos h,if_neg (by simp;omega)]
  · rw [if_neg h,if_pos (by simp;omega)]
theorem XO{l:List bP}(h:eE l≤4194304):lS l=some l:=by
  have hl:=o4 l
  unfold lS
  rw [aO (by omega),Int.toNat_natCast,l8 l id]
  · simp [p8,p7]
  · intro acc k hk he
    simp only [lC]
    rw [if_pos (by simp;omega),aT hk]
    simp only [Option.bind_some,aCK]
    rw [aT (by omega)]
    simp only [Option.bind_some]
    rw [aZ (by omega) (by omega)]
    simp
  · intro acc
    simp [lC]
theorem Q3{l:List bP}(h:eE l≤4194304):nS l l=some true:=by
  have hl:=o4 l
  unfold nS
  have key:loop (gT l l) 0=some (Out.brk ()):=by
    refine fI (f:=gT l l) l.length (fun k=>(k:Int)) _ (fun k hk=>?_) ?_
    · simp only [gT]
      rw [if_pos (by simp;omega),aT hk,aZ (by omega) (by omega)]
      simp [VZ]
    · simp [gT]
  simp [key,CU,CT]
theorem XP{v:aP}(hf:fit v){n:Int}(h0:0≤n)(h1:n≤1048576):lO v n=some (if (cW v:Int)≤n then n - cW v else -1):=by
  unfold lO cW
  rw [XN (hf) (by omega) (by omega)]
  by_cases q0:(eE v.Rows:Int)≤n
  · rw [if_pos q0];simp only [Option.bind_some];rw [if_neg (by simp only [decide_eq_true_eq];omega)]
  · rw [if_neg q0];rfl
theorem XQ{v:aP}(h:cW v≤4194304):lT v=some v:=by
  have h0:eE v.Rows≤4194304:=by unfold cW at h;omega
  unfold lT
  simp only [XO h0,Option.bind_some]
theorem Q4{v:aP}(h:cW v≤4194304):nT v v=some true:=by
  have h0:eE v.Rows≤4194304:=by unfold cW at h;omega
  unfold nT
  simp [Q3 h0]
theorem mT{l:List aP}{x:aP}(h:x∈l):cW x≤bZ l:=by have:=LA (f:=cW) h;unfold bZ;omega
theorem mU(l:List aP):l.length≤bZ l:=by unfold bZ;omega
theorem SC{l:List aP}(hf:fit l){n:Int}(h0:0≤n)(h1:n≤1048576):kQ l n=some (if (bZ l:Int)≤n then n - bZ l else -1):=by
  have hm:l.length≤9223372036854775807:=hf.1
  unfold kQ bZ
  rw [aZ (by omega) (by omega)]
  by_cases h:(l.length:Int)≤n
  · rw [if_neg (by simp;omega),VW (sz:=cW) (f:=gY l) l hf.1 (fun k hk q q0 q1=>?_) (fun q=>by simp [gY]) (by omega) (by omega)]
    · by_cases h2:((l.map cW).sum:Int)≤n - l.length
      · rw [if_pos h2,if_pos (by omega)];simp only [Option.bind_some,oO,oN];congr 1;omega
      · rw [if_neg h2,if_neg (by omega)];rfl
    · simp only [gY]
      rw [if_pos (by simp;omega),aT hk]
      simp only [Option.bind_some]
      rw [XP (hf.2 _ (List.getElem_mem hk)) q0 q1]
      simp only [Option.bind_some]
      by_cases h2:(cW l[k]:Int)≤q
      · rw [if_pos h2,if_pos h2,if_neg (by simp only [decide_eq_true_eq];omega),bV (cG hk hf.1)]
      · rw [if_neg h2,if_neg h2];rfl
  · rw [if_pos (by simp;omega),if_neg (by omega)]
theorem SD{l:List aP}(h:bZ l≤4194304):kR l=some l:=by
  have hl:=mU l
  unfold kR
  rw [aO (by omega),Int.toNat_natCast,l8 l id]
  · simp [oS,oR]
  · intro acc k hk he
    simp only [kH]
    rw [if_pos (by simp;omega),aT hk]
    simp only [Option.bind_some,XQ (Nat.le_trans (mT (List.getElem_mem hk)) h)]
    rw [aT (by omega)]
    simp only [Option.bind_some]
    rw [aZ (by omega) (by omega)]
    simp
  · intro acc
    simp [kH]
theorem LC{l:List aP}(h:bZ l≤4194304):mL l l=some true:=by
  have hl:=mU l
  unfold mL
  have key:loop (fU l l) 0=some (Out.brk ()):=by
    refine fI (f:=fU l l) l.length (fun k=>(k:Int)) _ (fun k hk=>?_) ?_
    · simp only [fU]
      rw [if_pos (by simp;omega),aT hk,aZ (by omega) (by omega)]
      simp [Q4 (Nat.le_trans (mT (List.getElem_mem hk)) h)]
    · simp [fU]
  simp [key,A3,A2]
theorem aCL{v:aA}(hf:fit v){n:Int}(h0:0≤n)(h1:n≤1048576):m5 v n=some (if (bX v:Int)≤n then n - bX v else -1):=by
  unfold m5 bX
  rw [aH8 (hf.1) (by omega) (by omega)]
  by_cases q0:(dP v.Mem:Int)≤n
  · rw [if_pos q0];simp only [Option.bind_some];rw [if_neg (by simp only [decide_eq_true_eq];omega)]
    rw [XL (hf.2.1) (by omega) (by omega)]
    by_cases q1:(dB v.aD:Int)≤n - (dP v.Mem:Nat)
    · rw [if_pos q1];simp only [Option.bind_some];rw [if_neg (by simp only [decide_eq_true_eq];omega)]
      rw [SC (hf.2.2.1) (by omega) (by omega)]
      by_cases q2:(bZ v.aH:Int)≤n - (dP v.Mem:Nat) - (dB v.aD:Nat)
      · rw [if_pos q2];simp only [Option.bind_some];rw [if_neg (by simp only [decide_eq_true_eq];omega)]
        rw [uV (hf.2.2.2) (by omega) (by omega)]
        by_cases q3:(bK v.bO:Int)≤n - (dP v.Mem:Nat) - (dB v.aD:Nat) - (bZ v.aH:Nat)
        · rw [if_pos q3];simp only [Option.bind_some];rw [if_neg (by simp only [decide_eq_true_eq];omega),if_pos (by omega)];congr 1;omega
        · rw [if_neg q3,if_neg (by omega)];rfl
      · rw [if_neg q2,if_neg (by omega)];rfl
    · rw [if_neg q1,if_neg (by omega)];rfl
  · rw [if_neg q0,if_neg (by omega)];rfl
theorem aCM{v:aA}(h:bX v≤4194304):m9 v=some v:=by
  have h0:dP v.Mem≤4194304:=by unfold bX at h;omega
  have h1:dB v.aD≤4194304:=by unfold bX at h;omega
  have h2:bZ v.aH≤4194304:=by unfold bX at h;omega
  have h3:bK v.bO≤4194304:=by unfold bX at h;omega
  unfold m9
  simp only [aH9 h0,XM h1,SD h2,uW h3,Option.bind_some]
theorem V1{v:aA}(h:bX v≤4194304):qN v v=some true:=by
  have h0:dP v.Mem≤4194304:=by unfold bX at h;omega
  have h1:dB v.aD≤4194304:=by unfold bX at h;omega
  have h2:bZ v.aH≤4194304:=by unfold bX at h;omega
  have h3:bK v.bO≤4194304:=by unfold bX at h;omega
  unfold qN
  simp [aCG h0,Q2 h1,LC h2,rJ h3]
theorem aCN(a:Sub):sL a a=some true:=by simp [sL]
theorem aIB(a:bG):tY a=some a:=rfl
theorem aCO(a:bG):sM a a=some true:=by simp [sM,aST,aCN]
theorem qJ(l:List bG):l.length≤dX l:=by unfold dX;omega
theorem aCP{l:List bG}(hf:fit l){n:Int}(h0:0≤n)(h1:n≤1048576):m6 l n=some (if (dX l:Int)≤n then n - dX l else -1):=by
  have hm:l.length≤9223372036854775807:=hf.1
  unfold m6 dX
  rw [aZ (by omega) (by omega)]
  by_cases h:(l.length:Int)≤n
  · rw [if_pos h,if_neg (by simp;omega)]
  · rw [if_neg h,if_pos (by simp;omega)]
theorem aCQ{l:List bG}(h:dX l≤4194304):nA l=some l:=by
  have hl:=qJ l
  unfold nA
  rw [aO (by omega),Int.toNat_natCast,l8 l id]
  · simp [rT,rS]
  · intro acc k hk he
    simp only [mE]
    rw [if_pos (by simp;omega),aT hk]
    simp only [Option.bind_some,aIB]
    rw [aT (by omega)]
    simp only [Option.bind_some]
    rw [aZ (by omega) (by omega)]
    simp
  · intro acc
    simp [mE]
theorem V2{l:List bG}(h:dX l≤4194304):qO l l=some true:=by
  have hl:=qJ l
  unfold qO
  have key:loop (iE l l) 0=some (Out.brk ()):=by
    refine fI (f:=iE l l) l.length (fun k=>(k:Int)) _ (fun k hk=>?_) ?_
    · simp only [iE]
      rw [if_pos (by simp;omega),aT hk,aZ (by omega) (by omega)]
      simp [aCO]
    · simp [iE]
  simp [key,FF,FE]
theorem aQE(a:Ev):wQ a=some a:=rfl
theorem aJ0(a:Ev):vQ a a=some true:=by simp [vQ]
theorem sG(l:List Ev):l.length≤gO l:=by unfold gO;omega
theorem aIC{l:List Ev}(hf:fit l){n:Int}(h0:0≤n)(h1:n≤1048576):pP l n=some (if (gO l:Int)≤n then n - gO l else -1):=by
  have hm:l.length≤9223372036854775807:=hf.1
  unfold pP gO
  rw [aZ (by omega) (by omega)]
  by_cases h:(l.length:Int)≤n
  · rw [if_pos h,if_neg (by simp;omega)]
  · rw [if_neg h,if_pos (by simp;omega)]
theorem aID{l:List Ev}(h:gO l≤4194304):pR l=some l:=by
  have hl:=sG l
  unfold pR
  rw [aO (by omega),Int.toNat_natCast,l8 l id]
  · simp [sZ,sY]
  · intro acc k hk he
    simp only [nJ]
    rw [if_pos (by simp;omega),aT hk]
    simp only [Option.bind_some,aQE]
    rw [aT (by omega)]
    simp only [Option.bind_some]
    rw [aZ (by omega) (by omega)]
    simp
  · intro acc
    simp [nJ]
theorem aCR{l:List Ev}(h:gO l≤4194304):sN l l=some true:=by
  have hl:=sG l
  unfold sN
  have key:loop (jI l l) 0=some (Out.brk ()):=by
    refine fI (f:=jI l l) l.length (fun k=>(k:Int)) _ (fun k hk=>?_) ?_
    · simp only [jI]
      rw [if_pos (by simp;omega),aT hk,aZ (by omega) (by omega)]
      simp [aJ0]
    · simp [jI]
  simp [key,IT,IS]
theorem XR{v:aE}(hf:fit v){n:Int}(h0:0≤n)(h1:n≤1048576):jJ v n=some (if (bJ v:Int)≤n then n - bJ v else -1):=by
  unfold jJ bJ
  rw [aCL (hf.1) (by omega) (by omega)]
  by_cases q0:(bX v.aA:Int)≤n
  · rw [if_pos q0];simp only [Option.bind_some];rw [if_neg (by simp only [decide_eq_true_eq];omega)]
    rw [uV (hf.2.1) (by omega) (by omega)]
    by_cases q1:(bK v.Cells:Int)≤n - (bX v.aA:Nat)
    · rw [if_pos q1];simp only [Option.bind_some];rw [if_neg (by simp only [decide_eq_true_eq];omega)]
      rw [aCP (hf.2.2.1) (by omega) (by omega)]
      by_cases q2:(dX v.aR:Int)≤n - (bX v.aA:Nat) - (bK v.Cells:Nat)
      · rw [if_pos q2];simp only [Option.bind_some];rw [if_neg (by simp only [decide_eq_true_eq];omega)]
        rw [RY (hf.2.2.2.1) (by omega) (by omega)]
        by_cases q3:(dC v.aU:Int)≤n - (bX v.aA:Nat) - (bK v.Cells:Nat) - (dX v.aR:Nat)
        · rw [if_pos q3];simp only [Option.bind_some];rw [if_neg (by simp only [decide_eq_true_eq];omega)]
          rw [aIC (hf.2.2.2.2.1) (by omega) (by omega)]
          by_cases q4:(gO v.Log:Int)≤n - (bX v.aA:Nat) - (bK v.Cells:Nat) - (dX v.aR:Nat) - (dC v.aU:Nat)
          · rw [if_pos q4];simp only [Option.bind_some];rw [if_neg (by simp only [decide_eq_true_eq];omega),if_pos (by omega)];congr 1;omega
          · rw [if_neg q4,if_neg (by omega)];rfl
        · rw [if_neg q3,if_neg (by omega)];rfl
      · rw [if_neg q2,if_neg (by omega)];rfl
    · rw [if_neg q1,if_neg (by omega)];rfl
  · rw [if_neg q0,if_neg (by omega)];rfl
theorem XS{v:aE}(h:bJ v≤4194304):cD v=some v:=by
  have h0:bX v.aA≤4194304:=by unfold bJ at h;omega
  have h1:bK v.Cells≤4194304:=by unfold bJ at h;omega
  have h2:dX v.aR≤4194304:=by unfold bJ at h;omega
  have h3:dC v.aU≤4194304:=by unfold bJ at h;omega
  have h4:gO v.Log≤4194304:=by unfold bJ at h;omega
  unfold cD
  simp only [aCM h0,uW h1,aCQ h2,RZ h3,aID h4,Option.bind_some]
theorem Q5{v:aE}(h:bJ v≤4194304):cL v v=some true:=by
  have h0:bX v.aA≤4194304:=by unfold bJ at h;omega
  have h1:bK v.Cells≤4194304:=by unfold bJ at h;omega
  have h2:dX v.aR≤4194304:=by unfold bJ at h;omega
  have h3:dC v.aU≤4194304:=by unfold bJ at h;omega
  have h4:gO v.Log≤4194304:=by unfold bJ at h;omega
  unfold cL
  simp [V1 h0,rJ h1,V2 h2,OV h3,aCR h4]
theorem nx3{α ρ:Type}{x:α}{k k' i i':Int}(h1:k=k')(h2:i=i'):(some (Step.next (x,k,i)):Option (Step (α×Int×Int) ρ))=some (.next (x,k',i')):=by rw [h1,h2]
theorem nx2{ρ:Type}{k k' i i':Int}(h1:k=k')(h2:i=i'):(some (Step.next (k,i)):Option (Step (Int×Int) ρ))=some (.next (k',i')):=by rw [h1,h2]
theorem fB(x y:Int):aI (aI x+y)=aI (x+y):=by
  simp [aI,IntKind.wrap,IntKind.bits,IntKind.signed];split <;> split <;> omega
theorem fX{α:Type}(l:List α)(wt:α→Nat)(P:α→α→Int→Prop){f:(List α×Int×Int)→Option (Step (List α×Int×Int) (List α×Int))}{k0:Int}(h0:0≤k0)(hB:k0+(l.map wt).sum≤4611686018427387904)
    (hf:∀(m:List α) (k:Int) (i:Nat) (hi:i < l.length) (hm:m.length=l.length),m[i]'(by omega)=l[i]→0≤k→k+wt l[i]≤4611686018427387904→∃a,f (m,k,(i:Int))=some (.next (m.set i a,k+wt l[i],((i+1:Nat):Int)))∧P l[i] a k)
    (he:∀(m:List α) (k:Int),m.length=l.length→f (m,k,(l.length:Int))=some (.stop (m,k))) :
    ∃m,loop f (l,k0,0)=some (m,k0+(l.map wt).sum)∧m.length=l.length∧∀j (hj:j < l.length) (hj':j < m.length),P l[j] m[j] (k0+((l.take j).map wt).sum):=by
  have key:∀(d i:Nat) (m:List α),i+d=l.length→m.length=l.length→(∀j (hj:j < l.length) (hj':j < m.length),i≤j→m[j]=l[j])→(∀j (hj:j < l.length) (hj':j < m.length),j < i→P l[j] m[j] (k0+((l.take j).map wt).sum)) →
      ∃m',loop f (m,k0+((l.take i).map wt).sum,(i:Int))=some (m',k0+(l.map wt).sum)∧m'.length=l.length∧∀j (hj:j < l.length) (hj':j < m'.length),P l[j] m'[j] (k0+((l.take j).map wt).sum):=by
    intro d
    induction d with
    | zero =>
      intro i m hi hm _ h
      obtain rfl:i=l.length:=by omega
      rw [List.take_length]
      exact⟨m,cX (he m _ hm),hm,fun j hj hj'=>h j hj hj' hj⟩
    | succ d ih =>
      intro i m hi hm hs h
      have hil:i < l.length:=by omega
      have hle:((l.take i).map wt).sum+wt l[i]≤(l.map wt).sum:=by
        have e:l.map wt=(l.take i).map wt++(wt l[i] :: (l.drop (i+1)).map wt):=by
          rw [←List.map_cons,←List.drop_eq_getElem_cons hil,←List.map_append,List.take_append_drop]
        rw [e,List.sum_append,List.sum_cons];omega
      obtain⟨a,e1,e2⟩:=hf m (k0+((l.take i).map wt).sum) i hil hm (hs i hil (by omega) (Nat.le_refl _)) (by omega) (by omega)
      have et:((l.take (i+1)).map wt).sum=((l.take i).map wt).sum+wt l[i]:=by
        rw [List.take_succ_eq_append_getElem hil,List.map_append,List.sum_append];simp
      rw [cO e1,show k0+((((l.take i).map wt).sum:Nat):Int)+(wt l[i]:Int)=k0+((((l.take (i+1)).map wt).sum:Nat):Int) by rw [et];omega]
      refine ih (i+1) (m.set i a) (by omega) (by simpa using hm) (fun j hj hj' hij=>?_) (fun j hj hj' hij=>?_)
      · rw [List.getElem_set_ne (by omega)];exact hs j hj _ (by omega)
      · by_cases e:j=i
        · subst e;rw [List.getElem_set_self];exact e2
        · rw [List.getElem_set_ne (by omega)];exact h j hj (by simpa using hj') (by omega)
  have:=key l.length 0 l (by omega) rfl (fun _ _ _ _=>rfl) (fun _ _ _ h=>absurd h (by omega))
  simpa using this
theorem fY{α:Type}(l m:List α)(hml:m.length=l.length)(wt:α→Nat)(P:α→α→Int→Prop){g:(Int×Int)→Option (Step (Int×Int) (Out Int Int))}{k0:Int}
    (hP:∀j (hj:j < l.length) (hj':j < m.length),P l[j] m[j] (k0+((l.take j).map wt).sum))
    (hg:∀(i:Nat) (hi:i < l.length) (hi':i < m.length) (k:Int),P l[i] m[i] k→0≤k→k+wt l[i]≤4611686018427387904→g (k,(i:Int))=some (.next (k+wt l[i],((i+1:Nat):Int))))
    (he:∀k:Int,g (k,(m.length:Int))=some (.stop (.brk k))) (h0:0≤k0) (hB:k0+(l.map wt).sum≤4611686018427387904):loop g (k0,0)=some (.brk (k0+(l.map wt).sum)):=by
  have:=fI (f:=g) l.length (fun i=>(k0+((l.take i).map wt).sum,(i:Int))) (.brk (k0+(l.map wt).sum)) (fun i hi=>?_) (by
    rw [List.take_length,←hml];exact he _)
  · simpa using this
  · have hle:((l.take i).map wt).sum+wt l[i]≤(l.map wt).sum:=by
      have e:l.map wt=(l.take i).map wt++(wt l[i] :: (l.drop (i+1)).map wt):=by
        rw [←List.map_cons,←List.drop_eq_getElem_cons hi,←List.map_append,List.take_append_drop]
      rw [e,List.sum_append,List.sum_cons];omega
    have et:((l.take (i+1)).map wt).sum=((l.take i).map wt).sum+wt l[i]:=by
      rw [List.take_succ_eq_append_getElem hi,List.map_append,List.sum_append];simp
    rw [hg i hi (by omega) _ (hP i hi (by omega)) (by omega) (by omega),et]
    congr 3;omega
theorem kT{l:List Int}{k:Int}(h0:0≤k)(hB:k+bL l≤4611686018427387904)(hl:l.length≤maxLen):∃m,gU l k=some (k+bL l,m)∧d8 m k=some (k+bL l):=by
  obtain⟨m,e1,e2,e3⟩:=fX l (fun _=>1) (fun _ a k=>∀(m:List Int) (i:Nat) (hi:i < m.length),m.length≤maxLen→m[i]=a→eA m (k,(i:Int))=some (.next (k+1,((i+1:Nat):Int)))) (f:=jM l) h0 hB (fun m k i hi hm he hk hb=>⟨_,by
    simp only [jM]
    rw [aO hm,if_pos (by simp;omega),aT (by omega),Option.bind_some,Int.toNat_natCast]
    refine nx3 ?_ (bV (cG hi hl))
    (try simp only [fB,Int.add_assoc,Int.reduceAdd]);exact aZ (by omega) (by omega),fun m i hi hx e=>by
    simp only [eA]
    rw [if_pos (by simp;omega)]
    simp only [aT hi,e,Option.bind_some,bne_self_eq_false,beq_self_eq_true,Bool.not_true,Bool.false_eq_true,if_false]
    refine nx2 ?_ (bV (cG hi hx))
    (try simp only [fB,Int.add_assoc,Int.reduceAdd]);exact aZ (by omega) (by omega)⟩) (fun m k hm=>by
    simp only [jM]
    rw [aO hm,if_neg (by simp;omega)])
  refine⟨m,?_,?_⟩
  · unfold gU
    rw [e1];simp only [Option.bind_some,A5,A4];rw [aO e2];rfl
  · unfold d8
    rw [fY l m e2 (fun _=>1) (fun _ a k=>∀(m:List Int) (i:Nat) (hi:i < m.length),m.length≤maxLen→m[i]=a→eA m (k,(i:Int))=some (.next (k+1,((i+1:Nat):Int)))) e3 (g:=eA m) (fun i hi hi' k h _ _=>h m i hi' (by omega) rfl) (fun k=>by simp [eA]) h0 hB];rfl
theorem SF{v:aC}{k:Int}(h0:0≤k)(hB:k+iI v≤4611686018427387904)(hm:aJT v):∃s0 s1,qD v k=some (k+iI v,s0,s1)∧qF (⟨s0,s1⟩:aC) k=some (k+iI v):=by
  unfold iI at hB ⊢
  obtain⟨s0,a0,b0⟩:=kT (l:=v.Bytes) (k:=k) (by omega) (by omega) (hm.1)
  have z0:¬k+(bL v.Bytes:Nat) < 0:=by omega
  obtain⟨s1,a1,b1⟩:=kT (l:=v.Class) (k:=k+(bL v.Bytes:Nat)) (by omega) (by omega) (hm.2)
  have z1:¬k+(bL v.Bytes:Nat)+(bL v.Class:Nat) < 0:=by omega
  have e:k+(bL v.Bytes:Nat)+(bL v.Class:Nat)=k+((bL v.Bytes+bL v.Class:Nat):Int):=by omega
  rw [←e]
  refine⟨s0,s1,?_,?_⟩
  · unfold qD;simp only [a0,a1,Option.bind_some]
  · unfold qF;simp only [b0,decide_eq_false z0,b1,decide_eq_false z1,Option.bind_some,Bool.false_eq_true,if_false]
theorem sP{l:List aG}{k:Int}(h0:0≤k)(hB:k+cJ l≤4611686018427387904)(hl:l.length≤maxLen)(hi:∀x∈l,x.bB.length≤maxLen):∃m,iO l k=some (k+cJ l,m)∧iP m k=some (k+cJ l):=by
  obtain⟨m,e1,e2,e3⟩:=fX l (fun x=>bL x.bB) (fun x a k=>d8 a.bB k=some (k+bL x.bB)) (f:=hO l) h0 hB (fun m k i hi' hm he hk hb=>by
    obtain⟨q,q1,q2⟩:=kT (l:=l[i].bB) hk hb (hi _ (List.getElem_mem hi'))
    refine⟨⟨q⟩,?_,q2⟩
    simp only [hO]
    rw [aO hm,if_pos (by simp;omega),aT (by omega),Option.bind_some,he,q1,Option.bind_some,Int.toNat_natCast,bV (cG hi' hl)]) (fun m k hm=>by
    simp only [hO]
    rw [aO hm,if_neg (by simp;omega)])
  refine⟨m,?_,?_⟩
  · unfold iO
    rw [e1];simp only [Option.bind_some,wL,wK];rw [aO e2];rfl
  · unfold iP
    rw [fY l m e2 (fun x=>bL x.bB) (fun x a k=>d8 a.bB k=some (k+bL x.bB)) e3 (g:=hY m) (fun i hi' hi2 k h hk hb=>by
      simp only [hY]
      rw [if_pos (by simp;omega),aT hi2,Option.bind_some,h,Option.bind_some,if_neg (by simp;omega),bV (cG hi2 (by omega))]) (fun k=>by simp [hY]) h0 hB];rfl
theorem OI{v:aB}{k:Int}(h0:0≤k)(hB:k+iX v≤4611686018427387904)(hm:aE8 v):∃s0 s1,oB v k=some (k+iX v,s0,s1)∧oD (⟨s0,s1⟩:aB) k=some (k+iX v):=by
  unfold iX at hB ⊢
  obtain⟨s0,a0,b0⟩:=sP (l:=v.Global) (k:=k) (by omega) (by omega) (hm.1) (hm.2.1)
  have z0:¬k+(cJ v.Global:Nat) < 0:=by omega
  obtain⟨s1,a1,b1⟩:=sP (l:=v.bA) (k:=k+(cJ v.Global:Nat)) (by omega) (by omega) (hm.2.2.1) (hm.2.2.2)
  have z1:¬k+(cJ v.Global:Nat)+(cJ v.bA:Nat) < 0:=by omega
  have e:k+(cJ v.Global:Nat)+(cJ v.bA:Nat)=k+((cJ v.Global+cJ v.bA:Nat):Int):=by omega
  rw [←e]
  refine⟨s0,s1,?_,?_⟩
  · unfold oB;simp only [a0,a1,Option.bind_some]
  · unfold oD;simp only [b0,decide_eq_false z0,b1,decide_eq_false z1,Option.bind_some,Bool.false_eq_true,if_false]
theorem XT{v:Mem}{k:Int}(h0:0≤k)(hB:k+gG v≤4611686018427387904)(hm:aQC v):∃s0 s1 s2 s3,r9 v k=some (k+gG v,s0,s1,s2,s3)∧sA (⟨(⟨s0,s1⟩:aC),(⟨s2,s3⟩:aB)⟩:Mem) k=some (k+gG v):=by
  unfold gG at hB ⊢
  obtain⟨s0,s1,a0,b0⟩:=SF (v:=v.aC) (k:=k) (by omega) (by omega) (hm.1)
  have z0:¬k+(iI v.aC:Nat) < 0:=by omega
  obtain⟨s2,s3,a1,b1⟩:=OI (v:=v.aB) (k:=k+(iI v.aC:Nat)) (by omega) (by omega) (hm.2)
  have z1:¬k+(iI v.aC:Nat)+(iX v.aB:Nat) < 0:=by omega
  have e:k+(iI v.aC:Nat)+(iX v.aB:Nat)=k+((iI v.aC+iX v.aB:Nat):Int):=by omega
  rw [←e]
  refine⟨s0,s1,s2,s3,?_,?_⟩
  · unfold r9;simp only [a0,a1,Option.bind_some]
  · unfold sA;simp only [b0,decide_eq_false z0,b1,decide_eq_false z1,Option.bind_some,Bool.false_eq_true,if_false]
theorem LD{l:List cQ}{k:Int}(h0:0≤k)(hB:k+l7 l≤4611686018427387904)(hl:l.length≤maxLen):∃m,lY l k=some (k+l7 l,m)∧l4 m k=some (k+l7 l):=by
  obtain⟨m,e1,e2,e3⟩:=fX l (fun _=>4) (fun _ a k=>∀(m:List cQ) (i:Nat) (hi:i < m.length),m.length≤maxLen→m[i]=a→eB m (k,(i:Int))=some (.next (k+4,((i+1:Nat):Int)))) (f:=jN l) h0 hB (fun m k i hi hm he hk hb=>⟨_,by
    simp only [jN]
    rw [aO hm,if_pos (by simp;omega),aT (by omega),Option.bind_some,Int.toNat_natCast]
    refine nx3 ?_ (bV (cG hi hl))
    (try simp only [fB,Int.add_assoc,Int.reduceAdd]);exact aZ (by omega) (by omega),fun m i hi hx e=>by
    simp only [eB]
    rw [if_pos (by simp;omega)]
    simp only [aT hi,e,Option.bind_some,bne_self_eq_false,beq_self_eq_true,Bool.not_true,Bool.false_eq_true,if_false]
    refine nx2 ?_ (bV (cG hi hx))
    (try simp only [fB,Int.add_assoc,Int.reduceAdd]);exact aZ (by omega) (by omega)⟩) (fun m k hm=>by
    simp only [jN]
    rw [aO hm,if_neg (by simp;omega)])
  refine⟨m,?_,?_⟩
  · unfold lY
    rw [e1];simp only [Option.bind_some,A7,A6];rw [aO e2];rfl
  · unfold l4
    rw [fY l m e2 (fun _=>4) (fun _ a k=>∀(m:List cQ) (i:Nat) (hi:i < m.length),m.length≤maxLen→m[i]=a→eB m (k,(i:Int))=some (.next (k+4,((i+1:Nat):Int)))) e3 (g:=eB m) (fun i hi hi' k h _ _=>h m i hi' (by omega) rfl) (fun k=>by simp [eB]) h0 hB];rfl
theorem OJ{v:aD}{k:Int}(h0:0≤k)(hB:k+eH v≤4611686018427387904)(hm:aE9 v):∃s0,oC v k=some (k+eH v,s0)∧oE (⟨v.aJ,s0⟩:aD) k=some (k+eH v):=by
  unfold eH at hB ⊢
  obtain⟨s0,a0,b0⟩:=LD (l:=v.aM) (k:=k) (by omega) (by omega) (hm)
  have z0:¬k+(l7 v.aM:Nat) < 0:=by omega
  have e:k+(l7 v.aM:Nat)=k+((l7 v.aM:Nat):Int):=by omega
  rw [←e]
  refine⟨s0,?_,?_⟩
  · unfold oC;simp only [a0,Option.bind_some]
  · unfold oE;simp only [b0,decide_eq_false z0,Option.bind_some,Bool.false_eq_true,if_false]
theorem HK{l:List bP}{k:Int}(h0:0≤k)(hB:k+g9 l≤4611686018427387904)(hl:l.length≤maxLen):∃m,lF l k=some (k+g9 l,m)∧fE m k=some (k+g9 l):=by
  obtain⟨m,e1,e2,e3⟩:=fX l (fun _=>2) (fun _ a k=>∀(m:List bP) (i:Nat) (hi:i < m.length),m.length≤maxLen→m[i]=a→dR m (k,(i:Int))=some (.next (k+2,((i+1:Nat):Int)))) (f:=iS l) h0 hB (fun m k i hi hm he hk hb=>⟨_,by
    simp only [iS]
    rw [aO hm,if_pos (by simp;omega),aT (by omega),Option.bind_some,Int.toNat_natCast]
    refine nx3 ?_ (bV (cG hi hl))
    (try simp only [fB,Int.add_assoc,Int.reduceAdd]);exact aZ (by omega) (by omega),fun m i hi hx e=>by
    simp only [dR]
    rw [if_pos (by simp;omega)]
    simp only [aT hi,e,Option.bind_some,bne_self_eq_false,beq_self_eq_true,Bool.not_true,Bool.false_eq_true,if_false]
    refine nx2 ?_ (bV (cG hi hx))
    (try simp only [fB,Int.add_assoc,Int.reduceAdd]);exact aZ (by omega) (by omega)⟩) (fun m k hm=>by
    simp only [iS]
    rw [aO hm,if_neg (by simp;omega)])
  refine⟨m,?_,?_⟩
  · unfold lF
    rw [e1];simp only [Option.bind_some,yL,yK];rw [aO e2];rfl
  · unfold fE
    rw [fY l m e2 (fun _=>2) (fun _ a k=>∀(m:List bP) (i:Nat) (hi:i < m.length),m.length≤maxLen→m[i]=a→dR m (k,(i:Int))=some (.next (k+2,((i+1:Nat):Int)))) e3 (g:=dR m) (fun i hi hi' k h _ _=>h m i hi' (by omega) rfl) (fun k=>by simp [dR]) h0 hB];rfl
theorem DO{l:List aP}{k:Int}(h0:0≤k)(hB:k+eP l≤4611686018427387904)(hl:l.length≤maxLen)(hi:∀x∈l,x.Rows.length≤maxLen):∃m,jS l k=some (k+eP l,m)∧jT m k=some (k+eP l):=by
  obtain⟨m,e1,e2,e3⟩:=fX l (fun x=>g9 x.Rows) (fun x a k=>fE a.Rows k=some (k+g9 x.Rows)) (f:=hC l) h0 hB (fun m k i hi' hm he hk hb=>by
    obtain⟨q,q1,q2⟩:=HK (l:=l[i].Rows) hk hb (hi _ (List.getElem_mem hi'))
    refine⟨⟨q⟩,?_,q2⟩
    simp only [hC]
    rw [aO hm,if_pos (by simp;omega),aT (by omega),Option.bind_some,he,q1,Option.bind_some,Int.toNat_natCast,bV (cG hi' hl)]) (fun m k hm=>by
    simp only [hC]
    rw [aO hm,if_neg (by simp;omega)])
  refine⟨m,?_,?_⟩
  · unfold jS
    rw [e1];simp only [Option.bind_some,wJ,wI];rw [aO e2];rfl
  · unfold jT
    rw [fY l m e2 (fun x=>g9 x.Rows) (fun x a k=>fE a.Rows k=some (k+g9 x.Rows)) e3 (g:=hU m) (fun i hi' hi2 k h hk hb=>by
      simp only [hU]
      rw [if_pos (by simp;omega),aT hi2,Option.bind_some,h,Option.bind_some,if_neg (by simp;omega),bV (cG hi2 (by omega))]) (fun k=>by simp [hU]) h0 hB];rfl
theorem SG{v:aA}{k:Int}(h0:0≤k)(hB:k+dO v≤4611686018427387904)(hm:aF3 v):∃s0 s1 s2 s3 s4 s5 s6,qE v k=some (k+dO v,s0,s1,s2,s3,s4,s5,s6)∧qG (⟨(⟨(⟨s0,s1⟩:aC),(⟨s2,s3⟩:aB)⟩:Mem),(⟨v.aD.aJ,s4⟩:aD),s5,s6⟩:aA) k=some (k+dO v):=by
  unfold dO at hB ⊢
  obtain⟨s0,s1,s2,s3,a0,b0⟩:=XT (v:=v.Mem) (k:=k) (by omega) (by omega) (hm.1)
  have z0:¬k+(gG v.Mem:Nat) < 0:=by omega
  obtain⟨s4,a1,b1⟩:=OJ (v:=v.aD) (k:=k+(gG v.Mem:Nat)) (by omega) (by omega) (hm.2.1)
  have z1:¬k+(gG v.Mem:Nat)+(eH v.aD:Nat) < 0:=by omega
  obtain⟨s5,a2,b2⟩:=DO (l:=v.aH) (k:=k+(gG v.Mem:Nat)+(eH v.aD:Nat)) (by omega) (by omega) (hm.2.2.1) (hm.2.2.2.1)
  have z2:¬k+(gG v.Mem:Nat)+(eH v.aD:Nat)+(eP v.aH:Nat) < 0:=by omega
  obtain⟨s6,a3,b3⟩:=kT (l:=v.bO) (k:=k+(gG v.Mem:Nat)+(eH v.aD:Nat)+(eP v.aH:Nat)) (by omega) (by omega) (hm.2.2.2.2)
  have z3:¬k+(gG v.Mem:Nat)+(eH v.aD:Nat)+(eP v.aH:Nat)+(bL v.bO:Nat) < 0:=by omega
  have e:k+(gG v.Mem:Nat)+(eH v.aD:Nat)+(eP v.aH:Nat)+(bL v.bO:Nat)=k+((gG v.Mem+eH v.aD+eP v.aH+bL v.bO:Nat):Int):=by omega
  rw [←e]
  refine⟨s0,s1,s2,s3,s4,s5,s6,?_,?_⟩
  · unfold qE;simp only [a0,a1,a2,a3,Option.bind_some]
  · unfold qG;simp only [b0,decide_eq_false z0,b1,decide_eq_false z1,b2,decide_eq_false z2,b3,decide_eq_false z3,Option.bind_some,Bool.false_eq_true,if_false]
theorem Q6{l:List cM}{k:Int}(h0:0≤k)(hB:k+mB l≤4611686018427387904)(hl:l.length≤maxLen):∃m,nU l k=some (k+mB l,m)∧iB m k=some (k+mB l):=by
  obtain⟨m,e1,e2,e3⟩:=fX l (fun _=>4) (fun _ a k=>∀(m:List cM) (i:Nat) (hi:i < m.length),m.length≤maxLen→m[i]=a→eR m (k,(i:Int))=some (.next (k+4,((i+1:Nat):Int)))) (f:=kM l) h0 hB (fun m k i hi hm he hk hb=>⟨_,by
    simp only [kM]
    rw [aO hm,if_pos (by simp;omega),aT (by omega),Option.bind_some,Int.toNat_natCast]
    refine nx3 ?_ (bV (cG hi hl))
    (try simp only [fB,Int.add_assoc,Int.reduceAdd]);exact aZ (by omega) (by omega),fun m i hi hx e=>by
    simp only [eR]
    rw [if_pos (by simp;omega)]
    simp only [aT hi,e,Option.bind_some,bne_self_eq_false,beq_self_eq_true,Bool.not_true,Bool.false_eq_true,if_false]
    refine nx2 ?_ (bV (cG hi hx))
    (try simp only [fB,Int.add_assoc,Int.reduceAdd]);exact aZ (by omega) (by omega)⟩) (fun m k hm=>by
    simp only [kM]
    rw [aO hm,if_neg (by simp;omega)])
  refine⟨m,?_,?_⟩
  · unfold nU
    rw [e1];simp only [Option.bind_some,CX,CV];rw [aO e2];rfl
  · unfold iB
    rw [fY l m e2 (fun _=>4) (fun _ a k=>∀(m:List cM) (i:Nat) (hi:i < m.length),m.length≤maxLen→m[i]=a→eR m (k,(i:Int))=some (.next (k+4,((i+1:Nat):Int)))) e3 (g:=eR m) (fun i hi hi' k h _ _=>h m i hi' (by omega) rfl) (fun k=>by simp [eR]) h0 hB];rfl
theorem AR{l:List Queue}{k:Int}(h0:0≤k)(hB:k+dQ l≤4611686018427387904)(hl:l.length≤maxLen)(hi:∀x∈l,x.kJ.length≤maxLen):∃m,jC l k=some (k+dQ l,m)∧jU m k=some (k+dQ l):=by
  obtain⟨m,e1,e2,e3⟩:=fX l (fun x=>mB x.kJ) (fun x a k=>iB a.kJ k=some (k+mB x.kJ)) (f:=hQ l) h0 hB (fun m k i hi' hm he hk hb=>by
    obtain⟨q,q1,q2⟩:=Q6 (l:=l[i].kJ) hk hb (hi _ (List.getElem_mem hi'))
    refine⟨⟨q⟩,?_,q2⟩
    simp only [hQ]
    rw [aO hm,if_pos (by simp;omega),aT (by omega),Option.bind_some,he,q1,Option.bind_some,Int.toNat_natCast,bV (cG hi' hl)]) (fun m k hm=>by
    simp only [hQ]
    rw [aO hm,if_neg (by simp;omega)])
  refine⟨m,?_,?_⟩
  · unfold jC
    rw [e1];simp only [Option.bind_some,wN,wM];rw [aO e2];rfl
  · unfold jU
    rw [fY l m e2 (fun x=>mB x.kJ) (fun x a k=>iB a.kJ k=some (k+mB x.kJ)) e3 (g:=iA m) (fun i hi' hi2 k h hk hb=>by
      simp only [iA]
      rw [if_pos (by simp;omega),aT hi2,Option.bind_some,h,Option.bind_some,if_neg (by simp;omega),bV (cG hi2 (by omega))]) (fun k=>by simp [iA]) h0 hB];rfl
theorem LF{l:List bG}{k:Int}(h0:0≤k)(hB:k+gJ l≤4611686018427387904)(hl:l.length≤maxLen):∃m,lZ l k=some (k+gJ l,m)∧l5 m k=some (k+gJ l):=by
  obtain⟨m,e1,e2,e3⟩:=fX l (fun _=>21) (fun _ a k=>∀(m:List bG) (i:Nat) (hi:i < m.length),m.length≤maxLen→m[i]=a→eC m (k,(i:Int))=some (.next (k+21,((i+1:Nat):Int)))) (f:=jO l) h0 hB (fun m k i hi hm he hk hb=>⟨_,by
    simp only [jO]
    rw [aO hm,if_pos (by simp;omega),aT (by omega),Option.bind_some,Int.toNat_natCast]
    refine nx3 ?_ (bV (cG hi hl))
    (try simp only [fB,Int.add_assoc,Int.reduceAdd]);exact aZ (by omega) (by omega),fun m i hi hx e=>by
    simp only [eC]
    rw [if_pos (by simp;omega)]
    simp only [aT hi,e,Option.bind_some,bne_self_eq_false,beq_self_eq_true,Bool.not_true,Bool.false_eq_true,if_false]
    refine nx2 ?_ (bV (cG hi hx))
    (try simp only [fB,Int.add_assoc,Int.reduceAdd]);exact aZ (by omega) (by omega)⟩) (fun m k hm=>by
    simp only [jO]
    rw [aO hm,if_neg (by simp;omega)])
  refine⟨m,?_,?_⟩
  · unfold lZ
    rw [e1];simp only [Option.bind_some,A9,A8];rw [aO e2];rfl
  · unfold l5
    rw [fY l m e2 (fun _=>21) (fun _ a k=>∀(m:List bG) (i:Nat) (hi:i < m.length),m.length≤maxLen→m[i]=a→eC m (k,(i:Int))=some (.next (k+21,((i+1:Nat):Int)))) e3 (g:=eC m) (fun i hi hi' k h _ _=>h m i hi' (by omega) rfl) (fun k=>by simp [eC]) h0 hB];rfl
theorem Q7{l:List Ev}{k:Int}(h0:0≤k)(hB:k+o8 l≤4611686018427387904)(hl:l.length≤maxLen):∃m,mZ l k=some (k+o8 l,m)∧m0 m k=some (k+o8 l):=by
  obtain⟨m,e1,e2,e3⟩:=fX l (fun _=>7) (fun _ a k=>∀(m:List Ev) (i:Nat) (hi:i < m.length),m.length≤maxLen→m[i]=a→eS m (k,(i:Int))=some (.next (k+7,((i+1:Nat):Int)))) (f:=kN l) h0 hB (fun m k i hi hm he hk hb=>⟨_,by
    simp only [kN]
    rw [aO hm,if_pos (by simp;omega),aT (by omega),Option.bind_some,Int.toNat_natCast]
    refine nx3 ?_ (bV (cG hi hl))
    (try simp only [fB,Int.add_assoc,Int.reduceAdd]);exact aZ (by omega) (by omega),fun m i hi hx e=>by
    simp only [eS]
    rw [if_pos (by simp;omega)]
    simp only [aT hi,e,Option.bind_some,bne_self_eq_false,beq_self_eq_true,Bool.not_true,Bool.false_eq_true,if_false]
    refine nx2 ?_ (bV (cG hi hx))
    (try simp only [fB,Int.add_assoc,Int.reduceAdd]);exact aZ (by omega) (by omega)⟩) (fun m k hm=>by
    simp only [kN]
    rw [aO hm,if_neg (by simp;omega)])
  refine⟨m,?_,?_⟩
  · unfold mZ
    rw [e1];simp only [Option.bind_some,CZ,CY];rw [aO e2];rfl
  · unfold m0
    rw [fY l m e2 (fun _=>7) (fun _ a k=>∀(m:List Ev) (i:Nat) (hi:i < m.length),m.length≤maxLen→m[i]=a→eS m (k,(i:Int))=some (.next (k+7,((i+1:Nat):Int)))) e3 (g:=eS m) (fun i hi hi' k h _ _=>h m i hi' (by omega) rfl) (fun k=>by simp [eS]) h0 hB];rfl
theorem OK{v:aE}{k:Int}(h0:0≤k)(hB:k+lI v≤4611686018427387904)(hm:J2 v):∃s0 s1 s2 s3 s4 s5 s6 s7 s8 s9 s10,eK v k=some (k+lI v,s0,s1,s2,s3,s4,s5,s6,s7,s8,s9,s10)∧eM (⟨(⟨(⟨(⟨s0,s1⟩:aC),(⟨s2,s3⟩:aB)⟩:Mem),(⟨v.aA.aD.aJ,s4⟩:aD),s5,s6⟩:aA),s7,s8,s9,s10,v.aK⟩:aE) k=some (k+lI v):=by
  unfold lI at hB ⊢
  obtain⟨s0,s1,s2,s3,s4,s5,s6,a0,b0⟩:=SG (v:=v.aA) (k:=k) (by omega) (by omega) (hm.1)
  have z0:¬k+(dO v.aA:Nat) < 0:=by omega
  obtain⟨s7,a1,b1⟩:=kT (l:=v.Cells) (k:=k+(dO v.aA:Nat)) (by omega) (by omega) (hm.2.1)
  have z1:¬k+(dO v.aA:Nat)+(bL v.Cells:Nat) < 0:=by omega
  obtain⟨s8,a2,b2⟩:=LF (l:=v.aR) (k:=k+(dO v.aA:Nat)+(bL v.Cells:Nat)) (by omega) (by omega) (hm.2.2.1)
  have z2:¬k+(dO v.aA:Nat)+(bL v.Cells:Nat)+(gJ v.aR:Nat) < 0:=by omega
  obtain⟨s9,a3,b3⟩:=AR (l:=v.aU) (k:=k+(dO v.aA:Nat)+(bL v.Cells:Nat)+(gJ v.aR:Nat)) (by omega) (by omega) (hm.2.2.2.1) (hm.2.2.2.2.1)
  have z3:¬k+(dO v.aA:Nat)+(bL v.Cells:Nat)+(gJ v.aR:Nat)+(dQ v.aU:Nat) < 0:=by omega
  obtain⟨s10,a4,b4⟩:=Q7 (l:=v.Log) (k:=k+(dO v.aA:Nat)+(bL v.Cells:Nat)+(gJ v.aR:Nat)+(dQ v.aU:Nat)) (by omega) (by omega) (hm.2.2.2.2.2)
  have z4:¬k+(dO v.aA:Nat)+(bL v.Cells:Nat)+(gJ v.aR:Nat)+(dQ v.aU:Nat)+(o8 v.Log:Nat) < 0:=by omega
  have e:k+(dO v.aA:Nat)+(bL v.Cells:Nat)+(gJ v.aR:Nat)+(dQ v.aU:Nat)+(o8 v.Log:Nat)=k+((dO v.aA+bL v.Cells+gJ v.aR+dQ v.aU+o8 v.Log:Nat):Int):=by omega
  rw [←e]
  refine⟨s0,s1,s2,s3,s4,s5,s6,s7,s8,s9,s10,?_,?_⟩
  · unfold eK;simp only [a0,a1,a2,a3,a4,Option.bind_some]
  · unfold eM;simp only [b0,decide_eq_false z0,b1,decide_eq_false z1,b2,decide_eq_false z2,b3,decide_eq_false z3,b4,decide_eq_false z4,Option.bind_some,Bool.false_eq_true,if_false]
end Go.Gv
end
noncomputable section
set_option linter.unusedVariables false
set_option linter.unusedSimpArgs false
set_option linter.unusedSectionVars false
namespace Go.Gv
theorem Q8{s:aE}(h1:bJ s≤4194304)(h2:lI s≤1000000000000000)(h3:J2 s):aB9 s:=by
  obtain⟨s0,s1,s2,s3,s4,s5,s6,s7,s8,s9,s10,e1,e2⟩:=OK (v:=s) (k:=1) (by omega) (by omega) h3
  exact⟨Q5 h1,_,s0,s1,s2,s3,s4,s5,s6,s7,s8,s9,s10,by omega,e1,e2⟩
theorem aVP{s:aE}(hs:pW s)(hl:s.Log.length≤2000000):aB9 s:=by
  obtain⟨h1,h2,h3⟩:=QW hs hl
  exact Q8 (by omega) (by omega) h3
end Go.Gv
end
noncomputable section
set_option linter.unusedVariables false
set_option linter.unusedSimpArgs false
set_option linter.unusedSectionVars false
namespace Go.Gv
theorem o9.fits{s:aE}(h:o9 s):s.aA.Mem.aC.Bytes.length≤maxLen∧(jW s.aA.Mem.aB).length≤1073741824∧s.aA.aD.aM.length≤maxLen∧s.aA.aH.length≤maxLen∧(bI s.aA.aH).length≤1073741824∧s.aA.bO.length≤maxLen:=by
  obtain⟨⟨⟨a1,a2,a3,a4,a5⟩,b1,b2,b3,b4⟩,_⟩:=h
  simp only [maxLen];omega
theorem Y4{s:aE}(h:o9 s):i9 s=some (decide (pW s)):=zN h.fits (by have:=h.2.2.2.1;simp only [maxLen];omega)
theorem Y5{s:aE}(h:o9 s):jA s=some (decide (pW s)):=
  have hM:∀{n:Nat},n≤1048576→n≤maxLen:=fun h=>by simp only [maxLen];omega
  zO h.fits (hM h.2.2.2.1) (fun q hq=>hM (h.2.2.2.2.1 q hq)) (hM h.2.1) (hM h.2.2.1)
theorem zP{s:aE}(h:bJ s≤1048576):aB9 s:=by
  have hs:=zD h
  obtain⟨⟨⟨a1,a2,a3,a4,a5⟩,b1,b2,b3,b4⟩,c1,c2,c3,c4,c5⟩:=hs
  have hM:∀{n:Nat},n≤1048576→n≤maxLen:=fun h=>by simp only [maxLen];omega
  have hl:=wH s.aA.Mem.aB
  have r1:∀x∈s.aA.Mem.aB.Global,x.bB.length≤1048576:=fun x hx=>by have:=zT hx;omega
  have r2:∀x∈s.aA.Mem.aB.bA,x.bB.length≤1048576:=fun x hx=>by have:=zT hx;omega
  have r3:∀x∈s.aA.aH,x.Rows.length≤1048576:=fun x hx=>by have:=C3 hx;omega
  have d1:cJ s.aA.Mem.aB.Global≤1048576 * s.aA.Mem.aB.Global.length:=vZ fun x hx=>by have:=r1 x hx;rw [gP];omega
  have d2:cJ s.aA.Mem.aB.bA≤1048576 * s.aA.Mem.aB.bA.length:=vZ fun x hx=>by have:=r2 x hx;rw [gP];omega
  have d3:eP s.aA.aH≤2097152 * s.aA.aH.length:=vZ fun x hx=>by have:=r3 x hx;rw [QV];omega
  have d4:dQ s.aU≤4194304 * s.aU.length:=vZ fun x hx=>by have:=c4 x hx;rw [R0];omega
  refine Q8 (by omega) ?_ ⟨⟨⟨⟨hM a1,hM a2⟩,hM a3,fun x hx=>hM (r1 x hx),hM a4,fun x hx=>hM (r2 x hx)⟩,hM b1,hM b2,fun x hx=>hM (r3 x hx),hM b4⟩,hM c1,hM c2,hM c3,fun x hx=>hM (c4 x hx),hM c5⟩
  unfold lI dO gG iI iX eH
  rw [gP,gP,T0,gP,gP,T1,W2]
  omega
end Go.Gv
end
noncomputable section
set_option linter.unusedVariables false
set_option linter.unusedSimpArgs false
set_option linter.unusedSectionVars false
namespace Go.Gv
theorem OX{σ τ ρ ρ':Type}{f:σ→Option (Step σ ρ)}{g:τ→Option (Step τ ρ')}(sf:Nat→aE→σ)(tg:Nat→aE→τ)(rf:aE→ρ)(rg:aE→ρ'){m L:Nat}
    (hstep:∀k s,k < m→pW s→s.Log.length≤L+k→(∃s',f (sf k s)=some (.next (sf (k+1) s'))∧g (tg k s)=some (.next (tg (k+1) s'))∧pW s'∧s'.Log.length≤L+k+1)∨(f (sf k s)=some (.stop (rf s))∧g (tg k s)=some (.stop (rg s))))
    (hend:∀s,pW s→f (sf m s)=some (.stop (rf s))∧g (tg m s)=some (.stop (rg s))) :
    ∀d k,k+d=m→∀s,pW s→s.Log.length≤L+k→∃s',loop f (sf k s)=some (rf s')∧loop g (tg k s)=some (rg s')∧pW s'∧s'.Log.length≤L+m
  | 0, k, hk, s, hs, hl => by
    obtain rfl:k=m:=by omega
    exact⟨s,cX (hend s hs).1,cX (hend s hs).2,hs,hl⟩
  | d + 1, k, hk, s, hs, hl => by
    rcases hstep k s (by omega) hs hl with ⟨s',e1,e2,h1,h2⟩ | ⟨e1,e2⟩
    · obtain⟨x,f1,f2,f3,f4⟩:=OX sf tg rf rg hstep hend d (k+1) (by omega) s' h1 (by omega)
      exact⟨x,(cO e1).trans f1,(cO e2).trans f2,f3,f4⟩
    · exact⟨s,cX e1,cX e2,hs,by omega⟩
end Go.Gv
end
noncomputable section
set_option linter.unusedVariables false
set_option linter.unusedSimpArgs false
set_option linter.unusedSectionVars false
set_option maxRecDepth 20000
namespace Go.Gv
theorem T3{s:aE}(h1:s.aR.length≤maxLen)(h2:s.aU.length≤maxLen):IY s=some (decide (H3 s)):=by
  have e1:loop (sC s) 0=some (if ∀j∈s.aR,j.g7=false then Out.brk () else Out.ret false):=
    lA (f := sC s) s.aR (fun k => (k : Int)) (fun j => j.g7 = false) (.brk ()) (.ret false)
      (fun k hk hp=>by
        simp only [sC]
        rw [if_pos (by simp;omega),aT hk,bV (cG hk h1)]
        simp only [Option.bind_some,hp,Bool.false_eq_true,if_false])
      (fun k hk hp=>by
        have hp':s.aR[k].g7=true:=by simpa using hp
        simp only [sC]
        rw [if_pos (by simp;omega),aT hk]
        simp only [Option.bind_some,hp',if_true])
      (by simp [sC])
  have e2:loop (sB s) 0=some (if ∀q∈s.aU,q.kJ=[] then Out.brk () else Out.ret false):=
    lA (f := sB s) s.aU (fun k => (k : Int)) (fun q => q.kJ = []) (.brk ()) (.ret false)
      (fun k hk hp=>by
        simp only [sB]
        rw [if_pos (by simp;omega),aT hk,bV (cG hk h2)]
        simp [hp])
      (fun k hk hp=>by
        have hp':0 < s.aU[k].kJ.length:=List.length_pos_iff.2 hp
        simp only [sB]
        rw [if_pos (by simp;omega),aT hk]
        simp only [Option.bind_some]
        rw [if_pos (by simp;omega)])
      (by simp [sB])
  unfold IY
  rw [e1]
  by_cases a:∀j∈s.aR,j.g7=false
  · rw [if_pos a]
    simp only [Option.bind_some,QZ,QY]
    rw [e2]
    by_cases b:∀q∈s.aU,q.kJ=[]
    · rw [if_pos b,decide_eq_true (p:=H3 s) ⟨a,b⟩];rfl
    · rw [if_neg b,decide_eq_false (p:=H3 s) (fun h=>b h.2)];rfl
  · rw [if_neg a,decide_eq_false (p:=H3 s) (fun h=>a h.1)];rfl
theorem aA5{s:aE}(h1:s.aR.length≤maxLen)(h2:s.aU.length≤maxLen):IZ s=some (decide (H3 s)):=by
  unfold IZ
  rw [AJ h1 (fun j=>j.g7) (fun y0=>J3 y0) (fun x _=>rfl)]
  simp only [Option.bind_some]
  rw [W0 h2 (fun q=>decide (0 < (q.kJ.length:Int))) (fun y0=>J4 y0) (fun x _=>rfl)]
  have ea:(s.aR.any fun j=>j.g7)=!decide (∀j∈s.aR,j.g7=false):=by
    rw [Bool.eq_iff_iff];simp
  have eb:(s.aU.any fun q=>decide (0 < (q.kJ.length:Int)))=!decide (∀q∈s.aU,q.kJ=[]):=by
    rw [Bool.eq_iff_iff];simp [List.length_pos_iff]
  rw [ea,eb]
  by_cases a:∀j∈s.aR,j.g7=false
  · rw [decide_eq_true a]
    simp only [Bool.not_true,Bool.not_false,if_true,Option.bind_some,AD,Bool.not_not]
    congr 1
    by_cases b:∀q∈s.aU,q.kJ=[]
    · rw [decide_eq_true b,decide_eq_true (p:=H3 s) ⟨a,b⟩]
    · rw [decide_eq_false b,decide_eq_false (p:=H3 s) (fun h=>b h.2)]
  · rw [decide_eq_false a,decide_eq_false (p:=H3 s) (fun h=>a h.1)];rfl
theorem pW.lens{s:aE}(h:pW s):s.aR.length≤maxLen∧s.aU.length≤maxLen:=by
  have h1:=h.2.2.1;have h2:=h.2.2.2.1.1
  simp only [maxLen];omega
theorem Z2{s:aE}(q:pW s)(hl:s.Log.length≤1060000):∃x,loop oV (0,s)=some x∧loop oX (0,s)=some x∧pW x∧x.Log.length≤s.Log.length+3000:=by
  obtain ⟨x, e1, e2, h1, h2⟩ := OX (f := oV) (g := oX) (fun k s => ((k : Int), s)) (fun k s => ((k : Int), s)) id id (m := 3000) (L := s.Log.length)
    (fun k t hk ht hL=>by
      have hw:0≤Int.tmod (k:Int) 3∧Int.tmod (k:Int) 3≤2:=by rw [J0 (by omega)];omega
      obtain⟨y,f1,f2,f3,f4⟩:=HA ht (by omega) hw
      by_cases i:H3 t
      · refine .inr ⟨?_,?_⟩
        · simp only [oV,oT]
          rw [T3 ht.lens.1 ht.lens.2,decide_eq_true i];rfl
        · simp only [oX,oW]
          rw [if_pos (by simp;omega),aA5 ht.lens.1 ht.lens.2,decide_eq_true i];rfl
      · refine .inl ⟨y,?_,?_,f3,by omega⟩
        · simp only [oV,oT]
          rw [T3 ht.lens.1 ht.lens.2,decide_eq_false i]
          simp only [Option.bind_some,Bool.not_false,if_true]
          rw [if_pos (by simp;omega),f1,aZ (by omega) (by omega)];rfl
        · simp only [oX,oW]
          rw [if_pos (by simp;omega),aA5 ht.lens.1 ht.lens.2,decide_eq_false i]
          simp only [Option.bind_some,Bool.not_false,if_true]
          rw [f2,aZ (by omega) (by omega)];rfl)
    (fun t ht=>by
      constructor
      · simp only [oV,oT]
        rw [T3 ht.lens.1 ht.lens.2]
        by_cases i:H3 t
        · rw [decide_eq_true i];rfl
        · rw [decide_eq_false i];rfl
      · simp only [oX,oW]
        rw [if_neg (by simp)];rfl) 3000 0 (by omega) s q (by omega)
  exact⟨x,e1,e2,h1,h2⟩
theorem aLE{s:aE}(hs:o9 s):∃x,AQ s=some x∧xT s=some x∧(x=s∨(pW x∧x.Log.length≤s.Log.length+3000)):=by
  have hl:=hs.2.2.2.2.2
  unfold AQ xT
  rw [sV hs,sW hs,Y4 hs,Y5 hs]
  simp only [Option.bind_some]
  by_cases q:pW s
  · obtain⟨x,e1,e2,h1,h2⟩:=Z2 q (by omega)
    simp only [decide_eq_true q,Bool.not_true,Bool.false_eq_true,if_false]
    rw [e1,e2]
    exact⟨x,rfl,rfl,.inr ⟨h1,h2⟩⟩
  · simp only [decide_eq_false q,Bool.not_false,if_true]
    exact⟨s,rfl,rfl,.inl rfl⟩
theorem SH{aS:aE}(hf:fit aS){A B:aE→Option aE}(hAB:bJ aS≤1048576→∃x,A aS=some x∧B aS=some x∧aB9 x){J:Bool→aE→aE→Option Bool}{L:Option Bool}
    (hL:L=(jJ aS 1048576).bind fun x1=>(if decide (x1 < 0) then some true else (cD aS).bind fun x2=>(A x2).bind fun x3=>(cD aS).bind fun x4=>(B x4).bind fun x5=>(cL x5 x3).bind fun x6=>(if !x6 then some false else (cD aS).bind fun x7=>(cL x4 x7).bind fun x8=>(if !x8 then some false else (eK x4 1).bind fun x9=>(if decide (x9.1 < 0) then J true x3 x5 else (cL x5 x3).bind fun x19=>J (!x19) x3 x5)))))
    (hJ:∀x11 x12,J false x11 x12=(eK x12 1).bind fun x13=>(eM (⟨(⟨(⟨(⟨x13.2.1,x13.2.2.1⟩:aC),(⟨x13.2.2.2.1,x13.2.2.2.2.1⟩:aB)⟩:Mem),(⟨x12.aA.aD.aJ,x13.2.2.2.2.2.1⟩:aD),x13.2.2.2.2.2.2.1,x13.2.2.2.2.2.2.2.1⟩:aA),x13.2.2.2.2.2.2.2.2.1,x13.2.2.2.2.2.2.2.2.2.1,x13.2.2.2.2.2.2.2.2.2.2.1,x13.2.2.2.2.2.2.2.2.2.2.2,x12.aK⟩:aE) 1).bind fun x14=>(if decide (x14 < 0) then some false else (if x14 != x13.1 then some false else (cD aS).bind fun x15=>(B x15).bind fun x16=>(cL x16 x11).bind fun x17=>(if !x17 then some false else (eM (⟨(⟨(⟨(⟨x13.2.1,x13.2.2.1⟩:aC),(⟨x13.2.2.2.1,x13.2.2.2.2.1⟩:aB)⟩:Mem),(⟨x12.aA.aD.aJ,x13.2.2.2.2.2.1⟩:aD),x13.2.2.2.2.2.2.1,x13.2.2.2.2.2.2.2.1⟩:aA),x13.2.2.2.2.2.2.2.2.1,x13.2.2.2.2.2.2.2.2.2.1,x13.2.2.2.2.2.2.2.2.2.2.1,x13.2.2.2.2.2.2.2.2.2.2.2,x12.aK⟩:aE) 1).bind fun x18=>(if decide (x18 < 0) then some false else (if x18 != x13.1 then some false else some true))))))
    : L=some true:=by
  rw [hL,XR hf (by omega) (by omega)]
  simp only [Option.bind_some]
  by_cases h:(bJ aS:Int)≤1048576
  · have h':bJ aS≤1048576:=by omega
    obtain⟨s,e1,e2,⟨e3,c,s0,s1,s2,s3,s4,s5,s6,s7,s8,s9,s10,hc,e4,e5⟩⟩:=hAB h'
    have n1:¬(1048576 - (bJ aS:Int)) < 0:=by omega
    have n2:¬c < 0:=by omega
    obtain⟨d3,c',t0,t1,t2,t3,t4,t5,t6,t7,t8,t9,t10,hc',d4,d5⟩:=zP h'
    have n3:¬c' < 0:=by omega
    have t:cD aS=some aS:=XS (by omega)
    simp only [if_pos h,decide_eq_false n1,Bool.false_eq_true,if_false,t,Option.bind_some,e1,e2,e3,d3,Bool.not_true,d4,decide_eq_false n3,hJ,e4,e5,decide_eq_false n2,bne_self_eq_false]
  · rw [if_neg h]
    simp
end Go.Gv
end
noncomputable section
set_option linter.unusedVariables false
set_option linter.unusedSimpArgs false
set_option linter.unusedSectionVars false
namespace Go.Gv
noncomputable section
variable {b:aA} (hb:kP b)
include hb
theorem kP.fits:b.Mem.aC.Bytes.length≤maxLen∧(jW b.Mem.aB).length≤1073741824∧b.aD.aM.length≤maxLen∧b.aH.length≤maxLen∧(bI b.aH).length≤1073741824∧b.bO.length≤maxLen:=by
  obtain⟨h1,h2,h3,h4,_⟩:=G6.facts hb.1.1
  have a:=hb.1.2.1.2.1;have c:=hb.1.2.2.1.1;have d:=hb.1.2.2.1.2.1;have e:=hb.1.2.2.2.1
  simp only [maxLen];omega
end
end Go.Gv
end
noncomputable section
set_option linter.unusedVariables false
namespace Go.Gv
theorem aJ1{aS:aE}(hf:fit aS):XU aS=some true:=
  SH hf (A:=AQ) (B:=xT) (fun h=>by
    have hs:=zD h
    have hl:=hs.2.2.2.2.2
    obtain⟨x,e1,e2,h1⟩:=aLE hs
    refine⟨x,e1,e2,?_⟩
    rcases h1 with rfl | ⟨h1,h2⟩
    · exact zP h
    · exact aVP h1 (by omega)) (J:=CB aS) rfl fun _ _=>rfl
end Go.Gv
end
