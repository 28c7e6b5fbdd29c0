import Derived.Test.YtgboekoingacfaaGreatXLF
import Derived.Laws.BytesString
import Derived.Test.YtgboekoingacfaaGreatProg
set_option linter.unusedVariables false
set_option linter.unusedSimpArgs false
set_option linter.unusedSectionVars false
set_option linter.constructorNameAsVariable false
set_option linter.unnecessarySimpa false
noncomputable section
set_option linter.unusedVariables false
set_option linter.unusedSimpArgs false
namespace Go.Gv
noncomputable section
variable {v:Value} {k k2:IntKind} {i j:Int} {P:Program} {o:Oper} {e:Env} {w w':World} {c:Ctx} {L:List Chunk} {R:List Fact} {x y z:Operand} {t el:TypeId}
theorem aFH{α:Type}[bC α]{S:gI}{s:Value}{l:List α}{n:Nat}(h:bC.rd S w [s] l)(hn:bC.n α=n)(hu:P.underlying t=some (.slice el))(hz:∀w,(sizeOf el).run P w=.ok n w)(hb:0≤j∧j≤l.length)(ho:o.op=.slice t x none (some z) none)(hx:ev e x=some s)(hw:ev e z=some (.int k2 j)):kI P o e w (o6 n 0 j.toNat s) w:=fun _ a hA=>by
  obtain⟨ad,cp,rfl,hc⟩:=aHB h
  obtain⟨b0,b1⟩:=hb
  have h1:j≤(cp:Int):=by omega
  simp [execOp,ho,Instr.sliceAt,Instr.slice,run_underlying hu,Instr.sliceBounds,hA.eval hx,hA.eval hw,Instr.sliceBound,asIntOf,hz,b0,h1,o6]
theorem aIE(ho:o.op=.call {callee:=.builtin .min,args:=#[x,y],argTypes:=#[t,el]})(hx:ev e x=some (.int .i64 i))(hy:ev e y=some (.int k j)):kI P o e w (.int .i64 (if j < i then j else i)) w:=fun _ a hA=>by
  simp [execOp,ho,resolve,invoke,builtin,Builtin.min_,Builtin.min2,hA.eval hx,hA.eval hy]
end
end Go.Gv
end
noncomputable section
set_option linter.unusedVariables false
set_option linter.unusedSimpArgs false
namespace Go.Gv
noncomputable section
variable {v:Value} {i j:Int} {P:Program} {o:Oper} {e:Env} {w w':World} {c:Ctx} {L:List Chunk} {R:List Fact} {x y z:Operand} {t t2 el:TypeId}
theorem W3{α:Type}[bC α]{w:World}{s:Value}{l:List α}{F:gI}{n:Nat}(h:bC.own w [s] l F):o6 n 0 l.length s=s:=by
  obtain⟨ad,c,rfl,_⟩:=KK h
  obtain⟨ad',c',e,_,_,k3⟩:=C6.1 h
  simp at e
  obtain⟨rfl,rfl⟩:=e
  rcases k3 with ⟨rfl,rfl,_⟩ | ⟨b,off,cc,Fe,rfl,_⟩
  · simp [o6]
  · have hadd:(⟨b,off,none⟩:Addr).add (0 * n)=⟨b,off,none⟩:=by
      unfold Addr.add;split
      · rfl
      · rename_i hq;simp at hq
    simp only [o6,Option.map_some,hadd,Nat.sub_zero,ite_self]
theorem W4{α:Type}[bC α][Flat α]{s s2:Value}{l xs:List α}{n:Nat}(m:Nat)(hS:St c w L R)(hm:L[m]?=some (bH [s] l))(hsrc:bC.rd (Z6 w) w [s2] xs)(hn:bC.n α=n)(hu:P.underlying t=some (.slice el))(hz:∀w,(sizeOf el).run P w=.ok n w)
    (ho:o.op=.call {callee:=.builtin .copy,args:=#[x,y],argTypes:=#[t,t2]}) (hx:ev e x=some s) (hy:ev e y=some s2) :
    ∃v w',kI P o e w v w'∧(v=.int .i64 ((min xs.length (l.length - 0):Nat):Int)∧St c w' (L.set m (bH [s] (fD l 0 xs))) R):=by
  obtain⟨F,hF⟩:=hS.chunk m hm
  exact aIN m hS hm hsrc hn (Nat.zero_le _) hu hz ho (by rw [W3 (show bC.own w [s] l F from hF)];exact hx) hy
end
end Go.Gv
end
noncomputable section
set_option linter.unusedVariables false
namespace Go.Gv
noncomputable section
variable {P:Program} {T:TT} {hT:LS P T} {n:Nat} {c:Ctx} {B0:Bl} {N:Act→World→Prop} {X:Nat→Act→World→Prop} {Q:Act→World→Prop} {K K':List Fr} {m m':Nat} {e e':SE} {L L':List Ch} {cf cf1 cf2:F9} {o:Oper} {Lv:List Ch} {d:Nat}
variable {x y z:Operand} {t t2:TypeId} {k k2:IntKind} {i j:Int} {α β:Type} {A:Option β} {q:β}
theorem aW9(hs:opS (wD T n K cf m e L)=some (o,Lv,cf1,cf2,K',m',e',L'))(ho:(o.op,o.dst)=(.call {callee:=.builtin .min,args:=#[x,y],argTypes:=#[t,t2]},some d))(hx:(rI e' x).bind DP=some (.i64,i))(hy:(rI e' y).bind DP=some (k,j))
    (kk:G (.mk P T hT n c B0 N X Q) K' m' ((d,.i .i64 (if j < i then j else i)) :: e') L' cf2):G (.mk P T hT n c B0 N X Q) K m e L cf:=
  pu hs (congrArg Prod.snd ho) (fun B a w hA _=>⟨_,rfl,aIE (congrArg Prod.fst ho) (HM hA hx) (HM hA hy)⟩) kk
noncomputable section
variable {l:List UInt8} {b1:Bool} {n1:Nat} {z1:List SV}
end
noncomputable section
variable [bC α] {s:AC} {l:List α} {el:TypeId} {b1 b2:Bool} {n1 sz:Nat} {z1 z2:List SV} {kt:TK}
theorem aVU(hs:opS (wD T n K cf m e L)=some (o,Lv,cf1,cf2,K',m',e',L'))(ho:(o.op,o.dst)=(.slice t x none (some z) none,some d))(ht:KG T t=some ⟨.sl el,b1,n1,z1⟩)(he:KG T el=some ⟨kt,b2,sz,z2⟩)(hn:bC.n α=sz)(h1:aQ c s l)(hx:rI e' x=some (.h s l.length))(hz:(rI e' z).bind DP=some (k2,j))(hF:need (0≤j∧j≤(l.length:Int)) A=some q)
    (kk:A=some q→∀s',aQ c s' ((l.take j.toNat).drop 0)→G (.mk P T hT n c B0 N X Q) K' m' ((d,.h s' ((l.take j.toNat).drop 0).length) :: e') L' cf2):G (.mk P T hT n c B0 N X Q) K m e L cf:=by
  have hb:=(uM hF).1
  subst hn
  exact qsb h1 (by omega) hs (congrArg Prod.snd ho) (fun B act w hA h=>aFH h rfl (O4 ht hT) (hT.size _ _ he) hb (congrArg Prod.fst ho) (hdB hA hx) (HM hA hz)) (kk (uM hF).2)
end
noncomputable section
variable {zv:Value} {n1 m1:Nat} {el:TypeId}
end
end
end Go.Gv
end
noncomputable section
set_option linter.unusedVariables false
namespace Go.Gv
noncomputable section
variable {P:Program} {T:TT} {hT:LS P T} {n:Nat} {c:Ctx} {B0:Bl} {N:Act→World→Prop} {X:Nat→Act→World→Prop} {Q:Act→World→Prop} {K K':List Fr} {m m':Nat} {e e':SE} {L L' Lv:List Ch} {cf cf' cf1 cf2:F9} {o:Oper} {d:Nat}
theorem cp0{d:Option Nat}{x y:Operand}{t t2 el sz:Nat}{α:Type}[bC α][Flat α]{s s2:AC}{l xs:List α}{b1 b2:Bool}{n1:Nat}{z1 z2:List SV}{kt:TK}(p:Nat)(hsrc:∀{w},HS c w L'→aQ (gA w) s2 xs)(hs:wD T n K cf m e L=.op o Lv cf1 cf2 K' m' e' L')(ho:(o.op,o.dst)=(.call {callee:=.builtin .copy,args:=#[x,y],argTypes:=#[t,t2]},d))(ht:KG T t=some ⟨.sl el,b1,n1,z1⟩)(he:KG T el=some ⟨kt,b2,sz,z2⟩)(hn:bC.n α=sz)(hp:(L'[p]?,pI p cf1.LU)=(some (ow s l),true))(hx:rI e' x=some (.h s l.length))(hy:rI e' y=some (.h s2 xs.length))
    (k:G (.mk P T hT n c B0 N X Q) K' m' (dse d (.i .i64 ((min xs.length (l.length - 0):Nat):Int)) e') (L'.set p (ow s (fD l 0 xs))) cf2):G (.mk P T hT n c B0 N X Q) K m e L cf:=by
  have hp1:L'[p]?=some (ow s l):=congrArg Prod.fst hp
  have hz:pI p cf1.LU=true:=congrArg Prod.snd hp
  have hlen:(fD l 0 xs).length=l.length:=jX (Nat.zero_le _)
  refine rH (g:=.mk P T hT n c B0 N X Q) ?_
  rw [hs]
  intro hdn _ hE
  refine hE Unit (fun _=>m') (fun _=>dse d (.i .i64 ((min xs.length (l.length - 0):Nat):Int)) e') (fun _=>L'.set p (ow s (fD l 0 xs))) (fun _=>LV hz) (fun B act w next Q' hm hA hS hnext=>?_) (fun _=>k)
  have hr:aQ (gA w) s2 xs:=hsrc ⟨_,hS⟩
  obtain⟨⟨R,s1,s2'⟩,s0⟩:=hS
  have hop:o.op=.call {callee:=.builtin .copy,args:=#[x,y],argTypes:=#[t,t2]}:=congrArg Prod.fst ho
  have hd:o.dst=d:=congrArg Prod.snd ho
  obtain⟨v,w',k1,rfl,k2⟩:=W4 p s1 (by rw [List.getElem?_map,hp1];rfl) hr hn (O4 ht hT) (hT.size _ _ he) hop (hdB hA hx) (hdB hA hy)
  unfold Oper.wp
  rw [k1 _ act hA.env,Oper.upon_value,hd]
  have hS2:B9 c w' (B0S (.mk P T hT n c B0 N X Q) cf1++B) (L'.set p (ow s (fD l 0 xs))):=by
    refine⟨⟨R,?_,fun z hz=>?_⟩,s0⟩
    · rw [List.map_set]
      show St c w' ((L'.map _).set p (bH [s.v (fD l 0 xs).length] _)) R
      rw [hlen];exact k2
    · rcases List.mem_or_eq_of_mem_set hz with hz | hz
      · exact s2' z hz
      · subst hz;trivial
  cases d with
  | none=>exact hnext () _ _ ⟨[],by simpa using hm,by simpa [Act.put,dse] using hA,by simpa using hS2⟩
  | some d=>exact hnext () _ _ ⟨[],by simpa using hm,by simpa [dse] using hA.of (by simp [qU,gV,eQ]) (hA.env.put (by rw [hd] at hdn;simpa [EX,Nat.blt_eq] using hdn) _),by simpa using hS2⟩
end
end Go.Gv
end
noncomputable section
namespace Go.Gv
theorem aJ2(d:aC){v0:Value}{v1:Value}:OP [v0,v1] d [bH [v0] d.Bytes,bH [v1] d.Class]:=(show OP (α:=(List Int)×(List Int)) _ (d.Bytes,d.Class) _ from (gM (c1:=[v0]) (c2:=[v1]) (A:=[bH [v0] d.Bytes]) (B:=[bH [v1] d.Class]) rG rG rfl))
theorem aFI(d:aB){v0:Value}{v1:Value}:OP [v0,v1] d [bH [v0] d.Global,bH [v1] d.bA]:=(show OP (α:=(List aG)×(List aG)) _ (d.Global,d.bA) _ from (gM (c1:=[v0]) (c2:=[v1]) (A:=[bH [v0] d.Global]) (B:=[bH [v1] d.bA]) rG rG rfl))
theorem aQF(d:Mem){v0:Value}{v1:Value}{v2:Value}{v3:Value}:OP [v0,v1,v2,v3] d [bH [v0] d.aC.Bytes,bH [v1] d.aC.Class,bH [v2] d.aB.Global,bH [v3] d.aB.bA]:=(show OP (α:=aC×aB) _ (d.aC,d.aB) _ from (gM (c1:=[v0,v1]) (c2:=[v2,v3]) (A:=[bH [v0] d.aC.Bytes,bH [v1] d.aC.Class]) (B:=[bH [v2] d.aB.Global,bH [v3] d.aB.bA]) (aJ2 _) (aFI _) rfl))
theorem aFJ(d:aD){v0:Value}:OP [.int .i64 (d.aJ),v0] d [bH [v0] d.aM]:=(show OP (α:=Int×(List cQ)) _ (d.aJ,d.aM) _ from (gM (c1:=[.int .i64 (d.aJ)]) (c2:=[v0]) (A:=[]) (B:=[bH [v0] d.aM]) (nL rfl) rG rfl))
theorem aJ3(d:aA){v0:Value}{v1:Value}{v2:Value}{v3:Value}{v4:Value}{v5:Value}{v6:Value}:OP [v0,v1,v2,v3,.int .i64 (d.aD.aJ),v4,v5,v6] d [bH [v0] d.Mem.aC.Bytes,bH [v1] d.Mem.aC.Class,bH [v2] d.Mem.aB.Global,bH [v3] d.Mem.aB.bA,bH [v4] d.aD.aM,bH [v5] d.aH,bH [v6] d.bO]:=(show OP (α:=Mem×aD×(List aP)×(List Int)) _ (d.Mem,d.aD,d.aH,d.bO) _ from (gM (c1:=[v0,v1,v2,v3]) (c2:=[.int .i64 (d.aD.aJ),v4,v5,v6]) (A:=[bH [v0] d.Mem.aC.Bytes,bH [v1] d.Mem.aC.Class,bH [v2] d.Mem.aB.Global,bH [v3] d.Mem.aB.bA]) (B:=[bH [v4] d.aD.aM,bH [v5] d.aH,bH [v6] d.bO]) (aQF _) (gM (c1:=[.int .i64 (d.aD.aJ),v4]) (c2:=[v5,v6]) (A:=[bH [v4] d.aD.aM]) (B:=[bH [v5] d.aH,bH [v6] d.bO]) (aFJ _) (gM (c1:=[v5]) (c2:=[v6]) (A:=[bH [v5] d.aH]) (B:=[bH [v6] d.bO]) rG rG rfl) rfl) rfl))
theorem aFK(d:aE){v0:Value}{v1:Value}{v2:Value}{v3:Value}{v4:Value}{v5:Value}{v6:Value}{v7:Value}{v8:Value}{v9:Value}{v10:Value}:OP [v0,v1,v2,v3,.int .i64 (d.aA.aD.aJ),v4,v5,v6,v7,v8,v9,v10,.int .i64 (d.aK)] d [bH [v0] d.aA.Mem.aC.Bytes,bH [v1] d.aA.Mem.aC.Class,bH [v2] d.aA.Mem.aB.Global,bH [v3] d.aA.Mem.aB.bA,bH [v4] d.aA.aD.aM,bH [v5] d.aA.aH,bH [v6] d.aA.bO,bH [v7] d.Cells,bH [v8] d.aR,bH [v9] d.aU,bH [v10] d.Log]:=(show OP (α:=aA×(List Int)×(List bG)×(List Queue)×(List Ev)×Int) _ (d.aA,d.Cells,d.aR,d.aU,d.Log,d.aK) _ from (gM (c1:=[v0,v1,v2,v3,.int .i64 (d.aA.aD.aJ),v4,v5,v6]) (c2:=[v7,v8,v9,v10,.int .i64 (d.aK)]) (A:=[bH [v0] d.aA.Mem.aC.Bytes,bH [v1] d.aA.Mem.aC.Class,bH [v2] d.aA.Mem.aB.Global,bH [v3] d.aA.Mem.aB.bA,bH [v4] d.aA.aD.aM,bH [v5] d.aA.aH,bH [v6] d.aA.bO]) (B:=[bH [v7] d.Cells,bH [v8] d.aR,bH [v9] d.aU,bH [v10] d.Log]) (aJ3 _) (gM (c1:=[v7]) (c2:=[v8,v9,v10,.int .i64 (d.aK)]) (A:=[bH [v7] d.Cells]) (B:=[bH [v8] d.aR,bH [v9] d.aU,bH [v10] d.Log]) rG (gM (c1:=[v8]) (c2:=[v9,v10,.int .i64 (d.aK)]) (A:=[bH [v8] d.aR]) (B:=[bH [v9] d.aU,bH [v10] d.Log]) rG (gM (c1:=[v9]) (c2:=[v10,.int .i64 (d.aK)]) (A:=[bH [v9] d.aU]) (B:=[bH [v10] d.Log]) rG (gM (c1:=[v10]) (c2:=[.int .i64 (d.aK)]) (A:=[bH [v10] d.Log]) (B:=[]) rG (nL rfl) rfl) rfl) rfl) rfl) rfl))
theorem aA6{S:gI}{w:World}{cs:List Value}{d:dS}(h:bC.rd S w cs d):∃v0 v1:Value,cs=[v0,v1]∧bC.rd S w [v0] d.aU∧bC.rd S w [v1] d.bW:=by
  obtain⟨c0,r0,e0,h0,n0⟩:=h
  obtain⟨u0,q0⟩:=lU h0
  rw [q0] at h0
  obtain⟨u1,q1⟩:=lU n0
  rw [q1] at n0
  exact⟨u0,u1,by rw [e0,q0,q1];rfl,h0,n0⟩
end Go.Gv
end
noncomputable section
set_option linter.unusedVariables false
namespace Go.Gv
noncomputable section
def tM:Option Bool:=
  some true
def dZ(x5:List Int)(x6 x8:Int)(x9:Bool):Option (Step ((List Int)×Int) (Out Unit Bool)):=
  (if x9 then some (.stop (Out.ret false)) else need (x5.length+([x8]).length≤1073741824) (some (.next (x5++([x8]),aI (x6+1)))))
def d6(x1:(List bP)):((List Int)×Int)→Option (Step ((List Int)×Int) (Out Unit Bool))
  | (x5,x6)=>(if decide (x6 < (x1.length:Int)) then (idx x1 x6).bind fun x7=>(kL x7.Handle).bind fun x8=>(if decide (x8 < 0) then dZ x5 x6 x8 true else (dD x7.aJ 0 100000).bind fun x10=>(if !x10 then dZ x5 x6 x8 true else (DQ x5 x8).bind fun x11=>dZ x5 x6 x8 x11)) else some (.stop (Out.brk ())))
def tN:(Out Unit Bool)→Option Bool
  | .brk ()=>tM
  | .ret r=>some r
def eZ(x1:(List bP))(x2:Bool):Option Bool:=
  (if x2 then some false else (loop (d6 x1) (([]:List Int),0)).bind (tN))
def i7(l:List aP):Option Bool:=
  (rK l).bind fun x1=>(if (l.length:Int) != 3 then eZ x1 true else eZ x1 (decide (24 < (x1.length:Int))))
def uY:Option Bool:=
  some true
def gH(x4:Int)(x5:Bool):Option (Step Int (Out Unit Bool)):=
  (if x5 then some (.stop (Out.ret false)) else some (.next (aI (x4+1))))
def eN(b:aA)(x2:(List bP)):Int→Option (Step Int (Out Unit Bool))
  | x4=>(if decide (x4 < (x2.length:Int)) then (idx x2 x4).bind fun x6=>(wZ b.Mem x6.Handle).bind fun x7=>(if !x7 then gH x4 true else gH x4 (decide (b.aD.aJ < x6.aJ))) else some (.stop (Out.brk ())))
def uZ:(Out Unit Bool)→Option Bool
  | .brk ()=>uY
  | .ret r=>some r
def dF(b:aA)(x1:Bool):Option Bool:=
  (if x1 then some false else (rK b.aH).bind fun x2=>(loop (eN b x2) 0).bind (uZ))
def j7(b:aA):Option Bool:=
  (GF b.Mem).bind fun x8=>(if !x8 then dF b true else (tG b.aD).bind fun x9=>(if !x9 then dF b true else (i7 b.aH).bind fun x10=>(if !x10 then dF b true else (DR b.bO).bind fun x11=>dF b (!x11))))
def dV(x1:Bool):Option Bool:=
  some x1
def fA(r_:bP)(k0:aA):Option Bool:=
  (AN k0.Mem r_.Handle).bind fun x2=>(if !x2 then dV true else dV (decide (k0.aD.aJ < r_.aJ)))
def g8(l:aP)(k0:aA):Option Bool:=
  (kO l.Rows (fun y0=>fA y0 k0)).bind fun x1=>some x1
def dI(b:aA)(x1:Bool):Option Bool:=
  (if x1 then some false else (j4 b.aH (fun y0=>g8 y0 b)).bind fun x2=>some (!x2))
def j8(b:aA):Option Bool:=
  (GN b.Mem).bind fun x3=>(if !x3 then dI b true else (tI b.aD).bind fun x4=>(if !x4 then dI b true else (rZ b.aH).bind fun x5=>(if !x5 then dI b true else (DU b.bO).bind fun x6=>dI b (!x6))))
def qA(x y:Int):Option (Int×Int):=
  some (IntKind.u64.wrap ((IntKind.u64.wrap ((IntKind.u64.wrap ((tV .u64 x 32) * (tV .u64 y 32)))+(tV .u64 (IntKind.u64.wrap ((IntKind.u64.wrap ((tV .u64 x 32) * (mV .and .u64 y 4294967295)))+(tV .u64 (IntKind.u64.wrap ((mV .and .u64 x 4294967295) * (mV .and .u64 y 4294967295))) 32))) 32)))+(tV .u64 (IntKind.u64.wrap ((mV .and .u64 (IntKind.u64.wrap ((IntKind.u64.wrap ((tV .u64 x 32) * (mV .and .u64 y 4294967295)))+(tV .u64 (IntKind.u64.wrap ((mV .and .u64 x 4294967295) * (mV .and .u64 y 4294967295))) 32))) 4294967295)+(IntKind.u64.wrap ((mV .and .u64 x 4294967295) * (tV .u64 y 32))))) 32)),IntKind.u64.wrap (x * y))
def mM(x y:Int):Option (Int×Int):=
  (qA x y).bind fun x1=>some (x1.1,x1.2)
def mN(a_:dS)(left:Int):Option Int:=
  (uJ a_.aU left).bind fun x1=>(if decide (x1 < 0) then some (-1) else (jF a_.bW x1).bind fun x2=>(if decide (x2 < 0) then some (-1) else some x2))
def H5(x5:List Int):Option aC:=
  some (⟨List.replicate ((384:Int).toNat) 0,x5⟩:aC)
def jV:(Int×(List Int))→Option (Step (Int×(List Int)) (List Int))
  | (x3,x4)=>(if decide (x3 < 6) then need (x4.length+([(-1)]).length≤1073741824) (some (.next (aI (x3+1),x4++([(-1)])))) else some (.stop (x4)))
def H6:(List Int)→Option aC
  | x5=>H5 x5
def rC:Option aC:=
  need (0≤(384:Int)∧(384:Int)≤4294967296) ((loop (jV) (0,[])).bind (H6))
def uE:Option aB:=
  some (⟨List.replicate ((3:Int).toNat) (⟨[]⟩:aG),List.replicate ((9:Int).toNat) (⟨[]⟩:aG)⟩:aB)
def tA:Option aB:=
  need (0≤(3:Int)∧(3:Int)≤4294967296)<|need (0≤(9:Int)∧(9:Int)≤4294967296)<|uE
def xX:Option Mem:=
  (rC).bind fun x1=>(tA).bind fun x2=>some (⟨x1,x2⟩:Mem)
def tB:Option aD:=
  need (0≤(3:Int)∧(3:Int)≤4294967296) (some (⟨0,List.replicate ((3:Int).toNat) (⟨false,0,false,0⟩:cQ)⟩:aD))
def tC:Option (List aP):=
  need (0≤(3:Int)∧(3:Int)≤4294967296) (some (List.replicate ((3:Int).toNat) (⟨[]⟩:aP)))
def xY:Option (List Int):=
  need (0≤(3:Int)∧(3:Int)≤4294967296) (some (List.replicate ((3:Int).toNat) 0))
def rD:Option aA:=
  (xX).bind fun x1=>(tB).bind fun x2=>(tC).bind fun x3=>(xY).bind fun x4=>some (⟨x1,x2,x3,x4⟩:aA)
def uF(x2:aE):Option aE:=
  some ({x2 with Log:=[]}:aE)
def pB(todo:List Queue):Option aE:=
  (w3 todo).bind fun x1=>(if !x1 then some (⟨(⟨(⟨(⟨[],[]⟩:aC),(⟨[],[]⟩:aB)⟩:Mem),(⟨0,[]⟩:aD),[],[]⟩:aA),[],[],[],[],0⟩:aE) else (rD).bind fun x3=>need (0≤(2:Int)∧(2:Int)≤4294967296)<|need (0≤(3:Int)∧(3:Int)≤4294967296)<|(BD todo).bind fun x4=>uF (⟨x3,List.replicate ((2:Int).toNat) 0,List.replicate ((3:Int).toNat) (⟨false,(⟨0,0,0,0⟩:cM),0,0,(⟨0,0,0,0,0,0,0,0,0,false⟩:Sub),0,0,0,0⟩:bG),x4,[],0⟩:aE))
def FW(x9:List aE):Option (List aE):=
  some x9
def iZ(x7:Int)(x12:List aE)(x13:aE):Option (Step ((List aE)×Int×aE) (List aE)):=
  some (.next (x12,aI (x7+1),x13))
def gK(x:dS)(x6:List aE)(x7:Int)(x10:Bool)(x11:aE):Option (Step ((List aE)×Int×aE) (List aE)):=
  (if x10 then (idx x.bW x7).bind fun x14=>(dD x14 0 2).bind fun x15=>(if x15 then (idx x.bW x7).bind fun x16=>(DS x11 x16).bind fun x17=>(qW x17).bind fun x18=>need (x6.length+([x18]).length≤1073741824) (iZ x7 (x6++([x18])) x17) else iZ x7 x6 x11) else some (.stop (x6)))
def i3(x:dS):((List aE)×Int×aE)→Option (Step ((List aE)×Int×aE) (List aE))
  | (x6,x7,x8)=>(if decide (x7 < (x.bW.length:Int)) then gK x x6 x7 (decide (x7 < 400)) x8 else gK x x6 x7 false x8)
def FX:(List aE)→Option (List aE)
  | x9=>FW x9
def pC(x:dS):Option (List aE):=
  (pB x.aU).bind fun x1=>(if (x1.aR.length:Int) == 0 then some ([]:List aE) else (qW x1).bind fun x2=>need (([]:List aE).length+([x2]).length≤1073741824) ((loop (i3 x) (([]:List aE)++([x2]),0,x1)).bind (FX)))
def fV(a_:dS):Option dS:=
  (uK a_.aU).bind fun x1=>(jG a_.bW).bind fun x2=>some (⟨x1,x2⟩:dS)
def xZ(x7:List Int):Option (List Int):=
  some x7
def fF:((List Int)×Int)→Option (Step ((List Int)×Int) (List Int))
  | (x5,x6)=>(if decide (x6 < (x5.length:Int)) then need (0≤(x6:Int)∧(x6:Int)≤(x5.length:Int)) (need (0≤(x6:Int)∧(x6:Int)≤(x5.length:Int)) (some (.next (fD x5 x6.toNat ((x5.take x6.toNat).drop 0),aI (x6+((min ((x5.take x6.toNat).drop 0).length (x5.length - x6.toNat):Nat):Int)))))) else some (.stop (x5)))
def yA:(List Int)→Option (List Int)
  | x7=>xZ x7
def iC(x:List Int)(x1:Int×Int)(x2:Bool):Option (List Int):=
  (if x2 then none else need (0≤(IntKind.i64.wrap x1.2:Int)∧(IntKind.i64.wrap x1.2:Int)≤4294967296) ((loop (fF) (fD (List.replicate ((IntKind.i64.wrap x1.2).toNat) 0) 0 x,((min x.length ((List.replicate ((IntKind.i64.wrap x1.2).toNat) 0:List Int).length - 0):Nat):Int))).bind (yA)))
def kB(x:List Int)(count:Int):Option (List Int):=
  (if decide (count < 0) then none else (mM (IntKind.u64.wrap (x.length:Int)) (IntKind.u64.wrap count)).bind fun x1=>(if decide (0 < x1.1) then iC x x1 true else iC x x1 (decide (9223372036854775807 < x1.2))))
def vY(x1:List Int):Option aC:=
  some (⟨List.replicate ((384:Int).toNat) 0,x1⟩:aC)
def rE:Option aC:=
  need (0≤(384:Int)∧(384:Int)≤4294967296)<|(kB ([(-1)]) 6).bind fun x2=>vY x2
def uG:Option aB:=
  some (⟨List.replicate ((3:Int).toNat) (⟨[]⟩:aG),List.replicate ((9:Int).toNat) (⟨[]⟩:aG)⟩:aB)
def tD:Option aB:=
  need (0≤(3:Int)∧(3:Int)≤4294967296)<|need (0≤(9:Int)∧(9:Int)≤4294967296)<|uG
def yB:Option Mem:=
  (rE).bind fun x1=>(tD).bind fun x2=>some (⟨x1,x2⟩:Mem)
def tE:Option aD:=
  need (0≤(3:Int)∧(3:Int)≤4294967296) (some (⟨0,List.replicate ((3:Int).toNat) (⟨false,0,false,0⟩:cQ)⟩:aD))
def tF:Option (List aP):=
  need (0≤(3:Int)∧(3:Int)≤4294967296) (some (List.replicate ((3:Int).toNat) (⟨[]⟩:aP)))
def yC:Option (List Int):=
  need (0≤(3:Int)∧(3:Int)≤4294967296) (some (List.replicate ((3:Int).toNat) 0))
def rF:Option aA:=
  (yB).bind fun x1=>(tE).bind fun x2=>(tF).bind fun x3=>(yC).bind fun x4=>some (⟨x1,x2,x3,x4⟩:aA)
def uH(x2:aE):Option aE:=
  some ({x2 with Log:=[]}:aE)
def pD(todo:List Queue):Option aE:=
  (AO todo).bind fun x1=>(if !x1 then some (⟨(⟨(⟨(⟨[],[]⟩:aC),(⟨[],[]⟩:aB)⟩:Mem),(⟨0,[]⟩:aD),[],[]⟩:aA),[],[],[],[],0⟩:aE) else (rF).bind fun x3=>need (0≤(2:Int)∧(2:Int)≤4294967296)<|need (0≤(3:Int)∧(3:Int)≤4294967296)<|(DT todo).bind fun x4=>uH (⟨x3,List.replicate ((2:Int).toNat) 0,List.replicate ((3:Int).toNat) (⟨false,(⟨0,0,0,0⟩:cM),0,0,(⟨0,0,0,0,0,0,0,0,0,false⟩:Sub),0,0,0,0⟩:bG),x4,[],0⟩:aE))
def FY(x9:List aE):Option (List aE):=
  some x9
def i4(x7:Int)(x10:List aE)(x11:aE):Option (Step ((List aE)×Int×aE) (List aE)):=
  some (.next (x10,aI (x7+1),x11))
def i5(x:dS):((List aE)×Int×aE)→Option (Step ((List aE)×Int×aE) (List aE))
  | (x6,x7,x8)=>(if decide (x7 < (((x.bW.take ((if 400 < (x.bW.length:Int) then 400 else (x.bW.length:Int)).toNat)).drop 0).length:Int)) then (idx ((x.bW.take ((if 400 < (x.bW.length:Int) then 400 else (x.bW.length:Int)).toNat)).drop 0) x7).bind fun x12=>(lW x12).bind fun x13=>(if x13 then (rV x8 x12).bind fun x14=>(mX x14).bind fun x15=>need (x6.length+([x15]).length≤1073741824) (i4 x7 (x6++([x15])) x14) else i4 x7 x6 x8) else some (.stop (x6)))
def FZ:(List aE)→Option (List aE)
  | x9=>FY x9
def nK(x:dS):Option (List aE):=
  (pD x.aU).bind fun x1=>(if (x1.aR.length:Int) == 0 then some ([]) else (mX x1).bind fun x2=>need (0≤(if 400 < (x.bW.length:Int) then 400 else (x.bW.length:Int):Int)∧(if 400 < (x.bW.length:Int) then 400 else (x.bW.length:Int):Int)≤(x.bW.length:Int)) ((loop (i5 x) ([x2],0,x1)).bind (FZ)))
def mO(a_ b:dS):Option Bool:=
  (DX a_.aU b.aU).bind fun x1=>(if !x1 then some false else (xP a_.bW b.bW).bind fun x2=>(if !x2 then some false else some true))
def F6(x1:Int)(x2:Bool):Option Int:=
  (if x2 then some 4 else some x1)
def TG(b:aA)(slot:Int):Option Int:=
  (O6 b.Mem slot).bind fun x1=>(if x1 == 3 then (PA b.aH slot).bind fun x3=>F6 x1 (!x3) else F6 x1 false)
def aRV(x6:List Int):Option (List Int):=
  some x6
def MZ(b:aA)(x4:List Int)(x5:Int)(x7:Bool):Option (Step ((List Int)×Int) (List Int)):=
  (if x7 then (TG b x5).bind fun x8=>(idx x4 x8).bind fun x9=>some (.next (x4.set x8.toNat (aI (x9+1)),aI (x5+1))) else some (.stop (x4)))
def M0(b:aA)(x1:Bool):((List Int)×Int)→Option (Step ((List Int)×Int) (List Int))
  | (x4,x5)=>(if decide (x5 < 24) then MZ b x4 x5 x1 else MZ b x4 x5 false)
def aRW:(List Int)→Option (List Int)
  | x6=>aRV x6
def aCS(b:aA):Option (List Int):=
  need (0≤(5:Int)∧(5:Int)≤4294967296) ((j7 b).bind fun x1=>(loop (M0 b x1) (List.replicate ((5:Int).toNat) 0,0)).bind (aRW))
def aLK(x6:Int):Option Int:=
  some x6
def LG(x1:(List aE)):(Int×Int)→Option (Step (Int×Int) Int)
  | (x4,x5)=>(if decide (x5 < (x1.length:Int)) then (idx x1 x5).bind fun x7=>(aCS x7.aA).bind fun x8=>(idx x8 4).bind fun x9=>some (.next (if x4 < x9 then x9 else x4,aI (x5+1))) else some (.stop (x4)))
def aLL:Int→Option Int
  | x6=>aLK x6
def TH(x:dS):Option Int:=
  (pC x).bind fun x1=>(loop (LG x1) (0,0)).bind (aLL)
def aCT(b:aA)(slot:Int):Option Int:=
  (PX b.Mem slot).bind fun x1=>(if x1 != 3 then some x1 else (P4 b.aH slot).bind fun x2=>(if x2 then some 3 else some 4))
def aRX(x6:List Int):Option (List Int):=
  some x6
def M1(b:aA):((List Int)×Int)→Option (Step ((List Int)×Int) (List Int))
  | (x4,x5)=>(if decide (x5 < 24) then (aCT b x5).bind fun x7=>(idx x4 x7).bind fun x8=>some (.next (x4.set x7.toNat (aI (x8+1)),aI (x5+1))) else some (.stop (x4)))
def aRY:(List Int)→Option (List Int)
  | x6=>aRX x6
def aCU(b:aA):Option (List Int):=
  need (0≤(5:Int)∧(5:Int)≤4294967296) ((j8 b).bind fun x1=>(if !x1 then some (List.replicate ((5:Int).toNat) 0) else (loop (M1 b) (List.replicate ((5:Int).toNat) 0,0)).bind (aRY)))
def aLM(x6:Int):Option Int:=
  some x6
def LH(x1:(List aE)):(Int×Int)→Option (Step (Int×Int) Int)
  | (x4,x5)=>(if decide (x5 < (x1.length:Int)) then (idx x1 x5).bind fun x7=>(aCU x7.aA).bind fun x8=>(idx x8 4).bind fun x9=>some (.next (if x4 < x9 then x9 else x4,aI (x5+1))) else some (.stop (x4)))
def aLN:Int→Option Int
  | x6=>aLM x6
def TJ(x:dS):Option Int:=
  (nK x).bind fun x1=>(loop (LH x1) (0,0)).bind (aLN)
def T7(aX:dS):Option Bool:=
  (mN aX 1048576).bind fun x1=>(if decide (x1 < 0) then some true else (fV aX).bind fun x2=>(TH x2).bind fun x3=>(fV aX).bind fun x4=>(TJ x4).bind fun x5=>(if x5 != x3 then some false else (fV aX).bind fun x6=>(mO x4 x6).bind fun x7=>(if !x7 then some false else some true)))
end
end Go.Gv
end
noncomputable section
set_option linter.unusedVariables false
set_option maxHeartbeats 4000000
set_option maxRecDepth 100000
namespace Go.Proofs.YtgboekoingacfaaGreat
open Go.Gv
theorem kV:Inf Tryz.prog 58 13 (.agg #[.slice none 0 0,.slice none 0 0,.slice none 0 0,.slice none 0 0,.int .i64 0,.slice none 0 0,.slice none 0 0,.slice none 0 0,.slice none 0 0,.slice none 0 0,.slice none 0 0,.slice none 0 0,.int .i64 0]):=O0 (b:=280) (by kernel_rfl) rfl
end Go.Proofs.YtgboekoingacfaaGreat
end
noncomputable section
set_option linter.unusedVariables false
set_option maxHeartbeats 4000000
set_option maxRecDepth 100000
namespace Go.Proofs.YtgboekoingacfaaGreat
open Go.Gv
def F5:UA aE:=⟨AC×AC×AC×AC×AC×AC×AC×AC×AC×AC×AC,fun x y=>[.h y.1 x.aA.Mem.aC.Bytes.length,.h y.2.1 x.aA.Mem.aC.Class.length,.h y.2.2.1 x.aA.Mem.aB.Global.length,.h y.2.2.2.1 x.aA.Mem.aB.bA.length,I x.aA.aD.aJ,.h y.2.2.2.2.1 x.aA.aD.aM.length,.h y.2.2.2.2.2.1 x.aA.aH.length,.h y.2.2.2.2.2.2.1 x.aA.bO.length,.h y.2.2.2.2.2.2.2.1 x.Cells.length,.h y.2.2.2.2.2.2.2.2.1 x.aR.length,.h y.2.2.2.2.2.2.2.2.2.1 x.aU.length,.h y.2.2.2.2.2.2.2.2.2.2 x.Log.length,I x.aK],fun S w x y=>bC.rd S w [y.1.v x.aA.Mem.aC.Bytes.length] x.aA.Mem.aC.Bytes∧bC.rd S w [y.2.1.v x.aA.Mem.aC.Class.length] x.aA.Mem.aC.Class∧bC.rd S w [y.2.2.1.v x.aA.Mem.aB.Global.length] x.aA.Mem.aB.Global∧bC.rd S w [y.2.2.2.1.v x.aA.Mem.aB.bA.length] x.aA.Mem.aB.bA∧bC.rd S w [y.2.2.2.2.1.v x.aA.aD.aM.length] x.aA.aD.aM∧bC.rd S w [y.2.2.2.2.2.1.v x.aA.aH.length] x.aA.aH∧bC.rd S w [y.2.2.2.2.2.2.1.v x.aA.bO.length] x.aA.bO∧bC.rd S w [y.2.2.2.2.2.2.2.1.v x.Cells.length] x.Cells∧bC.rd S w [y.2.2.2.2.2.2.2.2.1.v x.aR.length] x.aR∧bC.rd S w [y.2.2.2.2.2.2.2.2.2.1.v x.aU.length] x.aU∧bC.rd S w [y.2.2.2.2.2.2.2.2.2.2.v x.Log.length] x.Log,(fun h=>by
  obtain⟨v0,v1,v2,v3,v4,v5,v6,v7,v8,v9,v10,rfl,h0,h1,h2,h3,h4,h5,h6,h7,h8,h9,h10⟩:=WA h
  obtain⟨a0,e0⟩:=iN h0
  cases e0
  obtain⟨a1,e1⟩:=iN h1
  cases e1
  obtain⟨a2,e2⟩:=iN h2
  cases e2
  obtain⟨a3,e3⟩:=iN h3
  cases e3
  obtain⟨a4,e4⟩:=iN h4
  cases e4
  obtain⟨a5,e5⟩:=iN h5
  cases e5
  obtain⟨a6,e6⟩:=iN h6
  cases e6
  obtain⟨a7,e7⟩:=iN h7
  cases e7
  obtain⟨a8,e8⟩:=iN h8
  cases e8
  obtain⟨a9,e9⟩:=iN h9
  cases e9
  obtain⟨a10,e10⟩:=iN h10
  cases e10
  exact⟨(a0,a1,a2,a3,a4,a5,a6,a7,a8,a9,a10),rfl,⟨h0,h1,h2,h3,h4,h5,h6,h7,h8,h9,h10⟩⟩),fun x y=>.g [.h y.1 x.aA.Mem.aC.Bytes.length,.h y.2.1 x.aA.Mem.aC.Class.length,.h y.2.2.1 x.aA.Mem.aB.Global.length,.h y.2.2.2.1 x.aA.Mem.aB.bA.length,I x.aA.aD.aJ,.h y.2.2.2.2.1 x.aA.aD.aM.length,.h y.2.2.2.2.2.1 x.aA.aH.length,.h y.2.2.2.2.2.2.1 x.aA.bO.length,.h y.2.2.2.2.2.2.2.1 x.Cells.length,.h y.2.2.2.2.2.2.2.2.1 x.aR.length,.h y.2.2.2.2.2.2.2.2.2.1 x.aU.length,.h y.2.2.2.2.2.2.2.2.2.2 x.Log.length,I x.aK],fun h h1 h2=>⟨bC.rd_mono (bC.rd_agree h.1 h1) h2,bC.rd_mono (bC.rd_agree h.2.1 h1) h2,bC.rd_mono (bC.rd_agree h.2.2.1 h1) h2,bC.rd_mono (bC.rd_agree h.2.2.2.1 h1) h2,bC.rd_mono (bC.rd_agree h.2.2.2.2.1 h1) h2,bC.rd_mono (bC.rd_agree h.2.2.2.2.2.1 h1) h2,bC.rd_mono (bC.rd_agree h.2.2.2.2.2.2.1 h1) h2,bC.rd_mono (bC.rd_agree h.2.2.2.2.2.2.2.1 h1) h2,bC.rd_mono (bC.rd_agree h.2.2.2.2.2.2.2.2.1 h1) h2,bC.rd_mono (bC.rd_agree h.2.2.2.2.2.2.2.2.2.1 h1) h2,bC.rd_mono (bC.rd_agree h.2.2.2.2.2.2.2.2.2.2 h1) h2⟩⟩
def AK:CO aE:=F5.o (fun x y=>[ow y.1 x.aA.Mem.aC.Bytes,ow y.2.1 x.aA.Mem.aC.Class,ow y.2.2.1 x.aA.Mem.aB.Global,ow y.2.2.2.1 x.aA.Mem.aB.bA,ow y.2.2.2.2.1 x.aA.aD.aM,ow y.2.2.2.2.2.1 x.aA.aH,ow y.2.2.2.2.2.2.1 x.aA.bO,ow y.2.2.2.2.2.2.2.1 x.Cells,ow y.2.2.2.2.2.2.2.2.1 x.aR,ow y.2.2.2.2.2.2.2.2.2.1 x.aU,ow y.2.2.2.2.2.2.2.2.2.2 x.Log]) (fun h=>by cases h;exact aFK _) (fun _ _=>rfl) (fun _ _ _=>rfl)
noncomputable section
variable {κ:Ctx}
theorem vA{l:List aP}{s1:AC}(h1:aQ κ s1 l):V0 Tryz.prog κ 162 (i7 l) [.h s1 l.length] .b:=
 bM tok Tryz.call162 Tryz.func162 Tryz.results162 rfl rfl<|c1 rfl (fun h=>rW (h.a h1)) fun x1 s2=>fS 0 0 (eZ x1) [3] 16 [0] rfl (fN [11,12] rfl rfl (cR [0] rfl rfl)<|cR [0] rfl rfl) fun x2=>aV [16] rfl rfl (aY rfl rfl)<|fun hF=>LR (α:=Int) bD rfl rfl rfl rfl fun s3=>wi hF<|mQ s3 [3] (fun(p:(List Int)×Int) (s5:AC)=>[(4,.h s5 p.1.length),(5,I p.2)]) [1,0] [0] (fun p s5=>[ow s5 (p.1:List Int)]) Out.brk [] (fun(_:Unit) (_:Unit)=>[]) [] (fun _ _=>[]) rfl rfl (fun hF2 ⟨x5,x6⟩ s5 hr2=>aV [21] rfl rfl (mP kK 1 rfl rfl rfl fun x7 h2 _ h3=>fun hG2=>dT 0 h3 h2 rfl rfl rfl rfl rfl<|wi hG2<|c0 rfl (fun _=>j6) fun x8=>mH 0 1 (dZ x5 x6 x8) [3,4,5,6] (fun(x9:Bool) (_:Unit)=>[(45,.b x9)]) [0] (fun x9 _=>[ow s2 (x1:List bP)]) rfl (fN [31,32] rfl rfl (fun hG2=>sF rfl<|tZ kK 2 [] h2 () rfl rfl rfl rfl rfl rfl rfl<|wY () [5,0] hG2 rfl)<|fun hG2=>dT 0 h3 h2 rfl rfl rfl rfl rfl<|wi hG2<|c0 rfl (fun _=>cB) fun x10=>fN [39,40,41] rfl rfl (fun hG2=>sF rfl<|tZ kK 2 [] h2 () rfl rfl rfl rfl rfl rfl rfl<|wY () [5,0] hG2 rfl)<|c0 rfl (fun h=>GY (h.o 0 rfl)) fun x11=>fun hG2=>sF rfl<|tZ kK 2 [] h2 () rfl rfl rfl rfl rfl rfl rfl<|wY () [5,0] hG2 rfl) fun x9 _=>aV [45] rfl rfl (eX hr2 hF2<|aY rfl rfl)<|fun hG2=>lt1 rfl bD rfl rfl rfl rfl fun s6=>ap 1 bD rfl rfl rfl rfl rfl rfl rfl (fun h=>(h.o 2 rfl)) rfl rfl hG2 fun hG2 s7=>wi hG2<|nxW s7 [1,0] rfl)<|jE [] rfl) fun() _=>aY rfl rfl
theorem xA{b:aA}{s1 s2 s3 s4 s5 s6 s7:AC}(h1:aQ κ s1 b.Mem.aC.Bytes)(h2:aQ κ s2 b.Mem.aC.Class)(h3:aQ κ s3 b.Mem.aB.Global)(h4:aQ κ s4 b.Mem.aB.bA)(h5:aQ κ s5 b.aD.aM)(h6:aQ κ s6 b.aH)(h7:aQ κ s7 b.bO):V0 Tryz.prog κ 92 (j7 b) [.g [.h s1 b.Mem.aC.Bytes.length,.h s2 b.Mem.aC.Class.length,.h s3 b.Mem.aB.Global.length,.h s4 b.Mem.aB.bA.length,I b.aD.aJ,.h s5 b.aD.aM.length,.h s6 b.aH.length,.h s7 b.bO.length]] .b:=
 bM tok Tryz.call92 Tryz.func92 Tryz.results92 rfl rfl<|fS 0 1 (dF b) [1] 26 [0] rfl (c0 rfl (fun h=>K7 (h.a h1) (h.a h2) (h.a h3) (h.a h4)) fun x8=>fN [8,9] rfl rfl (cR [0] rfl rfl)<|c0 rfl (fun h=>uQ (h.a h5)) fun x9=>fN [13,14,15] rfl rfl (cR [0] rfl rfl)<|c0 rfl (fun h=>vA (h.a h6)) fun x10=>fN [19,20,21] rfl rfl (cR [0] rfl rfl)<|c0 rfl (fun h=>GZ (h.a h7)) fun x11=>cR [0] rfl rfl) fun x1=>aV [26] rfl rfl (aY rfl rfl)<|c1 rfl (fun h=>rW (h.a h6)) fun x2 s8=>CH 4 [1,3] [1,0] Out.brk [] [] rfl rfl (fun hF2 x4 hr2=>aV [33] rfl rfl (fS 0 1 (gH x4) [1,3,4] 55 [0,1] rfl (jP aL [1] rfl<|mP kK 0 rfl rfl rfl fun x6 h8 _ h9=>fun hG2=>dT 1 h9 h8 rfl rfl rfl rfl rfl<|wi hG2<|c0 rfl (fun h=>BF (h.a h1) (h.a h2) (h.a h3) (h.a h4)) fun x7=>fN [44,45] rfl rfl (fun hG2=>sF rfl<|tZ kK 2 [] h8 () rfl rfl rfl rfl rfl rfl rfl<|wY () [5,1] hG2 rfl)<|fun hG2=>dT 1 h9 h8 rfl rfl rfl rfl rfl<|sF rfl<|tZ kK 2 [] h8 () rfl rfl rfl rfl rfl rfl rfl<|wY () [5,1] hG2 rfl) fun x5=>aV [55] rfl rfl (eX hr2 hF2<|aY rfl rfl)<|pX [0,1] rfl)<|jE [] rfl)<|aY rfl rfl
theorem qY{r_:bP}{k0:aA}{s1 s2 s3 s4 s5 s6 s7:AC}{b0:Nat×Nat}(h1:aQ κ s1 k0.Mem.aC.Bytes)(h2:aQ κ s2 k0.Mem.aC.Class)(h3:aQ κ s3 k0.Mem.aB.Global)(h4:aQ κ s4 k0.Mem.aB.bA)(h5:aQ κ s5 k0.aD.aM)(h6:aQ κ s6 k0.aH)(h7:aQ κ s7 k0.bO):VS Tryz.prog κ 195 (fA r_ k0) [.g [I r_.Handle,I r_.aJ],.p 0 0] [b0] [.ro 0 [.h s1 k0.Mem.aC.Bytes.length,.h s2 k0.Mem.aC.Class.length,.h s3 k0.Mem.aB.Global.length,.h s4 k0.Mem.aB.bA.length,I k0.aD.aJ,.h s5 k0.aD.aM.length,.h s6 k0.aH.length,.h s7 k0.bO.length]] (fun r (_:Unit)=>.b r) (fun _ _=>[]):=
 bM tok Tryz.call195 Tryz.func195 Tryz.results195 rfl rfl<|fS 0 2 dV [] 3 [] rfl (c0 rfl (fun h=>DZ (h.a h1) (h.a h2) (h.a h3) (h.a h4)) fun x2=>fN [9,10] rfl rfl (cR [] rfl rfl)<|cR [] rfl rfl) fun x1=>aY rfl rfl
theorem tO{l:aP}{k0:aA}{s1:AC}{s2 s3 s4 s5 s6 s7 s8:AC}{b0:Nat×Nat}(h1:aQ κ s1 l.Rows)(h2:aQ κ s2 k0.Mem.aC.Bytes)(h3:aQ κ s3 k0.Mem.aC.Class)(h4:aQ κ s4 k0.Mem.aB.Global)(h5:aQ κ s5 k0.Mem.aB.bA)(h6:aQ κ s6 k0.aD.aM)(h7:aQ κ s7 k0.aH)(h8:aQ κ s8 k0.bO):VS Tryz.prog κ 193 (g8 l k0) [.g [.h s1 l.Rows.length],.p 0 0] [b0] [.ro 0 [.h s2 k0.Mem.aC.Bytes.length,.h s3 k0.Mem.aC.Class.length,.h s4 k0.Mem.aB.Global.length,.h s5 k0.Mem.aB.bA.length,I k0.aD.aJ,.h s6 k0.aD.aM.length,.h s7 k0.aH.length,.h s8 k0.bO.length]] (fun r (_:Unit)=>.b r) (fun _ _=>[]):=
 bM tok Tryz.call193 Tryz.func193 Tryz.results193 rfl rfl<|fun hF=>mf [0] rfl rfl rfl<|wi hF<|aHO [0] rfl rfl rfl rfl (fun h=>fun hB=>oG (h.a h1) (aHN (cs:=[(0,[.h s2 k0.Mem.aC.Bytes.length,.h s3 k0.Mem.aC.Class.length,.h s4 k0.Mem.aB.Global.length,.h s5 k0.Mem.aB.bA.length,I k0.aD.aJ,.h s6 k0.aD.aM.length,.h s7 k0.aH.length,.h s8 k0.bO.length])]) Tryz.call195 hB rfl fun hk _=>qY (rk hk (h.a h2)) (rk hk (h.a h3)) (rk hk (h.a h4)) (rk hk (h.a h5)) (rk hk (h.a h6)) (rk hk (h.a h7)) (rk hk (h.a h8)))) fun x1=>aY rfl rfl
theorem xB{b:aA}{s1 s2 s3 s4 s5 s6 s7:AC}(h1:aQ κ s1 b.Mem.aC.Bytes)(h2:aQ κ s2 b.Mem.aC.Class)(h3:aQ κ s3 b.Mem.aB.Global)(h4:aQ κ s4 b.Mem.aB.bA)(h5:aQ κ s5 b.aD.aM)(h6:aQ κ s6 b.aH)(h7:aQ κ s7 b.bO):V0 Tryz.prog κ 113 (j8 b) [.g [.h s1 b.Mem.aC.Bytes.length,.h s2 b.Mem.aC.Class.length,.h s3 b.Mem.aB.Global.length,.h s4 b.Mem.aB.bA.length,I b.aD.aJ,.h s5 b.aD.aM.length,.h s6 b.aH.length,.h s7 b.bO.length]] .b:=
 bM tok Tryz.call113 Tryz.func113 Tryz.results113 rfl rfl<|fS 0 1 (dI b) [1] 24 [0] rfl (c0 rfl (fun h=>K8 (h.a h1) (h.a h2) (h.a h3) (h.a h4)) fun x3=>fN [6,7] rfl rfl (cR [0] rfl rfl)<|c0 rfl (fun h=>uR (h.a h5)) fun x4=>fN [11,12,13] rfl rfl (cR [0] rfl rfl)<|c0 rfl (fun h=>xQ (h.a h6)) fun x5=>fN [17,18,19] rfl rfl (cR [0] rfl rfl)<|c0 rfl (fun h=>G4 (h.a h7)) fun x6=>cR [0] rfl rfl) fun x1=>aV [24] rfl rfl (aY rfl rfl)<|fun hF=>mf [0] rfl rfl rfl<|wi hF<|aHO [0] rfl rfl rfl rfl (fun h=>fun hB=>nM (h.a h6) (aHN (cs:=[(0,[.h s1 b.Mem.aC.Bytes.length,.h s2 b.Mem.aC.Class.length,.h s3 b.Mem.aB.Global.length,.h s4 b.Mem.aB.bA.length,I b.aD.aJ,.h s5 b.aD.aM.length,.h s6 b.aH.length,.h s7 b.bO.length])]) Tryz.call193 hB rfl fun hk hy=>tO hy (rk hk (h.a h1)) (rk hk (h.a h2)) (rk hk (h.a h3)) (rk hk (h.a h4)) (rk hk (h.a h5)) (rk hk (h.a h6)) (rk hk (h.a h7)))) fun x2=>aY rfl rfl
theorem vL{x y:Int}:V0 Tryz.prog κ 297 (qA x y) [.i .u64 x,.i .u64 y] (fun r=>.t [.i .u64 r.1,.i .u64 r.2]):=
 bM tok Tryz.call297 Tryz.func297 Tryz.results297 rfl rfl<|aY rfl rfl
theorem zM{x y:Int}:V0 Tryz.prog κ 228 (mM x y) [.i .u64 x,.i .u64 y] (fun r=>.t [.i .u64 r.1,.i .u64 r.2]):=
 bM tok Tryz.call228 Tryz.func228 Tryz.results228 rfl rfl<|c0 rfl (fun _=>vL) fun x1=>aY rfl rfl
theorem H7{a_:dS}{left:Int}{s1 s2:AC}(h1:aQ κ s1 a_.aU)(h2:aQ κ s2 a_.bW):V0 Tryz.prog κ 23 (mN a_ left) [.g [.h s1 a_.aU.length,.h s2 a_.bW.length],I left] I:=
 bM tok Tryz.call23 Tryz.func23 Tryz.results23 rfl rfl<|c0 rfl (fun h=>y6 (h.a h1)) fun x1=>aV [10] rfl rfl (aY rfl rfl)<|c0 rfl (fun h=>iF (h.a h2)) fun x2=>aV [16] rfl rfl (aY rfl rfl)<|aY rfl rfl
theorem J9:VS Tryz.prog κ 298 rC [] [] [] (fun r (y:AC×AC)=>.g [.h y.1 r.Bytes.length,.h y.2 r.Class.length]) (fun r y=>[ow y.1 r.Bytes,ow y.2 r.Class]):=
 bM tok Tryz.call298 Tryz.func298 Tryz.results298 rfl rfl<|fun hF=>lV (0:Int) bD (fun w=>fM rfl w) rfl rfl rfl rfl rfl rfl rfl hF fun hF s1=>nw Int rfl<|wi hF<|mQ ⟨none,0⟩ [0,1] (fun(p:Int×(List Int)) (s3:AC)=>[(2,I p.1)]) [3,2,0,1] [0,1] (fun p s3=>[ow s3 (p.2:List Int),.box 1 [.h s1 (List.replicate ((384:Int).toNat) 0).length,.h s3 p.2.length]]) id [0,1] (fun(x5:(List Int)) (s4:AC)=>[]) [0,1] (fun x5 s4=>[ow s4 (x5:List Int),.box 1 [.h s1 (List.replicate ((384:Int).toNat) 0).length,.h s4 x5.length]]) rfl rfl (fun hF1 ⟨x3,x4⟩ s3 hr1=>aV [6] rfl rfl (fun hG1=>lt1 rfl bD rfl rfl rfl rfl fun s5=>ap 0 bD rfl rfl rfl rfl rfl rfl rfl (fun h=>(h.o 4 rfl)) rfl rfl hG1 fun hG1 s6=>wi hG1<|nxW s6 [0,1,2,3] rfl)<|bkW s3 [0,1,2,3] rfl) fun x5 s4=>gL (s1,s4) [3,0] rfl rfl
theorem H8:VS Tryz.prog κ 299 tA [] [] [] (fun r (y:AC×AC)=>.g [.h y.1 r.Global.length,.h y.2 r.bA.length]) (fun r y=>[ow y.1 r.Global,ow y.2 r.bA]):=
 bM tok Tryz.call299 Tryz.func299 Tryz.results299 rfl rfl<|mH 0 1 (fun(_:Unit)=>uE) [0] (fun(_:Unit) (u:AC×AC)=>[]) [] (fun _ u=>[ow u.1 (List.replicate ((3:Int).toNat) (⟨[]⟩:aG):List aG),ow u.2 (List.replicate ((9:Int).toNat) (⟨[]⟩:aG):List aG),.box 0 [.h u.1 (List.replicate ((3:Int).toNat) (⟨[]⟩:aG)).length,.h u.2 (List.replicate ((9:Int).toNat) (⟨[]⟩:aG)).length]]) rfl (jP aL [] rfl<|fun hF=>nd hF fun hA1 hF=>nd hF fun hA2 hF=>kS rfl rfl (have hq1:=rn hA1;lV ((⟨[]⟩:aG):aG) dN (fun _=>(lJ (mW (⟨[]⟩:aG)) (uN GC))) rfl rfl rfl rfl rfl rfl rfl hq1 fun hq1 s5=>have hq2:=rn hA2;lV ((⟨[]⟩:aG):aG) dN (fun _=>(lJ (mW (⟨[]⟩:aG)) (uN GC))) rfl rfl rfl rfl rfl rfl rfl hq2 fun hq2 s6=>wi hF<|pE (p:=()) (s5,s6) [1,2,0] rfl rfl) (have hq3:=rn hA2;lV ((⟨[]⟩:aG):aG) dN (fun _=>(lJ (mW (⟨[]⟩:aG)) (uN GC))) rfl rfl rfl rfl rfl rfl rfl hq3 fun hq3 s7=>have hq4:=rn hA1;lV ((⟨[]⟩:aG):aG) dN (fun _=>(lJ (mW (⟨[]⟩:aG)) (uN GC))) rfl rfl rfl rfl rfl rfl rfl hq4 fun hq4 s8=>wi hF<|pE (p:=()) (s8,s7) [2,1,0] rfl rfl)) fun _ ⟨s1,s2⟩=>gL (s1,s2) [0,1] rfl rfl
theorem MV:VS Tryz.prog κ 229 xX [] [] [] (fun r (y:AC×AC×AC×AC)=>.g [.h y.1 r.aC.Bytes.length,.h y.2.1 r.aC.Class.length,.h y.2.2.1 r.aB.Global.length,.h y.2.2.2 r.aB.bA.length]) (fun r y=>[ow y.1 r.aC.Bytes,ow y.2.1 r.aC.Class,ow y.2.2.1 r.aB.Global,ow y.2.2.2 r.aB.bA]):=
 bM tok Tryz.call229 Tryz.func229 Tryz.results229 rfl rfl<|c1 rfl (fun _=>J9) fun x1 s1=>c1 rfl (fun _=>H8) fun x2 s2=>gL (s1.1,s1.2,s2.1,s2.2) [1,2,3,4] rfl rfl
theorem H9:VS Tryz.prog κ 230 tB [] [] [] (fun r (y:AC)=>.g [I r.aJ,.h y r.aM.length]) (fun r y=>[ow y r.aM]):=
 bM tok Tryz.call230 Tryz.func230 Tryz.results230 rfl rfl<|fun hF=>lV ((⟨false,0,false,0⟩:cQ):cQ) sO (fun w=>fM (ZD (⟨false,0,false,0⟩:cQ)) w) rfl rfl rfl rfl rfl rfl rfl hF fun hF s1=>wi hF<|gL s1 [1] rfl rfl
theorem IA:VS Tryz.prog κ 231 tC [] [] [] (fun r (y:AC)=>.h y r.length) (fun r y=>[ow y r]):=
 bM tok Tryz.call231 Tryz.func231 Tryz.results231 rfl rfl<|fun hF=>lV ((⟨[]⟩:aP):aP) qP (fun _=>(lJ (JB (⟨[]⟩:aP)) (uN GC))) rfl rfl rfl rfl rfl rfl rfl hF fun hF s1=>wi hF<|gL s1 [0] rfl rfl
theorem MW:VS Tryz.prog κ 232 xY [] [] [] (fun r (y:AC)=>.h y r.length) (fun r y=>[ow y r]):=
 bM tok Tryz.call232 Tryz.func232 Tryz.results232 rfl rfl<|fun hF=>lV (0:Int) bD (fun w=>fM rfl w) rfl rfl rfl rfl rfl rfl rfl hF fun hF s1=>wi hF<|gL s1 [0] rfl rfl
theorem kW:VS Tryz.prog κ 145 rD [] [] [] (fun r (y:AC×AC×AC×AC×AC×AC×AC)=>.g [.h y.1 r.Mem.aC.Bytes.length,.h y.2.1 r.Mem.aC.Class.length,.h y.2.2.1 r.Mem.aB.Global.length,.h y.2.2.2.1 r.Mem.aB.bA.length,I r.aD.aJ,.h y.2.2.2.2.1 r.aD.aM.length,.h y.2.2.2.2.2.1 r.aH.length,.h y.2.2.2.2.2.2 r.bO.length]) (fun r y=>[ow y.1 r.Mem.aC.Bytes,ow y.2.1 r.Mem.aC.Class,ow y.2.2.1 r.Mem.aB.Global,ow y.2.2.2.1 r.Mem.aB.bA,ow y.2.2.2.2.1 r.aD.aM,ow y.2.2.2.2.2.1 r.aH,ow y.2.2.2.2.2.2 r.bO]):=
 bM tok Tryz.call145 Tryz.func145 Tryz.results145 rfl rfl<|c1 rfl (fun _=>MV) fun x1 s1=>c1 rfl (fun _=>H9) fun x2 s2=>c1 rfl (fun _=>IA) fun x3 s3=>c1 rfl (fun _=>MW) fun x4 s4=>gL (s1.1,s1.2.1,s1.2.2.1,s1.2.2.2,s2,s3,s4) [1,2,3,4,5,6,7] rfl rfl
theorem IB{todo:List Queue}{s1:AC}(h1:aQ κ s1 todo):VS Tryz.prog κ 73 (pB todo) [.h s1 todo.length] [] [] (fun r (y:AC×AC×AC×AC×AC×AC×AC×AC×AC×AC×AC)=>.g [.h y.1 r.aA.Mem.aC.Bytes.length,.h y.2.1 r.aA.Mem.aC.Class.length,.h y.2.2.1 r.aA.Mem.aB.Global.length,.h y.2.2.2.1 r.aA.Mem.aB.bA.length,I r.aA.aD.aJ,.h y.2.2.2.2.1 r.aA.aD.aM.length,.h y.2.2.2.2.2.1 r.aA.aH.length,.h y.2.2.2.2.2.2.1 r.aA.bO.length,.h y.2.2.2.2.2.2.2.1 r.Cells.length,.h y.2.2.2.2.2.2.2.2.1 r.aR.length,.h y.2.2.2.2.2.2.2.2.2.1 r.aU.length,.h y.2.2.2.2.2.2.2.2.2.2 r.Log.length,I r.aK]) (fun r y=>[ow y.1 r.aA.Mem.aC.Bytes,ow y.2.1 r.aA.Mem.aC.Class,ow y.2.2.1 r.aA.Mem.aB.Global,ow y.2.2.2.1 r.aA.Mem.aB.bA,ow y.2.2.2.2.1 r.aA.aD.aM,ow y.2.2.2.2.2.1 r.aA.aH,ow y.2.2.2.2.2.2.1 r.aA.bO,ow y.2.2.2.2.2.2.2.1 r.Cells,ow y.2.2.2.2.2.2.2.2.1 r.aR,ow y.2.2.2.2.2.2.2.2.2.1 r.aU,ow y.2.2.2.2.2.2.2.2.2.2 r.Log]):=
 bM tok Tryz.call73 Tryz.func73 Tryz.results73 rfl rfl<|c0 rfl (fun h=>BG (h.a h1)) fun x1=>aV [5] rfl rfl (fun hF=>sR rfl<|GA Int<|GA Int<|GA aG<|GA aG<|GA cQ<|GA aP<|GA Int<|GA Int<|GA bG<|GA Queue<|GA Ev<|nB (hT:=tok) (⟨none,0⟩,⟨none,0⟩,⟨none,0⟩,⟨none,0⟩,⟨none,0⟩,⟨none,0⟩,⟨none,0⟩,⟨none,0⟩,⟨none,0⟩,⟨none,0⟩,⟨none,0⟩) [1,2,3,4,5,6,7,8,9,10,11] hF rfl Tryz.results73 rfl rfl rfl rfl)<|mH 0 1 uF [2] (fun(x2:aE) (u:AC×AC×AC×AC×AC×AC×AC×AC×AC×AC)=>[]) [] (fun x2 u=>[ow u.1 (x2.aA.Mem.aC.Bytes:List Int),ow u.2.1 (x2.aA.Mem.aC.Class:List Int),ow u.2.2.1 (x2.aA.Mem.aB.Global:List aG),ow u.2.2.2.1 (x2.aA.Mem.aB.bA:List aG),ow u.2.2.2.2.1 (x2.aA.aD.aM:List cQ),ow u.2.2.2.2.2.1 (x2.aA.aH:List aP),ow u.2.2.2.2.2.2.1 (x2.aA.bO:List Int),ow u.2.2.2.2.2.2.2.1 (x2.Cells:List Int),ow u.2.2.2.2.2.2.2.2.1 (x2.aR:List bG),ow u.2.2.2.2.2.2.2.2.2 (x2.aU:List Queue),.box 0 [.h u.1 x2.aA.Mem.aC.Bytes.length,.h u.2.1 x2.aA.Mem.aC.Class.length,.h u.2.2.1 x2.aA.Mem.aB.Global.length,.h u.2.2.2.1 x2.aA.Mem.aB.bA.length,I x2.aA.aD.aJ,.h u.2.2.2.2.1 x2.aA.aD.aM.length,.h u.2.2.2.2.2.1 x2.aA.aH.length,.h u.2.2.2.2.2.2.1 x2.aA.bO.length,.h u.2.2.2.2.2.2.2.1 x2.Cells.length,.h u.2.2.2.2.2.2.2.2.1 x2.aR.length,.h u.2.2.2.2.2.2.2.2.2 x2.aU.length,.h ⟨none,0⟩ 0,I x2.aK]]) rfl (jP aL [] rfl<|fun hF=>bd hF fun x3 hA1 hF=>nd hF fun hA2 hF=>nd hF fun hA3 hF=>bd hF fun x4 hA4 hF=>aHL rfl rfl (have hq1:=rb hA1;wi hq1<|c1 rfl (fun _=>kW) fun u1 s16=>fun hq1=>match u1,hq1 with | _,rfl=>aHL rfl rfl (have hq2:=rn hA2;lV (0:Int) bD (fun w=>fM rfl w) rfl rfl rfl rfl rfl rfl rfl hq2 fun hq2 s17=>kS rfl rfl (have hq3:=rn hA3;lV ((⟨false,(⟨0,0,0,0⟩:cM),0,0,(⟨0,0,0,0,0,0,0,0,0,false⟩:Sub),0,0,0,0⟩:bG):bG) bN (fun w=>fM (jQ (⟨false,(⟨0,0,0,0⟩:cM),0,0,(⟨0,0,0,0,0,0,0,0,0,false⟩:Sub),0,0,0,0⟩:bG)) w) rfl rfl rfl rfl rfl rfl rfl hq3 fun hq3 s18=>have hq4:=rb hA4;wi hq4<|c1 rfl (fun h=>bQ (h.a h1)) fun u2 s19=>fun hq4=>match u2,hq4 with | _,rfl=>wi hF<|pE (p:=((⟨x3,List.replicate ((2:Int).toNat) 0,List.replicate ((3:Int).toNat) (⟨false,(⟨0,0,0,0⟩:cM),0,0,(⟨0,0,0,0,0,0,0,0,0,false⟩:Sub),0,0,0,0⟩:bG),x4,[],0⟩:aE))) (s16.1,s16.2.1,s16.2.2.1,s16.2.2.2.1,s16.2.2.2.2.1,s16.2.2.2.2.2.1,s16.2.2.2.2.2.2,s17,s18,s19) [1,2,3,4,5,6,7,8,9,10,0] rfl rfl) (have hq5:=rb hA4;wi hq5<|c1 rfl (fun h=>bQ (h.a h1)) fun u3 s20=>fun hq5=>match u3,hq5 with | _,rfl=>have hq6:=rn hA3;lV ((⟨false,(⟨0,0,0,0⟩:cM),0,0,(⟨0,0,0,0,0,0,0,0,0,false⟩:Sub),0,0,0,0⟩:bG):bG) bN (fun w=>fM (jQ (⟨false,(⟨0,0,0,0⟩:cM),0,0,(⟨0,0,0,0,0,0,0,0,0,false⟩:Sub),0,0,0,0⟩:bG)) w) rfl rfl rfl rfl rfl rfl rfl hq6 fun hq6 s21=>wi hF<|pE (p:=((⟨x3,List.replicate ((2:Int).toNat) 0,List.replicate ((3:Int).toNat) (⟨false,(⟨0,0,0,0⟩:cM),0,0,(⟨0,0,0,0,0,0,0,0,0,false⟩:Sub),0,0,0,0⟩:bG),x4,[],0⟩:aE))) (s16.1,s16.2.1,s16.2.2.1,s16.2.2.2.1,s16.2.2.2.2.1,s16.2.2.2.2.2.1,s16.2.2.2.2.2.2,s17,s21,s20) [1,2,3,4,5,6,7,8,10,9,0] rfl rfl)) (have hq7:=rn hA3;lV ((⟨false,(⟨0,0,0,0⟩:cM),0,0,(⟨0,0,0,0,0,0,0,0,0,false⟩:Sub),0,0,0,0⟩:bG):bG) bN (fun w=>fM (jQ (⟨false,(⟨0,0,0,0⟩:cM),0,0,(⟨0,0,0,0,0,0,0,0,0,false⟩:Sub),0,0,0,0⟩:bG)) w) rfl rfl rfl rfl rfl rfl rfl hq7 fun hq7 s22=>kS rfl rfl (have hq8:=rn hA2;lV (0:Int) bD (fun w=>fM rfl w) rfl rfl rfl rfl rfl rfl rfl hq8 fun hq8 s23=>have hq9:=rb hA4;wi hq9<|c1 rfl (fun h=>bQ (h.a h1)) fun u4 s24=>fun hq9=>match u4,hq9 with | _,rfl=>wi hF<|pE (p:=((⟨x3,List.replicate ((2:Int).toNat) 0,List.replicate ((3:Int).toNat) (⟨false,(⟨0,0,0,0⟩:cM),0,0,(⟨0,0,0,0,0,0,0,0,0,false⟩:Sub),0,0,0,0⟩:bG),x4,[],0⟩:aE))) (s16.1,s16.2.1,s16.2.2.1,s16.2.2.2.1,s16.2.2.2.2.1,s16.2.2.2.2.2.1,s16.2.2.2.2.2.2,s23,s22,s24) [1,2,3,4,5,6,7,9,8,10,0] rfl rfl) (have hq10:=rb hA4;wi hq10<|c1 rfl (fun h=>bQ (h.a h1)) fun u5 s25=>fun hq10=>match u5,hq10 with | _,rfl=>have hq11:=rn hA2;lV (0:Int) bD (fun w=>fM rfl w) rfl rfl rfl rfl rfl rfl rfl hq11 fun hq11 s26=>wi hF<|pE (p:=((⟨x3,List.replicate ((2:Int).toNat) 0,List.replicate ((3:Int).toNat) (⟨false,(⟨0,0,0,0⟩:cM),0,0,(⟨0,0,0,0,0,0,0,0,0,false⟩:Sub),0,0,0,0⟩:bG),x4,[],0⟩:aE))) (s16.1,s16.2.1,s16.2.2.1,s16.2.2.2.1,s16.2.2.2.2.1,s16.2.2.2.2.2.1,s16.2.2.2.2.2.2,s26,s22,s25) [1,2,3,4,5,6,7,10,8,9,0] rfl rfl)) (have hq12:=rb hA4;wi hq12<|c1 rfl (fun h=>bQ (h.a h1)) fun u6 s27=>fun hq12=>match u6,hq12 with | _,rfl=>kS rfl rfl (have hq13:=rn hA2;lV (0:Int) bD (fun w=>fM rfl w) rfl rfl rfl rfl rfl rfl rfl hq13 fun hq13 s28=>have hq14:=rn hA3;lV ((⟨false,(⟨0,0,0,0⟩:cM),0,0,(⟨0,0,0,0,0,0,0,0,0,false⟩:Sub),0,0,0,0⟩:bG):bG) bN (fun w=>fM (jQ (⟨false,(⟨0,0,0,0⟩:cM),0,0,(⟨0,0,0,0,0,0,0,0,0,false⟩:Sub),0,0,0,0⟩:bG)) w) rfl rfl rfl rfl rfl rfl rfl hq14 fun hq14 s29=>wi hF<|pE (p:=((⟨x3,List.replicate ((2:Int).toNat) 0,List.replicate ((3:Int).toNat) (⟨false,(⟨0,0,0,0⟩:cM),0,0,(⟨0,0,0,0,0,0,0,0,0,false⟩:Sub),0,0,0,0⟩:bG),x4,[],0⟩:aE))) (s16.1,s16.2.1,s16.2.2.1,s16.2.2.2.1,s16.2.2.2.2.1,s16.2.2.2.2.2.1,s16.2.2.2.2.2.2,s28,s29,s27) [1,2,3,4,5,6,7,9,10,8,0] rfl rfl) (have hq15:=rn hA3;lV ((⟨false,(⟨0,0,0,0⟩:cM),0,0,(⟨0,0,0,0,0,0,0,0,0,false⟩:Sub),0,0,0,0⟩:bG):bG) bN (fun w=>fM (jQ (⟨false,(⟨0,0,0,0⟩:cM),0,0,(⟨0,0,0,0,0,0,0,0,0,false⟩:Sub),0,0,0,0⟩:bG)) w) rfl rfl rfl rfl rfl rfl rfl hq15 fun hq15 s30=>have hq16:=rn hA2;lV (0:Int) bD (fun w=>fM rfl w) rfl rfl rfl rfl rfl rfl rfl hq16 fun hq16 s31=>wi hF<|pE (p:=((⟨x3,List.replicate ((2:Int).toNat) 0,List.replicate ((3:Int).toNat) (⟨false,(⟨0,0,0,0⟩:cM),0,0,(⟨0,0,0,0,0,0,0,0,0,false⟩:Sub),0,0,0,0⟩:bG),x4,[],0⟩:aE))) (s16.1,s16.2.1,s16.2.2.1,s16.2.2.2.1,s16.2.2.2.2.1,s16.2.2.2.2.2.1,s16.2.2.2.2.2.2,s31,s30,s27) [1,2,3,4,5,6,7,10,9,8,0] rfl rfl))) (have hq17:=rn hA2;lV (0:Int) bD (fun w=>fM rfl w) rfl rfl rfl rfl rfl rfl rfl hq17 fun hq17 s32=>kS rfl rfl (have hq18:=rb hA1;wi hq18<|c1 rfl (fun _=>kW) fun u7 s33=>fun hq18=>match u7,hq18 with | _,rfl=>kS rfl rfl (have hq19:=rn hA3;lV ((⟨false,(⟨0,0,0,0⟩:cM),0,0,(⟨0,0,0,0,0,0,0,0,0,false⟩:Sub),0,0,0,0⟩:bG):bG) bN (fun w=>fM (jQ (⟨false,(⟨0,0,0,0⟩:cM),0,0,(⟨0,0,0,0,0,0,0,0,0,false⟩:Sub),0,0,0,0⟩:bG)) w) rfl rfl rfl rfl rfl rfl rfl hq19 fun hq19 s34=>have hq20:=rb hA4;wi hq20<|c1 rfl (fun h=>bQ (h.a h1)) fun u8 s35=>fun hq20=>match u8,hq20 with | _,rfl=>wi hF<|pE (p:=((⟨x3,List.replicate ((2:Int).toNat) 0,List.replicate ((3:Int).toNat) (⟨false,(⟨0,0,0,0⟩:cM),0,0,(⟨0,0,0,0,0,0,0,0,0,false⟩:Sub),0,0,0,0⟩:bG),x4,[],0⟩:aE))) (s33.1,s33.2.1,s33.2.2.1,s33.2.2.2.1,s33.2.2.2.2.1,s33.2.2.2.2.2.1,s33.2.2.2.2.2.2,s32,s34,s35) [2,3,4,5,6,7,8,1,9,10,0] rfl rfl) (have hq21:=rb hA4;wi hq21<|c1 rfl (fun h=>bQ (h.a h1)) fun u9 s36=>fun hq21=>match u9,hq21 with | _,rfl=>have hq22:=rn hA3;lV ((⟨false,(⟨0,0,0,0⟩:cM),0,0,(⟨0,0,0,0,0,0,0,0,0,false⟩:Sub),0,0,0,0⟩:bG):bG) bN (fun w=>fM (jQ (⟨false,(⟨0,0,0,0⟩:cM),0,0,(⟨0,0,0,0,0,0,0,0,0,false⟩:Sub),0,0,0,0⟩:bG)) w) rfl rfl rfl rfl rfl rfl rfl hq22 fun hq22 s37=>wi hF<|pE (p:=((⟨x3,List.replicate ((2:Int).toNat) 0,List.replicate ((3:Int).toNat) (⟨false,(⟨0,0,0,0⟩:cM),0,0,(⟨0,0,0,0,0,0,0,0,0,false⟩:Sub),0,0,0,0⟩:bG),x4,[],0⟩:aE))) (s33.1,s33.2.1,s33.2.2.1,s33.2.2.2.1,s33.2.2.2.2.1,s33.2.2.2.2.2.1,s33.2.2.2.2.2.2,s32,s37,s36) [2,3,4,5,6,7,8,1,10,9,0] rfl rfl)) (have hq23:=rn hA3;lV ((⟨false,(⟨0,0,0,0⟩:cM),0,0,(⟨0,0,0,0,0,0,0,0,0,false⟩:Sub),0,0,0,0⟩:bG):bG) bN (fun w=>fM (jQ (⟨false,(⟨0,0,0,0⟩:cM),0,0,(⟨0,0,0,0,0,0,0,0,0,false⟩:Sub),0,0,0,0⟩:bG)) w) rfl rfl rfl rfl rfl rfl rfl hq23 fun hq23 s38=>have hq24:=rb hA1;wi hq24<|c1 rfl (fun _=>kW) fun u10 s39=>fun hq24=>match u10,hq24 with | _,rfl=>have hq25:=rb hA4;wi hq25<|c1 rfl (fun h=>bQ (h.a h1)) fun u11 s40=>fun hq25=>match u11,hq25 with | _,rfl=>wi hF<|pE (p:=((⟨x3,List.replicate ((2:Int).toNat) 0,List.replicate ((3:Int).toNat) (⟨false,(⟨0,0,0,0⟩:cM),0,0,(⟨0,0,0,0,0,0,0,0,0,false⟩:Sub),0,0,0,0⟩:bG),x4,[],0⟩:aE))) (s39.1,s39.2.1,s39.2.2.1,s39.2.2.2.1,s39.2.2.2.2.1,s39.2.2.2.2.2.1,s39.2.2.2.2.2.2,s32,s38,s40) [3,4,5,6,7,8,9,1,2,10,0] rfl rfl)) (have hq26:=rn hA3;lV ((⟨false,(⟨0,0,0,0⟩:cM),0,0,(⟨0,0,0,0,0,0,0,0,0,false⟩:Sub),0,0,0,0⟩:bG):bG) bN (fun w=>fM (jQ (⟨false,(⟨0,0,0,0⟩:cM),0,0,(⟨0,0,0,0,0,0,0,0,0,false⟩:Sub),0,0,0,0⟩:bG)) w) rfl rfl rfl rfl rfl rfl rfl hq26 fun hq26 s41=>kS rfl rfl (have hq27:=rb hA1;wi hq27<|c1 rfl (fun _=>kW) fun u12 s42=>fun hq27=>match u12,hq27 with | _,rfl=>kS rfl rfl (have hq28:=rn hA2;lV (0:Int) bD (fun w=>fM rfl w) rfl rfl rfl rfl rfl rfl rfl hq28 fun hq28 s43=>have hq29:=rb hA4;wi hq29<|c1 rfl (fun h=>bQ (h.a h1)) fun u13 s44=>fun hq29=>match u13,hq29 with | _,rfl=>wi hF<|pE (p:=((⟨x3,List.replicate ((2:Int).toNat) 0,List.replicate ((3:Int).toNat) (⟨false,(⟨0,0,0,0⟩:cM),0,0,(⟨0,0,0,0,0,0,0,0,0,false⟩:Sub),0,0,0,0⟩:bG),x4,[],0⟩:aE))) (s42.1,s42.2.1,s42.2.2.1,s42.2.2.2.1,s42.2.2.2.2.1,s42.2.2.2.2.2.1,s42.2.2.2.2.2.2,s43,s41,s44) [2,3,4,5,6,7,8,9,1,10,0] rfl rfl) (have hq30:=rb hA4;wi hq30<|c1 rfl (fun h=>bQ (h.a h1)) fun u14 s45=>fun hq30=>match u14,hq30 with | _,rfl=>have hq31:=rn hA2;lV (0:Int) bD (fun w=>fM rfl w) rfl rfl rfl rfl rfl rfl rfl hq31 fun hq31 s46=>wi hF<|pE (p:=((⟨x3,List.replicate ((2:Int).toNat) 0,List.replicate ((3:Int).toNat) (⟨false,(⟨0,0,0,0⟩:cM),0,0,(⟨0,0,0,0,0,0,0,0,0,false⟩:Sub),0,0,0,0⟩:bG),x4,[],0⟩:aE))) (s42.1,s42.2.1,s42.2.2.1,s42.2.2.2.1,s42.2.2.2.2.1,s42.2.2.2.2.2.1,s42.2.2.2.2.2.2,s46,s41,s45) [2,3,4,5,6,7,8,10,1,9,0] rfl rfl)) (have hq32:=rn hA2;lV (0:Int) bD (fun w=>fM rfl w) rfl rfl rfl rfl rfl rfl rfl hq32 fun hq32 s47=>have hq33:=rb hA1;wi hq33<|c1 rfl (fun _=>kW) fun u15 s48=>fun hq33=>match u15,hq33 with | _,rfl=>have hq34:=rb hA4;wi hq34<|c1 rfl (fun h=>bQ (h.a h1)) fun u16 s49=>fun hq34=>match u16,hq34 with | _,rfl=>wi hF<|pE (p:=((⟨x3,List.replicate ((2:Int).toNat) 0,List.replicate ((3:Int).toNat) (⟨false,(⟨0,0,0,0⟩:cM),0,0,(⟨0,0,0,0,0,0,0,0,0,false⟩:Sub),0,0,0,0⟩:bG),x4,[],0⟩:aE))) (s48.1,s48.2.1,s48.2.2.1,s48.2.2.2.1,s48.2.2.2.2.1,s48.2.2.2.2.2.1,s48.2.2.2.2.2.2,s47,s41,s49) [3,4,5,6,7,8,9,2,1,10,0] rfl rfl))) fun x2 ⟨s2,s3,s4,s5,s6,s7,s8,s9,s10,s11⟩=>fun hF=>sR rfl<|GA Ev<|nB (hT:=tok) (s2,s3,s4,s5,s6,s7,s8,s9,s10,s11,⟨none,0⟩) [0,1,2,3,4,5,6,7,8,9,11] hF rfl Tryz.results73 rfl rfl rfl rfl
theorem IC{x:dS}{s1 s2:AC}(h1:aQ κ s1 x.aU)(h2:aQ κ s2 x.bW):VS Tryz.prog κ 24 (pC x) [.g [.h s1 x.aU.length,.h s2 x.bW.length]] [] [] (fun r (y:AC)=>.h y r.length) (fun r y=>[ow y r]):=
 bM tok Tryz.call24 Tryz.func24 Tryz.results24 rfl rfl<|fun hF=>LR (α:=aE) kV rfl rfl rfl rfl fun s3=>wi hF<|c1 rfl (fun h=>IB (h.a h1)) fun x1 s4=>aV [13] rfl rfl (gL s3 [1] rfl rfl)<|c1 rfl (fun h=>rM (h.o 2 rfl) (h.o 3 rfl) (h.o 4 rfl) (h.o 5 rfl) (h.o 6 rfl) (h.o 7 rfl) (h.o 8 rfl) (h.o 9 rfl) (h.o 10 rfl) (h.o 11 rfl) (h.o 12 rfl)) fun x2 s5=>fun hF=>ltN AK [14,15,16,17,18,19,20,21,22,23,24] (x2) (s5.1,s5.2.1,s5.2.2.1,s5.2.2.2.1,s5.2.2.2.2.1,s5.2.2.2.2.2.1,s5.2.2.2.2.2.2.1,s5.2.2.2.2.2.2.2.1,s5.2.2.2.2.2.2.2.2.1,s5.2.2.2.2.2.2.2.2.2.1,s5.2.2.2.2.2.2.2.2.2.2) kV rfl rfl rfl rfl rfl rfl rfl rfl rfl rfl rfl rfl rfl fun s6=>apN 1 25 kV rfl rfl rfl rfl rfl rfl rfl rfl rfl rfl rfl hF fun hF s7=>wi hF<|mQ (s7,s4.1,s4.2.1,s4.2.2.1,s4.2.2.2.1,s4.2.2.2.2.1,s4.2.2.2.2.2.1,s4.2.2.2.2.2.2.1,s4.2.2.2.2.2.2.2.1,s4.2.2.2.2.2.2.2.2.1,s4.2.2.2.2.2.2.2.2.2.1,s4.2.2.2.2.2.2.2.2.2.2) [1,4] (fun(p:(List aE)×Int×aE) (u:AC×AC×AC×AC×AC×AC×AC×AC×AC×AC×AC×AC)=>[(3,.h u.1 p.1.length),(5,I p.2.1)]) [26,2,3,4,5,6,7,8,9,10,11,12,13,0] [0] (fun p u=>[ow u.1 (p.1:List aE),ow u.2.1 (p.2.2.aA.Mem.aC.Bytes:List Int),ow u.2.2.1 (p.2.2.aA.Mem.aC.Class:List Int),ow u.2.2.2.1 (p.2.2.aA.Mem.aB.Global:List aG),ow u.2.2.2.2.1 (p.2.2.aA.Mem.aB.bA:List aG),ow u.2.2.2.2.2.1 (p.2.2.aA.aD.aM:List cQ),ow u.2.2.2.2.2.2.1 (p.2.2.aA.aH:List aP),ow u.2.2.2.2.2.2.2.1 (p.2.2.aA.bO:List Int),ow u.2.2.2.2.2.2.2.2.1 (p.2.2.Cells:List Int),ow u.2.2.2.2.2.2.2.2.2.1 (p.2.2.aR:List bG),ow u.2.2.2.2.2.2.2.2.2.2.1 (p.2.2.aU:List Queue),ow u.2.2.2.2.2.2.2.2.2.2.2 (p.2.2.Log:List Ev),.box 1 [.h u.2.1 p.2.2.aA.Mem.aC.Bytes.length,.h u.2.2.1 p.2.2.aA.Mem.aC.Class.length,.h u.2.2.2.1 p.2.2.aA.Mem.aB.Global.length,.h u.2.2.2.2.1 p.2.2.aA.Mem.aB.bA.length,I p.2.2.aA.aD.aJ,.h u.2.2.2.2.2.1 p.2.2.aA.aD.aM.length,.h u.2.2.2.2.2.2.1 p.2.2.aA.aH.length,.h u.2.2.2.2.2.2.2.1 p.2.2.aA.bO.length,.h u.2.2.2.2.2.2.2.2.1 p.2.2.Cells.length,.h u.2.2.2.2.2.2.2.2.2.1 p.2.2.aR.length,.h u.2.2.2.2.2.2.2.2.2.2.1 p.2.2.aU.length,.h u.2.2.2.2.2.2.2.2.2.2.2 p.2.2.Log.length,I p.2.2.aK]]) id [] (fun(x9:(List aE)) (s32:AC)=>[(3,.h s32 x9.length)]) [] (fun x9 s32=>[ow s32 (x9:List aE)]) rfl rfl (fun hF1 ⟨x6,x7,x8⟩ ⟨s20,s21,s22,s23,s24,s25,s26,s27,s28,s29,s30,s31⟩ hr1=>mH 0 2 (fun(p:Bool×aE)=>gK x x6 x7 p.1 p.2) [1,3,4,5] (fun(p:Bool×aE) (_:Unit)=>[(28,.b p.1)]) [0,13] (fun p _=>[ow s21 (p.2.aA.Mem.aC.Bytes:List Int),ow s22 (p.2.aA.Mem.aC.Class:List Int),ow s23 (p.2.aA.Mem.aB.Global:List aG),ow s24 (p.2.aA.Mem.aB.bA:List aG),ow s25 (p.2.aA.aD.aM:List cQ),ow s26 (p.2.aA.aH:List aP),ow s27 (p.2.aA.bO:List Int),ow s28 (p.2.Cells:List Int),ow s29 (p.2.aR:List bG),ow s30 (p.2.aU:List Queue),ow s31 (p.2.Log:List Ev),.box 1 [.h s21 p.2.aA.Mem.aC.Bytes.length,.h s22 p.2.aA.Mem.aC.Class.length,.h s23 p.2.aA.Mem.aB.Global.length,.h s24 p.2.aA.Mem.aB.bA.length,I p.2.aA.aD.aJ,.h s25 p.2.aA.aD.aM.length,.h s26 p.2.aA.aH.length,.h s27 p.2.aA.bO.length,.h s28 p.2.Cells.length,.h s29 p.2.aR.length,.h s30 p.2.aU.length,.h s31 p.2.Log.length,I p.2.aK]]) rfl (fN [24,25] rfl rfl (cR (p:=(decide (x7 < 400),x8)) [1,2,3,4,5,6,7,8,9,10,11,12,0,13] rfl rfl)<|cR (p:=(false,x8)) [1,2,3,4,5,6,7,8,9,10,11,12,0,13] rfl rfl) fun⟨x10,x11⟩ _=>aV [28] rfl rfl (mH 2 2 (fun(p:(List aE)×aE)=>iZ x7 p.1 p.2) [1,4,5] (fun(p:(List aE)×aE) (u:AC×AC×AC×AC×AC×AC×AC×AC×AC×AC×AC×AC)=>[(3,.h u.1 p.1.length)]) [13] (fun p u=>[ow u.1 (p.1:List aE),ow u.2.1 (p.2.aA.Mem.aC.Bytes:List Int),ow u.2.2.1 (p.2.aA.Mem.aC.Class:List Int),ow u.2.2.2.1 (p.2.aA.Mem.aB.Global:List aG),ow u.2.2.2.2.1 (p.2.aA.Mem.aB.bA:List aG),ow u.2.2.2.2.2.1 (p.2.aA.aD.aM:List cQ),ow u.2.2.2.2.2.2.1 (p.2.aA.aH:List aP),ow u.2.2.2.2.2.2.2.1 (p.2.aA.bO:List Int),ow u.2.2.2.2.2.2.2.2.1 (p.2.Cells:List Int),ow u.2.2.2.2.2.2.2.2.2.1 (p.2.aR:List bG),ow u.2.2.2.2.2.2.2.2.2.2.1 (p.2.aU:List Queue),ow u.2.2.2.2.2.2.2.2.2.2.2 (p.2.Log:List Ev),.box 1 [.h u.2.1 p.2.aA.Mem.aC.Bytes.length,.h u.2.2.1 p.2.aA.Mem.aC.Class.length,.h u.2.2.2.1 p.2.aA.Mem.aB.Global.length,.h u.2.2.2.2.1 p.2.aA.Mem.aB.bA.length,I p.2.aA.aD.aJ,.h u.2.2.2.2.2.1 p.2.aA.aD.aM.length,.h u.2.2.2.2.2.2.1 p.2.aA.aH.length,.h u.2.2.2.2.2.2.2.1 p.2.aA.bO.length,.h u.2.2.2.2.2.2.2.2.1 p.2.Cells.length,.h u.2.2.2.2.2.2.2.2.2.1 p.2.aR.length,.h u.2.2.2.2.2.2.2.2.2.2.1 p.2.aU.length,.h u.2.2.2.2.2.2.2.2.2.2.2 p.2.Log.length,I p.2.aK]]) rfl (UT rfl h2 rfl fun x14=>c0 rfl (fun _=>cB) fun x15=>aV [36] rfl rfl (jP aL [13,14] rfl<|UT rfl h2 rfl fun x16=>fZ [0,1,2,3,4,5,6,7,8,9,10] rfl rfl rfl rfl (fun _=>G0) fun x17 s45=>c1 rfl (fun h=>rM (h.o 16 rfl) (h.o 17 rfl) (h.o 18 rfl) (h.o 19 rfl) (h.o 20 rfl) (h.o 21 rfl) (h.o 22 rfl) (h.o 23 rfl) (h.o 24 rfl) (h.o 25 rfl) (h.o 26 rfl)) fun x18 s46=>fun hG1=>ltN AK [27,28,29,30,31,32,33,34,35,36,37] (x18) (s46.1,s46.2.1,s46.2.2.1,s46.2.2.2.1,s46.2.2.2.2.1,s46.2.2.2.2.2.1,s46.2.2.2.2.2.2.1,s46.2.2.2.2.2.2.2.1,s46.2.2.2.2.2.2.2.2.1,s46.2.2.2.2.2.2.2.2.2.1,s46.2.2.2.2.2.2.2.2.2.2) kV rfl rfl rfl rfl rfl rfl rfl rfl rfl rfl rfl rfl rfl fun s47=>apN 12 38 kV rfl rfl rfl rfl rfl rfl rfl rfl rfl rfl rfl hG1 fun hG1 s48=>wi hG1<|pE (p:=(x6++([x18]),x17)) (s48,s45.1,s45.2.1,s45.2.2.1,s45.2.2.2.1,s45.2.2.2.2.1,s45.2.2.2.2.2.1,s45.2.2.2.2.2.2.1,s45.2.2.2.2.2.2.2.1,s45.2.2.2.2.2.2.2.2.1,s45.2.2.2.2.2.2.2.2.2.1,s45.2.2.2.2.2.2.2.2.2.2) [39,16,17,18,19,20,21,22,23,24,25,26,11,13] rfl rfl)<|pE (p:=(x6,x11)) (s20,s21,s22,s23,s24,s25,s26,s27,s28,s29,s30,s31) [12,0,1,2,3,4,5,6,7,8,9,10,11,13] rfl rfl) fun⟨x12,x13⟩ ⟨s33,s34,s35,s36,s37,s38,s39,s40,s41,s42,s43,s44⟩=>nxW (s33,s34,s35,s36,s37,s38,s39,s40,s41,s42,s43,s44) [0,1,2,3,4,5,6,7,8,9,10,11,12,13] rfl)<|bkW s20 [12] rfl) fun x9 s32=>gL s32 [0] rfl rfl
theorem nW{a_:dS}{s1 s2:AC}(h1:aQ κ s1 a_.aU)(h2:aQ κ s2 a_.bW):VS Tryz.prog κ 25 (fV a_) [.g [.h s1 a_.aU.length,.h s2 a_.bW.length]] [] [] (fun r (y:AC×AC)=>.g [.h y.1 r.aU.length,.h y.2 r.bW.length]) (fun r y=>[ow y.1 r.aU,ow y.2 r.bW]):=
 bM tok Tryz.call25 Tryz.func25 Tryz.results25 rfl rfl<|c1 rfl (fun h=>y7 (h.a h1)) fun x1 s3=>c1 rfl (fun h=>iG (h.a h2)) fun x2 s4=>gL (s3,s4) [3,4] rfl rfl
theorem lH{x:List Int}{count:Int}{s1:AC}(h1:aQ κ s1 x):VS Tryz.prog κ 355 (kB x count) [.h s1 x.length,I count] [] [] (fun r (y:AC)=>.h y r.length) (fun r y=>[ow y r]):=
 bM tok Tryz.call355 Tryz.func355 Tryz.results355 rfl rfl<|aV [10] rfl rfl (fun hF=>nomatch hF)<|c0 rfl (fun _=>zM) fun x1=>fS 0 0 (iC x x1) [0,6] 26 [] rfl (fN [22,23] rfl rfl (cR [] rfl rfl)<|cR [] rfl rfl) fun x2=>aV [26] rfl rfl (fun hF=>nomatch hF)<|fun hF=>lV (0:Int) bD (fun w=>fM rfl w) rfl rfl rfl rfl rfl rfl rfl hF fun hF s2=>cp0 (xs:=x) 0 (fun h=>(h.a h1)) rfl rfl rfl rfl rfl rfl rfl rfl<|rr s2 (jX (xs:=x) (Nat.zero_le _)).symm [7,30,31] [] [] rfl rfl rfl rfl<|wi hF<|mQ () [] (fun(p:(List Int)×Int) (_:Unit)=>[(7,.h s2 p.1.length),(8,I p.2)]) [0] [] (fun p _=>[ow s2 (p.1:List Int)]) id [] (fun(x7:(List Int)) (_:Unit)=>[(7,.h s2 x7.length)]) [] (fun x7 _=>[ow s2 (x7:List Int)]) rfl rfl (fun hF2 ⟨x5,x6⟩ _ hr2=>aV [37] rfl rfl (jP aL [] rfl<|fun hG2=>cpc 0 rfl rfl fun hc1=>aKM hc1 rfl rfl rfl rfl rfl rfl hG2 fun hG2 h2=>aTK hc1 rfl rfl rfl rfl rfl rfl hG2 fun hG2 h3=>cpy (xs:=(x5.take x6.toNat).drop 0) 0 x6.toNat h2 (fun h=>((h.o 0 rfl).sub (US h3.1 h3.2) h3)) rfl rfl rfl rfl rfl rfl rfl rfl<|rr s2 (jX (xs:=(x5.take x6.toNat).drop 0) h2.1).symm [7,35,39,42] [] [] rfl rfl rfl rfl<|wi hG2<|pX [0] rfl)<|jE [0] rfl) fun x7 _=>gL s2 [0] rfl rfl
theorem KA:VS Tryz.prog κ 300 rE [] [] [] (fun r (y:AC×AC)=>.g [.h y.1 r.Bytes.length,.h y.2 r.Class.length]) (fun r y=>[ow y.1 r.Bytes,ow y.2 r.Class]):=
 bM tok Tryz.call300 Tryz.func300 Tryz.results300 rfl rfl<|mH 0 1 vY [0] (fun(x1:(List Int)) (u:AC×AC)=>[]) [] (fun x1 u=>[ow u.1 (List.replicate ((384:Int).toNat) 0:List Int),ow u.2 (x1:List Int),.box 0 [.h u.1 (List.replicate ((384:Int).toNat) 0).length,.h u.2 x1.length]]) rfl (jP aL [] rfl<|fun hF=>nd hF fun hA1 hF=>bd hF fun x2 hA2 hF=>kS rfl rfl (have hq1:=rn hA1;lV (0:Int) bD (fun w=>fM rfl w) rfl rfl rfl rfl rfl rfl rfl hq1 fun hq1 s6=>lt1 rfl bD rfl rfl rfl rfl fun s7=>have hq2:=rb hA2;wi hq2<|c1 rfl (fun h=>lH (h.o 2 rfl)) fun u1 s8=>fun hq2=>match u1,hq2 with | _,rfl=>wi hF<|pE (p:=(x2)) (s6,s8) [1,3,0] rfl rfl) (lt1 rfl bD rfl rfl rfl rfl fun s9=>kS rfl rfl (have hq3:=rn hA1;lV (0:Int) bD (fun w=>fM rfl w) rfl rfl rfl rfl rfl rfl rfl hq3 fun hq3 s10=>have hq4:=rb hA2;wi hq4<|c1 rfl (fun h=>lH (h.o 1 rfl)) fun u2 s11=>fun hq4=>match u2,hq4 with | _,rfl=>wi hF<|pE (p:=(x2)) (s10,s11) [2,3,0] rfl rfl) (have hq5:=rb hA2;wi hq5<|c1 rfl (fun h=>lH (h.o 1 rfl)) fun u3 s12=>fun hq5=>match u3,hq5 with | _,rfl=>have hq6:=rn hA1;lV (0:Int) bD (fun w=>fM rfl w) rfl rfl rfl rfl rfl rfl rfl hq6 fun hq6 s13=>wi hF<|pE (p:=(x2)) (s13,s12) [3,2,0] rfl rfl))) fun x1 ⟨s1,s2⟩=>gL (s1,s2) [0,1] rfl rfl
theorem ID:VS Tryz.prog κ 301 tD [] [] [] (fun r (y:AC×AC)=>.g [.h y.1 r.Global.length,.h y.2 r.bA.length]) (fun r y=>[ow y.1 r.Global,ow y.2 r.bA]):=
 bM tok Tryz.call301 Tryz.func301 Tryz.results301 rfl rfl<|mH 0 1 (fun(_:Unit)=>uG) [0] (fun(_:Unit) (u:AC×AC)=>[]) [] (fun _ u=>[ow u.1 (List.replicate ((3:Int).toNat) (⟨[]⟩:aG):List aG),ow u.2 (List.replicate ((9:Int).toNat) (⟨[]⟩:aG):List aG),.box 0 [.h u.1 (List.replicate ((3:Int).toNat) (⟨[]⟩:aG)).length,.h u.2 (List.replicate ((9:Int).toNat) (⟨[]⟩:aG)).length]]) rfl (jP aL [] rfl<|fun hF=>nd hF fun hA1 hF=>nd hF fun hA2 hF=>kS rfl rfl (have hq1:=rn hA1;lV ((⟨[]⟩:aG):aG) dN (fun _=>(lJ (mW (⟨[]⟩:aG)) (uN GC))) rfl rfl rfl rfl rfl rfl rfl hq1 fun hq1 s5=>have hq2:=rn hA2;lV ((⟨[]⟩:aG):aG) dN (fun _=>(lJ (mW (⟨[]⟩:aG)) (uN GC))) rfl rfl rfl rfl rfl rfl rfl hq2 fun hq2 s6=>wi hF<|pE (p:=()) (s5,s6) [1,2,0] rfl rfl) (have hq3:=rn hA2;lV ((⟨[]⟩:aG):aG) dN (fun _=>(lJ (mW (⟨[]⟩:aG)) (uN GC))) rfl rfl rfl rfl rfl rfl rfl hq3 fun hq3 s7=>have hq4:=rn hA1;lV ((⟨[]⟩:aG):aG) dN (fun _=>(lJ (mW (⟨[]⟩:aG)) (uN GC))) rfl rfl rfl rfl rfl rfl rfl hq4 fun hq4 s8=>wi hF<|pE (p:=()) (s8,s7) [2,1,0] rfl rfl)) fun _ ⟨s1,s2⟩=>gL (s1,s2) [0,1] rfl rfl
theorem MX:VS Tryz.prog κ 233 yB [] [] [] (fun r (y:AC×AC×AC×AC)=>.g [.h y.1 r.aC.Bytes.length,.h y.2.1 r.aC.Class.length,.h y.2.2.1 r.aB.Global.length,.h y.2.2.2 r.aB.bA.length]) (fun r y=>[ow y.1 r.aC.Bytes,ow y.2.1 r.aC.Class,ow y.2.2.1 r.aB.Global,ow y.2.2.2 r.aB.bA]):=
 bM tok Tryz.call233 Tryz.func233 Tryz.results233 rfl rfl<|c1 rfl (fun _=>KA) fun x1 s1=>c1 rfl (fun _=>ID) fun x2 s2=>gL (s1.1,s1.2,s2.1,s2.2) [1,2,3,4] rfl rfl
theorem IE:VS Tryz.prog κ 234 tE [] [] [] (fun r (y:AC)=>.g [I r.aJ,.h y r.aM.length]) (fun r y=>[ow y r.aM]):=
 bM tok Tryz.call234 Tryz.func234 Tryz.results234 rfl rfl<|fun hF=>lV ((⟨false,0,false,0⟩:cQ):cQ) sO (fun w=>fM (ZD (⟨false,0,false,0⟩:cQ)) w) rfl rfl rfl rfl rfl rfl rfl hF fun hF s1=>wi hF<|gL s1 [1] rfl rfl
theorem IF:VS Tryz.prog κ 235 tF [] [] [] (fun r (y:AC)=>.h y r.length) (fun r y=>[ow y r]):=
 bM tok Tryz.call235 Tryz.func235 Tryz.results235 rfl rfl<|fun hF=>lV ((⟨[]⟩:aP):aP) qP (fun _=>(lJ (JB (⟨[]⟩:aP)) (uN GC))) rfl rfl rfl rfl rfl rfl rfl hF fun hF s1=>wi hF<|gL s1 [0] rfl rfl
theorem MY:VS Tryz.prog κ 236 yC [] [] [] (fun r (y:AC)=>.h y r.length) (fun r y=>[ow y r]):=
 bM tok Tryz.call236 Tryz.func236 Tryz.results236 rfl rfl<|fun hF=>lV (0:Int) bD (fun w=>fM rfl w) rfl rfl rfl rfl rfl rfl rfl hF fun hF s1=>wi hF<|gL s1 [0] rfl rfl
theorem kX:VS Tryz.prog κ 146 rF [] [] [] (fun r (y:AC×AC×AC×AC×AC×AC×AC)=>.g [.h y.1 r.Mem.aC.Bytes.length,.h y.2.1 r.Mem.aC.Class.length,.h y.2.2.1 r.Mem.aB.Global.length,.h y.2.2.2.1 r.Mem.aB.bA.length,I r.aD.aJ,.h y.2.2.2.2.1 r.aD.aM.length,.h y.2.2.2.2.2.1 r.aH.length,.h y.2.2.2.2.2.2 r.bO.length]) (fun r y=>[ow y.1 r.Mem.aC.Bytes,ow y.2.1 r.Mem.aC.Class,ow y.2.2.1 r.Mem.aB.Global,ow y.2.2.2.1 r.Mem.aB.bA,ow y.2.2.2.2.1 r.aD.aM,ow y.2.2.2.2.2.1 r.aH,ow y.2.2.2.2.2.2 r.bO]):=
 bM tok Tryz.call146 Tryz.func146 Tryz.results146 rfl rfl<|c1 rfl (fun _=>MX) fun x1 s1=>c1 rfl (fun _=>IE) fun x2 s2=>c1 rfl (fun _=>IF) fun x3 s3=>c1 rfl (fun _=>MY) fun x4 s4=>gL (s1.1,s1.2.1,s1.2.2.1,s1.2.2.2,s2,s3,s4) [1,2,3,4,5,6,7] rfl rfl
theorem IG{todo:List Queue}{s1:AC}(h1:aQ κ s1 todo):VS Tryz.prog κ 74 (pD todo) [.h s1 todo.length] [] [] (fun r (y:AC×AC×AC×AC×AC×AC×AC×AC×AC×AC×AC)=>.g [.h y.1 r.aA.Mem.aC.Bytes.length,.h y.2.1 r.aA.Mem.aC.Class.length,.h y.2.2.1 r.aA.Mem.aB.Global.length,.h y.2.2.2.1 r.aA.Mem.aB.bA.length,I r.aA.aD.aJ,.h y.2.2.2.2.1 r.aA.aD.aM.length,.h y.2.2.2.2.2.1 r.aA.aH.length,.h y.2.2.2.2.2.2.1 r.aA.bO.length,.h y.2.2.2.2.2.2.2.1 r.Cells.length,.h y.2.2.2.2.2.2.2.2.1 r.aR.length,.h y.2.2.2.2.2.2.2.2.2.1 r.aU.length,.h y.2.2.2.2.2.2.2.2.2.2 r.Log.length,I r.aK]) (fun r y=>[ow y.1 r.aA.Mem.aC.Bytes,ow y.2.1 r.aA.Mem.aC.Class,ow y.2.2.1 r.aA.Mem.aB.Global,ow y.2.2.2.1 r.aA.Mem.aB.bA,ow y.2.2.2.2.1 r.aA.aD.aM,ow y.2.2.2.2.2.1 r.aA.aH,ow y.2.2.2.2.2.2.1 r.aA.bO,ow y.2.2.2.2.2.2.2.1 r.Cells,ow y.2.2.2.2.2.2.2.2.1 r.aR,ow y.2.2.2.2.2.2.2.2.2.1 r.aU,ow y.2.2.2.2.2.2.2.2.2.2 r.Log]):=
 bM tok Tryz.call74 Tryz.func74 Tryz.results74 rfl rfl<|c0 rfl (fun h=>D0 (h.a h1)) fun x1=>aV [5] rfl rfl (fun hF=>sR rfl<|GA Int<|GA Int<|GA aG<|GA aG<|GA cQ<|GA aP<|GA Int<|GA Int<|GA bG<|GA Queue<|GA Ev<|nB (hT:=tok) (⟨none,0⟩,⟨none,0⟩,⟨none,0⟩,⟨none,0⟩,⟨none,0⟩,⟨none,0⟩,⟨none,0⟩,⟨none,0⟩,⟨none,0⟩,⟨none,0⟩,⟨none,0⟩) [1,2,3,4,5,6,7,8,9,10,11] hF rfl Tryz.results74 rfl rfl rfl rfl)<|mH 0 1 uH [2] (fun(x2:aE) (u:AC×AC×AC×AC×AC×AC×AC×AC×AC×AC)=>[]) [] (fun x2 u=>[ow u.1 (x2.aA.Mem.aC.Bytes:List Int),ow u.2.1 (x2.aA.Mem.aC.Class:List Int),ow u.2.2.1 (x2.aA.Mem.aB.Global:List aG),ow u.2.2.2.1 (x2.aA.Mem.aB.bA:List aG),ow u.2.2.2.2.1 (x2.aA.aD.aM:List cQ),ow u.2.2.2.2.2.1 (x2.aA.aH:List aP),ow u.2.2.2.2.2.2.1 (x2.aA.bO:List Int),ow u.2.2.2.2.2.2.2.1 (x2.Cells:List Int),ow u.2.2.2.2.2.2.2.2.1 (x2.aR:List bG),ow u.2.2.2.2.2.2.2.2.2 (x2.aU:List Queue),.box 0 [.h u.1 x2.aA.Mem.aC.Bytes.length,.h u.2.1 x2.aA.Mem.aC.Class.length,.h u.2.2.1 x2.aA.Mem.aB.Global.length,.h u.2.2.2.1 x2.aA.Mem.aB.bA.length,I x2.aA.aD.aJ,.h u.2.2.2.2.1 x2.aA.aD.aM.length,.h u.2.2.2.2.2.1 x2.aA.aH.length,.h u.2.2.2.2.2.2.1 x2.aA.bO.length,.h u.2.2.2.2.2.2.2.1 x2.Cells.length,.h u.2.2.2.2.2.2.2.2.1 x2.aR.length,.h u.2.2.2.2.2.2.2.2.2 x2.aU.length,.h ⟨none,0⟩ 0,I x2.aK]]) rfl (jP aL [] rfl<|fun hF=>bd hF fun x3 hA1 hF=>nd hF fun hA2 hF=>nd hF fun hA3 hF=>bd hF fun x4 hA4 hF=>aHL rfl rfl (have hq1:=rb hA1;wi hq1<|c1 rfl (fun _=>kX) fun u1 s16=>fun hq1=>match u1,hq1 with | _,rfl=>aHL rfl rfl (have hq2:=rn hA2;lV (0:Int) bD (fun w=>fM rfl w) rfl rfl rfl rfl rfl rfl rfl hq2 fun hq2 s17=>kS rfl rfl (have hq3:=rn hA3;lV ((⟨false,(⟨0,0,0,0⟩:cM),0,0,(⟨0,0,0,0,0,0,0,0,0,false⟩:Sub),0,0,0,0⟩:bG):bG) bN (fun w=>fM (jQ (⟨false,(⟨0,0,0,0⟩:cM),0,0,(⟨0,0,0,0,0,0,0,0,0,false⟩:Sub),0,0,0,0⟩:bG)) w) rfl rfl rfl rfl rfl rfl rfl hq3 fun hq3 s18=>have hq4:=rb hA4;wi hq4<|c1 rfl (fun h=>cY (h.a h1)) fun u2 s19=>fun hq4=>match u2,hq4 with | _,rfl=>wi hF<|pE (p:=((⟨x3,List.replicate ((2:Int).toNat) 0,List.replicate ((3:Int).toNat) (⟨false,(⟨0,0,0,0⟩:cM),0,0,(⟨0,0,0,0,0,0,0,0,0,false⟩:Sub),0,0,0,0⟩:bG),x4,[],0⟩:aE))) (s16.1,s16.2.1,s16.2.2.1,s16.2.2.2.1,s16.2.2.2.2.1,s16.2.2.2.2.2.1,s16.2.2.2.2.2.2,s17,s18,s19) [1,2,3,4,5,6,7,8,9,10,0] rfl rfl) (have hq5:=rb hA4;wi hq5<|c1 rfl (fun h=>cY (h.a h1)) fun u3 s20=>fun hq5=>match u3,hq5 with | _,rfl=>have hq6:=rn hA3;lV ((⟨false,(⟨0,0,0,0⟩:cM),0,0,(⟨0,0,0,0,0,0,0,0,0,false⟩:Sub),0,0,0,0⟩:bG):bG) bN (fun w=>fM (jQ (⟨false,(⟨0,0,0,0⟩:cM),0,0,(⟨0,0,0,0,0,0,0,0,0,false⟩:Sub),0,0,0,0⟩:bG)) w) rfl rfl rfl rfl rfl rfl rfl hq6 fun hq6 s21=>wi hF<|pE (p:=((⟨x3,List.replicate ((2:Int).toNat) 0,List.replicate ((3:Int).toNat) (⟨false,(⟨0,0,0,0⟩:cM),0,0,(⟨0,0,0,0,0,0,0,0,0,false⟩:Sub),0,0,0,0⟩:bG),x4,[],0⟩:aE))) (s16.1,s16.2.1,s16.2.2.1,s16.2.2.2.1,s16.2.2.2.2.1,s16.2.2.2.2.2.1,s16.2.2.2.2.2.2,s17,s21,s20) [1,2,3,4,5,6,7,8,10,9,0] rfl rfl)) (have hq7:=rn hA3;lV ((⟨false,(⟨0,0,0,0⟩:cM),0,0,(⟨0,0,0,0,0,0,0,0,0,false⟩:Sub),0,0,0,0⟩:bG):bG) bN (fun w=>fM (jQ (⟨false,(⟨0,0,0,0⟩:cM),0,0,(⟨0,0,0,0,0,0,0,0,0,false⟩:Sub),0,0,0,0⟩:bG)) w) rfl rfl rfl rfl rfl rfl rfl hq7 fun hq7 s22=>kS rfl rfl (have hq8:=rn hA2;lV (0:Int) bD (fun w=>fM rfl w) rfl rfl rfl rfl rfl rfl rfl hq8 fun hq8 s23=>have hq9:=rb hA4;wi hq9<|c1 rfl (fun h=>cY (h.a h1)) fun u4 s24=>fun hq9=>match u4,hq9 with | _,rfl=>wi hF<|pE (p:=((⟨x3,List.replicate ((2:Int).toNat) 0,List.replicate ((3:Int).toNat) (⟨false,(⟨0,0,0,0⟩:cM),0,0,(⟨0,0,0,0,0,0,0,0,0,false⟩:Sub),0,0,0,0⟩:bG),x4,[],0⟩:aE))) (s16.1,s16.2.1,s16.2.2.1,s16.2.2.2.1,s16.2.2.2.2.1,s16.2.2.2.2.2.1,s16.2.2.2.2.2.2,s23,s22,s24) [1,2,3,4,5,6,7,9,8,10,0] rfl rfl) (have hq10:=rb hA4;wi hq10<|c1 rfl (fun h=>cY (h.a h1)) fun u5 s25=>fun hq10=>match u5,hq10 with | _,rfl=>have hq11:=rn hA2;lV (0:Int) bD (fun w=>fM rfl w) rfl rfl rfl rfl rfl rfl rfl hq11 fun hq11 s26=>wi hF<|pE (p:=((⟨x3,List.replicate ((2:Int).toNat) 0,List.replicate ((3:Int).toNat) (⟨false,(⟨0,0,0,0⟩:cM),0,0,(⟨0,0,0,0,0,0,0,0,0,false⟩:Sub),0,0,0,0⟩:bG),x4,[],0⟩:aE))) (s16.1,s16.2.1,s16.2.2.1,s16.2.2.2.1,s16.2.2.2.2.1,s16.2.2.2.2.2.1,s16.2.2.2.2.2.2,s26,s22,s25) [1,2,3,4,5,6,7,10,8,9,0] rfl rfl)) (have hq12:=rb hA4;wi hq12<|c1 rfl (fun h=>cY (h.a h1)) fun u6 s27=>fun hq12=>match u6,hq12 with | _,rfl=>kS rfl rfl (have hq13:=rn hA2;lV (0:Int) bD (fun w=>fM rfl w) rfl rfl rfl rfl rfl rfl rfl hq13 fun hq13 s28=>have hq14:=rn hA3;lV ((⟨false,(⟨0,0,0,0⟩:cM),0,0,(⟨0,0,0,0,0,0,0,0,0,false⟩:Sub),0,0,0,0⟩:bG):bG) bN (fun w=>fM (jQ (⟨false,(⟨0,0,0,0⟩:cM),0,0,(⟨0,0,0,0,0,0,0,0,0,false⟩:Sub),0,0,0,0⟩:bG)) w) rfl rfl rfl rfl rfl rfl rfl hq14 fun hq14 s29=>wi hF<|pE (p:=((⟨x3,List.replicate ((2:Int).toNat) 0,List.replicate ((3:Int).toNat) (⟨false,(⟨0,0,0,0⟩:cM),0,0,(⟨0,0,0,0,0,0,0,0,0,false⟩:Sub),0,0,0,0⟩:bG),x4,[],0⟩:aE))) (s16.1,s16.2.1,s16.2.2.1,s16.2.2.2.1,s16.2.2.2.2.1,s16.2.2.2.2.2.1,s16.2.2.2.2.2.2,s28,s29,s27) [1,2,3,4,5,6,7,9,10,8,0] rfl rfl) (have hq15:=rn hA3;lV ((⟨false,(⟨0,0,0,0⟩:cM),0,0,(⟨0,0,0,0,0,0,0,0,0,false⟩:Sub),0,0,0,0⟩:bG):bG) bN (fun w=>fM (jQ (⟨false,(⟨0,0,0,0⟩:cM),0,0,(⟨0,0,0,0,0,0,0,0,0,false⟩:Sub),0,0,0,0⟩:bG)) w) rfl rfl rfl rfl rfl rfl rfl hq15 fun hq15 s30=>have hq16:=rn hA2;lV (0:Int) bD (fun w=>fM rfl w) rfl rfl rfl rfl rfl rfl rfl hq16 fun hq16 s31=>wi hF<|pE (p:=((⟨x3,List.replicate ((2:Int).toNat) 0,List.replicate ((3:Int).toNat) (⟨false,(⟨0,0,0,0⟩:cM),0,0,(⟨0,0,0,0,0,0,0,0,0,false⟩:Sub),0,0,0,0⟩:bG),x4,[],0⟩:aE))) (s16.1,s16.2.1,s16.2.2.1,s16.2.2.2.1,s16.2.2.2.2.1,s16.2.2.2.2.2.1,s16.2.2.2.2.2.2,s31,s30,s27) [1,2,3,4,5,6,7,10,9,8,0] rfl rfl))) (have hq17:=rn hA2;lV (0:Int) bD (fun w=>fM rfl w) rfl rfl rfl rfl rfl rfl rfl hq17 fun hq17 s32=>kS rfl rfl (have hq18:=rb hA1;wi hq18<|c1 rfl (fun _=>kX) fun u7 s33=>fun hq18=>match u7,hq18 with | _,rfl=>kS rfl rfl (have hq19:=rn hA3;lV ((⟨false,(⟨0,0,0,0⟩:cM),0,0,(⟨0,0,0,0,0,0,0,0,0,false⟩:Sub),0,0,0,0⟩:bG):bG) bN (fun w=>fM (jQ (⟨false,(⟨0,0,0,0⟩:cM),0,0,(⟨0,0,0,0,0,0,0,0,0,false⟩:Sub),0,0,0,0⟩:bG)) w) rfl rfl rfl rfl rfl rfl rfl hq19 fun hq19 s34=>have hq20:=rb hA4;wi hq20<|c1 rfl (fun h=>cY (h.a h1)) fun u8 s35=>fun hq20=>match u8,hq20 with | _,rfl=>wi hF<|pE (p:=((⟨x3,List.replicate ((2:Int).toNat) 0,List.replicate ((3:Int).toNat) (⟨false,(⟨0,0,0,0⟩:cM),0,0,(⟨0,0,0,0,0,0,0,0,0,false⟩:Sub),0,0,0,0⟩:bG),x4,[],0⟩:aE))) (s33.1,s33.2.1,s33.2.2.1,s33.2.2.2.1,s33.2.2.2.2.1,s33.2.2.2.2.2.1,s33.2.2.2.2.2.2,s32,s34,s35) [2,3,4,5,6,7,8,1,9,10,0] rfl rfl) (have hq21:=rb hA4;wi hq21<|c1 rfl (fun h=>cY (h.a h1)) fun u9 s36=>fun hq21=>match u9,hq21 with | _,rfl=>have hq22:=rn hA3;lV ((⟨false,(⟨0,0,0,0⟩:cM),0,0,(⟨0,0,0,0,0,0,0,0,0,false⟩:Sub),0,0,0,0⟩:bG):bG) bN (fun w=>fM (jQ (⟨false,(⟨0,0,0,0⟩:cM),0,0,(⟨0,0,0,0,0,0,0,0,0,false⟩:Sub),0,0,0,0⟩:bG)) w) rfl rfl rfl rfl rfl rfl rfl hq22 fun hq22 s37=>wi hF<|pE (p:=((⟨x3,List.replicate ((2:Int).toNat) 0,List.replicate ((3:Int).toNat) (⟨false,(⟨0,0,0,0⟩:cM),0,0,(⟨0,0,0,0,0,0,0,0,0,false⟩:Sub),0,0,0,0⟩:bG),x4,[],0⟩:aE))) (s33.1,s33.2.1,s33.2.2.1,s33.2.2.2.1,s33.2.2.2.2.1,s33.2.2.2.2.2.1,s33.2.2.2.2.2.2,s32,s37,s36) [2,3,4,5,6,7,8,1,10,9,0] rfl rfl)) (have hq23:=rn hA3;lV ((⟨false,(⟨0,0,0,0⟩:cM),0,0,(⟨0,0,0,0,0,0,0,0,0,false⟩:Sub),0,0,0,0⟩:bG):bG) bN (fun w=>fM (jQ (⟨false,(⟨0,0,0,0⟩:cM),0,0,(⟨0,0,0,0,0,0,0,0,0,false⟩:Sub),0,0,0,0⟩:bG)) w) rfl rfl rfl rfl rfl rfl rfl hq23 fun hq23 s38=>have hq24:=rb hA1;wi hq24<|c1 rfl (fun _=>kX) fun u10 s39=>fun hq24=>match u10,hq24 with | _,rfl=>have hq25:=rb hA4;wi hq25<|c1 rfl (fun h=>cY (h.a h1)) fun u11 s40=>fun hq25=>match u11,hq25 with | _,rfl=>wi hF<|pE (p:=((⟨x3,List.replicate ((2:Int).toNat) 0,List.replicate ((3:Int).toNat) (⟨false,(⟨0,0,0,0⟩:cM),0,0,(⟨0,0,0,0,0,0,0,0,0,false⟩:Sub),0,0,0,0⟩:bG),x4,[],0⟩:aE))) (s39.1,s39.2.1,s39.2.2.1,s39.2.2.2.1,s39.2.2.2.2.1,s39.2.2.2.2.2.1,s39.2.2.2.2.2.2,s32,s38,s40) [3,4,5,6,7,8,9,1,2,10,0] rfl rfl)) (have hq26:=rn hA3;lV ((⟨false,(⟨0,0,0,0⟩:cM),0,0,(⟨0,0,0,0,0,0,0,0,0,false⟩:Sub),0,0,0,0⟩:bG):bG) bN (fun w=>fM (jQ (⟨false,(⟨0,0,0,0⟩:cM),0,0,(⟨0,0,0,0,0,0,0,0,0,false⟩:Sub),0,0,0,0⟩:bG)) w) rfl rfl rfl rfl rfl rfl rfl hq26 fun hq26 s41=>kS rfl rfl (have hq27:=rb hA1;wi hq27<|c1 rfl (fun _=>kX) fun u12 s42=>fun hq27=>match u12,hq27 with | _,rfl=>kS rfl rfl (have hq28:=rn hA2;lV (0:Int) bD (fun w=>fM rfl w) rfl rfl rfl rfl rfl rfl rfl hq28 fun hq28 s43=>have hq29:=rb hA4;wi hq29<|c1 rfl (fun h=>cY (h.a h1)) fun u13 s44=>fun hq29=>match u13,hq29 with | _,rfl=>wi hF<|pE (p:=((⟨x3,List.replicate ((2:Int).toNat) 0,List.replicate ((3:Int).toNat) (⟨false,(⟨0,0,0,0⟩:cM),0,0,(⟨0,0,0,0,0,0,0,0,0,false⟩:Sub),0,0,0,0⟩:bG),x4,[],0⟩:aE))) (s42.1,s42.2.1,s42.2.2.1,s42.2.2.2.1,s42.2.2.2.2.1,s42.2.2.2.2.2.1,s42.2.2.2.2.2.2,s43,s41,s44) [2,3,4,5,6,7,8,9,1,10,0] rfl rfl) (have hq30:=rb hA4;wi hq30<|c1 rfl (fun h=>cY (h.a h1)) fun u14 s45=>fun hq30=>match u14,hq30 with | _,rfl=>have hq31:=rn hA2;lV (0:Int) bD (fun w=>fM rfl w) rfl rfl rfl rfl rfl rfl rfl hq31 fun hq31 s46=>wi hF<|pE (p:=((⟨x3,List.replicate ((2:Int).toNat) 0,List.replicate ((3:Int).toNat) (⟨false,(⟨0,0,0,0⟩:cM),0,0,(⟨0,0,0,0,0,0,0,0,0,false⟩:Sub),0,0,0,0⟩:bG),x4,[],0⟩:aE))) (s42.1,s42.2.1,s42.2.2.1,s42.2.2.2.1,s42.2.2.2.2.1,s42.2.2.2.2.2.1,s42.2.2.2.2.2.2,s46,s41,s45) [2,3,4,5,6,7,8,10,1,9,0] rfl rfl)) (have hq32:=rn hA2;lV (0:Int) bD (fun w=>fM rfl w) rfl rfl rfl rfl rfl rfl rfl hq32 fun hq32 s47=>have hq33:=rb hA1;wi hq33<|c1 rfl (fun _=>kX) fun u15 s48=>fun hq33=>match u15,hq33 with | _,rfl=>have hq34:=rb hA4;wi hq34<|c1 rfl (fun h=>cY (h.a h1)) fun u16 s49=>fun hq34=>match u16,hq34 with | _,rfl=>wi hF<|pE (p:=((⟨x3,List.replicate ((2:Int).toNat) 0,List.replicate ((3:Int).toNat) (⟨false,(⟨0,0,0,0⟩:cM),0,0,(⟨0,0,0,0,0,0,0,0,0,false⟩:Sub),0,0,0,0⟩:bG),x4,[],0⟩:aE))) (s48.1,s48.2.1,s48.2.2.1,s48.2.2.2.1,s48.2.2.2.2.1,s48.2.2.2.2.2.1,s48.2.2.2.2.2.2,s47,s41,s49) [3,4,5,6,7,8,9,2,1,10,0] rfl rfl))) fun x2 ⟨s2,s3,s4,s5,s6,s7,s8,s9,s10,s11⟩=>fun hF=>sR rfl<|GA Ev<|nB (hT:=tok) (s2,s3,s4,s5,s6,s7,s8,s9,s10,s11,⟨none,0⟩) [0,1,2,3,4,5,6,7,8,9,11] hF rfl Tryz.results74 rfl rfl rfl rfl
theorem C4{x:dS}{s1 s2:AC}(h1:aQ κ s1 x.aU)(h2:aQ κ s2 x.bW):VS Tryz.prog κ 26 (nK x) [.g [.h s1 x.aU.length,.h s2 x.bW.length]] [] [] (fun r (y:AC)=>.h y r.length) (fun r y=>[ow y r]):=
 bM tok Tryz.call26 Tryz.func26 Tryz.results26 rfl rfl<|c1 rfl (fun h=>IG (h.a h1)) fun x1 s3=>aV [13] rfl rfl (fun hF=>sR rfl<|GA aE<|nB (hT:=tok) ⟨none,0⟩ [13] hF rfl Tryz.results26 rfl rfl rfl rfl)<|c1 rfl (fun h=>oF (h.o 1 rfl) (h.o 2 rfl) (h.o 3 rfl) (h.o 4 rfl) (h.o 5 rfl) (h.o 6 rfl) (h.o 7 rfl) (h.o 8 rfl) (h.o 9 rfl) (h.o 10 rfl) (h.o 11 rfl)) fun x2 s4=>fun hF=>ltN AK [13,14,15,16,17,18,19,20,21,22,23] (x2) (s4.1,s4.2.1,s4.2.2.1,s4.2.2.2.1,s4.2.2.2.2.1,s4.2.2.2.2.2.1,s4.2.2.2.2.2.2.1,s4.2.2.2.2.2.2.2.1,s4.2.2.2.2.2.2.2.2.1,s4.2.2.2.2.2.2.2.2.2.1,s4.2.2.2.2.2.2.2.2.2.2) kV rfl rfl rfl rfl rfl rfl rfl rfl rfl rfl rfl rfl rfl fun s5=>aW9 rfl rfl rfl rfl<|aVU rfl rfl rfl rfl rfl h2 rfl rfl hF fun hF s6 h3=>wi hF<|mQ (s5,s3.1,s3.2.1,s3.2.2.1,s3.2.2.2.1,s3.2.2.2.2.1,s3.2.2.2.2.2.1,s3.2.2.2.2.2.2.1,s3.2.2.2.2.2.2.2.2.2.2) [3,23,24] (fun(p:(List aE)×Int×aE) (u:AC×AC×AC×AC×AC×AC×AC×AC×AC)=>[(4,.h u.1 p.1.length),(25,I p.2.1)]) [24,1,2,3,4,5,6,7,8,9,10,11,12] [] (fun p u=>[ow u.1 (p.1:List aE),ow u.2.1 (p.2.2.aA.Mem.aC.Bytes:List Int),ow u.2.2.1 (p.2.2.aA.Mem.aC.Class:List Int),ow u.2.2.2.1 (p.2.2.aA.Mem.aB.Global:List aG),ow u.2.2.2.2.1 (p.2.2.aA.Mem.aB.bA:List aG),ow u.2.2.2.2.2.1 (p.2.2.aA.aD.aM:List cQ),ow u.2.2.2.2.2.2.1 (p.2.2.aA.aH:List aP),ow u.2.2.2.2.2.2.2.1 (p.2.2.aA.bO:List Int),ow s3.2.2.2.2.2.2.2.1 (p.2.2.Cells:List Int),ow s3.2.2.2.2.2.2.2.2.1 (p.2.2.aR:List bG),ow s3.2.2.2.2.2.2.2.2.2.1 (p.2.2.aU:List Queue),ow u.2.2.2.2.2.2.2.2 (p.2.2.Log:List Ev),.box 1 [.h u.2.1 p.2.2.aA.Mem.aC.Bytes.length,.h u.2.2.1 p.2.2.aA.Mem.aC.Class.length,.h u.2.2.2.1 p.2.2.aA.Mem.aB.Global.length,.h u.2.2.2.2.1 p.2.2.aA.Mem.aB.bA.length,I p.2.2.aA.aD.aJ,.h u.2.2.2.2.2.1 p.2.2.aA.aD.aM.length,.h u.2.2.2.2.2.2.1 p.2.2.aA.aH.length,.h u.2.2.2.2.2.2.2.1 p.2.2.aA.bO.length,.h s3.2.2.2.2.2.2.2.1 p.2.2.Cells.length,.h s3.2.2.2.2.2.2.2.2.1 p.2.2.aR.length,.h s3.2.2.2.2.2.2.2.2.2.1 p.2.2.aU.length,.h u.2.2.2.2.2.2.2.2 p.2.2.Log.length,I p.2.2.aK]]) id [] (fun(x9:(List aE)) (s25:AC)=>[(4,.h s25 x9.length)]) [] (fun x9 s25=>[ow s25 (x9:List aE)]) rfl rfl (fun hF1 ⟨x6,x7,x8⟩ ⟨s16,s17,s18,s19,s20,s21,s22,s23,s24⟩ hr1=>aV [26] rfl rfl (mH 2 2 (fun(p:(List aE)×aE)=>i4 x7 p.1 p.2) [3,23,24,25] (fun(p:(List aE)×aE) (u:AC×AC×AC×AC×AC×AC×AC×AC×AC)=>[(4,.h u.1 p.1.length)]) [] (fun p u=>[ow u.1 (p.1:List aE),ow u.2.1 (p.2.aA.Mem.aC.Bytes:List Int),ow u.2.2.1 (p.2.aA.Mem.aC.Class:List Int),ow u.2.2.2.1 (p.2.aA.Mem.aB.Global:List aG),ow u.2.2.2.2.1 (p.2.aA.Mem.aB.bA:List aG),ow u.2.2.2.2.2.1 (p.2.aA.aD.aM:List cQ),ow u.2.2.2.2.2.2.1 (p.2.aA.aH:List aP),ow u.2.2.2.2.2.2.2.1 (p.2.aA.bO:List Int),ow s3.2.2.2.2.2.2.2.1 (p.2.Cells:List Int),ow s3.2.2.2.2.2.2.2.2.1 (p.2.aR:List bG),ow s3.2.2.2.2.2.2.2.2.2.1 (p.2.aU:List Queue),ow u.2.2.2.2.2.2.2.2 (p.2.Log:List Ev),.box 1 [.h u.2.1 p.2.aA.Mem.aC.Bytes.length,.h u.2.2.1 p.2.aA.Mem.aC.Class.length,.h u.2.2.2.1 p.2.aA.Mem.aB.Global.length,.h u.2.2.2.2.1 p.2.aA.Mem.aB.bA.length,I p.2.aA.aD.aJ,.h u.2.2.2.2.2.1 p.2.aA.aD.aM.length,.h u.2.2.2.2.2.2.1 p.2.aA.aH.length,.h u.2.2.2.2.2.2.2.1 p.2.aA.bO.length,.h s3.2.2.2.2.2.2.2.1 p.2.Cells.length,.h s3.2.2.2.2.2.2.2.2.1 p.2.aR.length,.h s3.2.2.2.2.2.2.2.2.2.1 p.2.aU.length,.h u.2.2.2.2.2.2.2.2 p.2.Log.length,I p.2.aK]]) rfl (UT rfl h3 rfl fun x12=>c0 rfl (fun _=>mA) fun x13=>aV [30] rfl rfl (pG 12 1 0 13 [1,2,3,4,5,6,7,8,9,10,11] rfl rfl rfl rfl rfl (fun _=>uT) fun x14 s35=>c1 rfl (fun h=>oF (h.o 14 rfl) (h.o 15 rfl) (h.o 16 rfl) (h.o 17 rfl) (h.o 18 rfl) (h.o 19 rfl) (h.o 20 rfl) (h.o 21 rfl) (h.o 22 rfl) (h.o 23 rfl) (h.o 24 rfl)) fun x15 s36=>fun hG1=>ltN AK [25,26,27,28,29,30,31,32,33,34,35] (x15) (s36.1,s36.2.1,s36.2.2.1,s36.2.2.2.1,s36.2.2.2.2.1,s36.2.2.2.2.2.1,s36.2.2.2.2.2.2.1,s36.2.2.2.2.2.2.2.1,s36.2.2.2.2.2.2.2.2.1,s36.2.2.2.2.2.2.2.2.2.1,s36.2.2.2.2.2.2.2.2.2.2) kV rfl rfl rfl rfl rfl rfl rfl rfl rfl rfl rfl rfl rfl fun s37=>apN 0 36 kV rfl rfl rfl rfl rfl rfl rfl rfl rfl rfl rfl hG1 fun hG1 s38=>wi hG1<|pE (p:=(x6++([x15]),x14)) (s38,s35.1,s35.2.1,s35.2.2.1,s35.2.2.2.1,s35.2.2.2.2.1,s35.2.2.2.2.2.1,s35.2.2.2.2.2.2.1,s35.2.2.2.2.2.2.2) [37,14,15,16,17,18,19,20,21,22,23,24,12] rfl rfl)<|pE (p:=(x6,x8)) (s16,s17,s18,s19,s20,s21,s22,s23,s24) [0,1,2,3,4,5,6,7,8,9,10,11,12] rfl rfl) fun⟨x10,x11⟩ ⟨s26,s27,s28,s29,s30,s31,s32,s33,s34⟩=>nxW (s26,s27,s28,s29,s30,s31,s32,s33,s34) [0,1,2,3,4,5,6,7,8,9,10,11,12] rfl)<|bkW s16 [0] rfl) fun x9 s25=>gL s25 [0] rfl rfl
theorem IH{a_ b:dS}{s1 s2:AC}{s3 s4:AC}(h1:aQ κ s1 a_.aU)(h2:aQ κ s2 a_.bW)(h3:aQ κ s3 b.aU)(h4:aQ κ s4 b.bW):V0 Tryz.prog κ 28 (mO a_ b) [.g [.h s1 a_.aU.length,.h s2 a_.bW.length],.g [.h s3 b.aU.length,.h s4 b.bW.length]] .b:=
 bM tok Tryz.call28 Tryz.func28 Tryz.results28 rfl rfl<|c0 rfl (fun h=>vV (h.a h1) (h.a h3)) fun x1=>aV [10] rfl rfl (aY rfl rfl)<|c0 rfl (fun h=>fK (h.a h2) (h.a h4)) fun x2=>aV [16] rfl rfl (aY rfl rfl)<|aY rfl rfl
theorem aNC{b:aA}{slot:Int}{s1 s2 s3 s4 s5 s6 s7:AC}(h1:aQ κ s1 b.Mem.aC.Bytes)(h2:aQ κ s2 b.Mem.aC.Class)(h3:aQ κ s3 b.Mem.aB.Global)(h4:aQ κ s4 b.Mem.aB.bA)(h5:aQ κ s5 b.aD.aM)(h6:aQ κ s6 b.aH)(h7:aQ κ s7 b.bO):V0 Tryz.prog κ 150 (TG b slot) [.g [.h s1 b.Mem.aC.Bytes.length,.h s2 b.Mem.aC.Class.length,.h s3 b.Mem.aB.Global.length,.h s4 b.Mem.aB.bA.length,I b.aD.aJ,.h s5 b.aD.aM.length,.h s6 b.aH.length,.h s7 b.bO.length],I slot] I:=
 bM tok Tryz.call150 Tryz.func150 Tryz.results150 rfl rfl<|c0 rfl (fun h=>aEM (h.a h1) (h.a h2) (h.a h3) (h.a h4)) fun x1=>fS 0 1 (F6 x1) [5] 18 [] rfl (fN [11,12] rfl rfl (c0 rfl (fun h=>aEN (h.a h6)) fun x3=>cR [] rfl rfl)<|cR [] rfl rfl) fun x2=>aV [18] rfl rfl (aY rfl rfl)<|aY rfl rfl
theorem aUC{b:aA}{s1 s2 s3 s4 s5 s6 s7:AC}(h1:aQ κ s1 b.Mem.aC.Bytes)(h2:aQ κ s2 b.Mem.aC.Class)(h3:aQ κ s3 b.Mem.aB.Global)(h4:aQ κ s4 b.Mem.aB.bA)(h5:aQ κ s5 b.aD.aM)(h6:aQ κ s6 b.aH)(h7:aQ κ s7 b.bO):VS Tryz.prog κ 83 (aCS b) [.g [.h s1 b.Mem.aC.Bytes.length,.h s2 b.Mem.aC.Class.length,.h s3 b.Mem.aB.Global.length,.h s4 b.Mem.aB.bA.length,I b.aD.aJ,.h s5 b.aD.aM.length,.h s6 b.aH.length,.h s7 b.bO.length]] [] [] (fun r (y:AC)=>.h y r.length) (fun r y=>[ow y r]):=
 bM tok Tryz.call83 Tryz.func83 Tryz.results83 rfl rfl<|fun hF=>lV (0:Int) bD (fun w=>fM rfl w) rfl rfl rfl rfl rfl rfl rfl hF fun hF s8=>wi hF<|c0 rfl (fun h=>xA (h.a h1) (h.a h2) (h.a h3) (h.a h4) (h.a h5) (h.a h6) (h.a h7)) fun x1=>mQ () [1,4] (fun(p:(List Int)×Int) (_:Unit)=>[(3,.h s8 p.1.length),(5,I p.2)]) [1,0] [0] (fun p _=>[ow s8 (p.1:List Int)]) id [] (fun(x6:(List Int)) (_:Unit)=>[(3,.h s8 x6.length)]) [] (fun x6 _=>[ow s8 (x6:List Int)]) rfl rfl (fun hF1 ⟨x4,x5⟩ _ hr1=>fS 0 1 (MZ b x4 x5) [1,3,4,5] 14 [0,1] rfl (fN [11,12] rfl rfl (cR [0,1] rfl rfl)<|cR [0,1] rfl rfl) fun x7=>aV [14] rfl rfl (c0 rfl (fun h=>aNC (h.a h1) (h.a h2) (h.a h3) (h.a h4) (h.a h5) (h.a h6) (h.a h7)) fun x8=>mP oI 0 rfl rfl rfl fun x9 h8 _ h9=>fun hG1=>dT 1 h9 h8 rfl rfl rfl rfl rfl<|dT 1 h9 h8 rfl rfl rfl rfl rfl<|sF rfl<|nD oI 2 [] [3,20,22] (aI (x9+1)) () rfl rfl rfl rfl rfl rfl rfl rfl<|EY () [5,1] hG1 rfl)<|jE [0] rfl) fun x6 _=>gL s8 [0] rfl rfl
theorem aND{x:dS}{s1 s2:AC}(h1:aQ κ s1 x.aU)(h2:aQ κ s2 x.bW):V0 Tryz.prog κ 34 (TH x) [.g [.h s1 x.aU.length,.h s2 x.bW.length]] I:=
 bM tok Tryz.call34 Tryz.func34 Tryz.results34 rfl rfl<|c1 rfl (fun h=>IC (h.a h1) (h.a h2)) fun x1 s3=>mQ () [4] (fun(p:Int×Int) (_:Unit)=>[(3,I p.1),(5,I p.2)]) [1] [1] (fun p _=>[]) id [] (fun(x6:Int) (_:Unit)=>[(3,I x6)]) [] (fun x6 _=>[]) rfl rfl (fun hF1 ⟨x4,x5⟩ _ hr1=>aV [11] rfl rfl (mP AK 0 rfl rfl rfl fun x7 h3 s4 h4=>fun hG1=>dT 1 h4 h3 rfl rfl rfl rfl rfl<|wi hG1<|c1 rfl (fun h=>aUC (h.o 4 rfl) (h.o 5 rfl) (h.o 6 rfl) (h.o 7 rfl) (h.o 8 rfl) (h.o 9 rfl) (h.o 10 rfl)) fun x8 s5=>mP oI 15 rfl rfl rfl fun x9 h5 _ h6=>fun hG1=>dT 2 h6 h5 rfl rfl rfl rfl rfl<|aWM rfl rfl rfl rfl<|sF rfl<|tZ oI 16 [] h5 () rfl rfl rfl rfl rfl rfl rfl<|tZ AK 1 [4,5,6,7,8,9,10,11,12,13,14] h3 (s4.1,s4.2.1,s4.2.2.1,s4.2.2.2.1,s4.2.2.2.2.1,s4.2.2.2.2.2.1,s4.2.2.2.2.2.2.1,s4.2.2.2.2.2.2.2.1,s4.2.2.2.2.2.2.2.2.1,s4.2.2.2.2.2.2.2.2.2.1,s4.2.2.2.2.2.2.2.2.2.2) rfl rfl rfl rfl rfl rfl rfl<|EY () [20] hG1 rfl)<|jE [] rfl) fun x6 _=>aY rfl rfl
theorem aUD{b:aA}{slot:Int}{s1 s2 s3 s4 s5 s6 s7:AC}(h1:aQ κ s1 b.Mem.aC.Bytes)(h2:aQ κ s2 b.Mem.aC.Class)(h3:aQ κ s3 b.Mem.aB.Global)(h4:aQ κ s4 b.Mem.aB.bA)(h5:aQ κ s5 b.aD.aM)(h6:aQ κ s6 b.aH)(h7:aQ κ s7 b.bO):V0 Tryz.prog κ 151 (aCT b slot) [.g [.h s1 b.Mem.aC.Bytes.length,.h s2 b.Mem.aC.Class.length,.h s3 b.Mem.aB.Global.length,.h s4 b.Mem.aB.bA.length,I b.aD.aJ,.h s5 b.aD.aM.length,.h s6 b.aH.length,.h s7 b.bO.length],I slot] I:=
 bM tok Tryz.call151 Tryz.func151 Tryz.results151 rfl rfl<|c0 rfl (fun h=>aEQ (h.a h1) (h.a h2) (h.a h3) (h.a h4)) fun x1=>aV [10,12] rfl rfl (aY rfl rfl)<|c0 rfl (fun h=>aES (h.a h6)) fun x2=>aV [14,18] rfl rfl (aY rfl rfl)<|aY rfl rfl
theorem aUE{b:aA}{s1 s2 s3 s4 s5 s6 s7:AC}(h1:aQ κ s1 b.Mem.aC.Bytes)(h2:aQ κ s2 b.Mem.aC.Class)(h3:aQ κ s3 b.Mem.aB.Global)(h4:aQ κ s4 b.Mem.aB.bA)(h5:aQ κ s5 b.aD.aM)(h6:aQ κ s6 b.aH)(h7:aQ κ s7 b.bO):VS Tryz.prog κ 84 (aCU b) [.g [.h s1 b.Mem.aC.Bytes.length,.h s2 b.Mem.aC.Class.length,.h s3 b.Mem.aB.Global.length,.h s4 b.Mem.aB.bA.length,I b.aD.aJ,.h s5 b.aD.aM.length,.h s6 b.aH.length,.h s7 b.bO.length]] [] [] (fun r (y:AC)=>.h y r.length) (fun r y=>[ow y r]):=
 bM tok Tryz.call84 Tryz.func84 Tryz.results84 rfl rfl<|fun hF=>lV (0:Int) bD (fun w=>fM rfl w) rfl rfl rfl rfl rfl rfl rfl hF fun hF s8=>wi hF<|c0 rfl (fun h=>xB (h.a h1) (h.a h2) (h.a h3) (h.a h4) (h.a h5) (h.a h6) (h.a h7)) fun x1=>aV [8] rfl rfl (gL s8 [1] rfl rfl)<|mQ () [1] (fun(p:(List Int)×Int) (_:Unit)=>[(3,.h s8 p.1.length),(10,I p.2)]) [1,0] [0] (fun p _=>[ow s8 (p.1:List Int)]) id [] (fun(x6:(List Int)) (_:Unit)=>[(3,.h s8 x6.length)]) [] (fun x6 _=>[ow s8 (x6:List Int)]) rfl rfl (fun hF1 ⟨x4,x5⟩ _ hr1=>aV [11] rfl rfl (c0 rfl (fun h=>aUD (h.a h1) (h.a h2) (h.a h3) (h.a h4) (h.a h5) (h.a h6) (h.a h7)) fun x7=>mP oI 0 rfl rfl rfl fun x8 h8 _ h9=>fun hG1=>dT 1 h9 h8 rfl rfl rfl rfl rfl<|dT 1 h9 h8 rfl rfl rfl rfl rfl<|sF rfl<|nD oI 2 [] [3,13] (aI (x8+1)) () rfl rfl rfl rfl rfl rfl rfl rfl<|EY () [5,1] hG1 rfl)<|jE [0] rfl) fun x6 _=>gL s8 [0] rfl rfl
theorem aNE{x:dS}{s1 s2:AC}(h1:aQ κ s1 x.aU)(h2:aQ κ s2 x.bW):V0 Tryz.prog κ 35 (TJ x) [.g [.h s1 x.aU.length,.h s2 x.bW.length]] I:=
 bM tok Tryz.call35 Tryz.func35 Tryz.results35 rfl rfl<|c1 rfl (fun h=>C4 (h.a h1) (h.a h2)) fun x1 s3=>mQ () [7,8] (fun(p:Int×Int) (_:Unit)=>[(3,I p.1),(9,I p.2)]) [1] [1] (fun p _=>[]) id [] (fun(x6:Int) (_:Unit)=>[(3,I x6)]) [] (fun x6 _=>[]) rfl rfl (fun hF1 ⟨x4,x5⟩ _ hr1=>aV [10] rfl rfl (mP AK 0 rfl rfl rfl fun x7 h3 s4 h4=>fun hG1=>dT 1 h4 h3 rfl rfl rfl rfl rfl<|wi hG1<|c1 rfl (fun h=>aUE (h.o 4 rfl) (h.o 5 rfl) (h.o 6 rfl) (h.o 7 rfl) (h.o 8 rfl) (h.o 9 rfl) (h.o 10 rfl)) fun x8 s5=>mP oI 16 rfl rfl rfl fun x9 h5 _ h6=>fun hG1=>dT 3 h6 h5 rfl rfl rfl rfl rfl<|aWM rfl rfl rfl rfl<|sF rfl<|tZ oI 17 [] h5 () rfl rfl rfl rfl rfl rfl rfl<|tZ AK 1 [4,5,6,7,8,9,10,11,12,13,14] h3 (s4.1,s4.2.1,s4.2.2.1,s4.2.2.2.1,s4.2.2.2.2.1,s4.2.2.2.2.2.1,s4.2.2.2.2.2.2.1,s4.2.2.2.2.2.2.2.1,s4.2.2.2.2.2.2.2.2.1,s4.2.2.2.2.2.2.2.2.2.1,s4.2.2.2.2.2.2.2.2.2.2) rfl rfl rfl rfl rfl rfl rfl<|EY () [21] hG1 rfl)<|jE [] rfl) fun x6 _=>aY rfl rfl
theorem aCV{aX:dS}{s1 s2:AC}(h1:aQ κ s1 aX.aU)(h2:aQ κ s2 aX.bW):V0 Tryz.prog κ 9 (T7 aX) [.g [.h s1 aX.aU.length,.h s2 aX.bW.length]] .b:=
 bM tok Tryz.call9 Tryz.func9 Tryz.results9 rfl rfl<|c0 rfl (fun h=>H7 (h.a h1) (h.a h2)) fun x1=>aV [11] rfl rfl (aY rfl rfl)<|c1 rfl (fun h=>nW (h.a h1) (h.a h2)) fun x2 s3=>c0 rfl (fun h=>aND (h.o 1 rfl) (h.o 2 rfl)) fun x3=>c1 rfl (fun h=>nW (h.a h1) (h.a h2)) fun x4 s4=>c0 rfl (fun h=>aNE (h.o 3 rfl) (h.o 4 rfl)) fun x5=>aV [21] rfl rfl (aY rfl rfl)<|jP aL [0,5] rfl<|c1 rfl (fun h=>nW (h.a h1) (h.a h2)) fun x6 s5=>c0 rfl (fun h=>IH (h.o 3 rfl) (h.o 4 rfl) (h.o 6 rfl) (h.o 7 rfl)) fun x7=>aV [26] rfl rfl (aY rfl rfl)<|aY rfl rfl
end
end Go.Proofs.YtgboekoingacfaaGreat
end
noncomputable section
set_option linter.unusedVariables false
set_option linter.unusedSimpArgs false
namespace Go.Gv
theorem wrap_i64{x:Int}(h1:-9223372036854775808≤x)(h2:x≤9223372036854775807):IntKind.i64.wrap x=x:=O2 ⟨h1,h2⟩
end Go.Gv
end
noncomputable section
set_option linter.unusedVariables false
set_option linter.unusedSimpArgs false
namespace Go.Gv
theorem map_take{α β:Type}(f:α→β){l:List α}{k:Nat}(h:k < l.length):(l.take (k+1)).map f=(l.take k).map f ++ [f l[k]]:=by
  rw [List.take_succ_eq_append_getElem h,List.map_append];rfl
end Go.Gv
end
noncomputable section
set_option linter.unusedVariables false
set_option linter.unusedSimpArgs false
set_option linter.unusedSectionVars false
namespace Go.Gv
def rowAt(l:List bP)(k:Nat):bP:=l.getD k ⟨0,0⟩
theorem nN{l:List bP}{k:Nat}(h:k < l.length):rowAt l k=l[k]:=by
  unfold rowAt;rw [List.getD_eq_getElem?_getD,List.getElem?_eq_getElem h];rfl
theorem tU{l:List aP}(h:(bI l).length≤1073741824)(hl:l.length≤maxLen):i7 l=some (decide (pK l)):=by
  unfold i7 eZ
  rw [pY h hl]
  simp only [Option.bind_some]
  by_cases h3:l.length=3
  · have n1:((l.length:Int) != 3)=false:=by simp;omega
    simp only [n1,Bool.false_eq_true,if_false]
    by_cases h24:(bI l).length≤24
    · rw [if_neg (by simp;omega)]
      have hst:∀k,k < (bI l).length→d6 (bI l) (((bI l).take k).map iH,(k:Int))=if qX (rowAt (bI l) k)∧iH (rowAt (bI l) k)∉((bI l).take k).map iH then some (.next (((bI l).take (k+1)).map iH,((k+1:Nat):Int))) else some (.stop (Out.ret false)):=by
        intro k hk
        simp only [d6,dZ]
        rw [if_pos (by simp;omega),aT hk,nN hk]
        simp only [Option.bind_some,kE,fP]
        by_cases q:EE (bI l)[k].Handle
        · have hm:=q.mod
          rw [if_pos q,if_neg (by simp;omega)]
          by_cases q2:0≤(bI l)[k].aJ∧(bI l)[k].aJ≤100000
          · rw [decide_eq_true q2]
            simp only [Bool.not_true,Bool.false_eq_true,if_false]
            rw [D1 (by simp [maxLen];omega)]
            simp only [Option.bind_some]
            by_cases q3:(bI l)[k].Handle % 32∈((bI l).take k).map iH
            · rw [decide_eq_true q3];simp only [if_true];rw [if_neg (show ¬(qX (bI l)[k]∧iH (bI l)[k]∉((bI l).take k).map iH) from fun x=>x.2 q3)]
            · rw [decide_eq_false q3]
              simp only [Bool.false_eq_true,if_false]
              rw [if_pos (show qX (bI l)[k]∧iH (bI l)[k]∉((bI l).take k).map iH from ⟨⟨q,q2⟩,q3⟩),aO (by simp;omega),aZ (by omega) (by omega),map_take _ hk];rfl
          · rw [decide_eq_false q2]
            simp only [Bool.not_false,if_true]
            rw [if_neg (fun x:qX _∧_=>q2 x.1.2)]
        · rw [if_neg q,if_pos (by simp),if_neg (fun x:qX _∧_=>q x.1.1)];rfl
      have key:=BI (f:=d6 (bI l)) (bI l).length (fun k=>(((bI l).take k).map iH,(k:Int))) (fun k=>qX (rowAt (bI l) k)∧iH (rowAt (bI l) k)∉((bI l).take k).map iH) (Out.brk ()) (Out.ret false) (fun k hk hx=>by rw [hst k hk,if_pos hx]) (fun k hk hx=>by rw [hst k hk,if_neg hx]) (by simp [d6])
      rw [List.take_zero,List.map_nil,show((0:Nat):Int)=0 from rfl] at key
      rw [key]
      have hiff:pK l↔∀k,k < (bI l).length→qX (rowAt (bI l) k)∧iH (rowAt (bI l) k)∉((bI l).take k).map iH:=by
        constructor
        · rintro⟨_,_,q1,q2⟩ k hk
          rw [nN hk]
          refine⟨q1 _ (List.getElem_mem hk),?_⟩
          have:=(y9 _).1 q2 k (by simpa using hk)
          rw [List.getElem_map,←List.map_take] at this
          exact this
        · intro q
          refine⟨h3,h24,fun x hx=>?_,(y9 _).2 fun k hk=>?_⟩
          · obtain⟨k,hk,rfl⟩:=List.mem_iff_getElem.1 hx
            have:=(q k hk).1;rw [nN hk] at this;exact this
          · have hk':k < (bI l).length:=by simpa using hk
            have:=(q k hk').2;rw [nN hk'] at this
            rw [List.getElem_map,←List.map_take];exact this
      by_cases q:pK l
      · rw [if_pos (hiff.1 q),decide_eq_true q];rfl
      · rw [if_neg (fun x=>q (hiff.2 x)),decide_eq_false q];rfl
    · rw [if_pos (by simp;omega),decide_eq_false (fun q:pK l=>h24 q.2.1)]
  · have n1:((l.length:Int) != 3)=true:=by simp;omega
    simp only [n1,if_true]
    rw [decide_eq_false (fun q:pK l=>h3 q.1)]
end Go.Gv
end
noncomputable section
set_option linter.unusedVariables false
set_option linter.unusedSimpArgs false
set_option linter.unusedSectionVars false
namespace Go.Gv
noncomputable section
variable {m:Mem} (hsh:oH m.aC) (hl:(jW m.aB).length≤1073741824) (hg:m.aB.Global.length≤maxLen) (ho:m.aB.bA.length≤maxLen)
include hl hg ho
include hsh
end
noncomputable section
variable {b:aA} (hf:b.Mem.aC.Bytes.length≤maxLen∧(jW b.Mem.aB).length≤1073741824∧b.aD.aM.length≤maxLen∧b.aH.length≤maxLen∧(bI b.aH).length≤1073741824∧b.bO.length≤maxLen)
include hf
theorem vM:j7 b=some (decide (kP b)):=by
  obtain⟨f1,f2,f3,f4,f5,f6⟩:=hf
  unfold j7 dF
  rw [IV f1 f2,tK,tU f5 f4,D2 f6]
  by_cases q1:G6 b.Mem
  · by_cases q2:COk b.aD
    · by_cases q3:pK b.aH
      · by_cases q4:RW b.bO
        · have hg:b.Mem.aB.Global.length≤maxLen:=by rw [q1.1.2.1];simp [maxLen]
          have ho:b.Mem.aB.bA.length≤maxLen:=by rw [q1.1.2.2.1];simp [maxLen]
          have hmx:(1073741824:Nat)≤maxLen:=by simp [maxLen]
          simp only [decide_eq_true q1,decide_eq_true q2,decide_eq_true q3,decide_eq_true q4,Option.bind_some,Bool.not_true,Bool.false_eq_true,if_false]
          rw [pY f5 f4]
          simp only [Option.bind_some]
          have hst:∀k (hk:k < (bI b.aH).length),eN b (bI b.aH) (k:Int)=if i6 b (bI b.aH)[k] then some (.next ((k+1:Nat):Int)) else some (.stop (Out.ret false)):=by
            intro k hk
            simp only [eN,gH]
            rw [if_pos (by simp;omega),aT hk,bV (show k < maxLen by omega)]
            generalize (bI b.aH)[k]=r
            simp only [Option.bind_some,zA q1.1.1.1 f2 hg ho]
            by_cases a1:FQ b.Mem r.Handle
            · rw [decide_eq_true a1]
              simp only [Bool.not_true,Bool.false_eq_true,if_false]
              by_cases a2:r.aJ≤b.aD.aJ
              · rw [if_neg (by simp;omega),if_pos ⟨a1,a2⟩]
              · rw [if_pos (by simp;omega),if_neg (fun x=>a2 x.2)]
            · rw [decide_eq_false a1]
              simp only [Bool.not_false,if_true]
              rw [if_neg (fun x=>a1 x.1)]
          have key:=lA (f:=eN b (bI b.aH)) (bI b.aH) (fun k=>(k:Int)) (i6 b) (Out.brk ()) (Out.ret false) (fun k hk hx=>by rw [hst k hk,if_pos hx]) (fun k hk hx=>by rw [hst k hk,if_neg hx]) (by simp [eN])
          rw [show((0:Nat):Int)=0 from rfl] at key
          rw [key]
          by_cases q:∀r∈bI b.aH,i6 b r
          · rw [if_pos q,decide_eq_true (show kP b from ⟨⟨q1,q2,q3,q4⟩,q⟩)];rfl
          · rw [if_neg q,decide_eq_false (fun x:kP b=>q x.2)];rfl
        · rw [decide_eq_false (fun x:kP b=>q4 x.1.2.2.2),decide_eq_true q1,decide_eq_true q2,decide_eq_true q3,decide_eq_false q4];rfl
      · rw [decide_eq_false (fun x:kP b=>q3 x.1.2.2.1),decide_eq_true q1,decide_eq_true q2,decide_eq_false q3];rfl
    · rw [decide_eq_false (fun x:kP b=>q2 x.1.2.1),decide_eq_true q1,decide_eq_false q2];rfl
  · rw [decide_eq_false (fun x:kP b=>q1 x.1.1),decide_eq_false q1];rfl
theorem vN:j8 b=some (decide (kP b)):=by
  obtain⟨f1,f2,f3,f4,f5,f6⟩:=hf
  unfold j8 dI
  rw [IW f1 f2,tL f3,vX f5,D3 f6]
  by_cases q1:G6 b.Mem
  · by_cases q2:COk b.aD
    · by_cases q3:pK b.aH
      · by_cases q4:RW b.bO
        · have hg:b.Mem.aB.Global.length≤maxLen:=by rw [q1.1.2.1];simp [maxLen]
          have ho:b.Mem.aB.bA.length≤maxLen:=by rw [q1.1.2.2.1];simp [maxLen]
          have hmx:(1073741824:Nat)≤maxLen:=by simp [maxLen]
          simp only [decide_eq_true q1,decide_eq_true q2,decide_eq_true q3,decide_eq_true q4,Option.bind_some,Bool.not_true,Bool.false_eq_true,if_false]
          have e1:(fun y0=>fA y0 b)=fun r:bP=>some (!decide (i6 b r)):=by
            funext r
            unfold fA dV
            rw [BL q1.1.1.1 f2 hg ho]
            by_cases a1:FQ b.Mem r.Handle
            · by_cases a2:r.aJ≤b.aD.aJ
              · rw [decide_eq_true a1,decide_eq_true (show i6 b r from ⟨a1,a2⟩),decide_eq_false (show ¬b.aD.aJ < r.aJ by omega)];rfl
              · rw [decide_eq_true a1,decide_eq_false (fun x:i6 b r=>a2 x.2),decide_eq_true (show b.aD.aJ < r.aJ by omega)];rfl
            · rw [decide_eq_false a1,decide_eq_false (fun x:i6 b r=>a1 x.1)];rfl
          have e2:∀l∈b.aH,(fun y0=>g8 y0 b) l=some (!decide (∀r∈l.Rows,i6 b r)):=fun l hl=>by
            have:=C3 hl
            simp only [g8]
            rw [e1,IX (by omega),uI];rfl
          rw [FP f4 _ _ e2,uI]
          have hiff:kP b↔∀l∈b.aH,∀r∈l.Rows,i6 b r:=by
            constructor
            · intro x l hl r hr
              exact x.2 r (List.mem_flatMap.2 ⟨l,hl,hr⟩)
            · intro x
              refine⟨⟨q1,q2,q3,q4⟩,fun r hr=>?_⟩
              obtain⟨l,hl,hr⟩:=List.mem_flatMap.1 hr
              exact x l hl r hr
          simp only [Option.bind_some,Bool.not_not,hiff]
        · rw [decide_eq_false (fun x:kP b=>q4 x.1.2.2.2),decide_eq_true q1,decide_eq_true q2,decide_eq_true q3,decide_eq_false q4];rfl
      · rw [decide_eq_false (fun x:kP b=>q3 x.1.2.2.1),decide_eq_true q1,decide_eq_true q2,decide_eq_false q3];rfl
    · rw [decide_eq_false (fun x:kP b=>q2 x.1.2.1),decide_eq_true q1,decide_eq_false q2];rfl
  · rw [decide_eq_false (fun x:kP b=>q1 x.1.1),decide_eq_false q1];rfl
end
end Go.Gv
end
noncomputable section
set_option linter.unusedVariables false
set_option linter.unusedSimpArgs false
set_option linter.unusedSectionVars false
namespace Go.Gv
theorem G7.fits{b:aA}(h:G7 b):b.Mem.aC.Bytes.length≤maxLen∧(jW b.Mem.aB).length≤1073741824∧b.aD.aM.length≤maxLen∧b.aH.length≤maxLen∧(bI b.aH).length≤1073741824∧b.bO.length≤maxLen:=by
  have hb:(1048576:Nat)≤maxLen:=by simp [maxLen]
  have g1:=h.1.1;have g2:=h.1.2.2.2.2;have g3:=h.2.1;have g4:=h.2.2.1;have g5:=h.2.2.2.1;have g6:=h.2.2.2.2
  exact⟨by omega,by omega,by omega,by omega,by omega,by omega⟩
end Go.Gv
end
noncomputable section
set_option linter.unusedVariables false
set_option linter.unusedSimpArgs false
namespace Go.Gv
def cH(v:dS):Nat:=dC v.aU+bK v.bW
theorem aA8{v:dS}(hf:fit v){n:Int}(h0:0≤n)(h1:n≤1048576):mN v n=some (if (cH v:Int)≤n then n - cH v else -1):=by
  unfold mN cH
  rw [RY (hf.1) (by omega) (by omega)]
  by_cases q0:(dC v.aU:Int)≤n
  · rw [if_pos q0];simp only [Option.bind_some];rw [if_neg (by simp only [decide_eq_true_eq];omega)]
    rw [uV (hf.2) (by omega) (by omega)]
    by_cases q1:(bK v.bW:Int)≤n - (dC v.aU:Nat)
    · rw [if_pos q1];simp only [Option.bind_some];rw [if_neg (by simp only [decide_eq_true_eq];omega),if_pos (by omega)];congr 1;omega
    · rw [if_neg q1,if_neg (by omega)];rfl
  · rw [if_neg q0,if_neg (by omega)];rfl
theorem aA9{v:dS}(h:cH v≤4194304):fV v=some v:=by
  have h0:dC v.aU≤4194304:=by unfold cH at h;omega
  have h1:bK v.bW≤4194304:=by unfold cH at h;omega
  unfold fV
  simp only [RZ h0,uW h1,Option.bind_some]
theorem aBA{v:dS}(h:cH v≤4194304):mO v v=some true:=by
  have h0:dC v.aU≤4194304:=by unfold cH at h;omega
  have h1:bK v.bW≤4194304:=by unfold cH at h;omega
  unfold mO
  simp [OV h0,rJ h1]
end Go.Gv
end
noncomputable section
set_option linter.unusedVariables false
set_option linter.unusedSimpArgs false
set_option linter.unusedSectionVars false
namespace Go.Gv
def aFL:aC:=⟨List.replicate 384 0,[-1,-1,-1,-1,-1,-1]⟩
def aQG:aB:=⟨List.replicate 3 ⟨[]⟩,List.replicate 9 ⟨[]⟩⟩
def Y6:aA:=⟨⟨aFL,aQG⟩,⟨0,List.replicate 3 ⟨false,0,false,0⟩⟩,List.replicate 3 ⟨[]⟩,List.replicate 3 0⟩
theorem II:rC=some aFL:=by
  unfold rC
  have key:loop jV (0,[])=some (List.replicate 6 (-1)):=fI (f:=jV) 6 (fun k=>((k:Int),List.replicate k (-1))) _ (fun k hk=>by
    simp only [jV]
    rw [if_pos (by simp;omega),aO (by simp;omega),aZ (by omega) (by omega),List.replicate_succ'];rfl) (by simp [jV])
  rw [aO (by omega),key];rfl
theorem aQH:kB [-1] 6=some [-1,-1,-1,-1,-1,-1]:=by
  unfold kB
  rw [if_neg (by simp),show mM (IntKind.u64.wrap (([-1]:List Int).length:Int)) (IntKind.u64.wrap 6)=some (0,6) by kernel_rfl]
  simp only [Option.bind_some]
  rw [if_neg (by simp),decide_eq_false (by omega)]
  simp only [iC,Bool.false_eq_true,if_false]
  rw [show IntKind.i64.wrap 6=6 from wrap_i64 (by omega) (by omega),aO (by omega),
    show(fD (List.replicate (Int.toNat 6) 0) 0 [-1],((min ([-1]:List Int).length ((List.replicate (Int.toNat 6) (0:Int)).length - 0):Nat):Int))=([-1,0,0,0,0,0],1) by kernel_rfl,
    cO (body:=fF) (s':=([-1,-1,0,0,0,0],2)) (by kernel_rfl),cO (body:=fF) (s':=([-1,-1,-1,-1,0,0],4)) (by kernel_rfl),
    cO (body:=fF) (s':=([-1,-1,-1,-1,-1,-1],6)) (by kernel_rfl),cX (body:=fF) (r:=[-1,-1,-1,-1,-1,-1]) (by kernel_rfl)]
  rfl
theorem IJ:rE=some aFL:=by
  unfold rE
  rw [aO (by omega),aQH];rfl
theorem KB:rD=some Y6∧rF=some Y6:=by
  unfold rD rF xX yB tA tD tB tE tC tF xY yC
  rw [II,IJ,aO (by omega),aO (by omega),aO (by omega),aO (by omega),aO (by omega)]
  exact⟨rfl,rfl⟩
theorem aFM:kP Y6:=of_decide_eq_true (by kernel_rfl)
def Y7:aE:=⟨⟨⟨⟨[],[]⟩,⟨[],[]⟩⟩,⟨0,[]⟩,[],[]⟩,[],[],[],[],0⟩
def o5(t:List Queue):aE:=⟨Y6,List.replicate 2 0,List.replicate 3 aAZ,t,[],0⟩
theorem aBB{t:List Queue}(h:LQ t):pW (o5 t):=
  ⟨aFM,rfl,rfl,h,by simp [o5],fun q hq=>by simp [o5] at hq;exact .inl hq,fun j hj=>by simp [o5] at hj;exact(zU (by rw [hj];rfl)).2 hj⟩
theorem T4{t:List Queue}(hl:t.length≤1048576)(hq:∀q∈t,q.kJ.length≤1048576):pB t=some (if LQ t then o5 t else Y7)∧pD t=some (if LQ t then o5 t else Y7):=by
  have hm:t.length≤maxLen:=by simp only [maxLen];omega
  unfold pB pD
  rw [G8 hm,G9 hm (fun q h=>by have:=hq q h;simp only [maxLen];omega)]
  simp only [Option.bind_some]
  by_cases h:LQ t
  · simp only [decide_eq_true h,Bool.not_true,Bool.false_eq_true,if_false,if_pos h,KB.1,KB.2,Option.bind_some,(OW hl hq).1,(OW hl hq).2]
    rw [aO (by omega),aO (by omega),aO (by omega),aO (by omega)]
    exact⟨rfl,rfl⟩
  · simp only [decide_eq_false h,Bool.not_false,if_true,if_neg h]
    exact⟨rfl,rfl⟩
end Go.Gv
end
noncomputable section
set_option linter.unusedVariables false
set_option linter.unusedSimpArgs false
set_option linter.unusedSectionVars false
namespace Go.Gv
theorem o9.fits{s:aE}(h:o9 s):s.aA.Mem.aC.Bytes.length≤maxLen∧(jW s.aA.Mem.aB).length≤1073741824∧s.aA.aD.aM.length≤maxLen∧s.aA.aH.length≤maxLen∧(bI s.aA.aH).length≤1073741824∧s.aA.bO.length≤maxLen:=by
  obtain⟨⟨⟨a1,a2,a3,a4,a5⟩,b1,b2,b3,b4⟩,_⟩:=h
  simp only [maxLen];omega
end Go.Gv
end
noncomputable section
set_option linter.unusedVariables false
set_option linter.unusedSimpArgs false
set_option linter.unusedSectionVars false
set_option maxRecDepth 20000
namespace Go.Gv
theorem AS{s:aE}(h:pW s)(hl:s.Log.length≤1000000):o9 s:=zD (by have:=(QW h (by omega)).1;omega)
end Go.Gv
end
noncomputable section
set_option linter.unusedVariables false
set_option linter.unusedSimpArgs false
set_option linter.unusedSectionVars false
set_option maxRecDepth 20000
namespace Go.Gv
theorem T5{x:dS}(hp:x.bW.length≤1048576){m:Nat}(hm:m=min x.bW.length 400):∀d k:Nat,k+d=m→∀(s:aE) (out:List aE),pW s→s.Log.length≤k→out.length≤k+1→(∀y∈out,pW y∧y.Log.length≤400) →
    ∃l,loop (i3 x) (out,(k:Int),s)=some l∧loop (i5 x) (out,(k:Int),s)=some l∧l.length≤401∧∀y∈l,pW y∧y.Log.length≤400:=by
  have hN:(if 400 < (x.bW.length:Int) then (400:Int) else (x.bW.length:Int)).toNat=m:=by split <;> omega
  have hP:((x.bW.take ((if 400 < (x.bW.length:Int) then (400:Int) else (x.bW.length:Int)).toNat)).drop 0)=x.bW.take m:=by rw [hN,List.drop_zero]
  have hlen:(x.bW.take m).length=m:=by rw [List.length_take];omega
  intro d
  induction d with
  | zero =>
    intro k hk s out hs hl ho hy
    refine⟨out,cX ?_,cX ?_,by omega,hy⟩
    · simp only [i3,gK]
      by_cases q:(k:Int) < x.bW.length
      · rw [if_pos (by simpa using q),decide_eq_false (by omega)];rfl
      · rw [if_neg (by simpa using q)];rfl
    · simp only [i5,hP,hlen]
      rw [if_neg (by simp;omega)]
  | succ d ih =>
    intro k hk s out hs hl ho hy
    have hk':k < x.bW.length:=by omega
    have hx:idx x.bW (k:Int)=some x.bW[k]:=aT hk'
    have hx2:idx (x.bW.take m) (k:Int)=some x.bW[k]:=by rw [aT (by omega),List.getElem_take]
    have ew:aI ((k:Int)+1)=((k+1:Nat):Int):=by rw [aZ (by omega) (by omega)];rfl
    by_cases hw:0≤x.bW[k]∧x.bW[k]≤2
    · obtain⟨s1,e1,e2,h1,h2⟩:=HA hs (by omega) hw
      have hsm:=AS h1 (by omega)
      have hn:∀{β:Type} (q:Option β),need (out.length+([s1]:List aE).length≤1073741824) q=q:=fun q=>aO (by simp only [List.length_cons,List.length_nil];omega) q
      obtain⟨l,e3,e4,h3,h4⟩:=ih (k+1) (by omega) s1 (out ++ [s1]) h1 (by omega) (by simp;omega) (fun y hy'=>by
        rcases List.mem_append.1 hy' with h | h
        · exact hy y h
        · obtain rfl:=List.mem_singleton.1 h
          exact⟨h1,by omega⟩)
      refine⟨l,?_,?_,h3,h4⟩
      · rw [cO (s':=(out ++ [s1],((k+1:Nat):Int),s1)) (by
          simp only [i3,gK,iZ]
          rw [if_pos (by simp;omega),if_pos (by simp;omega),hx]
          simp only [Option.bind_some,fP,decide_eq_true hw,if_true,e1,sV hsm,hn,ew])]
        exact e3
      · rw [cO (s':=(out ++ [s1],((k+1:Nat):Int),s1)) (by
          simp only [i5,i4,hP,hlen]
          rw [if_pos (by simp;omega),hx2]
          simp only [Option.bind_some,nO,decide_eq_true hw,if_true,e2,sW hsm,hn,ew])]
        exact e4
    · obtain⟨l,e3,e4,h3,h4⟩:=ih (k+1) (by omega) s out hs (by omega) (by omega) hy
      refine⟨l,?_,?_,h3,h4⟩
      · rw [cO (s':=(out,((k+1:Nat):Int),s)) (by
          simp only [i3,gK,iZ]
          rw [if_pos (by simp;omega),if_pos (by simp;omega),hx]
          simp only [Option.bind_some,fP,decide_eq_false hw,Bool.false_eq_true,if_false,ew])]
        exact e3
      · rw [cO (s':=(out,((k+1:Nat):Int),s)) (by
          simp only [i5,i4,hP,hlen]
          rw [if_pos (by simp;omega),hx2]
          simp only [Option.bind_some,nO,decide_eq_false hw,Bool.false_eq_true,if_false,ew])]
        exact e4
theorem T6{x:dS}(h:cH x≤1048576):∃l,pC x=some l∧nK x=some l∧l.length≤401∧∀y∈l,pW y∧y.Log.length≤400:=by
  have h1:dC x.aU≤1048576:=by unfold cH at h;omega
  have h2:x.bW.length≤1048576:=by unfold cH bK at h;omega
  have hl:=zC x.aU
  have hq:∀q∈x.aU,q.kJ.length≤1048576:=fun q hq=>by have:=zB hq;unfold oK xS at this;omega
  obtain⟨e1,e2⟩:=T4 (t:=x.aU) (by omega) hq
  unfold pC nK
  rw [e1,e2]
  simp only [Option.bind_some]
  by_cases ht:LQ x.aU
  · simp only [if_pos ht]
    have hj:(((o5 x.aU).aR.length:Int) == 0)=false:=rfl
    have h0:=aBB ht
    have hsm:o9 (o5 x.aU):=AS h0 (by simp [o5])
    have hn:∀{β:Type} (q:Option β),need (([]:List aE).length+([o5 x.aU]:List aE).length≤1073741824) q=q:=fun q=>aO (by simp only [List.length_cons,List.length_nil];omega) q
    have hn2:∀{β:Type} (q:Option β),need (0≤(if 400 < (x.bW.length:Int) then 400 else (x.bW.length:Int):Int)∧(if 400 < (x.bW.length:Int) then 400 else (x.bW.length:Int):Int)≤(x.bW.length:Int)) q=q:=fun q=>aO (by split <;> omega) q
    obtain⟨l,f1,f2,f3,f4⟩:=T5 h2 (m:=min x.bW.length 400) rfl (min x.bW.length 400) 0 (by omega) _ [o5 x.aU] h0 (by simp [o5]) (by simp) (fun y hy=>by obtain rfl:=List.mem_singleton.1 hy;exact⟨h0,by simp [o5]⟩)
    rw [show((0:Nat):Int)=0 from rfl] at f1 f2
    simp only [hj,Bool.false_eq_true,if_false,sV hsm,sW hsm,Option.bind_some,hn,hn2,List.nil_append,f1,f2]
    exact⟨l,rfl,rfl,f3,f4⟩
  · simp only [if_neg ht]
    exact⟨[],rfl,rfl,by simp,fun y hy=>by simp at hy⟩
theorem aIF{aX:dS}(hf:fit aX){A B:dS→Option Int}(hAB:cH aX≤1048576→∃x,A aX=some x∧B aX=some x){L:Option Bool}
    (hL:L=(mN aX 1048576).bind fun x1=>(if decide (x1 < 0) then some true else (fV aX).bind fun x2=>(A x2).bind fun x3=>(fV aX).bind fun x4=>(B x4).bind fun x5=>(if x5 != x3 then some false else (fV aX).bind fun x6=>(mO x4 x6).bind fun x7=>(if !x7 then some false else some true)))):L=some true:=by
  rw [hL,aA8 hf (by omega) (by omega)]
  simp only [Option.bind_some]
  by_cases h:(cH aX:Int)≤1048576
  · obtain⟨x,e1,e2⟩:=hAB (by omega)
    have n1:¬(1048576 - (cH aX:Int)) < 0:=by omega
    simp only [if_pos h,decide_eq_false n1,Bool.false_eq_true,if_false,aA9 (show cH aX≤4194304 by omega),Option.bind_some,e1,e2,bne_self_eq_false,aBA (show cH aX≤4194304 by omega),Bool.not_true]
  · rw [if_neg h];simp
theorem aBC{l:List aE}{F:aE→Int}{body:Int×Int→Option (Step (Int×Int) Int)}(hb:∀(k:Nat) (hk:k < l.length) (a:Int),body (a,(k:Int))=some (.next (if a < F l[k] then F l[k] else a,((k+1:Nat):Int))))(he:∀a:Int,body (a,(l.length:Int))=some (.stop a)) :
    loop body (0,0)=some (l.foldl (fun a x=>if a < F x then F x else a) 0):=by
  have:=fI (f:=body) l.length (fun k=>((l.take k).foldl (fun a x=>if a < F x then F x else a) 0,(k:Int))) (l.foldl (fun a x=>if a < F x then F x else a) 0) (fun k hk=>by
    rw [hb k hk,List.take_succ_eq_append_getElem hk,List.foldl_append];rfl) (by rw [List.take_length];exact he _)
  simpa using this
end Go.Gv
end
noncomputable section
set_option linter.unusedVariables false
set_option linter.unusedSimpArgs false
set_option linter.unusedSectionVars false
namespace Go.Gv
def OL(b:aA)(s:Int):Int:=if tW b.Mem s=3 then (if aP2 b.aH s then 3 else 4) else tW b.Mem s
theorem aXA(m:Mem)(s:Int):0≤tW m s∧tW m s≤3:=by unfold tW;split <;> (try split) <;> (try split) <;> omega
theorem aXB(b:aA)(s:Int):0≤OL b s∧OL b s≤4:=by
  have:=aXA b.Mem s
  unfold OL;split <;> (try split) <;> omega
def yD(b:aA):Nat→List Int
  | 0=>List.replicate 5 0
  | k+1=>(yD b k).set (OL b k).toNat ((yD b k).getD (OL b k).toNat 0+1)
theorem aQI(b:aA)(k:Nat):(yD b k).length=5:=by induction k with | zero=>rfl | succ k ih=>simp [yD,ih]
theorem aQJ(b:aA)(k:Nat):∀j,0≤(yD b k).getD j 0∧(yD b k).getD j 0≤k:=by
  induction k with
  | zero=>intro j;simp only [yD,List.getD_eq_getElem?_getD,List.getElem?_replicate];split <;> simp
  | succ k ih =>
    intro j
    have h1:=ih j
    have h2:=ih (OL b k).toNat
    simp only [yD,List.getD_eq_getElem?_getD,List.getElem?_set] at h1 h2 ⊢
    split
    · split
      · simp only [Option.getD_some];omega
      · simp;omega
    · omega
noncomputable section
variable {b:aA} (hb:kP b)
include hb
theorem aVV(s:Int):TG b s=some (OL b s):=by
  have hm:=hb.1.1
  obtain⟨h1,h2,h3,_⟩:=G6.facts hm
  unfold TG OL
  rw [aDI hm.1.1.1 (by omega) (by simp only [maxLen];omega) (by simp only [maxLen];omega),Option.bind_some,aDK hb.1.2.2.1]
  by_cases q:tW b.Mem s=3
  · by_cases r:aP2 b.aH s <;> simp [q,r,F6]
  · simp [q,F6]
theorem aVW(s:Int):aCT b s=some (OL b s):=by
  have hm:=hb.1.1
  obtain⟨h1,h2,h3,_⟩:=G6.facts hm
  unfold aCT OL
  rw [aDJ hm.1.1.1 (by omega) (by simp only [maxLen];omega) (by simp only [maxLen];omega),Option.bind_some,aDL hb.1.2.2.1]
  by_cases q:tW b.Mem s=3
  · by_cases r:aP2 b.aH s <;> simp [q,r]
  · simp [q]
theorem aSV(k:Nat):idx (yD b k) (OL b k)=some ((yD b k).getD (OL b k).toNat 0):=by
  have:=aXB b k
  have hl:=aQI b k
  rw [FO this.1 (by omega)]
  simp [List.getD_eq_getElem?_getD,List.getElem?_eq_getElem (show(OL b k).toNat < (yD b k).length by omega)]
theorem kP.fits:b.Mem.aC.Bytes.length≤maxLen∧(jW b.Mem.aB).length≤1073741824∧b.aD.aM.length≤maxLen∧b.aH.length≤maxLen∧(bI b.aH).length≤1073741824∧b.bO.length≤maxLen:=by
  obtain⟨h1,h2,h3,h4,_⟩:=G6.facts hb.1.1
  have a:=hb.1.2.1.2.1;have c:=hb.1.2.2.1.1;have d:=hb.1.2.2.1.2.1;have e:=hb.1.2.2.2.1
  simp only [maxLen];omega
theorem aXC:aCS b=some (yD b 24):=by
  unfold aCS
  rw [aO (by omega),vM (kP.fits hb),decide_eq_true hb,Option.bind_some]
  have:=fI (f:=M0 b true) 24 (fun k=>(yD b k,(k:Int))) (yD b 24) (fun k hk=>by
    have hr:=aQJ b k (OL b k).toNat
    simp only [M0,MZ]
    rw [if_pos (by simp;omega),if_pos trivial,aVV hb,Option.bind_some,aSV hb,Option.bind_some,aZ (x:=(k:Int)+1) (by omega) (by omega),aZ (by omega) (by omega)];rfl) (by simp [M0,MZ])
  rw [show(List.replicate ((5:Int).toNat) (0:Int))=yD b 0 from rfl]
  have this':loop (M0 b true) (yD b 0,0)=_:=this
  rw [this'];rfl
theorem aXD:aCU b=some (yD b 24):=by
  unfold aCU
  rw [aO (by omega),vN (kP.fits hb),decide_eq_true hb,Option.bind_some]
  have:=fI (f:=M1 b) 24 (fun k=>(yD b k,(k:Int))) (yD b 24) (fun k hk=>by
    have hr:=aQJ b k (OL b k).toNat
    simp only [M1]
    rw [if_pos (by simp;omega),aVW hb,Option.bind_some,aSV hb,Option.bind_some,aZ (x:=(k:Int)+1) (by omega) (by omega),aZ (by omega) (by omega)];rfl) (by simp [M1])
  rw [show(List.replicate ((5:Int).toNat) (0:Int))=yD b 0 from rfl]
  have this':loop (M1 b) (yD b 0,0)=_:=this
  simp only [Bool.not_true,Bool.false_eq_true,if_false,this'];rfl
end
end Go.Gv
end
noncomputable section
set_option linter.unusedVariables false
namespace Go.Gv
theorem aVX{x:dS}(h:cH x≤1048576):∃n,TH x=some n∧TJ x=some n:=by
  obtain⟨l,e1,e2,h1,h2⟩:=T6 h
  unfold TH TJ
  rw [e1,e2]
  simp only [Option.bind_some]
  have hl:∀k (hk:k < l.length),kP l[k].aA:=fun k hk=>(h2 _ (List.getElem_mem hk)).1.1
  have ew:∀k,k < l.length→aI ((k:Int)+1)=((k+1:Nat):Int):=fun k hk=>by rw [aZ (by omega) (by omega)];rfl
  have hx:∀b:aA,idx (yD b 24) 4=some ((yD b 24).getD 4 0):=fun b=>by
    have hl:=aQI b 24
    rw [FO (by omega) (by omega)]
    simp [List.getD_eq_getElem?_getD,List.getElem?_eq_getElem (show 4 < (yD b 24).length by omega)]
  rw [aBC (l:=l) (F:=fun s=>(yD s.aA 24).getD 4 0) (body:=LG l) (fun k hk a=>by
      simp only [LG]
      rw [if_pos (by simp;omega),aT hk,ew k hk,Option.bind_some,aXC (hl k hk),Option.bind_some,hx,Option.bind_some]) (fun a=>by simp [LG]),
    aBC (l:=l) (F:=fun s=>(yD s.aA 24).getD 4 0) (body:=LH l) (fun k hk a=>by
      simp only [LH]
      rw [if_pos (by simp;omega),aT hk,ew k hk,Option.bind_some,aXD (hl k hk),Option.bind_some,hx,Option.bind_some]) (fun a=>by simp [LH])]
  exact⟨_,rfl,rfl⟩
theorem aGH{aX:dS}(hf:fit aX):T7 aX=some true:=aIF hf aVX rfl
end Go.Gv
end
