import Derived.Test.YtgboekoingacfaaGreatXLF
import Derived.Laws.BytesString
import Derived.Test.YtgboekoingacfaaGreatProg
set_option linter.unusedVariables false
set_option linter.unusedSimpArgs false
set_option linter.unusedSectionVars false
set_option linter.constructorNameAsVariable false
set_option linter.unnecessarySimpa false
noncomputable section
set_option linter.unusedVariables false
set_option linter.unusedSimpArgs false
namespace Go.Gv
noncomputable section
variable {v:Value} {k k2:IntKind} {i j:Int} {P:Program} {o:Oper} {e:Env} {w w':World} {c:Ctx} {L:List Chunk} {R:List Fact} {x y z:Operand} {t el:TypeId}
theorem aFH{α:Type}[bC α]{S:gI}{s:Value}{l:List α}{n:Nat}(h:bC.rd S w [s] l)(hn:bC.n α=n)(hu:P.underlying t=some (.slice el))(hz:∀w,(sizeOf el).run P w=.ok n w)(hb:0≤j∧j≤l.length)(ho:o.op=.slice t x none (some z) none)(hx:ev e x=some s)(hw:ev e z=some (.int k2 j)):kI P o e w (o6 n 0 j.toNat s) w:=fun _ a hA=>by
  obtain⟨ad,cp,rfl,hc⟩:=aHB h
  obtain⟨b0,b1⟩:=hb
  have h1:j≤(cp:Int):=by omega
  simp [execOp,ho,Instr.sliceAt,Instr.slice,run_underlying hu,Instr.sliceBounds,hA.eval hx,hA.eval hw,Instr.sliceBound,asIntOf,hz,b0,h1,o6]
theorem aIE(ho:o.op=.call {callee:=.builtin .min,args:=#[x,y],argTypes:=#[t,el]})(hx:ev e x=some (.int .i64 i))(hy:ev e y=some (.int k j)):kI P o e w (.int .i64 (if j < i then j else i)) w:=fun _ a hA=>by
  simp [execOp,ho,resolve,invoke,builtin,Builtin.min_,Builtin.min2,hA.eval hx,hA.eval hy]
end
end Go.Gv
end
noncomputable section
set_option linter.unusedVariables false
set_option linter.unusedSimpArgs false
namespace Go.Gv
noncomputable section
variable {v:Value} {i j:Int} {P:Program} {o:Oper} {e:Env} {w w':World} {c:Ctx} {L:List Chunk} {R:List Fact} {x y z:Operand} {t t2 el:TypeId}
theorem W3{α:Type}[bC α]{w:World}{s:Value}{l:List α}{F:gI}{n:Nat}(h:bC.own w [s] l F):o6 n 0 l.length s=s:=by
  obtain⟨ad,c,rfl,_⟩:=KK h
  obtain⟨ad',c',e,_,_,k3⟩:=C6.1 h
  simp at e
  obtain⟨rfl,rfl⟩:=e
  rcases k3 with ⟨rfl,rfl,_⟩ | ⟨b,off,cc,Fe,rfl,_⟩
  · simp [o6]
  · have hadd:(⟨b,off,none⟩:Addr).add (0 * n)=⟨b,off,none⟩:=by
      unfold Addr.add;split
      · rfl
      · rename_i hq;simp at hq
    simp only [o6,Option.map_some,hadd,Nat.sub_zero,ite_self]
theorem W4{α:Type}[bC α][Flat α]{s s2:Value}{l xs:List α}{n:Nat}(m:Nat)(hS:St c w L R)(hm:L[m]?=some (bH [s] l))(hsrc:bC.rd (Z6 w) w [s2] xs)(hn:bC.n α=n)(hu:P.underlying t=some (.slice el))(hz:∀w,(sizeOf el).run P w=.ok n w)
    (ho:o.op=.call {callee:=.builtin .copy,args:=#[x,y],argTypes:=#[t,t2]}) (hx:ev e x=some s) (hy:ev e y=some s2) :
    ∃v w',kI P o e w v w'∧(v=.int .i64 ((min xs.length (l.length - 0):Nat):Int)∧St c w' (L.set m (bH [s] (fD l 0 xs))) R):=by
  obtain⟨F,hF⟩:=hS.chunk m hm
  exact aIN m hS hm hsrc hn (Nat.zero_le _) hu hz ho (by rw [W3 (show bC.own w [s] l F from hF)];exact hx) hy
end
end Go.Gv
end
noncomputable section
set_option linter.unusedVariables false
namespace Go.Gv
noncomputable section
variable {P:Program} {T:TT} {hT:LS P T} {n:Nat} {c:Ctx} {B0:Bl} {N:Act→World→Prop} {X:Nat→Act→World→Prop} {Q:Act→World→Prop} {K K':List Fr} {m m':Nat} {e e':SE} {L L':List Ch} {cf cf1 cf2:F9} {o:Oper} {Lv:List Ch} {d:Nat}
variable {x y z:Operand} {t t2:TypeId} {k k2:IntKind} {i j:Int} {α β:Type} {A:Option β} {q:β}
theorem aW9(hs:opS (wD T n K cf m e L)=some (o,Lv,cf1,cf2,K',m',e',L'))(ho:(o.op,o.dst)=(.call {callee:=.builtin .min,args:=#[x,y],argTypes:=#[t,t2]},some d))(hx:(rI e' x).bind DP=some (.i64,i))(hy:(rI e' y).bind DP=some (k,j))
    (kk:G (.mk P T hT n c B0 N X Q) K' m' ((d,.i .i64 (if j < i then j else i)) :: e') L' cf2):G (.mk P T hT n c B0 N X Q) K m e L cf:=
  pu hs (congrArg Prod.snd ho) (fun B a w hA _=>⟨_,rfl,aIE (congrArg Prod.fst ho) (HM hA hx) (HM hA hy)⟩) kk
noncomputable section
variable {l:List UInt8} {b1:Bool} {n1:Nat} {z1:List SV}
end
noncomputable section
variable [bC α] {s:AC} {l:List α} {el:TypeId} {b1 b2:Bool} {n1 sz:Nat} {z1 z2:List SV} {kt:TK}
theorem aVU(hs:opS (wD T n K cf m e L)=some (o,Lv,cf1,cf2,K',m',e',L'))(ho:(o.op,o.dst)=(.slice t x none (some z) none,some d))(ht:KG T t=some ⟨.sl el,b1,n1,z1⟩)(he:KG T el=some ⟨kt,b2,sz,z2⟩)(hn:bC.n α=sz)(h1:aQ c s l)(hx:rI e' x=some (.h s l.length))(hz:(rI e' z).bind DP=some (k2,j))(hF:need (0≤j∧j≤(l.length:Int)) A=some q)
    (kk:A=some q→∀s',aQ c s' ((l.take j.toNat).drop 0)→G (.mk P T hT n c B0 N X Q) K' m' ((d,.h s' ((l.take j.toNat).drop 0).length) :: e') L' cf2):G (.mk P T hT n c B0 N X Q) K m e L cf:=by
  have hb:=(uM hF).1
  subst hn
  exact qsb h1 (by omega) hs (congrArg Prod.snd ho) (fun B act w hA h=>aFH h rfl (O4 ht hT) (hT.size _ _ he) hb (congrArg Prod.fst ho) (hdB hA hx) (HM hA hz)) (kk (uM hF).2)
end
noncomputable section
variable {zv:Value} {n1 m1:Nat} {el:TypeId}
end
end
end Go.Gv
end
noncomputable section
set_option linter.unusedVariables false
namespace Go.Gv
noncomputable section
variable {P:Program} {T:TT} {hT:LS P T} {n:Nat} {c:Ctx} {B0:Bl} {N:Act→World→Prop} {X:Nat→Act→World→Prop} {Q:Act→World→Prop} {K K':List Fr} {m m':Nat} {e e':SE} {L L' Lv:List Ch} {cf cf' cf1 cf2:F9} {o:Oper} {d:Nat}
theorem cp0{d:Option Nat}{x y:Operand}{t t2 el sz:Nat}{α:Type}[bC α][Flat α]{s s2:AC}{l xs:List α}{b1 b2:Bool}{n1:Nat}{z1 z2:List SV}{kt:TK}(p:Nat)(hsrc:∀{w},HS c w L'→aQ (gA w) s2 xs)(hs:wD T n K cf m e L=.op o Lv cf1 cf2 K' m' e' L')(ho:(o.op,o.dst)=(.call {callee:=.builtin .copy,args:=#[x,y],argTypes:=#[t,t2]},d))(ht:KG T t=some ⟨.sl el,b1,n1,z1⟩)(he:KG T el=some ⟨kt,b2,sz,z2⟩)(hn:bC.n α=sz)(hp:(L'[p]?,pI p cf1.LU)=(some (ow s l),true))(hx:rI e' x=some (.h s l.length))(hy:rI e' y=some (.h s2 xs.length))
    (k:G (.mk P T hT n c B0 N X Q) K' m' (dse d (.i .i64 ((min xs.length (l.length - 0):Nat):Int)) e') (L'.set p (ow s (fD l 0 xs))) cf2):G (.mk P T hT n c B0 N X Q) K m e L cf:=by
  have hp1:L'[p]?=some (ow s l):=congrArg Prod.fst hp
  have hz:pI p cf1.LU=true:=congrArg Prod.snd hp
  have hlen:(fD l 0 xs).length=l.length:=jX (Nat.zero_le _)
  refine rH (g:=.mk P T hT n c B0 N X Q) ?_
  rw [hs]
  intro hdn _ hE
  refine hE Unit (fun _=>m') (fun _=>dse d (.i .i64 ((min xs.length (l.length - 0):Nat):Int)) e') (fun _=>L'.set p (ow s (fD l 0 xs))) (fun _=>LV hz) (fun B act w next Q' hm hA hS hnext=>?_) (fun _=>k)
  have hr:aQ (gA w) s2 xs:=hsrc ⟨_,hS⟩
  obtain⟨⟨R,s1,s2'⟩,s0⟩:=hS
  have hop:o.op=.call {callee:=.builtin .copy,args:=#[x,y],argTypes:=#[t,t2]}:=congrArg Prod.fst ho
  have hd:o.dst=d:=congrArg Prod.snd ho
  obtain⟨v,w',k1,rfl,k2⟩:=W4 p s1 (by rw [List.getElem?_map,hp1];rfl) hr hn (O4 ht hT) (hT.size _ _ he) hop (hdB hA hx) (hdB hA hy)
  unfold Oper.wp
  rw [k1 _ act hA.env,Oper.upon_value,hd]
  have hS2:B9 c w' (B0S (.mk P T hT n c B0 N X Q) cf1++B) (L'.set p (ow s (fD l 0 xs))):=by
    refine⟨⟨R,?_,fun z hz=>?_⟩,s0⟩
    · rw [List.map_set]
      show St c w' ((L'.map _).set p (bH [s.v (fD l 0 xs).length] _)) R
      rw [hlen];exact k2
    · rcases List.mem_or_eq_of_mem_set hz with hz | hz
      · exact s2' z hz
      · subst hz;trivial
  cases d with
  | none=>exact hnext () _ _ ⟨[],by simpa using hm,by simpa [Act.put,dse] using hA,by simpa using hS2⟩
  | some d=>exact hnext () _ _ ⟨[],by simpa using hm,by simpa [dse] using hA.of (by simp [qU,gV,eQ]) (hA.env.put (by rw [hd] at hdn;simpa [EX,Nat.blt_eq] using hdn) _),by simpa using hS2⟩
end
end Go.Gv
end
noncomputable section
set_option linter.unusedVariables false
namespace Go.Gv
noncomputable section
variable {B B':Bl} {i j:Nat}
end
noncomputable section
variable {n:Nat} {c:Ctx} {B0:Bl} {m:Nat} {e:SE} {L:List Ch}
end
theorem fG{P:Program}{T:TT}{hT:LS P T}{n:Nat}{c:Ctx}{B0:Bl}{N:Act→World→Prop}{X:Nat→Act→World→Prop}{Q:Act→World→Prop}{K:List Fr}{m:Nat}{e e1:SE}{L L1:List Ch}{cf:F9}(h1:aQP e=some e1)(h2:aQQ L=some L1)(k:G (.mk P T hT n c B0 N X Q) K m e1 L1 cf):G (.mk P T hT n c B0 N X Q) K m e L cf:=by
  have:=YC h1
  have:=YD h2
  subst e1;subst L1
  exact k
end Go.Gv
end
noncomputable section
namespace Go.Gv
theorem aJ2(d:aC){v0:Value}{v1:Value}:OP [v0,v1] d [bH [v0] d.Bytes,bH [v1] d.Class]:=(show OP (α:=(List Int)×(List Int)) _ (d.Bytes,d.Class) _ from (gM (c1:=[v0]) (c2:=[v1]) (A:=[bH [v0] d.Bytes]) (B:=[bH [v1] d.Class]) rG rG rfl))
theorem aFI(d:aB){v0:Value}{v1:Value}:OP [v0,v1] d [bH [v0] d.Global,bH [v1] d.bA]:=(show OP (α:=(List aG)×(List aG)) _ (d.Global,d.bA) _ from (gM (c1:=[v0]) (c2:=[v1]) (A:=[bH [v0] d.Global]) (B:=[bH [v1] d.bA]) rG rG rfl))
theorem aQF(d:Mem){v0:Value}{v1:Value}{v2:Value}{v3:Value}:OP [v0,v1,v2,v3] d [bH [v0] d.aC.Bytes,bH [v1] d.aC.Class,bH [v2] d.aB.Global,bH [v3] d.aB.bA]:=(show OP (α:=aC×aB) _ (d.aC,d.aB) _ from (gM (c1:=[v0,v1]) (c2:=[v2,v3]) (A:=[bH [v0] d.aC.Bytes,bH [v1] d.aC.Class]) (B:=[bH [v2] d.aB.Global,bH [v3] d.aB.bA]) (aJ2 _) (aFI _) rfl))
theorem aFJ(d:aD){v0:Value}:OP [.int .i64 (d.aJ),v0] d [bH [v0] d.aM]:=(show OP (α:=Int×(List cQ)) _ (d.aJ,d.aM) _ from (gM (c1:=[.int .i64 (d.aJ)]) (c2:=[v0]) (A:=[]) (B:=[bH [v0] d.aM]) (nL rfl) rG rfl))
theorem aJ3(d:aA){v0:Value}{v1:Value}{v2:Value}{v3:Value}{v4:Value}{v5:Value}{v6:Value}:OP [v0,v1,v2,v3,.int .i64 (d.aD.aJ),v4,v5,v6] d [bH [v0] d.Mem.aC.Bytes,bH [v1] d.Mem.aC.Class,bH [v2] d.Mem.aB.Global,bH [v3] d.Mem.aB.bA,bH [v4] d.aD.aM,bH [v5] d.aH,bH [v6] d.bO]:=(show OP (α:=Mem×aD×(List aP)×(List Int)) _ (d.Mem,d.aD,d.aH,d.bO) _ from (gM (c1:=[v0,v1,v2,v3]) (c2:=[.int .i64 (d.aD.aJ),v4,v5,v6]) (A:=[bH [v0] d.Mem.aC.Bytes,bH [v1] d.Mem.aC.Class,bH [v2] d.Mem.aB.Global,bH [v3] d.Mem.aB.bA]) (B:=[bH [v4] d.aD.aM,bH [v5] d.aH,bH [v6] d.bO]) (aQF _) (gM (c1:=[.int .i64 (d.aD.aJ),v4]) (c2:=[v5,v6]) (A:=[bH [v4] d.aD.aM]) (B:=[bH [v5] d.aH,bH [v6] d.bO]) (aFJ _) (gM (c1:=[v5]) (c2:=[v6]) (A:=[bH [v5] d.aH]) (B:=[bH [v6] d.bO]) rG rG rfl) rfl) rfl))
theorem aFK(d:aE){v0:Value}{v1:Value}{v2:Value}{v3:Value}{v4:Value}{v5:Value}{v6:Value}{v7:Value}{v8:Value}{v9:Value}{v10:Value}:OP [v0,v1,v2,v3,.int .i64 (d.aA.aD.aJ),v4,v5,v6,v7,v8,v9,v10,.int .i64 (d.aK)] d [bH [v0] d.aA.Mem.aC.Bytes,bH [v1] d.aA.Mem.aC.Class,bH [v2] d.aA.Mem.aB.Global,bH [v3] d.aA.Mem.aB.bA,bH [v4] d.aA.aD.aM,bH [v5] d.aA.aH,bH [v6] d.aA.bO,bH [v7] d.Cells,bH [v8] d.aR,bH [v9] d.aU,bH [v10] d.Log]:=(show OP (α:=aA×(List Int)×(List bG)×(List Queue)×(List Ev)×Int) _ (d.aA,d.Cells,d.aR,d.aU,d.Log,d.aK) _ from (gM (c1:=[v0,v1,v2,v3,.int .i64 (d.aA.aD.aJ),v4,v5,v6]) (c2:=[v7,v8,v9,v10,.int .i64 (d.aK)]) (A:=[bH [v0] d.aA.Mem.aC.Bytes,bH [v1] d.aA.Mem.aC.Class,bH [v2] d.aA.Mem.aB.Global,bH [v3] d.aA.Mem.aB.bA,bH [v4] d.aA.aD.aM,bH [v5] d.aA.aH,bH [v6] d.aA.bO]) (B:=[bH [v7] d.Cells,bH [v8] d.aR,bH [v9] d.aU,bH [v10] d.Log]) (aJ3 _) (gM (c1:=[v7]) (c2:=[v8,v9,v10,.int .i64 (d.aK)]) (A:=[bH [v7] d.Cells]) (B:=[bH [v8] d.aR,bH [v9] d.aU,bH [v10] d.Log]) rG (gM (c1:=[v8]) (c2:=[v9,v10,.int .i64 (d.aK)]) (A:=[bH [v8] d.aR]) (B:=[bH [v9] d.aU,bH [v10] d.Log]) rG (gM (c1:=[v9]) (c2:=[v10,.int .i64 (d.aK)]) (A:=[bH [v9] d.aU]) (B:=[bH [v10] d.Log]) rG (gM (c1:=[v10]) (c2:=[.int .i64 (d.aK)]) (A:=[bH [v10] d.Log]) (B:=[]) rG (nL rfl) rfl) rfl) rfl) rfl) rfl))
theorem aA6{S:gI}{w:World}{cs:List Value}{d:dS}(h:bC.rd S w cs d):∃v0 v1:Value,cs=[v0,v1]∧bC.rd S w [v0] d.aU∧bC.rd S w [v1] d.bW:=by
  obtain⟨c0,r0,e0,h0,n0⟩:=h
  obtain⟨u0,q0⟩:=lU h0
  rw [q0] at h0
  obtain⟨u1,q1⟩:=lU n0
  rw [q1] at n0
  exact⟨u0,u1,by rw [e0,q0,q1];rfl,h0,n0⟩
end Go.Gv
end
noncomputable section
set_option linter.unusedVariables false
namespace Go.Gv
noncomputable section
def qA(x y:Int):Option (Int×Int):=
  some (IntKind.u64.wrap ((IntKind.u64.wrap ((IntKind.u64.wrap ((tV .u64 x 32) * (tV .u64 y 32)))+(tV .u64 (IntKind.u64.wrap ((IntKind.u64.wrap ((tV .u64 x 32) * (mV .and .u64 y 4294967295)))+(tV .u64 (IntKind.u64.wrap ((mV .and .u64 x 4294967295) * (mV .and .u64 y 4294967295))) 32))) 32)))+(tV .u64 (IntKind.u64.wrap ((mV .and .u64 (IntKind.u64.wrap ((IntKind.u64.wrap ((tV .u64 x 32) * (mV .and .u64 y 4294967295)))+(tV .u64 (IntKind.u64.wrap ((mV .and .u64 x 4294967295) * (mV .and .u64 y 4294967295))) 32))) 4294967295)+(IntKind.u64.wrap ((mV .and .u64 x 4294967295) * (tV .u64 y 32))))) 32)),IntKind.u64.wrap (x * y))
def mM(x y:Int):Option (Int×Int):=
  (qA x y).bind fun x1=>some (x1.1,x1.2)
def mN(a_:dS)(left:Int):Option Int:=
  (uJ a_.aU left).bind fun x1=>(if decide (x1 < 0) then some (-1) else (jF a_.bW x1).bind fun x2=>(if decide (x2 < 0) then some (-1) else some x2))
def H5(x5:List Int):Option aC:=
  some (⟨List.replicate ((384:Int).toNat) 0,x5⟩:aC)
def jV:(Int×(List Int))→Option (Step (Int×(List Int)) (List Int))
  | (x3,x4)=>(if decide (x3 < 6) then need (x4.length+([(-1)]).length≤1073741824) (some (.next (aI (x3+1),x4++([(-1)])))) else some (.stop (x4)))
def H6:(List Int)→Option aC
  | x5=>H5 x5
def rC:Option aC:=
  need (0≤(384:Int)∧(384:Int)≤4294967296) ((loop (jV) (0,[])).bind (H6))
def uE:Option aB:=
  some (⟨List.replicate ((3:Int).toNat) (⟨[]⟩:aG),List.replicate ((9:Int).toNat) (⟨[]⟩:aG)⟩:aB)
def tA:Option aB:=
  need (0≤(3:Int)∧(3:Int)≤4294967296)<|need (0≤(9:Int)∧(9:Int)≤4294967296)<|uE
def xX:Option Mem:=
  (rC).bind fun x1=>(tA).bind fun x2=>some (⟨x1,x2⟩:Mem)
def tB:Option aD:=
  need (0≤(3:Int)∧(3:Int)≤4294967296) (some (⟨0,List.replicate ((3:Int).toNat) (⟨false,0,false,0⟩:cQ)⟩:aD))
def tC:Option (List aP):=
  need (0≤(3:Int)∧(3:Int)≤4294967296) (some (List.replicate ((3:Int).toNat) (⟨[]⟩:aP)))
def xY:Option (List Int):=
  need (0≤(3:Int)∧(3:Int)≤4294967296) (some (List.replicate ((3:Int).toNat) 0))
def rD:Option aA:=
  (xX).bind fun x1=>(tB).bind fun x2=>(tC).bind fun x3=>(xY).bind fun x4=>some (⟨x1,x2,x3,x4⟩:aA)
def uF(x2:aE):Option aE:=
  some ({x2 with Log:=[]}:aE)
def pB(todo:List Queue):Option aE:=
  (w3 todo).bind fun x1=>(if !x1 then some (⟨(⟨(⟨(⟨[],[]⟩:aC),(⟨[],[]⟩:aB)⟩:Mem),(⟨0,[]⟩:aD),[],[]⟩:aA),[],[],[],[],0⟩:aE) else (rD).bind fun x3=>need (0≤(2:Int)∧(2:Int)≤4294967296)<|need (0≤(3:Int)∧(3:Int)≤4294967296)<|(BD todo).bind fun x4=>uF (⟨x3,List.replicate ((2:Int).toNat) 0,List.replicate ((3:Int).toNat) (⟨false,(⟨0,0,0,0⟩:cM),0,0,(⟨0,0,0,0,0,0,0,0,0,false⟩:Sub),0,0,0,0⟩:bG),x4,[],0⟩:aE))
def FW(x9:List aE):Option (List aE):=
  some x9
def iZ(x7:Int)(x12:List aE)(x13:aE):Option (Step ((List aE)×Int×aE) (List aE)):=
  some (.next (x12,aI (x7+1),x13))
def gK(x:dS)(x6:List aE)(x7:Int)(x10:Bool)(x11:aE):Option (Step ((List aE)×Int×aE) (List aE)):=
  (if x10 then (idx x.bW x7).bind fun x14=>(dD x14 0 2).bind fun x15=>(if x15 then (idx x.bW x7).bind fun x16=>(DS x11 x16).bind fun x17=>(qW x17).bind fun x18=>need (x6.length+([x18]).length≤1073741824) (iZ x7 (x6++([x18])) x17) else iZ x7 x6 x11) else some (.stop (x6)))
def i3(x:dS):((List aE)×Int×aE)→Option (Step ((List aE)×Int×aE) (List aE))
  | (x6,x7,x8)=>(if decide (x7 < (x.bW.length:Int)) then gK x x6 x7 (decide (x7 < 400)) x8 else gK x x6 x7 false x8)
def FX:(List aE)→Option (List aE)
  | x9=>FW x9
def pC(x:dS):Option (List aE):=
  (pB x.aU).bind fun x1=>(if (x1.aR.length:Int) == 0 then some ([]:List aE) else (qW x1).bind fun x2=>need (([]:List aE).length+([x2]).length≤1073741824) ((loop (i3 x) (([]:List aE)++([x2]),0,x1)).bind (FX)))
def fV(a_:dS):Option dS:=
  (uK a_.aU).bind fun x1=>(jG a_.bW).bind fun x2=>some (⟨x1,x2⟩:dS)
def xZ(x7:List Int):Option (List Int):=
  some x7
def fF:((List Int)×Int)→Option (Step ((List Int)×Int) (List Int))
  | (x5,x6)=>(if decide (x6 < (x5.length:Int)) then need (0≤(x6:Int)∧(x6:Int)≤(x5.length:Int)) (need (0≤(x6:Int)∧(x6:Int)≤(x5.length:Int)) (some (.next (fD x5 x6.toNat ((x5.take x6.toNat).drop 0),aI (x6+((min ((x5.take x6.toNat).drop 0).length (x5.length - x6.toNat):Nat):Int)))))) else some (.stop (x5)))
def yA:(List Int)→Option (List Int)
  | x7=>xZ x7
def iC(x:List Int)(x1:Int×Int)(x2:Bool):Option (List Int):=
  (if x2 then none else need (0≤(IntKind.i64.wrap x1.2:Int)∧(IntKind.i64.wrap x1.2:Int)≤4294967296) ((loop (fF) (fD (List.replicate ((IntKind.i64.wrap x1.2).toNat) 0) 0 x,((min x.length ((List.replicate ((IntKind.i64.wrap x1.2).toNat) 0:List Int).length - 0):Nat):Int))).bind (yA)))
def kB(x:List Int)(count:Int):Option (List Int):=
  (if decide (count < 0) then none else (mM (IntKind.u64.wrap (x.length:Int)) (IntKind.u64.wrap count)).bind fun x1=>(if decide (0 < x1.1) then iC x x1 true else iC x x1 (decide (9223372036854775807 < x1.2))))
def vY(x1:List Int):Option aC:=
  some (⟨List.replicate ((384:Int).toNat) 0,x1⟩:aC)
def rE:Option aC:=
  need (0≤(384:Int)∧(384:Int)≤4294967296)<|(kB ([(-1)]) 6).bind fun x2=>vY x2
def uG:Option aB:=
  some (⟨List.replicate ((3:Int).toNat) (⟨[]⟩:aG),List.replicate ((9:Int).toNat) (⟨[]⟩:aG)⟩:aB)
def tD:Option aB:=
  need (0≤(3:Int)∧(3:Int)≤4294967296)<|need (0≤(9:Int)∧(9:Int)≤4294967296)<|uG
def yB:Option Mem:=
  (rE).bind fun x1=>(tD).bind fun x2=>some (⟨x1,x2⟩:Mem)
def tE:Option aD:=
  need (0≤(3:Int)∧(3:Int)≤4294967296) (some (⟨0,List.replicate ((3:Int).toNat) (⟨false,0,false,0⟩:cQ)⟩:aD))
def tF:Option (List aP):=
  need (0≤(3:Int)∧(3:Int)≤4294967296) (some (List.replicate ((3:Int).toNat) (⟨[]⟩:aP)))
def yC:Option (List Int):=
  need (0≤(3:Int)∧(3:Int)≤4294967296) (some (List.replicate ((3:Int).toNat) 0))
def rF:Option aA:=
  (yB).bind fun x1=>(tE).bind fun x2=>(tF).bind fun x3=>(yC).bind fun x4=>some (⟨x1,x2,x3,x4⟩:aA)
def uH(x2:aE):Option aE:=
  some ({x2 with Log:=[]}:aE)
def pD(todo:List Queue):Option aE:=
  (AO todo).bind fun x1=>(if !x1 then some (⟨(⟨(⟨(⟨[],[]⟩:aC),(⟨[],[]⟩:aB)⟩:Mem),(⟨0,[]⟩:aD),[],[]⟩:aA),[],[],[],[],0⟩:aE) else (rF).bind fun x3=>need (0≤(2:Int)∧(2:Int)≤4294967296)<|need (0≤(3:Int)∧(3:Int)≤4294967296)<|(DT todo).bind fun x4=>uH (⟨x3,List.replicate ((2:Int).toNat) 0,List.replicate ((3:Int).toNat) (⟨false,(⟨0,0,0,0⟩:cM),0,0,(⟨0,0,0,0,0,0,0,0,0,false⟩:Sub),0,0,0,0⟩:bG),x4,[],0⟩:aE))
def FY(x9:List aE):Option (List aE):=
  some x9
def i4(x7:Int)(x10:List aE)(x11:aE):Option (Step ((List aE)×Int×aE) (List aE)):=
  some (.next (x10,aI (x7+1),x11))
def i5(x:dS):((List aE)×Int×aE)→Option (Step ((List aE)×Int×aE) (List aE))
  | (x6,x7,x8)=>(if decide (x7 < (((x.bW.take ((if 400 < (x.bW.length:Int) then 400 else (x.bW.length:Int)).toNat)).drop 0).length:Int)) then (idx ((x.bW.take ((if 400 < (x.bW.length:Int) then 400 else (x.bW.length:Int)).toNat)).drop 0) x7).bind fun x12=>(lW x12).bind fun x13=>(if x13 then (rV x8 x12).bind fun x14=>(mX x14).bind fun x15=>need (x6.length+([x15]).length≤1073741824) (i4 x7 (x6++([x15])) x14) else i4 x7 x6 x8) else some (.stop (x6)))
def FZ:(List aE)→Option (List aE)
  | x9=>FY x9
def nK(x:dS):Option (List aE):=
  (pD x.aU).bind fun x1=>(if (x1.aR.length:Int) == 0 then some ([]) else (mX x1).bind fun x2=>need (0≤(if 400 < (x.bW.length:Int) then 400 else (x.bW.length:Int):Int)∧(if 400 < (x.bW.length:Int) then 400 else (x.bW.length:Int):Int)≤(x.bW.length:Int)) ((loop (i5 x) ([x2],0,x1)).bind (FZ)))
def aBF:Option Bool:=
  some true
def F8(a_ b:List aE):Int→Option (Step Int (Out Unit Bool))
  | x2=>(if decide (x2 < (a_.length:Int)) then (idx a_ x2).bind fun x3=>(idx b x2).bind fun x4=>(cL x3 x4).bind fun x5=>(if !x5 then some (.stop (Out.ret false)) else some (.next (aI (x2+1)))) else some (.stop (Out.brk ())))
def aBG:(Out Unit Bool)→Option Bool
  | .brk ()=>aBF
  | .ret r=>some r
def I0(a_ b:List aE):Option Bool:=
  (if (a_.length:Int) != (b.length:Int) then some false else (loop (F8 a_ b) 0).bind (aBG))
def mO(a_ b:dS):Option Bool:=
  (DX a_.aU b.aU).bind fun x1=>(if !x1 then some false else (xP a_.bW b.bW).bind fun x2=>(if !x2 then some false else some true))
def NR(a_:dS)(k:Int):Option (Int×(List Queue)×(List Int)):=
  (jC a_.aU k).bind fun x1=>(gU a_.bW x1.1).bind fun x2=>some (x2.1,x1.2,x2.2)
def XX(a_ x7:List aE)(x8:Int):Option (Int×(List aE)):=
  need (x7.length=a_.length) (some (x8,x7))
def HL(a_:List aE):((List aE)×Int×Int)→Option (Step ((List aE)×Int×Int) ((List aE)×Int))
  | (x4,x5,x6)=>need (x4.length=a_.length) ((if decide (x6 < (x4.length:Int)) then (idx x4 x6).bind fun x9=>(gU x9.aA.Mem.aC.Bytes x5).bind fun x10=>(gU x9.aA.Mem.aC.Class x10.1).bind fun x11=>(iO x9.aA.Mem.aB.Global x11.1).bind fun x12=>(iO x9.aA.Mem.aB.bA x12.1).bind fun x13=>(lY x9.aA.aD.aM (aI (x13.1+1))).bind fun x14=>(jS x9.aA.aH x14.1).bind fun x15=>(gU x9.aA.bO x15.1).bind fun x16=>(gU x9.Cells x16.1).bind fun x17=>(lZ x9.aR x17.1).bind fun x18=>(jC x9.aU x18.1).bind fun x19=>(mZ x9.Log x19.1).bind fun x20=>some (.next (x4.set x6.toNat (⟨(⟨(⟨(⟨x10.2,x11.2⟩:aC),(⟨x12.2,x13.2⟩:aB)⟩:Mem),(⟨x13.1,x14.2⟩:aD),x15.2,x16.2⟩:aA),x17.2,x18.2,x19.2,x20.2,x20.1⟩:aE),aI (x20.1+1),aI (x6+1))) else some (.stop ((x4,x5)))))
def XY(a_:List aE):((List aE)×Int)→Option (Int×(List aE))
  | (x7,x8)=>XX a_ x7 x8
def NS(a_:List aE)(k:Int):Option (Int×(List aE)):=
  (loop (HL a_) (a_,k,0)).bind (XY a_)
def aIG(x5:Int):Option Int:=
  some x5
def wX(a_:List aE):(Int×Int)→Option (Step (Int×Int) (Out Int Int))
  | (x3,x4)=>(if decide (x4 < (a_.length:Int)) then (idx a_ x4).bind fun x6=>(d8 x6.aA.Mem.aC.Bytes x3).bind fun x7=>(if decide (x7 < 0) then some (.stop (Out.ret (-1))) else (idx a_ x4).bind fun x8=>(d8 x8.aA.Mem.aC.Class x7).bind fun x9=>(if decide (x9 < 0) then some (.stop (Out.ret (-1))) else (idx a_ x4).bind fun x10=>(iP x10.aA.Mem.aB.Global x9).bind fun x11=>(if decide (x11 < 0) then some (.stop (Out.ret (-1))) else (idx a_ x4).bind fun x12=>(iP x12.aA.Mem.aB.bA x11).bind fun x13=>(if decide (x13 < 0) then some (.stop (Out.ret (-1))) else (idx a_ x4).bind fun x14=>(if x14.aA.aD.aJ != x13 then some (.stop (Out.ret (-1))) else (idx a_ x4).bind fun x15=>(l4 x15.aA.aD.aM (aI (x13+1))).bind fun x16=>(if decide (x16 < 0) then some (.stop (Out.ret (-1))) else (idx a_ x4).bind fun x17=>(jT x17.aA.aH x16).bind fun x18=>(if decide (x18 < 0) then some (.stop (Out.ret (-1))) else (idx a_ x4).bind fun x19=>(d8 x19.aA.bO x18).bind fun x20=>(if decide (x20 < 0) then some (.stop (Out.ret (-1))) else (idx a_ x4).bind fun x21=>(d8 x21.Cells x20).bind fun x22=>(if decide (x22 < 0) then some (.stop (Out.ret (-1))) else (idx a_ x4).bind fun x23=>(l5 x23.aR x22).bind fun x24=>(if decide (x24 < 0) then some (.stop (Out.ret (-1))) else (idx a_ x4).bind fun x25=>(jU x25.aU x24).bind fun x26=>(if decide (x26 < 0) then some (.stop (Out.ret (-1))) else (idx a_ x4).bind fun x27=>(m0 x27.Log x26).bind fun x28=>(if decide (x28 < 0) then some (.stop (Out.ret (-1))) else (idx a_ x4).bind fun x29=>(if x29.aK != x28 then some (.stop (Out.ret (-1))) else some (.next (aI (x28+1),aI (x4+1)))))))))))))))) else some (.stop (Out.brk x3)))
def aIH:(Out Int Int)→Option Int
  | .brk x5=>aIG x5
  | .ret r=>some r
def IK(a_:List aE)(k:Int):Option Int:=
  (loop (wX a_) (k,0)).bind (aIH)
def yR(aX:dS)(x3 x5:(List aE))(x10:Bool):Option Bool:=
  (if x10 then some false else (NS x5 1).bind fun x11=>(IK x11.2 1).bind fun x12=>(if decide (x12 < 0) then some false else (if x12 != x11.1 then some false else (fV aX).bind fun x13=>(nK x13).bind fun x14=>(I0 x14 x3).bind fun x15=>(if !x15 then some false else (IK x11.2 1).bind fun x16=>(if decide (x16 < 0) then some false else (if x16 != x11.1 then some false else some true))))))
def KE(aX:dS):Option Bool:=
  (mN aX 1048576).bind fun x1=>(if decide (x1 < 0) then some true else (fV aX).bind fun x2=>(pC x2).bind fun x3=>(fV aX).bind fun x4=>(nK x4).bind fun x5=>(I0 x5 x3).bind fun x6=>(if !x6 then some false else (fV aX).bind fun x7=>(mO x4 x7).bind fun x8=>(if !x8 then some false else (NR x4 1).bind fun x9=>(if decide (x9.1 < 0) then yR aX x3 x5 true else (I0 x5 x3).bind fun x17=>yR aX x3 x5 (!x17)))))
end
end Go.Gv
end
noncomputable section
set_option linter.unusedVariables false
set_option maxHeartbeats 4000000
set_option maxRecDepth 100000
namespace Go.Proofs.YtgboekoingacfaaGreat
open Go.Gv
theorem kV:Inf Tryz.prog 58 13 (.agg #[.slice none 0 0,.slice none 0 0,.slice none 0 0,.slice none 0 0,.int .i64 0,.slice none 0 0,.slice none 0 0,.slice none 0 0,.slice none 0 0,.slice none 0 0,.slice none 0 0,.slice none 0 0,.int .i64 0]):=O0 (b:=280) (by kernel_rfl) rfl
end Go.Proofs.YtgboekoingacfaaGreat
end
noncomputable section
set_option linter.unusedVariables false
set_option maxHeartbeats 4000000
set_option maxRecDepth 100000
namespace Go.Proofs.YtgboekoingacfaaGreat
open Go.Gv
def F5:UA aE:=⟨AC×AC×AC×AC×AC×AC×AC×AC×AC×AC×AC,fun x y=>[.h y.1 x.aA.Mem.aC.Bytes.length,.h y.2.1 x.aA.Mem.aC.Class.length,.h y.2.2.1 x.aA.Mem.aB.Global.length,.h y.2.2.2.1 x.aA.Mem.aB.bA.length,I x.aA.aD.aJ,.h y.2.2.2.2.1 x.aA.aD.aM.length,.h y.2.2.2.2.2.1 x.aA.aH.length,.h y.2.2.2.2.2.2.1 x.aA.bO.length,.h y.2.2.2.2.2.2.2.1 x.Cells.length,.h y.2.2.2.2.2.2.2.2.1 x.aR.length,.h y.2.2.2.2.2.2.2.2.2.1 x.aU.length,.h y.2.2.2.2.2.2.2.2.2.2 x.Log.length,I x.aK],fun S w x y=>bC.rd S w [y.1.v x.aA.Mem.aC.Bytes.length] x.aA.Mem.aC.Bytes∧bC.rd S w [y.2.1.v x.aA.Mem.aC.Class.length] x.aA.Mem.aC.Class∧bC.rd S w [y.2.2.1.v x.aA.Mem.aB.Global.length] x.aA.Mem.aB.Global∧bC.rd S w [y.2.2.2.1.v x.aA.Mem.aB.bA.length] x.aA.Mem.aB.bA∧bC.rd S w [y.2.2.2.2.1.v x.aA.aD.aM.length] x.aA.aD.aM∧bC.rd S w [y.2.2.2.2.2.1.v x.aA.aH.length] x.aA.aH∧bC.rd S w [y.2.2.2.2.2.2.1.v x.aA.bO.length] x.aA.bO∧bC.rd S w [y.2.2.2.2.2.2.2.1.v x.Cells.length] x.Cells∧bC.rd S w [y.2.2.2.2.2.2.2.2.1.v x.aR.length] x.aR∧bC.rd S w [y.2.2.2.2.2.2.2.2.2.1.v x.aU.length] x.aU∧bC.rd S w [y.2.2.2.2.2.2.2.2.2.2.v x.Log.length] x.Log,(fun h=>by
  obtain⟨v0,v1,v2,v3,v4,v5,v6,v7,v8,v9,v10,rfl,h0,h1,h2,h3,h4,h5,h6,h7,h8,h9,h10⟩:=WA h
  obtain⟨a0,e0⟩:=iN h0
  cases e0
  obtain⟨a1,e1⟩:=iN h1
  cases e1
  obtain⟨a2,e2⟩:=iN h2
  cases e2
  obtain⟨a3,e3⟩:=iN h3
  cases e3
  obtain⟨a4,e4⟩:=iN h4
  cases e4
  obtain⟨a5,e5⟩:=iN h5
  cases e5
  obtain⟨a6,e6⟩:=iN h6
  cases e6
  obtain⟨a7,e7⟩:=iN h7
  cases e7
  obtain⟨a8,e8⟩:=iN h8
  cases e8
  obtain⟨a9,e9⟩:=iN h9
  cases e9
  obtain⟨a10,e10⟩:=iN h10
  cases e10
  exact⟨(a0,a1,a2,a3,a4,a5,a6,a7,a8,a9,a10),rfl,⟨h0,h1,h2,h3,h4,h5,h6,h7,h8,h9,h10⟩⟩),fun x y=>.g [.h y.1 x.aA.Mem.aC.Bytes.length,.h y.2.1 x.aA.Mem.aC.Class.length,.h y.2.2.1 x.aA.Mem.aB.Global.length,.h y.2.2.2.1 x.aA.Mem.aB.bA.length,I x.aA.aD.aJ,.h y.2.2.2.2.1 x.aA.aD.aM.length,.h y.2.2.2.2.2.1 x.aA.aH.length,.h y.2.2.2.2.2.2.1 x.aA.bO.length,.h y.2.2.2.2.2.2.2.1 x.Cells.length,.h y.2.2.2.2.2.2.2.2.1 x.aR.length,.h y.2.2.2.2.2.2.2.2.2.1 x.aU.length,.h y.2.2.2.2.2.2.2.2.2.2 x.Log.length,I x.aK],fun h h1 h2=>⟨bC.rd_mono (bC.rd_agree h.1 h1) h2,bC.rd_mono (bC.rd_agree h.2.1 h1) h2,bC.rd_mono (bC.rd_agree h.2.2.1 h1) h2,bC.rd_mono (bC.rd_agree h.2.2.2.1 h1) h2,bC.rd_mono (bC.rd_agree h.2.2.2.2.1 h1) h2,bC.rd_mono (bC.rd_agree h.2.2.2.2.2.1 h1) h2,bC.rd_mono (bC.rd_agree h.2.2.2.2.2.2.1 h1) h2,bC.rd_mono (bC.rd_agree h.2.2.2.2.2.2.2.1 h1) h2,bC.rd_mono (bC.rd_agree h.2.2.2.2.2.2.2.2.1 h1) h2,bC.rd_mono (bC.rd_agree h.2.2.2.2.2.2.2.2.2.1 h1) h2,bC.rd_mono (bC.rd_agree h.2.2.2.2.2.2.2.2.2.2 h1) h2⟩⟩
def AK:CO aE:=F5.o (fun x y=>[ow y.1 x.aA.Mem.aC.Bytes,ow y.2.1 x.aA.Mem.aC.Class,ow y.2.2.1 x.aA.Mem.aB.Global,ow y.2.2.2.1 x.aA.Mem.aB.bA,ow y.2.2.2.2.1 x.aA.aD.aM,ow y.2.2.2.2.2.1 x.aA.aH,ow y.2.2.2.2.2.2.1 x.aA.bO,ow y.2.2.2.2.2.2.2.1 x.Cells,ow y.2.2.2.2.2.2.2.2.1 x.aR,ow y.2.2.2.2.2.2.2.2.2.1 x.aU,ow y.2.2.2.2.2.2.2.2.2.2 x.Log]) (fun h=>by cases h;exact aFK _) (fun _ _=>rfl) (fun _ _ _=>rfl)
noncomputable section
variable {κ:Ctx}
theorem xC{a_ b:aC}{s1 s2:AC}{s3 s4:AC}(h1:aQ κ s1 a_.Bytes)(h2:aQ κ s2 a_.Class)(h3:aQ κ s3 b.Bytes)(h4:aQ κ s4 b.Class):V0 Tryz.prog κ 216 (qK a_ b) [.g [.h s1 a_.Bytes.length,.h s2 a_.Class.length],.g [.h s3 b.Bytes.length,.h s4 b.Class.length]] .b:=
 bM tok Tryz.call216 Tryz.func216 Tryz.results216 rfl rfl<|c0 rfl (fun h=>fK (h.a h1) (h.a h3)) fun x1=>aV [10] rfl rfl (aY rfl rfl)<|c0 rfl (fun h=>fK (h.a h2) (h.a h4)) fun x2=>aV [16] rfl rfl (aY rfl rfl)<|aY rfl rfl
theorem vB{a_ b:aG}{s1:AC}{s2:AC}(h1:aQ κ s1 a_.bB)(h2:aQ κ s2 b.bB):V0 Tryz.prog κ 353 (nP a_ b) [.g [.h s1 a_.bB.length],.g [.h s2 b.bB.length]] .b:=
 bM tok Tryz.call353 Tryz.func353 Tryz.results353 rfl rfl<|c0 rfl (fun h=>fK (h.a h1) (h.a h2)) fun x1=>aV [10] rfl rfl (aY rfl rfl)<|aY rfl rfl
theorem mC{a_ b:List aG}{s1:AC}{s2:AC}(h1:aQ κ s1 a_)(h2:aQ κ s2 b):V0 Tryz.prog κ 293 (lX a_ b) [.h s1 a_.length,.h s2 b.length] .b:=
 bM tok Tryz.call293 Tryz.func293 Tryz.results293 rfl rfl<|aV [10] rfl rfl (aY rfl rfl)<|CH 5 [0,1] [] Out.brk [] [] rfl rfl (fun hF1 x2 hr1=>aV [14] rfl rfl (jP aL [] rfl<|eG qR rfl h1 rfl fun x3 s3 h3=>eG qR rfl h2 rfl fun x4 s4 h4=>c0 rfl (fun h=>vB (h.a h3) (h.a h4)) fun x5=>aV [26] rfl rfl (eX hr1 hF1<|aY rfl rfl)<|pX [] rfl)<|jE [] rfl)<|aY rfl rfl
theorem vC{a_ b:aB}{s1 s2:AC}{s3 s4:AC}(h1:aQ κ s1 a_.Global)(h2:aQ κ s2 a_.bA)(h3:aQ κ s3 b.Global)(h4:aQ κ s4 b.bA):V0 Tryz.prog κ 217 (nQ a_ b) [.g [.h s1 a_.Global.length,.h s2 a_.bA.length],.g [.h s3 b.Global.length,.h s4 b.bA.length]] .b:=
 bM tok Tryz.call217 Tryz.func217 Tryz.results217 rfl rfl<|c0 rfl (fun h=>mC (h.a h1) (h.a h3)) fun x1=>aV [10] rfl rfl (aY rfl rfl)<|c0 rfl (fun h=>mC (h.a h2) (h.a h4)) fun x2=>aV [16] rfl rfl (aY rfl rfl)<|aY rfl rfl
theorem AE{a_ b:Mem}{s1 s2 s3 s4:AC}{s5 s6 s7 s8:AC}(h1:aQ κ s1 a_.aC.Bytes)(h2:aQ κ s2 a_.aC.Class)(h3:aQ κ s3 a_.aB.Global)(h4:aQ κ s4 a_.aB.bA)(h5:aQ κ s5 b.aC.Bytes)(h6:aQ κ s6 b.aC.Class)(h7:aQ κ s7 b.aB.Global)(h8:aQ κ s8 b.aB.bA):V0 Tryz.prog κ 129 (sJ a_ b) [.g [.h s1 a_.aC.Bytes.length,.h s2 a_.aC.Class.length,.h s3 a_.aB.Global.length,.h s4 a_.aB.bA.length],.g [.h s5 b.aC.Bytes.length,.h s6 b.aC.Class.length,.h s7 b.aB.Global.length,.h s8 b.aB.bA.length]] .b:=
 bM tok Tryz.call129 Tryz.func129 Tryz.results129 rfl rfl<|c0 rfl (fun h=>xC (h.a h1) (h.a h2) (h.a h5) (h.a h6)) fun x1=>aV [10] rfl rfl (aY rfl rfl)<|c0 rfl (fun h=>vC (h.a h3) (h.a h4) (h.a h7) (h.a h8)) fun x2=>aV [16] rfl rfl (aY rfl rfl)<|aY rfl rfl
theorem AF{a_ b:cQ}:V0 Tryz.prog κ 294 (sK a_ b) [.g [.b a_.On,I a_.aJ,.b a_.jD,I a_.Seen],.g [.b b.On,I b.aJ,.b b.jD,I b.Seen]] .b:=
 bM tok Tryz.call294 Tryz.func294 Tryz.results294 rfl rfl<|aV [9] rfl rfl (aY rfl rfl)<|aV [14] rfl rfl (aY rfl rfl)<|aV [19] rfl rfl (aY rfl rfl)<|aV [24] rfl rfl (aY rfl rfl)<|aY rfl rfl
theorem xD{a_ b:List cQ}{s1:AC}{s2:AC}(h1:aQ κ s1 a_)(h2:aQ κ s2 b):V0 Tryz.prog κ 218 (qL a_ b) [.h s1 a_.length,.h s2 b.length] .b:=
 bM tok Tryz.call218 Tryz.func218 Tryz.results218 rfl rfl<|aV [10] rfl rfl (aY rfl rfl)<|CH 5 [0,1] [] Out.brk [] [] rfl rfl (fun hF1 x2 hr1=>aV [14] rfl rfl (jP aL [] rfl<|eG DY rfl h1 rfl fun x3 _ _=>eG DY rfl h2 rfl fun x4 _ _=>c0 rfl (fun _=>AF) fun x5=>aV [26] rfl rfl (eX hr1 hF1<|aY rfl rfl)<|pX [] rfl)<|jE [] rfl)<|aY rfl rfl
theorem vD{a_ b:aD}{s1:AC}{s2:AC}(h1:aQ κ s1 a_.aM)(h2:aQ κ s2 b.aM):V0 Tryz.prog κ 130 (nR a_ b) [.g [I a_.aJ,.h s1 a_.aM.length],.g [I b.aJ,.h s2 b.aM.length]] .b:=
 bM tok Tryz.call130 Tryz.func130 Tryz.results130 rfl rfl<|aV [9] rfl rfl (aY rfl rfl)<|c0 rfl (fun h=>xD (h.a h1) (h.a h2)) fun x1=>aV [15] rfl rfl (aY rfl rfl)<|aY rfl rfl
theorem xE{a_ b:bP}:V0 Tryz.prog κ 354 (qM a_ b) [.g [I a_.Handle,I a_.aJ],.g [I b.Handle,I b.aJ]] .b:=
 bM tok Tryz.call354 Tryz.func354 Tryz.results354 rfl rfl<|aV [9] rfl rfl (aY rfl rfl)<|aV [14] rfl rfl (aY rfl rfl)<|aY rfl rfl
theorem vF{a_ b:List bP}{s1:AC}{s2:AC}(h1:aQ κ s1 a_)(h2:aQ κ s2 b):V0 Tryz.prog κ 295 (nS a_ b) [.h s1 a_.length,.h s2 b.length] .b:=
 bM tok Tryz.call295 Tryz.func295 Tryz.results295 rfl rfl<|aV [10] rfl rfl (aY rfl rfl)<|CH 5 [0,1] [] Out.brk [] [] rfl rfl (fun hF1 x2 hr1=>aV [14] rfl rfl (jP aL [] rfl<|eG DF rfl h1 rfl fun x3 _ _=>eG DF rfl h2 rfl fun x4 _ _=>c0 rfl (fun _=>xE) fun x5=>aV [26] rfl rfl (eX hr1 hF1<|aY rfl rfl)<|pX [] rfl)<|jE [] rfl)<|aY rfl rfl
theorem vG{a_ b:aP}{s1:AC}{s2:AC}(h1:aQ κ s1 a_.Rows)(h2:aQ κ s2 b.Rows):V0 Tryz.prog κ 219 (nT a_ b) [.g [.h s1 a_.Rows.length],.g [.h s2 b.Rows.length]] .b:=
 bM tok Tryz.call219 Tryz.func219 Tryz.results219 rfl rfl<|c0 rfl (fun h=>vF (h.a h1) (h.a h2)) fun x1=>aV [10] rfl rfl (aY rfl rfl)<|aY rfl rfl
theorem tP{a_ b:List aP}{s1:AC}{s2:AC}(h1:aQ κ s1 a_)(h2:aQ κ s2 b):V0 Tryz.prog κ 131 (mL a_ b) [.h s1 a_.length,.h s2 b.length] .b:=
 bM tok Tryz.call131 Tryz.func131 Tryz.results131 rfl rfl<|aV [10] rfl rfl (aY rfl rfl)<|CH 5 [0,1] [] Out.brk [] [] rfl rfl (fun hF1 x2 hr1=>aV [14] rfl rfl (jP aL [] rfl<|eG sU rfl h1 rfl fun x3 s3 h3=>eG sU rfl h2 rfl fun x4 s4 h4=>c0 rfl (fun h=>vG (h.a h3) (h.a h4)) fun x5=>aV [26] rfl rfl (eX hr1 hF1<|aY rfl rfl)<|pX [] rfl)<|jE [] rfl)<|aY rfl rfl
theorem xF{a_ b:aA}{s1 s2 s3 s4 s5 s6 s7:AC}{s8 s9 s10 s11 s12 s13 s14:AC}(h1:aQ κ s1 a_.Mem.aC.Bytes)(h2:aQ κ s2 a_.Mem.aC.Class)(h3:aQ κ s3 a_.Mem.aB.Global)(h4:aQ κ s4 a_.Mem.aB.bA)(h5:aQ κ s5 a_.aD.aM)(h6:aQ κ s6 a_.aH)(h7:aQ κ s7 a_.bO)(h8:aQ κ s8 b.Mem.aC.Bytes)(h9:aQ κ s9 b.Mem.aC.Class)(h10:aQ κ s10 b.Mem.aB.Global)(h11:aQ κ s11 b.Mem.aB.bA)(h12:aQ κ s12 b.aD.aM)(h13:aQ κ s13 b.aH)(h14:aQ κ s14 b.bO):V0 Tryz.prog κ 54 (qN a_ b) [.g [.h s1 a_.Mem.aC.Bytes.length,.h s2 a_.Mem.aC.Class.length,.h s3 a_.Mem.aB.Global.length,.h s4 a_.Mem.aB.bA.length,I a_.aD.aJ,.h s5 a_.aD.aM.length,.h s6 a_.aH.length,.h s7 a_.bO.length],.g [.h s8 b.Mem.aC.Bytes.length,.h s9 b.Mem.aC.Class.length,.h s10 b.Mem.aB.Global.length,.h s11 b.Mem.aB.bA.length,I b.aD.aJ,.h s12 b.aD.aM.length,.h s13 b.aH.length,.h s14 b.bO.length]] .b:=
 bM tok Tryz.call54 Tryz.func54 Tryz.results54 rfl rfl<|c0 rfl (fun h=>AE (h.a h1) (h.a h2) (h.a h3) (h.a h4) (h.a h8) (h.a h9) (h.a h10) (h.a h11)) fun x1=>aV [10] rfl rfl (aY rfl rfl)<|c0 rfl (fun h=>vD (h.a h5) (h.a h12)) fun x2=>aV [16] rfl rfl (aY rfl rfl)<|c0 rfl (fun h=>tP (h.a h6) (h.a h13)) fun x3=>aV [22] rfl rfl (aY rfl rfl)<|c0 rfl (fun h=>fK (h.a h7) (h.a h14)) fun x4=>aV [28] rfl rfl (aY rfl rfl)<|aY rfl rfl
theorem AG{a_ b:Sub}:V0 Tryz.prog κ 221 (sL a_ b) [.g [I a_.Kind,I a_.A,I a_.Pc,I a_.E,I a_.Row,I a_.B,I a_.H,I a_.Out,I a_.Code,.b a_.dW],.g [I b.Kind,I b.A,I b.Pc,I b.E,I b.Row,I b.B,I b.H,I b.Out,I b.Code,.b b.dW]] .b:=
 bM tok Tryz.call221 Tryz.func221 Tryz.results221 rfl rfl<|aV [9] rfl rfl (aY rfl rfl)<|aV [14] rfl rfl (aY rfl rfl)<|aV [19] rfl rfl (aY rfl rfl)<|aV [24] rfl rfl (aY rfl rfl)<|aV [29] rfl rfl (aY rfl rfl)<|aV [34] rfl rfl (aY rfl rfl)<|aV [39] rfl rfl (aY rfl rfl)<|aV [44] rfl rfl (aY rfl rfl)<|aV [49] rfl rfl (aY rfl rfl)<|aV [54] rfl rfl (aY rfl rfl)<|aY rfl rfl
theorem AH{a_ b:bG}:V0 Tryz.prog κ 132 (sM a_ b) [.g [.b a_.g7,I a_.Op.Kind,I a_.Op.Cell,I a_.Op.gD,I a_.Op.eY,I a_.aK,I a_.Pc,I a_.Sub.Kind,I a_.Sub.A,I a_.Sub.Pc,I a_.Sub.E,I a_.Sub.Row,I a_.Sub.B,I a_.Sub.H,I a_.Sub.Out,I a_.Sub.Code,.b a_.Sub.dW,I a_.H,I a_.Old,I a_.eY,I a_.Code],.g [.b b.g7,I b.Op.Kind,I b.Op.Cell,I b.Op.gD,I b.Op.eY,I b.aK,I b.Pc,I b.Sub.Kind,I b.Sub.A,I b.Sub.Pc,I b.Sub.E,I b.Sub.Row,I b.Sub.B,I b.Sub.H,I b.Sub.Out,I b.Sub.Code,.b b.Sub.dW,I b.H,I b.Old,I b.eY,I b.Code]] .b:=
 bM tok Tryz.call132 Tryz.func132 Tryz.results132 rfl rfl<|aV [9] rfl rfl (aY rfl rfl)<|c0 rfl (fun _=>OU) fun x1=>aV [15] rfl rfl (aY rfl rfl)<|aV [20] rfl rfl (aY rfl rfl)<|aV [25] rfl rfl (aY rfl rfl)<|c0 rfl (fun _=>AG) fun x2=>aV [31] rfl rfl (aY rfl rfl)<|aV [36] rfl rfl (aY rfl rfl)<|aV [41] rfl rfl (aY rfl rfl)<|aV [46] rfl rfl (aY rfl rfl)<|aV [51] rfl rfl (aY rfl rfl)<|aY rfl rfl
theorem xG{a_ b:List bG}{s1:AC}{s2:AC}(h1:aQ κ s1 a_)(h2:aQ κ s2 b):V0 Tryz.prog κ 56 (qO a_ b) [.h s1 a_.length,.h s2 b.length] .b:=
 bM tok Tryz.call56 Tryz.func56 Tryz.results56 rfl rfl<|aV [10] rfl rfl (aY rfl rfl)<|CH 5 [0,1] [] Out.brk [] [] rfl rfl (fun hF1 x2 hr1=>aV [14] rfl rfl (jP aL [] rfl<|eG gZ rfl h1 rfl fun x3 _ _=>eG gZ rfl h2 rfl fun x4 _ _=>c0 rfl (fun _=>AH) fun x5=>aV [26] rfl rfl (eX hr1 hF1<|aY rfl rfl)<|pX [] rfl)<|jE [] rfl)<|aY rfl rfl
theorem DN{a_ b:Ev}:V0 Tryz.prog κ 134 (vQ a_ b) [.g [I a_.Kind,I a_.XZ,I a_.aK,I a_.Cell,I a_.Handle,I a_.eY,I a_.Code],.g [I b.Kind,I b.XZ,I b.aK,I b.Cell,I b.Handle,I b.eY,I b.Code]] .b:=
 bM tok Tryz.call134 Tryz.func134 Tryz.results134 rfl rfl<|aV [9] rfl rfl (aY rfl rfl)<|aV [14] rfl rfl (aY rfl rfl)<|aV [19] rfl rfl (aY rfl rfl)<|aV [24] rfl rfl (aY rfl rfl)<|aV [29] rfl rfl (aY rfl rfl)<|aV [34] rfl rfl (aY rfl rfl)<|aV [39] rfl rfl (aY rfl rfl)<|aY rfl rfl
theorem AI{a_ b:List Ev}{s1:AC}{s2:AC}(h1:aQ κ s1 a_)(h2:aQ κ s2 b):V0 Tryz.prog κ 58 (sN a_ b) [.h s1 a_.length,.h s2 b.length] .b:=
 bM tok Tryz.call58 Tryz.func58 Tryz.results58 rfl rfl<|aV [10] rfl rfl (aY rfl rfl)<|CH 5 [0,1] [] Out.brk [] [] rfl rfl (fun hF1 x2 hr1=>aV [14] rfl rfl (jP aL [] rfl<|eG UW rfl h1 rfl fun x3 _ _=>eG UW rfl h2 rfl fun x4 _ _=>c0 rfl (fun _=>DN) fun x5=>aV [26] rfl rfl (eX hr1 hF1<|aY rfl rfl)<|pX [] rfl)<|jE [] rfl)<|aY rfl rfl
theorem iM{a_ b:aE}{s1 s2 s3 s4 s5 s6 s7 s8 s9 s10 s11:AC}{s12 s13 s14 s15 s16 s17 s18 s19 s20 s21 s22:AC}(h1:aQ κ s1 a_.aA.Mem.aC.Bytes)(h2:aQ κ s2 a_.aA.Mem.aC.Class)(h3:aQ κ s3 a_.aA.Mem.aB.Global)(h4:aQ κ s4 a_.aA.Mem.aB.bA)(h5:aQ κ s5 a_.aA.aD.aM)(h6:aQ κ s6 a_.aA.aH)(h7:aQ κ s7 a_.aA.bO)(h8:aQ κ s8 a_.Cells)(h9:aQ κ s9 a_.aR)(h10:aQ κ s10 a_.aU)(h11:aQ κ s11 a_.Log)(h12:aQ κ s12 b.aA.Mem.aC.Bytes)(h13:aQ κ s13 b.aA.Mem.aC.Class)(h14:aQ κ s14 b.aA.Mem.aB.Global)(h15:aQ κ s15 b.aA.Mem.aB.bA)(h16:aQ κ s16 b.aA.aD.aM)(h17:aQ κ s17 b.aA.aH)(h18:aQ κ s18 b.aA.bO)(h19:aQ κ s19 b.Cells)(h20:aQ κ s20 b.aR)(h21:aQ κ s21 b.aU)(h22:aQ κ s22 b.Log):V0 Tryz.prog κ 14 (cL a_ b) [.g [.h s1 a_.aA.Mem.aC.Bytes.length,.h s2 a_.aA.Mem.aC.Class.length,.h s3 a_.aA.Mem.aB.Global.length,.h s4 a_.aA.Mem.aB.bA.length,I a_.aA.aD.aJ,.h s5 a_.aA.aD.aM.length,.h s6 a_.aA.aH.length,.h s7 a_.aA.bO.length,.h s8 a_.Cells.length,.h s9 a_.aR.length,.h s10 a_.aU.length,.h s11 a_.Log.length,I a_.aK],.g [.h s12 b.aA.Mem.aC.Bytes.length,.h s13 b.aA.Mem.aC.Class.length,.h s14 b.aA.Mem.aB.Global.length,.h s15 b.aA.Mem.aB.bA.length,I b.aA.aD.aJ,.h s16 b.aA.aD.aM.length,.h s17 b.aA.aH.length,.h s18 b.aA.bO.length,.h s19 b.Cells.length,.h s20 b.aR.length,.h s21 b.aU.length,.h s22 b.Log.length,I b.aK]] .b:=
 bM tok Tryz.call14 Tryz.func14 Tryz.results14 rfl rfl<|c0 rfl (fun h=>xF (h.a h1) (h.a h2) (h.a h3) (h.a h4) (h.a h5) (h.a h6) (h.a h7) (h.a h12) (h.a h13) (h.a h14) (h.a h15) (h.a h16) (h.a h17) (h.a h18)) fun x1=>aV [10] rfl rfl (aY rfl rfl)<|c0 rfl (fun h=>fK (h.a h8) (h.a h19)) fun x2=>aV [16] rfl rfl (aY rfl rfl)<|c0 rfl (fun h=>xG (h.a h9) (h.a h20)) fun x3=>aV [22] rfl rfl (aY rfl rfl)<|c0 rfl (fun h=>vV (h.a h10) (h.a h21)) fun x4=>aV [28] rfl rfl (aY rfl rfl)<|c0 rfl (fun h=>AI (h.a h11) (h.a h22)) fun x5=>aV [34] rfl rfl (aY rfl rfl)<|aV [39] rfl rfl (aY rfl rfl)<|aY rfl rfl
theorem dU{a_:List Int}{k:Int}{s1:AC}:VS Tryz.prog κ 60 (gU a_ k) [.h s1 a_.length,I k] [] [ow s1 (a_:List Int)] (fun(r:Int×(List Int)) (y:Unit)=>I r.1) (fun(r:Int×(List Int)) (y:Unit)=>[.o (bH [AC.v s1 a_.length] r.2)]):=
 bM tok Tryz.call60 Tryz.func60 Tryz.results60 rfl rfl<|mQ () [] (fun(p:(List Int)×Int×Int) (_:Unit)=>[(0,.h s1 p.1.length),(1,I p.2.1),(5,I p.2.2)]) [0] [] (fun p _=>[ow s1 (p.1:List Int)]) id [] (fun(p:(List Int)×Int) (_:Unit)=>[(0,.h s1 p.1.length),(1,I p.2)]) [] (fun p _=>[ow s1 (p.1:List Int)]) rfl rfl (fun hF1 ⟨x4,x5,x6⟩ _ hr1=>fun hG1=>nd hG1 fun hl3 hG1=>wi hG1<|aV [9] rfl rfl (mP oI 0 rfl rfl rfl fun x9 h1 _ h2=>fun hG1=>dT 0 h2 h1 rfl rfl rfl rfl rfl<|sF rfl<|nD oI 1 [] [0,7,12] x5 () rfl rfl rfl rfl rfl rfl rfl rfl<|EY () [4] hG1 rfl)<|jE [0] rfl) fun⟨x7,x8⟩ _=>fun hF=>nd hF fun hl2 hF=>sR rfl<|pV 0 hl2 rfl<|nB (hT:=tok) () [0] hF rfl Tryz.results60 rfl rfl rfl rfl
theorem sD{a_:List bP}{k:Int}{s1:AC}:VS Tryz.prog κ 147 (lF a_ k) [.h s1 a_.length,I k] [] [ow s1 (a_:List bP)] (fun(r:Int×(List bP)) (y:Unit)=>I r.1) (fun(r:Int×(List bP)) (y:Unit)=>[.o (bH [AC.v s1 a_.length] r.2)]):=
 bM tok Tryz.call147 Tryz.func147 Tryz.results147 rfl rfl<|mQ () [] (fun(p:(List bP)×Int×Int) (_:Unit)=>[(0,.h s1 p.1.length),(1,I p.2.1),(5,I p.2.2)]) [0] [] (fun p _=>[ow s1 (p.1:List bP)]) id [] (fun(p:(List bP)×Int) (_:Unit)=>[(0,.h s1 p.1.length),(1,I p.2)]) [] (fun p _=>[ow s1 (p.1:List bP)]) rfl rfl (fun hF1 ⟨x4,x5,x6⟩ _ hr1=>fun hG1=>nd hG1 fun hl3 hG1=>wi hG1<|aV [9] rfl rfl (mP kK 0 rfl rfl rfl fun x9 h1 _ h2=>fun hG1=>dT 0 h2 h1 rfl rfl rfl rfl rfl<|dT 0 h2 h1 rfl rfl rfl rfl rfl<|sF rfl<|nD kK 1 [] [0,7,12,19] (⟨x5,aI (x5+1)⟩:bP) () rfl rfl rfl rfl rfl rfl rfl rfl<|EY () [4] hG1 rfl)<|jE [0] rfl) fun⟨x7,x8⟩ _=>fun hF=>nd hF fun hl2 hF=>sR rfl<|pV 0 hl2 rfl<|nB (hT:=tok) () [0] hF rfl Tryz.results147 rfl rfl rfl rfl
theorem qZ{a_:List aP}{k:Int}{s1:AC}:VS Tryz.prog κ 77 (jS a_ k) [.h s1 a_.length,I k] [] [ow s1 (a_:List aP)] (fun(r:Int×(List aP)) (y:Unit)=>I r.1) (fun(r:Int×(List aP)) (y:Unit)=>[.o (bH [AC.v s1 a_.length] r.2)]):=
 bM tok Tryz.call77 Tryz.func77 Tryz.results77 rfl rfl<|mQ () [] (fun(p:(List aP)×Int×Int) (_:Unit)=>[(0,.h s1 p.1.length),(1,I p.2.1),(5,I p.2.2)]) [0] [] (fun p _=>[ow s1 (p.1:List aP)]) id [] (fun(p:(List aP)×Int) (_:Unit)=>[(0,.h s1 p.1.length),(1,I p.2)]) [] (fun p _=>[ow s1 (p.1:List aP)]) rfl rfl (fun hF1 ⟨x4,x5,x6⟩ _ hr1=>fun hG1=>nd hG1 fun hl3 hG1=>wi hG1<|aV [9] rfl rfl (mP mI 0 rfl rfl rfl fun x9 h1 s2 h2=>fun hG1=>dT 0 h2 h1 rfl rfl rfl rfl rfl<|wi hG1<|fZ [4] rfl rfl rfl rfl (fun _=>sD) fun x10 _=>fun hG1=>un 5 [16] [] [(2,0)] rfl rfl rfl rfl rfl rfl fun hl4=>sF rfl<|nD mI 1 [5] [0,7,12] (⟨x10.2⟩:aP) s2 rfl rfl rfl rfl rfl rfl rfl rfl<|EY () [6] hG1 rfl)<|jE [0] rfl) fun⟨x7,x8⟩ _=>fun hF=>nd hF fun hl2 hF=>sR rfl<|pV 0 hl2 rfl<|nB (hT:=tok) () [0] hF rfl Tryz.results77 rfl rfl rfl rfl
theorem j9{a_:List aG}{k:Int}{s1:AC}:VS Tryz.prog κ 75 (iO a_ k) [.h s1 a_.length,I k] [] [ow s1 (a_:List aG)] (fun(r:Int×(List aG)) (y:Unit)=>I r.1) (fun(r:Int×(List aG)) (y:Unit)=>[.o (bH [AC.v s1 a_.length] r.2)]):=
 bM tok Tryz.call75 Tryz.func75 Tryz.results75 rfl rfl<|mQ () [] (fun(p:(List aG)×Int×Int) (_:Unit)=>[(0,.h s1 p.1.length),(1,I p.2.1),(5,I p.2.2)]) [0] [] (fun p _=>[ow s1 (p.1:List aG)]) id [] (fun(p:(List aG)×Int) (_:Unit)=>[(0,.h s1 p.1.length),(1,I p.2)]) [] (fun p _=>[ow s1 (p.1:List aG)]) rfl rfl (fun hF1 ⟨x4,x5,x6⟩ _ hr1=>fun hG1=>nd hG1 fun hl3 hG1=>wi hG1<|aV [9] rfl rfl (mP kZ 0 rfl rfl rfl fun x9 h1 s2 h2=>fun hG1=>dT 0 h2 h1 rfl rfl rfl rfl rfl<|wi hG1<|fZ [4] rfl rfl rfl rfl (fun _=>dU) fun x10 _=>fun hG1=>un 5 [16] [] [(2,0)] rfl rfl rfl rfl rfl rfl fun hl4=>sF rfl<|nD kZ 1 [5] [0,7,12] (⟨x10.2⟩:aG) s2 rfl rfl rfl rfl rfl rfl rfl rfl<|EY () [6] hG1 rfl)<|jE [0] rfl) fun⟨x7,x8⟩ _=>fun hF=>nd hF fun hl2 hF=>sR rfl<|pV 0 hl2 rfl<|nB (hT:=tok) () [0] hF rfl Tryz.results75 rfl rfl rfl rfl
theorem tQ{a_:List cQ}{k:Int}{s1:AC}:VS Tryz.prog κ 76 (lY a_ k) [.h s1 a_.length,I k] [] [ow s1 (a_:List cQ)] (fun(r:Int×(List cQ)) (y:Unit)=>I r.1) (fun(r:Int×(List cQ)) (y:Unit)=>[.o (bH [AC.v s1 a_.length] r.2)]):=
 bM tok Tryz.call76 Tryz.func76 Tryz.results76 rfl rfl<|mQ () [] (fun(p:(List cQ)×Int×Int) (_:Unit)=>[(0,.h s1 p.1.length),(1,I p.2.1),(5,I p.2.2)]) [0] [] (fun p _=>[ow s1 (p.1:List cQ)]) id [] (fun(p:(List cQ)×Int) (_:Unit)=>[(0,.h s1 p.1.length),(1,I p.2)]) [] (fun p _=>[ow s1 (p.1:List cQ)]) rfl rfl (fun hF1 ⟨x4,x5,x6⟩ _ hr1=>fun hG1=>nd hG1 fun hl3 hG1=>wi hG1<|aV [9] rfl rfl (mP wG 0 rfl rfl rfl fun x9 h1 _ h2=>fun hG1=>dT 0 h2 h1 rfl rfl rfl rfl rfl<|dT 0 h2 h1 rfl rfl rfl rfl rfl<|dT 0 h2 h1 rfl rfl rfl rfl rfl<|dT 0 h2 h1 rfl rfl rfl rfl rfl<|sF rfl<|nD wG 1 [] [0,7,12,21,28,37] (⟨(Int.tmod x5 3) == 0,aI (x5+1),(Int.tmod (aI ((aI (x5+1))+1)) 3) == 0,aI ((aI ((aI (x5+1))+1))+1)⟩:cQ) () rfl rfl rfl rfl rfl rfl rfl rfl<|EY () [4] hG1 rfl)<|jE [0] rfl) fun⟨x7,x8⟩ _=>fun hF=>nd hF fun hl2 hF=>sR rfl<|pV 0 hl2 rfl<|nB (hT:=tok) () [0] hF rfl Tryz.results76 rfl rfl rfl rfl
theorem tR{a_:List bG}{k:Int}{s1:AC}:VS Tryz.prog κ 61 (lZ a_ k) [.h s1 a_.length,I k] [] [ow s1 (a_:List bG)] (fun(r:Int×(List bG)) (y:Unit)=>I r.1) (fun(r:Int×(List bG)) (y:Unit)=>[.o (bH [AC.v s1 a_.length] r.2)]):=
 bM tok Tryz.call61 Tryz.func61 Tryz.results61 rfl rfl<|mQ () [] (fun(p:(List bG)×Int×Int) (_:Unit)=>[(0,.h s1 p.1.length),(1,I p.2.1),(5,I p.2.2)]) [0] [] (fun p _=>[ow s1 (p.1:List bG)]) id [] (fun(p:(List bG)×Int) (_:Unit)=>[(0,.h s1 p.1.length),(1,I p.2)]) [] (fun p _=>[ow s1 (p.1:List bG)]) rfl rfl (fun hF1 ⟨x4,x5,x6⟩ _ hr1=>fun hG1=>nd hG1 fun hl3 hG1=>wi hG1<|aV [9] rfl rfl (mP eO 0 rfl rfl rfl fun x9 h1 _ h2=>fun hG1=>dT 0 h2 h1 rfl rfl rfl rfl rfl<|dT 0 h2 h1 rfl rfl rfl rfl rfl<|dT 0 h2 h1 rfl rfl rfl rfl rfl<|dT 0 h2 h1 rfl rfl rfl rfl rfl<|dT 0 h2 h1 rfl rfl rfl rfl rfl<|dT 0 h2 h1 rfl rfl rfl rfl rfl<|dT 0 h2 h1 rfl rfl rfl rfl rfl<|dT 0 h2 h1 rfl rfl rfl rfl rfl<|dT 0 h2 h1 rfl rfl rfl rfl rfl<|dT 0 h2 h1 rfl rfl rfl rfl rfl<|dT 0 h2 h1 rfl rfl rfl rfl rfl<|dT 0 h2 h1 rfl rfl rfl rfl rfl<|dT 0 h2 h1 rfl rfl rfl rfl rfl<|dT 0 h2 h1 rfl rfl rfl rfl rfl<|dT 0 h2 h1 rfl rfl rfl rfl rfl<|dT 0 h2 h1 rfl rfl rfl rfl rfl<|dT 0 h2 h1 rfl rfl rfl rfl rfl<|dT 0 h2 h1 rfl rfl rfl rfl rfl<|dT 0 h2 h1 rfl rfl rfl rfl rfl<|dT 0 h2 h1 rfl rfl rfl rfl rfl<|dT 0 h2 h1 rfl rfl rfl rfl rfl<|sF rfl<|nD eO 1 [] [0,7,12,21,29,37,45,53,60,67,75,83,91,99,107,115,123,131,139,149,156,163,170] (⟨(Int.tmod x5 3) == 0,(⟨aI (x5+1),aI ((aI (x5+1))+1),aI ((aI ((aI (x5+1))+1))+1),aI ((aI ((aI ((aI (x5+1))+1))+1))+1)⟩:cM),aI ((aI ((aI ((aI ((aI (x5+1))+1))+1))+1))+1),aI ((aI ((aI ((aI ((aI ((aI (x5+1))+1))+1))+1))+1))+1),(⟨aI ((aI ((aI ((aI ((aI ((aI ((aI (x5+1))+1))+1))+1))+1))+1))+1),aI ((aI ((aI ((aI ((aI ((aI ((aI ((aI (x5+1))+1))+1))+1))+1))+1))+1))+1),aI ((aI ((aI ((aI ((aI ((aI ((aI ((aI ((aI (x5+1))+1))+1))+1))+1))+1))+1))+1))+1),aI ((aI ((aI ((aI ((aI ((aI ((aI ((aI ((aI ((aI (x5+1))+1))+1))+1))+1))+1))+1))+1))+1))+1),aI ((aI ((aI ((aI ((aI ((aI ((aI ((aI ((aI ((aI ((aI (x5+1))+1))+1))+1))+1))+1))+1))+1))+1))+1))+1),aI ((aI ((aI ((aI ((aI ((aI ((aI ((aI ((aI ((aI ((aI ((aI (x5+1))+1))+1))+1))+1))+1))+1))+1))+1))+1))+1))+1),aI ((aI ((aI ((aI ((aI ((aI ((aI ((aI ((aI ((aI ((aI ((aI ((aI (x5+1))+1))+1))+1))+1))+1))+1))+1))+1))+1))+1))+1))+1),aI ((aI ((aI ((aI ((aI ((aI ((aI ((aI ((aI ((aI ((aI ((aI ((aI ((aI (x5+1))+1))+1))+1))+1))+1))+1))+1))+1))+1))+1))+1))+1))+1),aI ((aI ((aI ((aI ((aI ((aI ((aI ((aI ((aI ((aI ((aI ((aI ((aI ((aI ((aI (x5+1))+1))+1))+1))+1))+1))+1))+1))+1))+1))+1))+1))+1))+1))+1),(Int.tmod (aI ((aI ((aI ((aI ((aI ((aI ((aI ((aI ((aI ((aI ((aI ((aI ((aI ((aI ((aI ((aI (x5+1))+1))+1))+1))+1))+1))+1))+1))+1))+1))+1))+1))+1))+1))+1))+1)) 3) == 0⟩:Sub),aI ((aI ((aI ((aI ((aI ((aI ((aI ((aI ((aI ((aI ((aI ((aI ((aI ((aI ((aI ((aI ((aI (x5+1))+1))+1))+1))+1))+1))+1))+1))+1))+1))+1))+1))+1))+1))+1))+1))+1),aI ((aI ((aI ((aI ((aI ((aI ((aI ((aI ((aI ((aI ((aI ((aI ((aI ((aI ((aI ((aI ((aI ((aI (x5+1))+1))+1))+1))+1))+1))+1))+1))+1))+1))+1))+1))+1))+1))+1))+1))+1))+1),aI ((aI ((aI ((aI ((aI ((aI ((aI ((aI ((aI ((aI ((aI ((aI ((aI ((aI ((aI ((aI ((aI ((aI ((aI (x5+1))+1))+1))+1))+1))+1))+1))+1))+1))+1))+1))+1))+1))+1))+1))+1))+1))+1))+1),aI ((aI ((aI ((aI ((aI ((aI ((aI ((aI ((aI ((aI ((aI ((aI ((aI ((aI ((aI ((aI ((aI ((aI ((aI ((aI (x5+1))+1))+1))+1))+1))+1))+1))+1))+1))+1))+1))+1))+1))+1))+1))+1))+1))+1))+1))+1)⟩:bG) () rfl rfl rfl rfl rfl rfl rfl rfl<|EY () [4] hG1 rfl)<|jE [0] rfl) fun⟨x7,x8⟩ _=>fun hF=>nd hF fun hl2 hF=>sR rfl<|pV 0 hl2 rfl<|nB (hT:=tok) () [0] hF rfl Tryz.results61 rfl rfl rfl rfl
theorem vH{a_:List cM}{k:Int}{s1:AC}:VS Tryz.prog κ 137 (nU a_ k) [.h s1 a_.length,I k] [] [ow s1 (a_:List cM)] (fun(r:Int×(List cM)) (y:Unit)=>I r.1) (fun(r:Int×(List cM)) (y:Unit)=>[.o (bH [AC.v s1 a_.length] r.2)]):=
 bM tok Tryz.call137 Tryz.func137 Tryz.results137 rfl rfl<|mQ () [] (fun(p:(List cM)×Int×Int) (_:Unit)=>[(0,.h s1 p.1.length),(1,I p.2.1),(5,I p.2.2)]) [0] [] (fun p _=>[ow s1 (p.1:List cM)]) id [] (fun(p:(List cM)×Int) (_:Unit)=>[(0,.h s1 p.1.length),(1,I p.2)]) [] (fun p _=>[ow s1 (p.1:List cM)]) rfl rfl (fun hF1 ⟨x4,x5,x6⟩ _ hr1=>fun hG1=>nd hG1 fun hl3 hG1=>wi hG1<|aV [9] rfl rfl (mP aAP 0 rfl rfl rfl fun x9 h1 _ h2=>fun hG1=>dT 0 h2 h1 rfl rfl rfl rfl rfl<|dT 0 h2 h1 rfl rfl rfl rfl rfl<|dT 0 h2 h1 rfl rfl rfl rfl rfl<|dT 0 h2 h1 rfl rfl rfl rfl rfl<|sF rfl<|nD aAP 1 [] [0,7,12,19,26,33] (⟨x5,aI (x5+1),aI ((aI (x5+1))+1),aI ((aI ((aI (x5+1))+1))+1)⟩:cM) () rfl rfl rfl rfl rfl rfl rfl rfl<|EY () [4] hG1 rfl)<|jE [0] rfl) fun⟨x7,x8⟩ _=>fun hF=>nd hF fun hl2 hF=>sR rfl<|pV 0 hl2 rfl<|nB (hT:=tok) () [0] hF rfl Tryz.results137 rfl rfl rfl rfl
theorem pA{a_:List Queue}{k:Int}{s1:AC}:VS Tryz.prog κ 62 (jC a_ k) [.h s1 a_.length,I k] [] [ow s1 (a_:List Queue)] (fun(r:Int×(List Queue)) (y:Unit)=>I r.1) (fun(r:Int×(List Queue)) (y:Unit)=>[.o (bH [AC.v s1 a_.length] r.2)]):=
 bM tok Tryz.call62 Tryz.func62 Tryz.results62 rfl rfl<|mQ () [] (fun(p:(List Queue)×Int×Int) (_:Unit)=>[(0,.h s1 p.1.length),(1,I p.2.1),(5,I p.2.2)]) [0] [] (fun p _=>[ow s1 (p.1:List Queue)]) id [] (fun(p:(List Queue)×Int) (_:Unit)=>[(0,.h s1 p.1.length),(1,I p.2)]) [] (fun p _=>[ow s1 (p.1:List Queue)]) rfl rfl (fun hF1 ⟨x4,x5,x6⟩ _ hr1=>fun hG1=>nd hG1 fun hl3 hG1=>wi hG1<|aV [9] rfl rfl (mP rL 0 rfl rfl rfl fun x9 h1 s2 h2=>fun hG1=>dT 0 h2 h1 rfl rfl rfl rfl rfl<|wi hG1<|fZ [4] rfl rfl rfl rfl (fun _=>vH) fun x10 _=>fun hG1=>un 5 [16] [] [(2,0)] rfl rfl rfl rfl rfl rfl fun hl4=>sF rfl<|nD rL 1 [5] [0,7,12] (⟨x10.2⟩:Queue) s2 rfl rfl rfl rfl rfl rfl rfl rfl<|EY () [6] hG1 rfl)<|jE [0] rfl) fun⟨x7,x8⟩ _=>fun hF=>nd hF fun hl2 hF=>sR rfl<|pV 0 hl2 rfl<|nB (hT:=tok) () [0] hF rfl Tryz.results62 rfl rfl rfl rfl
theorem vI{a_:List Ev}{k:Int}{s1:AC}:VS Tryz.prog κ 63 (mZ a_ k) [.h s1 a_.length,I k] [] [ow s1 (a_:List Ev)] (fun(r:Int×(List Ev)) (y:Unit)=>I r.1) (fun(r:Int×(List Ev)) (y:Unit)=>[.o (bH [AC.v s1 a_.length] r.2)]):=
 bM tok Tryz.call63 Tryz.func63 Tryz.results63 rfl rfl<|mQ () [] (fun(p:(List Ev)×Int×Int) (_:Unit)=>[(0,.h s1 p.1.length),(1,I p.2.1),(5,I p.2.2)]) [0] [] (fun p _=>[ow s1 (p.1:List Ev)]) id [] (fun(p:(List Ev)×Int) (_:Unit)=>[(0,.h s1 p.1.length),(1,I p.2)]) [] (fun p _=>[ow s1 (p.1:List Ev)]) rfl rfl (fun hF1 ⟨x4,x5,x6⟩ _ hr1=>fun hG1=>nd hG1 fun hl3 hG1=>wi hG1<|aV [9] rfl rfl (mP oEv 0 rfl rfl rfl fun x9 h1 _ h2=>fun hG1=>dT 0 h2 h1 rfl rfl rfl rfl rfl<|dT 0 h2 h1 rfl rfl rfl rfl rfl<|dT 0 h2 h1 rfl rfl rfl rfl rfl<|dT 0 h2 h1 rfl rfl rfl rfl rfl<|dT 0 h2 h1 rfl rfl rfl rfl rfl<|dT 0 h2 h1 rfl rfl rfl rfl rfl<|dT 0 h2 h1 rfl rfl rfl rfl rfl<|sF rfl<|nD oEv 1 [] [0,7,12,19,26,33,40,47,54] (⟨x5,aI (x5+1),aI ((aI (x5+1))+1),aI ((aI ((aI (x5+1))+1))+1),aI ((aI ((aI ((aI (x5+1))+1))+1))+1),aI ((aI ((aI ((aI ((aI (x5+1))+1))+1))+1))+1),aI ((aI ((aI ((aI ((aI ((aI (x5+1))+1))+1))+1))+1))+1)⟩:Ev) () rfl rfl rfl rfl rfl rfl rfl rfl<|EY () [4] hG1 rfl)<|jE [0] rfl) fun⟨x7,x8⟩ _=>fun hF=>nd hF fun hl2 hF=>sR rfl<|pV 0 hl2 rfl<|nB (hT:=tok) () [0] hF rfl Tryz.results63 rfl rfl rfl rfl
theorem d7{a_:List Int}{k:Int}{s1:AC}(h1:aQ κ s1 a_):V0 Tryz.prog κ 65 (d8 a_ k) [.h s1 a_.length,I k] I:=
 bM tok Tryz.call65 Tryz.func65 Tryz.results65 rfl rfl<|mQ () [0] (fun(p:Int×Int) (_:Unit)=>[(1,I p.1),(5,I p.2)]) [] [] (fun p _=>[]) Out.brk [] (fun(x5:Int) (_:Unit)=>[(1,I x5)]) [] (fun x5 _=>[]) rfl rfl (fun hF1 ⟨x3,x4⟩ _ hr1=>aV [9] rfl rfl (UT rfl h1 rfl fun x6=>aV [17] rfl rfl (eX hr1 hF1<|aY rfl rfl)<|pX [] rfl)<|jE [] rfl) fun x5 _=>aY rfl rfl
theorem sE{a_:List bP}{k:Int}{s1:AC}(h1:aQ κ s1 a_):V0 Tryz.prog κ 148 (fE a_ k) [.h s1 a_.length,I k] I:=
 bM tok Tryz.call148 Tryz.func148 Tryz.results148 rfl rfl<|mQ () [0] (fun(p:Int×Int) (_:Unit)=>[(1,I p.1),(5,I p.2)]) [] [] (fun p _=>[]) Out.brk [] (fun(x5:Int) (_:Unit)=>[(1,I x5)]) [] (fun x5 _=>[]) rfl rfl (fun hF1 ⟨x3,x4⟩ _ hr1=>aV [9] rfl rfl (eG DF rfl h1 rfl fun x6 _ _=>aV [18] rfl rfl (eX hr1 hF1<|aY rfl rfl)<|eG DF rfl h1 rfl fun x7 _ _=>aV [27] rfl rfl (eX hr1 hF1<|aY rfl rfl)<|pX [] rfl)<|jE [] rfl) fun x5 _=>aY rfl rfl
theorem rA{a_:List aP}{k:Int}{s1:AC}(h1:aQ κ s1 a_):V0 Tryz.prog κ 80 (jT a_ k) [.h s1 a_.length,I k] I:=
 bM tok Tryz.call80 Tryz.func80 Tryz.results80 rfl rfl<|mQ () [0] (fun(p:Int×Int) (_:Unit)=>[(1,I p.1),(5,I p.2)]) [] [] (fun p _=>[]) Out.brk [] (fun(x5:Int) (_:Unit)=>[(1,I x5)]) [] (fun x5 _=>[]) rfl rfl (fun hF1 ⟨x3,x4⟩ _ hr1=>aV [9] rfl rfl (eG sU rfl h1 rfl fun x6 s2 h2=>c0 rfl (fun h=>sE (h.a h2)) fun x7=>aV [20] rfl rfl (eX hr1 hF1<|aY rfl rfl)<|pX [] rfl)<|jE [] rfl) fun x5 _=>aY rfl rfl
theorem kA{a_:List aG}{k:Int}{s1:AC}(h1:aQ κ s1 a_):V0 Tryz.prog κ 78 (iP a_ k) [.h s1 a_.length,I k] I:=
 bM tok Tryz.call78 Tryz.func78 Tryz.results78 rfl rfl<|mQ () [0] (fun(p:Int×Int) (_:Unit)=>[(1,I p.1),(5,I p.2)]) [] [] (fun p _=>[]) Out.brk [] (fun(x5:Int) (_:Unit)=>[(1,I x5)]) [] (fun x5 _=>[]) rfl rfl (fun hF1 ⟨x3,x4⟩ _ hr1=>aV [9] rfl rfl (eG qR rfl h1 rfl fun x6 s2 h2=>c0 rfl (fun h=>d7 (h.a h2)) fun x7=>aV [20] rfl rfl (eX hr1 hF1<|aY rfl rfl)<|pX [] rfl)<|jE [] rfl) fun x5 _=>aY rfl rfl
theorem tS{a_:List cQ}{k:Int}{s1:AC}(h1:aQ κ s1 a_):V0 Tryz.prog κ 79 (l4 a_ k) [.h s1 a_.length,I k] I:=
 bM tok Tryz.call79 Tryz.func79 Tryz.results79 rfl rfl<|mQ () [0] (fun(p:Int×Int) (_:Unit)=>[(1,I p.1),(5,I p.2)]) [] [] (fun p _=>[]) Out.brk [] (fun(x5:Int) (_:Unit)=>[(1,I x5)]) [] (fun x5 _=>[]) rfl rfl (fun hF1 ⟨x3,x4⟩ _ hr1=>aV [9] rfl rfl (eG DY rfl h1 rfl fun x6 _ _=>aV [20] rfl rfl (eX hr1 hF1<|aY rfl rfl)<|eG DY rfl h1 rfl fun x7 _ _=>aV [29] rfl rfl (eX hr1 hF1<|aY rfl rfl)<|eG DY rfl h1 rfl fun x8 _ _=>aV [40] rfl rfl (eX hr1 hF1<|aY rfl rfl)<|eG DY rfl h1 rfl fun x9 _ _=>aV [49] rfl rfl (eX hr1 hF1<|aY rfl rfl)<|pX [] rfl)<|jE [] rfl) fun x5 _=>aY rfl rfl
theorem tT{a_:List bG}{k:Int}{s1:AC}(h1:aQ κ s1 a_):V0 Tryz.prog κ 66 (l5 a_ k) [.h s1 a_.length,I k] I:=
 bM tok Tryz.call66 Tryz.func66 Tryz.results66 rfl rfl<|mQ () [0] (fun(p:Int×Int) (_:Unit)=>[(1,I p.1),(5,I p.2)]) [] [] (fun p _=>[]) Out.brk [] (fun(x5:Int) (_:Unit)=>[(1,I x5)]) [] (fun x5 _=>[]) rfl rfl (fun hF1 ⟨x3,x4⟩ _ hr1=>aV [9] rfl rfl (eG gZ rfl h1 rfl fun x6 _ _=>aV [20] rfl rfl (eX hr1 hF1<|aY rfl rfl)<|eG gZ rfl h1 rfl fun x7 _ _=>aV [30] rfl rfl (eX hr1 hF1<|aY rfl rfl)<|eG gZ rfl h1 rfl fun x8 _ _=>aV [40] rfl rfl (eX hr1 hF1<|aY rfl rfl)<|eG gZ rfl h1 rfl fun x9 _ _=>aV [50] rfl rfl (eX hr1 hF1<|aY rfl rfl)<|eG gZ rfl h1 rfl fun x10 _ _=>aV [60] rfl rfl (eX hr1 hF1<|aY rfl rfl)<|eG gZ rfl h1 rfl fun x11 _ _=>aV [69] rfl rfl (eX hr1 hF1<|aY rfl rfl)<|eG gZ rfl h1 rfl fun x12 _ _=>aV [78] rfl rfl (eX hr1 hF1<|aY rfl rfl)<|eG gZ rfl h1 rfl fun x13 _ _=>aV [88] rfl rfl (eX hr1 hF1<|aY rfl rfl)<|eG gZ rfl h1 rfl fun x14 _ _=>aV [98] rfl rfl (eX hr1 hF1<|aY rfl rfl)<|eG gZ rfl h1 rfl fun x15 _ _=>aV [108] rfl rfl (eX hr1 hF1<|aY rfl rfl)<|eG gZ rfl h1 rfl fun x16 _ _=>aV [118] rfl rfl (eX hr1 hF1<|aY rfl rfl)<|eG gZ rfl h1 rfl fun x17 _ _=>aV [128] rfl rfl (eX hr1 hF1<|aY rfl rfl)<|eG gZ rfl h1 rfl fun x18 _ _=>aV [138] rfl rfl (eX hr1 hF1<|aY rfl rfl)<|eG gZ rfl h1 rfl fun x19 _ _=>aV [148] rfl rfl (eX hr1 hF1<|aY rfl rfl)<|eG gZ rfl h1 rfl fun x20 _ _=>aV [158] rfl rfl (eX hr1 hF1<|aY rfl rfl)<|eG gZ rfl h1 rfl fun x21 _ _=>aV [168] rfl rfl (eX hr1 hF1<|aY rfl rfl)<|eG gZ rfl h1 rfl fun x22 _ _=>aV [180] rfl rfl (eX hr1 hF1<|aY rfl rfl)<|eG gZ rfl h1 rfl fun x23 _ _=>aV [189] rfl rfl (eX hr1 hF1<|aY rfl rfl)<|eG gZ rfl h1 rfl fun x24 _ _=>aV [198] rfl rfl (eX hr1 hF1<|aY rfl rfl)<|eG gZ rfl h1 rfl fun x25 _ _=>aV [207] rfl rfl (eX hr1 hF1<|aY rfl rfl)<|eG gZ rfl h1 rfl fun x26 _ _=>aV [216] rfl rfl (eX hr1 hF1<|aY rfl rfl)<|pX [] rfl)<|jE [] rfl) fun x5 _=>aY rfl rfl
theorem vJ{a_:List cM}{k:Int}{s1:AC}(h1:aQ κ s1 a_):V0 Tryz.prog κ 140 (iB a_ k) [.h s1 a_.length,I k] I:=
 bM tok Tryz.call140 Tryz.func140 Tryz.results140 rfl rfl<|mQ () [0] (fun(p:Int×Int) (_:Unit)=>[(1,I p.1),(5,I p.2)]) [] [] (fun p _=>[]) Out.brk [] (fun(x5:Int) (_:Unit)=>[(1,I x5)]) [] (fun x5 _=>[]) rfl rfl (fun hF1 ⟨x3,x4⟩ _ hr1=>aV [9] rfl rfl (eG RG rfl h1 rfl fun x6 _ _=>aV [18] rfl rfl (eX hr1 hF1<|aY rfl rfl)<|eG RG rfl h1 rfl fun x7 _ _=>aV [27] rfl rfl (eX hr1 hF1<|aY rfl rfl)<|eG RG rfl h1 rfl fun x8 _ _=>aV [36] rfl rfl (eX hr1 hF1<|aY rfl rfl)<|eG RG rfl h1 rfl fun x9 _ _=>aV [45] rfl rfl (eX hr1 hF1<|aY rfl rfl)<|pX [] rfl)<|jE [] rfl) fun x5 _=>aY rfl rfl
theorem rB{a_:List Queue}{k:Int}{s1:AC}(h1:aQ κ s1 a_):V0 Tryz.prog κ 67 (jU a_ k) [.h s1 a_.length,I k] I:=
 bM tok Tryz.call67 Tryz.func67 Tryz.results67 rfl rfl<|mQ () [0] (fun(p:Int×Int) (_:Unit)=>[(1,I p.1),(5,I p.2)]) [] [] (fun p _=>[]) Out.brk [] (fun(x5:Int) (_:Unit)=>[(1,I x5)]) [] (fun x5 _=>[]) rfl rfl (fun hF1 ⟨x3,x4⟩ _ hr1=>aV [9] rfl rfl (eG FH rfl h1 rfl fun x6 s2 h2=>c0 rfl (fun h=>vJ (h.a h2)) fun x7=>aV [20] rfl rfl (eX hr1 hF1<|aY rfl rfl)<|pX [] rfl)<|jE [] rfl) fun x5 _=>aY rfl rfl
theorem vK{a_:List Ev}{k:Int}{s1:AC}(h1:aQ κ s1 a_):V0 Tryz.prog κ 68 (m0 a_ k) [.h s1 a_.length,I k] I:=
 bM tok Tryz.call68 Tryz.func68 Tryz.results68 rfl rfl<|mQ () [0] (fun(p:Int×Int) (_:Unit)=>[(1,I p.1),(5,I p.2)]) [] [] (fun p _=>[]) Out.brk [] (fun(x5:Int) (_:Unit)=>[(1,I x5)]) [] (fun x5 _=>[]) rfl rfl (fun hF1 ⟨x3,x4⟩ _ hr1=>aV [9] rfl rfl (eG UW rfl h1 rfl fun x6 _ _=>aV [18] rfl rfl (eX hr1 hF1<|aY rfl rfl)<|eG UW rfl h1 rfl fun x7 _ _=>aV [27] rfl rfl (eX hr1 hF1<|aY rfl rfl)<|eG UW rfl h1 rfl fun x8 _ _=>aV [36] rfl rfl (eX hr1 hF1<|aY rfl rfl)<|eG UW rfl h1 rfl fun x9 _ _=>aV [45] rfl rfl (eX hr1 hF1<|aY rfl rfl)<|eG UW rfl h1 rfl fun x10 _ _=>aV [54] rfl rfl (eX hr1 hF1<|aY rfl rfl)<|eG UW rfl h1 rfl fun x11 _ _=>aV [63] rfl rfl (eX hr1 hF1<|aY rfl rfl)<|eG UW rfl h1 rfl fun x12 _ _=>aV [72] rfl rfl (eX hr1 hF1<|aY rfl rfl)<|pX [] rfl)<|jE [] rfl) fun x5 _=>aY rfl rfl
theorem vL{x y:Int}:V0 Tryz.prog κ 297 (qA x y) [.i .u64 x,.i .u64 y] (fun r=>.t [.i .u64 r.1,.i .u64 r.2]):=
 bM tok Tryz.call297 Tryz.func297 Tryz.results297 rfl rfl<|aY rfl rfl
theorem zM{x y:Int}:V0 Tryz.prog κ 228 (mM x y) [.i .u64 x,.i .u64 y] (fun r=>.t [.i .u64 r.1,.i .u64 r.2]):=
 bM tok Tryz.call228 Tryz.func228 Tryz.results228 rfl rfl<|c0 rfl (fun _=>vL) fun x1=>aY rfl rfl
theorem H7{a_:dS}{left:Int}{s1 s2:AC}(h1:aQ κ s1 a_.aU)(h2:aQ κ s2 a_.bW):V0 Tryz.prog κ 23 (mN a_ left) [.g [.h s1 a_.aU.length,.h s2 a_.bW.length],I left] I:=
 bM tok Tryz.call23 Tryz.func23 Tryz.results23 rfl rfl<|c0 rfl (fun h=>y6 (h.a h1)) fun x1=>aV [10] rfl rfl (aY rfl rfl)<|c0 rfl (fun h=>iF (h.a h2)) fun x2=>aV [16] rfl rfl (aY rfl rfl)<|aY rfl rfl
theorem J9:VS Tryz.prog κ 298 rC [] [] [] (fun r (y:AC×AC)=>.g [.h y.1 r.Bytes.length,.h y.2 r.Class.length]) (fun r y=>[ow y.1 r.Bytes,ow y.2 r.Class]):=
 bM tok Tryz.call298 Tryz.func298 Tryz.results298 rfl rfl<|fun hF=>lV (0:Int) bD (fun w=>fM rfl w) rfl rfl rfl rfl rfl rfl rfl hF fun hF s1=>nw Int rfl<|wi hF<|mQ ⟨none,0⟩ [0,1] (fun(p:Int×(List Int)) (s3:AC)=>[(2,I p.1)]) [3,2,0,1] [0,1] (fun p s3=>[ow s3 (p.2:List Int),.box 1 [.h s1 (List.replicate ((384:Int).toNat) 0).length,.h s3 p.2.length]]) id [0,1] (fun(x5:(List Int)) (s4:AC)=>[]) [0,1] (fun x5 s4=>[ow s4 (x5:List Int),.box 1 [.h s1 (List.replicate ((384:Int).toNat) 0).length,.h s4 x5.length]]) rfl rfl (fun hF1 ⟨x3,x4⟩ s3 hr1=>aV [6] rfl rfl (fun hG1=>lt1 rfl bD rfl rfl rfl rfl fun s5=>ap 0 bD rfl rfl rfl rfl rfl rfl rfl (fun h=>(h.o 4 rfl)) rfl rfl hG1 fun hG1 s6=>wi hG1<|nxW s6 [0,1,2,3] rfl)<|bkW s3 [0,1,2,3] rfl) fun x5 s4=>gL (s1,s4) [3,0] rfl rfl
theorem H8:VS Tryz.prog κ 299 tA [] [] [] (fun r (y:AC×AC)=>.g [.h y.1 r.Global.length,.h y.2 r.bA.length]) (fun r y=>[ow y.1 r.Global,ow y.2 r.bA]):=
 bM tok Tryz.call299 Tryz.func299 Tryz.results299 rfl rfl<|mH 0 1 (fun(_:Unit)=>uE) [0] (fun(_:Unit) (u:AC×AC)=>[]) [] (fun _ u=>[ow u.1 (List.replicate ((3:Int).toNat) (⟨[]⟩:aG):List aG),ow u.2 (List.replicate ((9:Int).toNat) (⟨[]⟩:aG):List aG),.box 0 [.h u.1 (List.replicate ((3:Int).toNat) (⟨[]⟩:aG)).length,.h u.2 (List.replicate ((9:Int).toNat) (⟨[]⟩:aG)).length]]) rfl (jP aL [] rfl<|fun hF=>nd hF fun hA1 hF=>nd hF fun hA2 hF=>kS rfl rfl (have hq1:=rn hA1;lV ((⟨[]⟩:aG):aG) dN (fun _=>(lJ (mW (⟨[]⟩:aG)) (uN GC))) rfl rfl rfl rfl rfl rfl rfl hq1 fun hq1 s5=>have hq2:=rn hA2;lV ((⟨[]⟩:aG):aG) dN (fun _=>(lJ (mW (⟨[]⟩:aG)) (uN GC))) rfl rfl rfl rfl rfl rfl rfl hq2 fun hq2 s6=>wi hF<|pE (p:=()) (s5,s6) [1,2,0] rfl rfl) (have hq3:=rn hA2;lV ((⟨[]⟩:aG):aG) dN (fun _=>(lJ (mW (⟨[]⟩:aG)) (uN GC))) rfl rfl rfl rfl rfl rfl rfl hq3 fun hq3 s7=>have hq4:=rn hA1;lV ((⟨[]⟩:aG):aG) dN (fun _=>(lJ (mW (⟨[]⟩:aG)) (uN GC))) rfl rfl rfl rfl rfl rfl rfl hq4 fun hq4 s8=>wi hF<|pE (p:=()) (s8,s7) [2,1,0] rfl rfl)) fun _ ⟨s1,s2⟩=>gL (s1,s2) [0,1] rfl rfl
theorem MV:VS Tryz.prog κ 229 xX [] [] [] (fun r (y:AC×AC×AC×AC)=>.g [.h y.1 r.aC.Bytes.length,.h y.2.1 r.aC.Class.length,.h y.2.2.1 r.aB.Global.length,.h y.2.2.2 r.aB.bA.length]) (fun r y=>[ow y.1 r.aC.Bytes,ow y.2.1 r.aC.Class,ow y.2.2.1 r.aB.Global,ow y.2.2.2 r.aB.bA]):=
 bM tok Tryz.call229 Tryz.func229 Tryz.results229 rfl rfl<|c1 rfl (fun _=>J9) fun x1 s1=>c1 rfl (fun _=>H8) fun x2 s2=>gL (s1.1,s1.2,s2.1,s2.2) [1,2,3,4] rfl rfl
theorem H9:VS Tryz.prog κ 230 tB [] [] [] (fun r (y:AC)=>.g [I r.aJ,.h y r.aM.length]) (fun r y=>[ow y r.aM]):=
 bM tok Tryz.call230 Tryz.func230 Tryz.results230 rfl rfl<|fun hF=>lV ((⟨false,0,false,0⟩:cQ):cQ) sO (fun w=>fM (ZD (⟨false,0,false,0⟩:cQ)) w) rfl rfl rfl rfl rfl rfl rfl hF fun hF s1=>wi hF<|gL s1 [1] rfl rfl
theorem IA:VS Tryz.prog κ 231 tC [] [] [] (fun r (y:AC)=>.h y r.length) (fun r y=>[ow y r]):=
 bM tok Tryz.call231 Tryz.func231 Tryz.results231 rfl rfl<|fun hF=>lV ((⟨[]⟩:aP):aP) qP (fun _=>(lJ (JB (⟨[]⟩:aP)) (uN GC))) rfl rfl rfl rfl rfl rfl rfl hF fun hF s1=>wi hF<|gL s1 [0] rfl rfl
theorem MW:VS Tryz.prog κ 232 xY [] [] [] (fun r (y:AC)=>.h y r.length) (fun r y=>[ow y r]):=
 bM tok Tryz.call232 Tryz.func232 Tryz.results232 rfl rfl<|fun hF=>lV (0:Int) bD (fun w=>fM rfl w) rfl rfl rfl rfl rfl rfl rfl hF fun hF s1=>wi hF<|gL s1 [0] rfl rfl
theorem kW:VS Tryz.prog κ 145 rD [] [] [] (fun r (y:AC×AC×AC×AC×AC×AC×AC)=>.g [.h y.1 r.Mem.aC.Bytes.length,.h y.2.1 r.Mem.aC.Class.length,.h y.2.2.1 r.Mem.aB.Global.length,.h y.2.2.2.1 r.Mem.aB.bA.length,I r.aD.aJ,.h y.2.2.2.2.1 r.aD.aM.length,.h y.2.2.2.2.2.1 r.aH.length,.h y.2.2.2.2.2.2 r.bO.length]) (fun r y=>[ow y.1 r.Mem.aC.Bytes,ow y.2.1 r.Mem.aC.Class,ow y.2.2.1 r.Mem.aB.Global,ow y.2.2.2.1 r.Mem.aB.bA,ow y.2.2.2.2.1 r.aD.aM,ow y.2.2.2.2.2.1 r.aH,ow y.2.2.2.2.2.2 r.bO]):=
 bM tok Tryz.call145 Tryz.func145 Tryz.results145 rfl rfl<|c1 rfl (fun _=>MV) fun x1 s1=>c1 rfl (fun _=>H9) fun x2 s2=>c1 rfl (fun _=>IA) fun x3 s3=>c1 rfl (fun _=>MW) fun x4 s4=>gL (s1.1,s1.2.1,s1.2.2.1,s1.2.2.2,s2,s3,s4) [1,2,3,4,5,6,7] rfl rfl
theorem IB{todo:List Queue}{s1:AC}(h1:aQ κ s1 todo):VS Tryz.prog κ 73 (pB todo) [.h s1 todo.length] [] [] (fun r (y:AC×AC×AC×AC×AC×AC×AC×AC×AC×AC×AC)=>.g [.h y.1 r.aA.Mem.aC.Bytes.length,.h y.2.1 r.aA.Mem.aC.Class.length,.h y.2.2.1 r.aA.Mem.aB.Global.length,.h y.2.2.2.1 r.aA.Mem.aB.bA.length,I r.aA.aD.aJ,.h y.2.2.2.2.1 r.aA.aD.aM.length,.h y.2.2.2.2.2.1 r.aA.aH.length,.h y.2.2.2.2.2.2.1 r.aA.bO.length,.h y.2.2.2.2.2.2.2.1 r.Cells.length,.h y.2.2.2.2.2.2.2.2.1 r.aR.length,.h y.2.2.2.2.2.2.2.2.2.1 r.aU.length,.h y.2.2.2.2.2.2.2.2.2.2 r.Log.length,I r.aK]) (fun r y=>[ow y.1 r.aA.Mem.aC.Bytes,ow y.2.1 r.aA.Mem.aC.Class,ow y.2.2.1 r.aA.Mem.aB.Global,ow y.2.2.2.1 r.aA.Mem.aB.bA,ow y.2.2.2.2.1 r.aA.aD.aM,ow y.2.2.2.2.2.1 r.aA.aH,ow y.2.2.2.2.2.2.1 r.aA.bO,ow y.2.2.2.2.2.2.2.1 r.Cells,ow y.2.2.2.2.2.2.2.2.1 r.aR,ow y.2.2.2.2.2.2.2.2.2.1 r.aU,ow y.2.2.2.2.2.2.2.2.2.2 r.Log]):=
 bM tok Tryz.call73 Tryz.func73 Tryz.results73 rfl rfl<|c0 rfl (fun h=>BG (h.a h1)) fun x1=>aV [5] rfl rfl (fun hF=>sR rfl<|GA Int<|GA Int<|GA aG<|GA aG<|GA cQ<|GA aP<|GA Int<|GA Int<|GA bG<|GA Queue<|GA Ev<|nB (hT:=tok) (⟨none,0⟩,⟨none,0⟩,⟨none,0⟩,⟨none,0⟩,⟨none,0⟩,⟨none,0⟩,⟨none,0⟩,⟨none,0⟩,⟨none,0⟩,⟨none,0⟩,⟨none,0⟩) [1,2,3,4,5,6,7,8,9,10,11] hF rfl Tryz.results73 rfl rfl rfl rfl)<|mH 0 1 uF [2] (fun(x2:aE) (u:AC×AC×AC×AC×AC×AC×AC×AC×AC×AC)=>[]) [] (fun x2 u=>[ow u.1 (x2.aA.Mem.aC.Bytes:List Int),ow u.2.1 (x2.aA.Mem.aC.Class:List Int),ow u.2.2.1 (x2.aA.Mem.aB.Global:List aG),ow u.2.2.2.1 (x2.aA.Mem.aB.bA:List aG),ow u.2.2.2.2.1 (x2.aA.aD.aM:List cQ),ow u.2.2.2.2.2.1 (x2.aA.aH:List aP),ow u.2.2.2.2.2.2.1 (x2.aA.bO:List Int),ow u.2.2.2.2.2.2.2.1 (x2.Cells:List Int),ow u.2.2.2.2.2.2.2.2.1 (x2.aR:List bG),ow u.2.2.2.2.2.2.2.2.2 (x2.aU:List Queue),.box 0 [.h u.1 x2.aA.Mem.aC.Bytes.length,.h u.2.1 x2.aA.Mem.aC.Class.length,.h u.2.2.1 x2.aA.Mem.aB.Global.length,.h u.2.2.2.1 x2.aA.Mem.aB.bA.length,I x2.aA.aD.aJ,.h u.2.2.2.2.1 x2.aA.aD.aM.length,.h u.2.2.2.2.2.1 x2.aA.aH.length,.h u.2.2.2.2.2.2.1 x2.aA.bO.length,.h u.2.2.2.2.2.2.2.1 x2.Cells.length,.h u.2.2.2.2.2.2.2.2.1 x2.aR.length,.h u.2.2.2.2.2.2.2.2.2 x2.aU.length,.h ⟨none,0⟩ 0,I x2.aK]]) rfl (jP aL [] rfl<|fun hF=>bd hF fun x3 hA1 hF=>nd hF fun hA2 hF=>nd hF fun hA3 hF=>bd hF fun x4 hA4 hF=>aHL rfl rfl (have hq1:=rb hA1;wi hq1<|c1 rfl (fun _=>kW) fun u1 s16=>fun hq1=>match u1,hq1 with | _,rfl=>aHL rfl rfl (have hq2:=rn hA2;lV (0:Int) bD (fun w=>fM rfl w) rfl rfl rfl rfl rfl rfl rfl hq2 fun hq2 s17=>kS rfl rfl (have hq3:=rn hA3;lV ((⟨false,(⟨0,0,0,0⟩:cM),0,0,(⟨0,0,0,0,0,0,0,0,0,false⟩:Sub),0,0,0,0⟩:bG):bG) bN (fun w=>fM (jQ (⟨false,(⟨0,0,0,0⟩:cM),0,0,(⟨0,0,0,0,0,0,0,0,0,false⟩:Sub),0,0,0,0⟩:bG)) w) rfl rfl rfl rfl rfl rfl rfl hq3 fun hq3 s18=>have hq4:=rb hA4;wi hq4<|c1 rfl (fun h=>bQ (h.a h1)) fun u2 s19=>fun hq4=>match u2,hq4 with | _,rfl=>wi hF<|pE (p:=((⟨x3,List.replicate ((2:Int).toNat) 0,List.replicate ((3:Int).toNat) (⟨false,(⟨0,0,0,0⟩:cM),0,0,(⟨0,0,0,0,0,0,0,0,0,false⟩:Sub),0,0,0,0⟩:bG),x4,[],0⟩:aE))) (s16.1,s16.2.1,s16.2.2.1,s16.2.2.2.1,s16.2.2.2.2.1,s16.2.2.2.2.2.1,s16.2.2.2.2.2.2,s17,s18,s19) [1,2,3,4,5,6,7,8,9,10,0] rfl rfl) (have hq5:=rb hA4;wi hq5<|c1 rfl (fun h=>bQ (h.a h1)) fun u3 s20=>fun hq5=>match u3,hq5 with | _,rfl=>have hq6:=rn hA3;lV ((⟨false,(⟨0,0,0,0⟩:cM),0,0,(⟨0,0,0,0,0,0,0,0,0,false⟩:Sub),0,0,0,0⟩:bG):bG) bN (fun w=>fM (jQ (⟨false,(⟨0,0,0,0⟩:cM),0,0,(⟨0,0,0,0,0,0,0,0,0,false⟩:Sub),0,0,0,0⟩:bG)) w) rfl rfl rfl rfl rfl rfl rfl hq6 fun hq6 s21=>wi hF<|pE (p:=((⟨x3,List.replicate ((2:Int).toNat) 0,List.replicate ((3:Int).toNat) (⟨false,(⟨0,0,0,0⟩:cM),0,0,(⟨0,0,0,0,0,0,0,0,0,false⟩:Sub),0,0,0,0⟩:bG),x4,[],0⟩:aE))) (s16.1,s16.2.1,s16.2.2.1,s16.2.2.2.1,s16.2.2.2.2.1,s16.2.2.2.2.2.1,s16.2.2.2.2.2.2,s17,s21,s20) [1,2,3,4,5,6,7,8,10,9,0] rfl rfl)) (have hq7:=rn hA3;lV ((⟨false,(⟨0,0,0,0⟩:cM),0,0,(⟨0,0,0,0,0,0,0,0,0,false⟩:Sub),0,0,0,0⟩:bG):bG) bN (fun w=>fM (jQ (⟨false,(⟨0,0,0,0⟩:cM),0,0,(⟨0,0,0,0,0,0,0,0,0,false⟩:Sub),0,0,0,0⟩:bG)) w) rfl rfl rfl rfl rfl rfl rfl hq7 fun hq7 s22=>kS rfl rfl (have hq8:=rn hA2;lV (0:Int) bD (fun w=>fM rfl w) rfl rfl rfl rfl rfl rfl rfl hq8 fun hq8 s23=>have hq9:=rb hA4;wi hq9<|c1 rfl (fun h=>bQ (h.a h1)) fun u4 s24=>fun hq9=>match u4,hq9 with | _,rfl=>wi hF<|pE (p:=((⟨x3,List.replicate ((2:Int).toNat) 0,List.replicate ((3:Int).toNat) (⟨false,(⟨0,0,0,0⟩:cM),0,0,(⟨0,0,0,0,0,0,0,0,0,false⟩:Sub),0,0,0,0⟩:bG),x4,[],0⟩:aE))) (s16.1,s16.2.1,s16.2.2.1,s16.2.2.2.1,s16.2.2.2.2.1,s16.2.2.2.2.2.1,s16.2.2.2.2.2.2,s23,s22,s24) [1,2,3,4,5,6,7,9,8,10,0] rfl rfl) (have hq10:=rb hA4;wi hq10<|c1 rfl (fun h=>bQ (h.a h1)) fun u5 s25=>fun hq10=>match u5,hq10 with | _,rfl=>have hq11:=rn hA2;lV (0:Int) bD (fun w=>fM rfl w) rfl rfl rfl rfl rfl rfl rfl hq11 fun hq11 s26=>wi hF<|pE (p:=((⟨x3,List.replicate ((2:Int).toNat) 0,List.replicate ((3:Int).toNat) (⟨false,(⟨0,0,0,0⟩:cM),0,0,(⟨0,0,0,0,0,0,0,0,0,false⟩:Sub),0,0,0,0⟩:bG),x4,[],0⟩:aE))) (s16.1,s16.2.1,s16.2.2.1,s16.2.2.2.1,s16.2.2.2.2.1,s16.2.2.2.2.2.1,s16.2.2.2.2.2.2,s26,s22,s25) [1,2,3,4,5,6,7,10,8,9,0] rfl rfl)) (have hq12:=rb hA4;wi hq12<|c1 rfl (fun h=>bQ (h.a h1)) fun u6 s27=>fun hq12=>match u6,hq12 with | _,rfl=>kS rfl rfl (have hq13:=rn hA2;lV (0:Int) bD (fun w=>fM rfl w) rfl rfl rfl rfl rfl rfl rfl hq13 fun hq13 s28=>have hq14:=rn hA3;lV ((⟨false,(⟨0,0,0,0⟩:cM),0,0,(⟨0,0,0,0,0,0,0,0,0,false⟩:Sub),0,0,0,0⟩:bG):bG) bN (fun w=>fM (jQ (⟨false,(⟨0,0,0,0⟩:cM),0,0,(⟨0,0,0,0,0,0,0,0,0,false⟩:Sub),0,0,0,0⟩:bG)) w) rfl rfl rfl rfl rfl rfl rfl hq14 fun hq14 s29=>wi hF<|pE (p:=((⟨x3,List.replicate ((2:Int).toNat) 0,List.replicate ((3:Int).toNat) (⟨false,(⟨0,0,0,0⟩:cM),0,0,(⟨0,0,0,0,0,0,0,0,0,false⟩:Sub),0,0,0,0⟩:bG),x4,[],0⟩:aE))) (s16.1,s16.2.1,s16.2.2.1,s16.2.2.2.1,s16.2.2.2.2.1,s16.2.2.2.2.2.1,s16.2.2.2.2.2.2,s28,s29,s27) [1,2,3,4,5,6,7,9,10,8,0] rfl rfl) (have hq15:=rn hA3;lV ((⟨false,(⟨0,0,0,0⟩:cM),0,0,(⟨0,0,0,0,0,0,0,0,0,false⟩:Sub),0,0,0,0⟩:bG):bG) bN (fun w=>fM (jQ (⟨false,(⟨0,0,0,0⟩:cM),0,0,(⟨0,0,0,0,0,0,0,0,0,false⟩:Sub),0,0,0,0⟩:bG)) w) rfl rfl rfl rfl rfl rfl rfl hq15 fun hq15 s30=>have hq16:=rn hA2;lV (0:Int) bD (fun w=>fM rfl w) rfl rfl rfl rfl rfl rfl rfl hq16 fun hq16 s31=>wi hF<|pE (p:=((⟨x3,List.replicate ((2:Int).toNat) 0,List.replicate ((3:Int).toNat) (⟨false,(⟨0,0,0,0⟩:cM),0,0,(⟨0,0,0,0,0,0,0,0,0,false⟩:Sub),0,0,0,0⟩:bG),x4,[],0⟩:aE))) (s16.1,s16.2.1,s16.2.2.1,s16.2.2.2.1,s16.2.2.2.2.1,s16.2.2.2.2.2.1,s16.2.2.2.2.2.2,s31,s30,s27) [1,2,3,4,5,6,7,10,9,8,0] rfl rfl))) (have hq17:=rn hA2;lV (0:Int) bD (fun w=>fM rfl w) rfl rfl rfl rfl rfl rfl rfl hq17 fun hq17 s32=>kS rfl rfl (have hq18:=rb hA1;wi hq18<|c1 rfl (fun _=>kW) fun u7 s33=>fun hq18=>match u7,hq18 with | _,rfl=>kS rfl rfl (have hq19:=rn hA3;lV ((⟨false,(⟨0,0,0,0⟩:cM),0,0,(⟨0,0,0,0,0,0,0,0,0,false⟩:Sub),0,0,0,0⟩:bG):bG) bN (fun w=>fM (jQ (⟨false,(⟨0,0,0,0⟩:cM),0,0,(⟨0,0,0,0,0,0,0,0,0,false⟩:Sub),0,0,0,0⟩:bG)) w) rfl rfl rfl rfl rfl rfl rfl hq19 fun hq19 s34=>have hq20:=rb hA4;wi hq20<|c1 rfl (fun h=>bQ (h.a h1)) fun u8 s35=>fun hq20=>match u8,hq20 with | _,rfl=>wi hF<|pE (p:=((⟨x3,List.replicate ((2:Int).toNat) 0,List.replicate ((3:Int).toNat) (⟨false,(⟨0,0,0,0⟩:cM),0,0,(⟨0,0,0,0,0,0,0,0,0,false⟩:Sub),0,0,0,0⟩:bG),x4,[],0⟩:aE))) (s33.1,s33.2.1,s33.2.2.1,s33.2.2.2.1,s33.2.2.2.2.1,s33.2.2.2.2.2.1,s33.2.2.2.2.2.2,s32,s34,s35) [2,3,4,5,6,7,8,1,9,10,0] rfl rfl) (have hq21:=rb hA4;wi hq21<|c1 rfl (fun h=>bQ (h.a h1)) fun u9 s36=>fun hq21=>match u9,hq21 with | _,rfl=>have hq22:=rn hA3;lV ((⟨false,(⟨0,0,0,0⟩:cM),0,0,(⟨0,0,0,0,0,0,0,0,0,false⟩:Sub),0,0,0,0⟩:bG):bG) bN (fun w=>fM (jQ (⟨false,(⟨0,0,0,0⟩:cM),0,0,(⟨0,0,0,0,0,0,0,0,0,false⟩:Sub),0,0,0,0⟩:bG)) w) rfl rfl rfl rfl rfl rfl rfl hq22 fun hq22 s37=>wi hF<|pE (p:=((⟨x3,List.replicate ((2:Int).toNat) 0,List.replicate ((3:Int).toNat) (⟨false,(⟨0,0,0,0⟩:cM),0,0,(⟨0,0,0,0,0,0,0,0,0,false⟩:Sub),0,0,0,0⟩:bG),x4,[],0⟩:aE))) (s33.1,s33.2.1,s33.2.2.1,s33.2.2.2.1,s33.2.2.2.2.1,s33.2.2.2.2.2.1,s33.2.2.2.2.2.2,s32,s37,s36) [2,3,4,5,6,7,8,1,10,9,0] rfl rfl)) (have hq23:=rn hA3;lV ((⟨false,(⟨0,0,0,0⟩:cM),0,0,(⟨0,0,0,0,0,0,0,0,0,false⟩:Sub),0,0,0,0⟩:bG):bG) bN (fun w=>fM (jQ (⟨false,(⟨0,0,0,0⟩:cM),0,0,(⟨0,0,0,0,0,0,0,0,0,false⟩:Sub),0,0,0,0⟩:bG)) w) rfl rfl rfl rfl rfl rfl rfl hq23 fun hq23 s38=>have hq24:=rb hA1;wi hq24<|c1 rfl (fun _=>kW) fun u10 s39=>fun hq24=>match u10,hq24 with | _,rfl=>have hq25:=rb hA4;wi hq25<|c1 rfl (fun h=>bQ (h.a h1)) fun u11 s40=>fun hq25=>match u11,hq25 with | _,rfl=>wi hF<|pE (p:=((⟨x3,List.replicate ((2:Int).toNat) 0,List.replicate ((3:Int).toNat) (⟨false,(⟨0,0,0,0⟩:cM),0,0,(⟨0,0,0,0,0,0,0,0,0,false⟩:Sub),0,0,0,0⟩:bG),x4,[],0⟩:aE))) (s39.1,s39.2.1,s39.2.2.1,s39.2.2.2.1,s39.2.2.2.2.1,s39.2.2.2.2.2.1,s39.2.2.2.2.2.2,s32,s38,s40) [3,4,5,6,7,8,9,1,2,10,0] rfl rfl)) (have hq26:=rn hA3;lV ((⟨false,(⟨0,0,0,0⟩:cM),0,0,(⟨0,0,0,0,0,0,0,0,0,false⟩:Sub),0,0,0,0⟩:bG):bG) bN (fun w=>fM (jQ (⟨false,(⟨0,0,0,0⟩:cM),0,0,(⟨0,0,0,0,0,0,0,0,0,false⟩:Sub),0,0,0,0⟩:bG)) w) rfl rfl rfl rfl rfl rfl rfl hq26 fun hq26 s41=>kS rfl rfl (have hq27:=rb hA1;wi hq27<|c1 rfl (fun _=>kW) fun u12 s42=>fun hq27=>match u12,hq27 with | _,rfl=>kS rfl rfl (have hq28:=rn hA2;lV (0:Int) bD (fun w=>fM rfl w) rfl rfl rfl rfl rfl rfl rfl hq28 fun hq28 s43=>have hq29:=rb hA4;wi hq29<|c1 rfl (fun h=>bQ (h.a h1)) fun u13 s44=>fun hq29=>match u13,hq29 with | _,rfl=>wi hF<|pE (p:=((⟨x3,List.replicate ((2:Int).toNat) 0,List.replicate ((3:Int).toNat) (⟨false,(⟨0,0,0,0⟩:cM),0,0,(⟨0,0,0,0,0,0,0,0,0,false⟩:Sub),0,0,0,0⟩:bG),x4,[],0⟩:aE))) (s42.1,s42.2.1,s42.2.2.1,s42.2.2.2.1,s42.2.2.2.2.1,s42.2.2.2.2.2.1,s42.2.2.2.2.2.2,s43,s41,s44) [2,3,4,5,6,7,8,9,1,10,0] rfl rfl) (have hq30:=rb hA4;wi hq30<|c1 rfl (fun h=>bQ (h.a h1)) fun u14 s45=>fun hq30=>match u14,hq30 with | _,rfl=>have hq31:=rn hA2;lV (0:Int) bD (fun w=>fM rfl w) rfl rfl rfl rfl rfl rfl rfl hq31 fun hq31 s46=>wi hF<|pE (p:=((⟨x3,List.replicate ((2:Int).toNat) 0,List.replicate ((3:Int).toNat) (⟨false,(⟨0,0,0,0⟩:cM),0,0,(⟨0,0,0,0,0,0,0,0,0,false⟩:Sub),0,0,0,0⟩:bG),x4,[],0⟩:aE))) (s42.1,s42.2.1,s42.2.2.1,s42.2.2.2.1,s42.2.2.2.2.1,s42.2.2.2.2.2.1,s42.2.2.2.2.2.2,s46,s41,s45) [2,3,4,5,6,7,8,10,1,9,0] rfl rfl)) (have hq32:=rn hA2;lV (0:Int) bD (fun w=>fM rfl w) rfl rfl rfl rfl rfl rfl rfl hq32 fun hq32 s47=>have hq33:=rb hA1;wi hq33<|c1 rfl (fun _=>kW) fun u15 s48=>fun hq33=>match u15,hq33 with | _,rfl=>have hq34:=rb hA4;wi hq34<|c1 rfl (fun h=>bQ (h.a h1)) fun u16 s49=>fun hq34=>match u16,hq34 with | _,rfl=>wi hF<|pE (p:=((⟨x3,List.replicate ((2:Int).toNat) 0,List.replicate ((3:Int).toNat) (⟨false,(⟨0,0,0,0⟩:cM),0,0,(⟨0,0,0,0,0,0,0,0,0,false⟩:Sub),0,0,0,0⟩:bG),x4,[],0⟩:aE))) (s48.1,s48.2.1,s48.2.2.1,s48.2.2.2.1,s48.2.2.2.2.1,s48.2.2.2.2.2.1,s48.2.2.2.2.2.2,s47,s41,s49) [3,4,5,6,7,8,9,2,1,10,0] rfl rfl))) fun x2 ⟨s2,s3,s4,s5,s6,s7,s8,s9,s10,s11⟩=>fun hF=>sR rfl<|GA Ev<|nB (hT:=tok) (s2,s3,s4,s5,s6,s7,s8,s9,s10,s11,⟨none,0⟩) [0,1,2,3,4,5,6,7,8,9,11] hF rfl Tryz.results73 rfl rfl rfl rfl
theorem IC{x:dS}{s1 s2:AC}(h1:aQ κ s1 x.aU)(h2:aQ κ s2 x.bW):VS Tryz.prog κ 24 (pC x) [.g [.h s1 x.aU.length,.h s2 x.bW.length]] [] [] (fun r (y:AC)=>.h y r.length) (fun r y=>[ow y r]):=
 bM tok Tryz.call24 Tryz.func24 Tryz.results24 rfl rfl<|fun hF=>LR (α:=aE) kV rfl rfl rfl rfl fun s3=>wi hF<|c1 rfl (fun h=>IB (h.a h1)) fun x1 s4=>aV [13] rfl rfl (gL s3 [1] rfl rfl)<|c1 rfl (fun h=>rM (h.o 2 rfl) (h.o 3 rfl) (h.o 4 rfl) (h.o 5 rfl) (h.o 6 rfl) (h.o 7 rfl) (h.o 8 rfl) (h.o 9 rfl) (h.o 10 rfl) (h.o 11 rfl) (h.o 12 rfl)) fun x2 s5=>fun hF=>ltN AK [14,15,16,17,18,19,20,21,22,23,24] (x2) (s5.1,s5.2.1,s5.2.2.1,s5.2.2.2.1,s5.2.2.2.2.1,s5.2.2.2.2.2.1,s5.2.2.2.2.2.2.1,s5.2.2.2.2.2.2.2.1,s5.2.2.2.2.2.2.2.2.1,s5.2.2.2.2.2.2.2.2.2.1,s5.2.2.2.2.2.2.2.2.2.2) kV rfl rfl rfl rfl rfl rfl rfl rfl rfl rfl rfl rfl rfl fun s6=>apN 1 25 kV rfl rfl rfl rfl rfl rfl rfl rfl rfl rfl rfl hF fun hF s7=>wi hF<|mQ (s7,s4.1,s4.2.1,s4.2.2.1,s4.2.2.2.1,s4.2.2.2.2.1,s4.2.2.2.2.2.1,s4.2.2.2.2.2.2.1,s4.2.2.2.2.2.2.2.1,s4.2.2.2.2.2.2.2.2.1,s4.2.2.2.2.2.2.2.2.2.1,s4.2.2.2.2.2.2.2.2.2.2) [1,4] (fun(p:(List aE)×Int×aE) (u:AC×AC×AC×AC×AC×AC×AC×AC×AC×AC×AC×AC)=>[(3,.h u.1 p.1.length),(5,I p.2.1)]) [26,2,3,4,5,6,7,8,9,10,11,12,13,0] [0] (fun p u=>[ow u.1 (p.1:List aE),ow u.2.1 (p.2.2.aA.Mem.aC.Bytes:List Int),ow u.2.2.1 (p.2.2.aA.Mem.aC.Class:List Int),ow u.2.2.2.1 (p.2.2.aA.Mem.aB.Global:List aG),ow u.2.2.2.2.1 (p.2.2.aA.Mem.aB.bA:List aG),ow u.2.2.2.2.2.1 (p.2.2.aA.aD.aM:List cQ),ow u.2.2.2.2.2.2.1 (p.2.2.aA.aH:List aP),ow u.2.2.2.2.2.2.2.1 (p.2.2.aA.bO:List Int),ow u.2.2.2.2.2.2.2.2.1 (p.2.2.Cells:List Int),ow u.2.2.2.2.2.2.2.2.2.1 (p.2.2.aR:List bG),ow u.2.2.2.2.2.2.2.2.2.2.1 (p.2.2.aU:List Queue),ow u.2.2.2.2.2.2.2.2.2.2.2 (p.2.2.Log:List Ev),.box 1 [.h u.2.1 p.2.2.aA.Mem.aC.Bytes.length,.h u.2.2.1 p.2.2.aA.Mem.aC.Class.length,.h u.2.2.2.1 p.2.2.aA.Mem.aB.Global.length,.h u.2.2.2.2.1 p.2.2.aA.Mem.aB.bA.length,I p.2.2.aA.aD.aJ,.h u.2.2.2.2.2.1 p.2.2.aA.aD.aM.length,.h u.2.2.2.2.2.2.1 p.2.2.aA.aH.length,.h u.2.2.2.2.2.2.2.1 p.2.2.aA.bO.length,.h u.2.2.2.2.2.2.2.2.1 p.2.2.Cells.length,.h u.2.2.2.2.2.2.2.2.2.1 p.2.2.aR.length,.h u.2.2.2.2.2.2.2.2.2.2.1 p.2.2.aU.length,.h u.2.2.2.2.2.2.2.2.2.2.2 p.2.2.Log.length,I p.2.2.aK]]) id [] (fun(x9:(List aE)) (s32:AC)=>[(3,.h s32 x9.length)]) [] (fun x9 s32=>[ow s32 (x9:List aE)]) rfl rfl (fun hF1 ⟨x6,x7,x8⟩ ⟨s20,s21,s22,s23,s24,s25,s26,s27,s28,s29,s30,s31⟩ hr1=>mH 0 2 (fun(p:Bool×aE)=>gK x x6 x7 p.1 p.2) [1,3,4,5] (fun(p:Bool×aE) (_:Unit)=>[(28,.b p.1)]) [0,13] (fun p _=>[ow s21 (p.2.aA.Mem.aC.Bytes:List Int),ow s22 (p.2.aA.Mem.aC.Class:List Int),ow s23 (p.2.aA.Mem.aB.Global:List aG),ow s24 (p.2.aA.Mem.aB.bA:List aG),ow s25 (p.2.aA.aD.aM:List cQ),ow s26 (p.2.aA.aH:List aP),ow s27 (p.2.aA.bO:List Int),ow s28 (p.2.Cells:List Int),ow s29 (p.2.aR:List bG),ow s30 (p.2.aU:List Queue),ow s31 (p.2.Log:List Ev),.box 1 [.h s21 p.2.aA.Mem.aC.Bytes.length,.h s22 p.2.aA.Mem.aC.Class.length,.h s23 p.2.aA.Mem.aB.Global.length,.h s24 p.2.aA.Mem.aB.bA.length,I p.2.aA.aD.aJ,.h s25 p.2.aA.aD.aM.length,.h s26 p.2.aA.aH.length,.h s27 p.2.aA.bO.length,.h s28 p.2.Cells.length,.h s29 p.2.aR.length,.h s30 p.2.aU.length,.h s31 p.2.Log.length,I p.2.aK]]) rfl (fN [24,25] rfl rfl (cR (p:=(decide (x7 < 400),x8)) [1,2,3,4,5,6,7,8,9,10,11,12,0,13] rfl rfl)<|cR (p:=(false,x8)) [1,2,3,4,5,6,7,8,9,10,11,12,0,13] rfl rfl) fun⟨x10,x11⟩ _=>aV [28] rfl rfl (mH 2 2 (fun(p:(List aE)×aE)=>iZ x7 p.1 p.2) [1,4,5] (fun(p:(List aE)×aE) (u:AC×AC×AC×AC×AC×AC×AC×AC×AC×AC×AC×AC)=>[(3,.h u.1 p.1.length)]) [13] (fun p u=>[ow u.1 (p.1:List aE),ow u.2.1 (p.2.aA.Mem.aC.Bytes:List Int),ow u.2.2.1 (p.2.aA.Mem.aC.Class:List Int),ow u.2.2.2.1 (p.2.aA.Mem.aB.Global:List aG),ow u.2.2.2.2.1 (p.2.aA.Mem.aB.bA:List aG),ow u.2.2.2.2.2.1 (p.2.aA.aD.aM:List cQ),ow u.2.2.2.2.2.2.1 (p.2.aA.aH:List aP),ow u.2.2.2.2.2.2.2.1 (p.2.aA.bO:List Int),ow u.2.2.2.2.2.2.2.2.1 (p.2.Cells:List Int),ow u.2.2.2.2.2.2.2.2.2.1 (p.2.aR:List bG),ow u.2.2.2.2.2.2.2.2.2.2.1 (p.2.aU:List Queue),ow u.2.2.2.2.2.2.2.2.2.2.2 (p.2.Log:List Ev),.box 1 [.h u.2.1 p.2.aA.Mem.aC.Bytes.length,.h u.2.2.1 p.2.aA.Mem.aC.Class.length,.h u.2.2.2.1 p.2.aA.Mem.aB.Global.length,.h u.2.2.2.2.1 p.2.aA.Mem.aB.bA.length,I p.2.aA.aD.aJ,.h u.2.2.2.2.2.1 p.2.aA.aD.aM.length,.h u.2.2.2.2.2.2.1 p.2.aA.aH.length,.h u.2.2.2.2.2.2.2.1 p.2.aA.bO.length,.h u.2.2.2.2.2.2.2.2.1 p.2.Cells.length,.h u.2.2.2.2.2.2.2.2.2.1 p.2.aR.length,.h u.2.2.2.2.2.2.2.2.2.2.1 p.2.aU.length,.h u.2.2.2.2.2.2.2.2.2.2.2 p.2.Log.length,I p.2.aK]]) rfl (UT rfl h2 rfl fun x14=>c0 rfl (fun _=>cB) fun x15=>aV [36] rfl rfl (jP aL [13,14] rfl<|UT rfl h2 rfl fun x16=>fZ [0,1,2,3,4,5,6,7,8,9,10] rfl rfl rfl rfl (fun _=>G0) fun x17 s45=>c1 rfl (fun h=>rM (h.o 16 rfl) (h.o 17 rfl) (h.o 18 rfl) (h.o 19 rfl) (h.o 20 rfl) (h.o 21 rfl) (h.o 22 rfl) (h.o 23 rfl) (h.o 24 rfl) (h.o 25 rfl) (h.o 26 rfl)) fun x18 s46=>fun hG1=>ltN AK [27,28,29,30,31,32,33,34,35,36,37] (x18) (s46.1,s46.2.1,s46.2.2.1,s46.2.2.2.1,s46.2.2.2.2.1,s46.2.2.2.2.2.1,s46.2.2.2.2.2.2.1,s46.2.2.2.2.2.2.2.1,s46.2.2.2.2.2.2.2.2.1,s46.2.2.2.2.2.2.2.2.2.1,s46.2.2.2.2.2.2.2.2.2.2) kV rfl rfl rfl rfl rfl rfl rfl rfl rfl rfl rfl rfl rfl fun s47=>apN 12 38 kV rfl rfl rfl rfl rfl rfl rfl rfl rfl rfl rfl hG1 fun hG1 s48=>wi hG1<|pE (p:=(x6++([x18]),x17)) (s48,s45.1,s45.2.1,s45.2.2.1,s45.2.2.2.1,s45.2.2.2.2.1,s45.2.2.2.2.2.1,s45.2.2.2.2.2.2.1,s45.2.2.2.2.2.2.2.1,s45.2.2.2.2.2.2.2.2.1,s45.2.2.2.2.2.2.2.2.2.1,s45.2.2.2.2.2.2.2.2.2.2) [39,16,17,18,19,20,21,22,23,24,25,26,11,13] rfl rfl)<|pE (p:=(x6,x11)) (s20,s21,s22,s23,s24,s25,s26,s27,s28,s29,s30,s31) [12,0,1,2,3,4,5,6,7,8,9,10,11,13] rfl rfl) fun⟨x12,x13⟩ ⟨s33,s34,s35,s36,s37,s38,s39,s40,s41,s42,s43,s44⟩=>nxW (s33,s34,s35,s36,s37,s38,s39,s40,s41,s42,s43,s44) [0,1,2,3,4,5,6,7,8,9,10,11,12,13] rfl)<|bkW s20 [12] rfl) fun x9 s32=>gL s32 [0] rfl rfl
theorem nW{a_:dS}{s1 s2:AC}(h1:aQ κ s1 a_.aU)(h2:aQ κ s2 a_.bW):VS Tryz.prog κ 25 (fV a_) [.g [.h s1 a_.aU.length,.h s2 a_.bW.length]] [] [] (fun r (y:AC×AC)=>.g [.h y.1 r.aU.length,.h y.2 r.bW.length]) (fun r y=>[ow y.1 r.aU,ow y.2 r.bW]):=
 bM tok Tryz.call25 Tryz.func25 Tryz.results25 rfl rfl<|c1 rfl (fun h=>y7 (h.a h1)) fun x1 s3=>c1 rfl (fun h=>iG (h.a h2)) fun x2 s4=>gL (s3,s4) [3,4] rfl rfl
theorem lH{x:List Int}{count:Int}{s1:AC}(h1:aQ κ s1 x):VS Tryz.prog κ 355 (kB x count) [.h s1 x.length,I count] [] [] (fun r (y:AC)=>.h y r.length) (fun r y=>[ow y r]):=
 bM tok Tryz.call355 Tryz.func355 Tryz.results355 rfl rfl<|aV [10] rfl rfl (fun hF=>nomatch hF)<|c0 rfl (fun _=>zM) fun x1=>fS 0 0 (iC x x1) [0,6] 26 [] rfl (fN [22,23] rfl rfl (cR [] rfl rfl)<|cR [] rfl rfl) fun x2=>aV [26] rfl rfl (fun hF=>nomatch hF)<|fun hF=>lV (0:Int) bD (fun w=>fM rfl w) rfl rfl rfl rfl rfl rfl rfl hF fun hF s2=>cp0 (xs:=x) 0 (fun h=>(h.a h1)) rfl rfl rfl rfl rfl rfl rfl rfl<|rr s2 (jX (xs:=x) (Nat.zero_le _)).symm [7,30,31] [] [] rfl rfl rfl rfl<|wi hF<|mQ () [] (fun(p:(List Int)×Int) (_:Unit)=>[(7,.h s2 p.1.length),(8,I p.2)]) [0] [] (fun p _=>[ow s2 (p.1:List Int)]) id [] (fun(x7:(List Int)) (_:Unit)=>[(7,.h s2 x7.length)]) [] (fun x7 _=>[ow s2 (x7:List Int)]) rfl rfl (fun hF2 ⟨x5,x6⟩ _ hr2=>aV [37] rfl rfl (jP aL [] rfl<|fun hG2=>cpc 0 rfl rfl fun hc1=>aKM hc1 rfl rfl rfl rfl rfl rfl hG2 fun hG2 h2=>aTK hc1 rfl rfl rfl rfl rfl rfl hG2 fun hG2 h3=>cpy (xs:=(x5.take x6.toNat).drop 0) 0 x6.toNat h2 (fun h=>((h.o 0 rfl).sub (US h3.1 h3.2) h3)) rfl rfl rfl rfl rfl rfl rfl rfl<|rr s2 (jX (xs:=(x5.take x6.toNat).drop 0) h2.1).symm [7,35,39,42] [] [] rfl rfl rfl rfl<|wi hG2<|pX [0] rfl)<|jE [0] rfl) fun x7 _=>gL s2 [0] rfl rfl
theorem KA:VS Tryz.prog κ 300 rE [] [] [] (fun r (y:AC×AC)=>.g [.h y.1 r.Bytes.length,.h y.2 r.Class.length]) (fun r y=>[ow y.1 r.Bytes,ow y.2 r.Class]):=
 bM tok Tryz.call300 Tryz.func300 Tryz.results300 rfl rfl<|mH 0 1 vY [0] (fun(x1:(List Int)) (u:AC×AC)=>[]) [] (fun x1 u=>[ow u.1 (List.replicate ((384:Int).toNat) 0:List Int),ow u.2 (x1:List Int),.box 0 [.h u.1 (List.replicate ((384:Int).toNat) 0).length,.h u.2 x1.length]]) rfl (jP aL [] rfl<|fun hF=>nd hF fun hA1 hF=>bd hF fun x2 hA2 hF=>kS rfl rfl (have hq1:=rn hA1;lV (0:Int) bD (fun w=>fM rfl w) rfl rfl rfl rfl rfl rfl rfl hq1 fun hq1 s6=>lt1 rfl bD rfl rfl rfl rfl fun s7=>have hq2:=rb hA2;wi hq2<|c1 rfl (fun h=>lH (h.o 2 rfl)) fun u1 s8=>fun hq2=>match u1,hq2 with | _,rfl=>wi hF<|pE (p:=(x2)) (s6,s8) [1,3,0] rfl rfl) (lt1 rfl bD rfl rfl rfl rfl fun s9=>kS rfl rfl (have hq3:=rn hA1;lV (0:Int) bD (fun w=>fM rfl w) rfl rfl rfl rfl rfl rfl rfl hq3 fun hq3 s10=>have hq4:=rb hA2;wi hq4<|c1 rfl (fun h=>lH (h.o 1 rfl)) fun u2 s11=>fun hq4=>match u2,hq4 with | _,rfl=>wi hF<|pE (p:=(x2)) (s10,s11) [2,3,0] rfl rfl) (have hq5:=rb hA2;wi hq5<|c1 rfl (fun h=>lH (h.o 1 rfl)) fun u3 s12=>fun hq5=>match u3,hq5 with | _,rfl=>have hq6:=rn hA1;lV (0:Int) bD (fun w=>fM rfl w) rfl rfl rfl rfl rfl rfl rfl hq6 fun hq6 s13=>wi hF<|pE (p:=(x2)) (s13,s12) [3,2,0] rfl rfl))) fun x1 ⟨s1,s2⟩=>gL (s1,s2) [0,1] rfl rfl
theorem ID:VS Tryz.prog κ 301 tD [] [] [] (fun r (y:AC×AC)=>.g [.h y.1 r.Global.length,.h y.2 r.bA.length]) (fun r y=>[ow y.1 r.Global,ow y.2 r.bA]):=
 bM tok Tryz.call301 Tryz.func301 Tryz.results301 rfl rfl<|mH 0 1 (fun(_:Unit)=>uG) [0] (fun(_:Unit) (u:AC×AC)=>[]) [] (fun _ u=>[ow u.1 (List.replicate ((3:Int).toNat) (⟨[]⟩:aG):List aG),ow u.2 (List.replicate ((9:Int).toNat) (⟨[]⟩:aG):List aG),.box 0 [.h u.1 (List.replicate ((3:Int).toNat) (⟨[]⟩:aG)).length,.h u.2 (List.replicate ((9:Int).toNat) (⟨[]⟩:aG)).length]]) rfl (jP aL [] rfl<|fun hF=>nd hF fun hA1 hF=>nd hF fun hA2 hF=>kS rfl rfl (have hq1:=rn hA1;lV ((⟨[]⟩:aG):aG) dN (fun _=>(lJ (mW (⟨[]⟩:aG)) (uN GC))) rfl rfl rfl rfl rfl rfl rfl hq1 fun hq1 s5=>have hq2:=rn hA2;lV ((⟨[]⟩:aG):aG) dN (fun _=>(lJ (mW (⟨[]⟩:aG)) (uN GC))) rfl rfl rfl rfl rfl rfl rfl hq2 fun hq2 s6=>wi hF<|pE (p:=()) (s5,s6) [1,2,0] rfl rfl) (have hq3:=rn hA2;lV ((⟨[]⟩:aG):aG) dN (fun _=>(lJ (mW (⟨[]⟩:aG)) (uN GC))) rfl rfl rfl rfl rfl rfl rfl hq3 fun hq3 s7=>have hq4:=rn hA1;lV ((⟨[]⟩:aG):aG) dN (fun _=>(lJ (mW (⟨[]⟩:aG)) (uN GC))) rfl rfl rfl rfl rfl rfl rfl hq4 fun hq4 s8=>wi hF<|pE (p:=()) (s8,s7) [2,1,0] rfl rfl)) fun _ ⟨s1,s2⟩=>gL (s1,s2) [0,1] rfl rfl
theorem MX:VS Tryz.prog κ 233 yB [] [] [] (fun r (y:AC×AC×AC×AC)=>.g [.h y.1 r.aC.Bytes.length,.h y.2.1 r.aC.Class.length,.h y.2.2.1 r.aB.Global.length,.h y.2.2.2 r.aB.bA.length]) (fun r y=>[ow y.1 r.aC.Bytes,ow y.2.1 r.aC.Class,ow y.2.2.1 r.aB.Global,ow y.2.2.2 r.aB.bA]):=
 bM tok Tryz.call233 Tryz.func233 Tryz.results233 rfl rfl<|c1 rfl (fun _=>KA) fun x1 s1=>c1 rfl (fun _=>ID) fun x2 s2=>gL (s1.1,s1.2,s2.1,s2.2) [1,2,3,4] rfl rfl
theorem IE:VS Tryz.prog κ 234 tE [] [] [] (fun r (y:AC)=>.g [I r.aJ,.h y r.aM.length]) (fun r y=>[ow y r.aM]):=
 bM tok Tryz.call234 Tryz.func234 Tryz.results234 rfl rfl<|fun hF=>lV ((⟨false,0,false,0⟩:cQ):cQ) sO (fun w=>fM (ZD (⟨false,0,false,0⟩:cQ)) w) rfl rfl rfl rfl rfl rfl rfl hF fun hF s1=>wi hF<|gL s1 [1] rfl rfl
theorem IF:VS Tryz.prog κ 235 tF [] [] [] (fun r (y:AC)=>.h y r.length) (fun r y=>[ow y r]):=
 bM tok Tryz.call235 Tryz.func235 Tryz.results235 rfl rfl<|fun hF=>lV ((⟨[]⟩:aP):aP) qP (fun _=>(lJ (JB (⟨[]⟩:aP)) (uN GC))) rfl rfl rfl rfl rfl rfl rfl hF fun hF s1=>wi hF<|gL s1 [0] rfl rfl
theorem MY:VS Tryz.prog κ 236 yC [] [] [] (fun r (y:AC)=>.h y r.length) (fun r y=>[ow y r]):=
 bM tok Tryz.call236 Tryz.func236 Tryz.results236 rfl rfl<|fun hF=>lV (0:Int) bD (fun w=>fM rfl w) rfl rfl rfl rfl rfl rfl rfl hF fun hF s1=>wi hF<|gL s1 [0] rfl rfl
theorem kX:VS Tryz.prog κ 146 rF [] [] [] (fun r (y:AC×AC×AC×AC×AC×AC×AC)=>.g [.h y.1 r.Mem.aC.Bytes.length,.h y.2.1 r.Mem.aC.Class.length,.h y.2.2.1 r.Mem.aB.Global.length,.h y.2.2.2.1 r.Mem.aB.bA.length,I r.aD.aJ,.h y.2.2.2.2.1 r.aD.aM.length,.h y.2.2.2.2.2.1 r.aH.length,.h y.2.2.2.2.2.2 r.bO.length]) (fun r y=>[ow y.1 r.Mem.aC.Bytes,ow y.2.1 r.Mem.aC.Class,ow y.2.2.1 r.Mem.aB.Global,ow y.2.2.2.1 r.Mem.aB.bA,ow y.2.2.2.2.1 r.aD.aM,ow y.2.2.2.2.2.1 r.aH,ow y.2.2.2.2.2.2 r.bO]):=
 bM tok Tryz.call146 Tryz.func146 Tryz.results146 rfl rfl<|c1 rfl (fun _=>MX) fun x1 s1=>c1 rfl (fun _=>IE) fun x2 s2=>c1 rfl (fun _=>IF) fun x3 s3=>c1 rfl (fun _=>MY) fun x4 s4=>gL (s1.1,s1.2.1,s1.2.2.1,s1.2.2.2,s2,s3,s4) [1,2,3,4,5,6,7] rfl rfl
theorem IG{todo:List Queue}{s1:AC}(h1:aQ κ s1 todo):VS Tryz.prog κ 74 (pD todo) [.h s1 todo.length] [] [] (fun r (y:AC×AC×AC×AC×AC×AC×AC×AC×AC×AC×AC)=>.g [.h y.1 r.aA.Mem.aC.Bytes.length,.h y.2.1 r.aA.Mem.aC.Class.length,.h y.2.2.1 r.aA.Mem.aB.Global.length,.h y.2.2.2.1 r.aA.Mem.aB.bA.length,I r.aA.aD.aJ,.h y.2.2.2.2.1 r.aA.aD.aM.length,.h y.2.2.2.2.2.1 r.aA.aH.length,.h y.2.2.2.2.2.2.1 r.aA.bO.length,.h y.2.2.2.2.2.2.2.1 r.Cells.length,.h y.2.2.2.2.2.2.2.2.1 r.aR.length,.h y.2.2.2.2.2.2.2.2.2.1 r.aU.length,.h y.2.2.2.2.2.2.2.2.2.2 r.Log.length,I r.aK]) (fun r y=>[ow y.1 r.aA.Mem.aC.Bytes,ow y.2.1 r.aA.Mem.aC.Class,ow y.2.2.1 r.aA.Mem.aB.Global,ow y.2.2.2.1 r.aA.Mem.aB.bA,ow y.2.2.2.2.1 r.aA.aD.aM,ow y.2.2.2.2.2.1 r.aA.aH,ow y.2.2.2.2.2.2.1 r.aA.bO,ow y.2.2.2.2.2.2.2.1 r.Cells,ow y.2.2.2.2.2.2.2.2.1 r.aR,ow y.2.2.2.2.2.2.2.2.2.1 r.aU,ow y.2.2.2.2.2.2.2.2.2.2 r.Log]):=
 bM tok Tryz.call74 Tryz.func74 Tryz.results74 rfl rfl<|c0 rfl (fun h=>D0 (h.a h1)) fun x1=>aV [5] rfl rfl (fun hF=>sR rfl<|GA Int<|GA Int<|GA aG<|GA aG<|GA cQ<|GA aP<|GA Int<|GA Int<|GA bG<|GA Queue<|GA Ev<|nB (hT:=tok) (⟨none,0⟩,⟨none,0⟩,⟨none,0⟩,⟨none,0⟩,⟨none,0⟩,⟨none,0⟩,⟨none,0⟩,⟨none,0⟩,⟨none,0⟩,⟨none,0⟩,⟨none,0⟩) [1,2,3,4,5,6,7,8,9,10,11] hF rfl Tryz.results74 rfl rfl rfl rfl)<|mH 0 1 uH [2] (fun(x2:aE) (u:AC×AC×AC×AC×AC×AC×AC×AC×AC×AC)=>[]) [] (fun x2 u=>[ow u.1 (x2.aA.Mem.aC.Bytes:List Int),ow u.2.1 (x2.aA.Mem.aC.Class:List Int),ow u.2.2.1 (x2.aA.Mem.aB.Global:List aG),ow u.2.2.2.1 (x2.aA.Mem.aB.bA:List aG),ow u.2.2.2.2.1 (x2.aA.aD.aM:List cQ),ow u.2.2.2.2.2.1 (x2.aA.aH:List aP),ow u.2.2.2.2.2.2.1 (x2.aA.bO:List Int),ow u.2.2.2.2.2.2.2.1 (x2.Cells:List Int),ow u.2.2.2.2.2.2.2.2.1 (x2.aR:List bG),ow u.2.2.2.2.2.2.2.2.2 (x2.aU:List Queue),.box 0 [.h u.1 x2.aA.Mem.aC.Bytes.length,.h u.2.1 x2.aA.Mem.aC.Class.length,.h u.2.2.1 x2.aA.Mem.aB.Global.length,.h u.2.2.2.1 x2.aA.Mem.aB.bA.length,I x2.aA.aD.aJ,.h u.2.2.2.2.1 x2.aA.aD.aM.length,.h u.2.2.2.2.2.1 x2.aA.aH.length,.h u.2.2.2.2.2.2.1 x2.aA.bO.length,.h u.2.2.2.2.2.2.2.1 x2.Cells.length,.h u.2.2.2.2.2.2.2.2.1 x2.aR.length,.h u.2.2.2.2.2.2.2.2.2 x2.aU.length,.h ⟨none,0⟩ 0,I x2.aK]]) rfl (jP aL [] rfl<|fun hF=>bd hF fun x3 hA1 hF=>nd hF fun hA2 hF=>nd hF fun hA3 hF=>bd hF fun x4 hA4 hF=>aHL rfl rfl (have hq1:=rb hA1;wi hq1<|c1 rfl (fun _=>kX) fun u1 s16=>fun hq1=>match u1,hq1 with | _,rfl=>aHL rfl rfl (have hq2:=rn hA2;lV (0:Int) bD (fun w=>fM rfl w) rfl rfl rfl rfl rfl rfl rfl hq2 fun hq2 s17=>kS rfl rfl (have hq3:=rn hA3;lV ((⟨false,(⟨0,0,0,0⟩:cM),0,0,(⟨0,0,0,0,0,0,0,0,0,false⟩:Sub),0,0,0,0⟩:bG):bG) bN (fun w=>fM (jQ (⟨false,(⟨0,0,0,0⟩:cM),0,0,(⟨0,0,0,0,0,0,0,0,0,false⟩:Sub),0,0,0,0⟩:bG)) w) rfl rfl rfl rfl rfl rfl rfl hq3 fun hq3 s18=>have hq4:=rb hA4;wi hq4<|c1 rfl (fun h=>cY (h.a h1)) fun u2 s19=>fun hq4=>match u2,hq4 with | _,rfl=>wi hF<|pE (p:=((⟨x3,List.replicate ((2:Int).toNat) 0,List.replicate ((3:Int).toNat) (⟨false,(⟨0,0,0,0⟩:cM),0,0,(⟨0,0,0,0,0,0,0,0,0,false⟩:Sub),0,0,0,0⟩:bG),x4,[],0⟩:aE))) (s16.1,s16.2.1,s16.2.2.1,s16.2.2.2.1,s16.2.2.2.2.1,s16.2.2.2.2.2.1,s16.2.2.2.2.2.2,s17,s18,s19) [1,2,3,4,5,6,7,8,9,10,0] rfl rfl) (have hq5:=rb hA4;wi hq5<|c1 rfl (fun h=>cY (h.a h1)) fun u3 s20=>fun hq5=>match u3,hq5 with | _,rfl=>have hq6:=rn hA3;lV ((⟨false,(⟨0,0,0,0⟩:cM),0,0,(⟨0,0,0,0,0,0,0,0,0,false⟩:Sub),0,0,0,0⟩:bG):bG) bN (fun w=>fM (jQ (⟨false,(⟨0,0,0,0⟩:cM),0,0,(⟨0,0,0,0,0,0,0,0,0,false⟩:Sub),0,0,0,0⟩:bG)) w) rfl rfl rfl rfl rfl rfl rfl hq6 fun hq6 s21=>wi hF<|pE (p:=((⟨x3,List.replicate ((2:Int).toNat) 0,List.replicate ((3:Int).toNat) (⟨false,(⟨0,0,0,0⟩:cM),0,0,(⟨0,0,0,0,0,0,0,0,0,false⟩:Sub),0,0,0,0⟩:bG),x4,[],0⟩:aE))) (s16.1,s16.2.1,s16.2.2.1,s16.2.2.2.1,s16.2.2.2.2.1,s16.2.2.2.2.2.1,s16.2.2.2.2.2.2,s17,s21,s20) [1,2,3,4,5,6,7,8,10,9,0] rfl rfl)) (have hq7:=rn hA3;lV ((⟨false,(⟨0,0,0,0⟩:cM),0,0,(⟨0,0,0,0,0,0,0,0,0,false⟩:Sub),0,0,0,0⟩:bG):bG) bN (fun w=>fM (jQ (⟨false,(⟨0,0,0,0⟩:cM),0,0,(⟨0,0,0,0,0,0,0,0,0,false⟩:Sub),0,0,0,0⟩:bG)) w) rfl rfl rfl rfl rfl rfl rfl hq7 fun hq7 s22=>kS rfl rfl (have hq8:=rn hA2;lV (0:Int) bD (fun w=>fM rfl w) rfl rfl rfl rfl rfl rfl rfl hq8 fun hq8 s23=>have hq9:=rb hA4;wi hq9<|c1 rfl (fun h=>cY (h.a h1)) fun u4 s24=>fun hq9=>match u4,hq9 with | _,rfl=>wi hF<|pE (p:=((⟨x3,List.replicate ((2:Int).toNat) 0,List.replicate ((3:Int).toNat) (⟨false,(⟨0,0,0,0⟩:cM),0,0,(⟨0,0,0,0,0,0,0,0,0,false⟩:Sub),0,0,0,0⟩:bG),x4,[],0⟩:aE))) (s16.1,s16.2.1,s16.2.2.1,s16.2.2.2.1,s16.2.2.2.2.1,s16.2.2.2.2.2.1,s16.2.2.2.2.2.2,s23,s22,s24) [1,2,3,4,5,6,7,9,8,10,0] rfl rfl) (have hq10:=rb hA4;wi hq10<|c1 rfl (fun h=>cY (h.a h1)) fun u5 s25=>fun hq10=>match u5,hq10 with | _,rfl=>have hq11:=rn hA2;lV (0:Int) bD (fun w=>fM rfl w) rfl rfl rfl rfl rfl rfl rfl hq11 fun hq11 s26=>wi hF<|pE (p:=((⟨x3,List.replicate ((2:Int).toNat) 0,List.replicate ((3:Int).toNat) (⟨false,(⟨0,0,0,0⟩:cM),0,0,(⟨0,0,0,0,0,0,0,0,0,false⟩:Sub),0,0,0,0⟩:bG),x4,[],0⟩:aE))) (s16.1,s16.2.1,s16.2.2.1,s16.2.2.2.1,s16.2.2.2.2.1,s16.2.2.2.2.2.1,s16.2.2.2.2.2.2,s26,s22,s25) [1,2,3,4,5,6,7,10,8,9,0] rfl rfl)) (have hq12:=rb hA4;wi hq12<|c1 rfl (fun h=>cY (h.a h1)) fun u6 s27=>fun hq12=>match u6,hq12 with | _,rfl=>kS rfl rfl (have hq13:=rn hA2;lV (0:Int) bD (fun w=>fM rfl w) rfl rfl rfl rfl rfl rfl rfl hq13 fun hq13 s28=>have hq14:=rn hA3;lV ((⟨false,(⟨0,0,0,0⟩:cM),0,0,(⟨0,0,0,0,0,0,0,0,0,false⟩:Sub),0,0,0,0⟩:bG):bG) bN (fun w=>fM (jQ (⟨false,(⟨0,0,0,0⟩:cM),0,0,(⟨0,0,0,0,0,0,0,0,0,false⟩:Sub),0,0,0,0⟩:bG)) w) rfl rfl rfl rfl rfl rfl rfl hq14 fun hq14 s29=>wi hF<|pE (p:=((⟨x3,List.replicate ((2:Int).toNat) 0,List.replicate ((3:Int).toNat) (⟨false,(⟨0,0,0,0⟩:cM),0,0,(⟨0,0,0,0,0,0,0,0,0,false⟩:Sub),0,0,0,0⟩:bG),x4,[],0⟩:aE))) (s16.1,s16.2.1,s16.2.2.1,s16.2.2.2.1,s16.2.2.2.2.1,s16.2.2.2.2.2.1,s16.2.2.2.2.2.2,s28,s29,s27) [1,2,3,4,5,6,7,9,10,8,0] rfl rfl) (have hq15:=rn hA3;lV ((⟨false,(⟨0,0,0,0⟩:cM),0,0,(⟨0,0,0,0,0,0,0,0,0,false⟩:Sub),0,0,0,0⟩:bG):bG) bN (fun w=>fM (jQ (⟨false,(⟨0,0,0,0⟩:cM),0,0,(⟨0,0,0,0,0,0,0,0,0,false⟩:Sub),0,0,0,0⟩:bG)) w) rfl rfl rfl rfl rfl rfl rfl hq15 fun hq15 s30=>have hq16:=rn hA2;lV (0:Int) bD (fun w=>fM rfl w) rfl rfl rfl rfl rfl rfl rfl hq16 fun hq16 s31=>wi hF<|pE (p:=((⟨x3,List.replicate ((2:Int).toNat) 0,List.replicate ((3:Int).toNat) (⟨false,(⟨0,0,0,0⟩:cM),0,0,(⟨0,0,0,0,0,0,0,0,0,false⟩:Sub),0,0,0,0⟩:bG),x4,[],0⟩:aE))) (s16.1,s16.2.1,s16.2.2.1,s16.2.2.2.1,s16.2.2.2.2.1,s16.2.2.2.2.2.1,s16.2.2.2.2.2.2,s31,s30,s27) [1,2,3,4,5,6,7,10,9,8,0] rfl rfl))) (have hq17:=rn hA2;lV (0:Int) bD (fun w=>fM rfl w) rfl rfl rfl rfl rfl rfl rfl hq17 fun hq17 s32=>kS rfl rfl (have hq18:=rb hA1;wi hq18<|c1 rfl (fun _=>kX) fun u7 s33=>fun hq18=>match u7,hq18 with | _,rfl=>kS rfl rfl (have hq19:=rn hA3;lV ((⟨false,(⟨0,0,0,0⟩:cM),0,0,(⟨0,0,0,0,0,0,0,0,0,false⟩:Sub),0,0,0,0⟩:bG):bG) bN (fun w=>fM (jQ (⟨false,(⟨0,0,0,0⟩:cM),0,0,(⟨0,0,0,0,0,0,0,0,0,false⟩:Sub),0,0,0,0⟩:bG)) w) rfl rfl rfl rfl rfl rfl rfl hq19 fun hq19 s34=>have hq20:=rb hA4;wi hq20<|c1 rfl (fun h=>cY (h.a h1)) fun u8 s35=>fun hq20=>match u8,hq20 with | _,rfl=>wi hF<|pE (p:=((⟨x3,List.replicate ((2:Int).toNat) 0,List.replicate ((3:Int).toNat) (⟨false,(⟨0,0,0,0⟩:cM),0,0,(⟨0,0,0,0,0,0,0,0,0,false⟩:Sub),0,0,0,0⟩:bG),x4,[],0⟩:aE))) (s33.1,s33.2.1,s33.2.2.1,s33.2.2.2.1,s33.2.2.2.2.1,s33.2.2.2.2.2.1,s33.2.2.2.2.2.2,s32,s34,s35) [2,3,4,5,6,7,8,1,9,10,0] rfl rfl) (have hq21:=rb hA4;wi hq21<|c1 rfl (fun h=>cY (h.a h1)) fun u9 s36=>fun hq21=>match u9,hq21 with | _,rfl=>have hq22:=rn hA3;lV ((⟨false,(⟨0,0,0,0⟩:cM),0,0,(⟨0,0,0,0,0,0,0,0,0,false⟩:Sub),0,0,0,0⟩:bG):bG) bN (fun w=>fM (jQ (⟨false,(⟨0,0,0,0⟩:cM),0,0,(⟨0,0,0,0,0,0,0,0,0,false⟩:Sub),0,0,0,0⟩:bG)) w) rfl rfl rfl rfl rfl rfl rfl hq22 fun hq22 s37=>wi hF<|pE (p:=((⟨x3,List.replicate ((2:Int).toNat) 0,List.replicate ((3:Int).toNat) (⟨false,(⟨0,0,0,0⟩:cM),0,0,(⟨0,0,0,0,0,0,0,0,0,false⟩:Sub),0,0,0,0⟩:bG),x4,[],0⟩:aE))) (s33.1,s33.2.1,s33.2.2.1,s33.2.2.2.1,s33.2.2.2.2.1,s33.2.2.2.2.2.1,s33.2.2.2.2.2.2,s32,s37,s36) [2,3,4,5,6,7,8,1,10,9,0] rfl rfl)) (have hq23:=rn hA3;lV ((⟨false,(⟨0,0,0,0⟩:cM),0,0,(⟨0,0,0,0,0,0,0,0,0,false⟩:Sub),0,0,0,0⟩:bG):bG) bN (fun w=>fM (jQ (⟨false,(⟨0,0,0,0⟩:cM),0,0,(⟨0,0,0,0,0,0,0,0,0,false⟩:Sub),0,0,0,0⟩:bG)) w) rfl rfl rfl rfl rfl rfl rfl hq23 fun hq23 s38=>have hq24:=rb hA1;wi hq24<|c1 rfl (fun _=>kX) fun u10 s39=>fun hq24=>match u10,hq24 with | _,rfl=>have hq25:=rb hA4;wi hq25<|c1 rfl (fun h=>cY (h.a h1)) fun u11 s40=>fun hq25=>match u11,hq25 with | _,rfl=>wi hF<|pE (p:=((⟨x3,List.replicate ((2:Int).toNat) 0,List.replicate ((3:Int).toNat) (⟨false,(⟨0,0,0,0⟩:cM),0,0,(⟨0,0,0,0,0,0,0,0,0,false⟩:Sub),0,0,0,0⟩:bG),x4,[],0⟩:aE))) (s39.1,s39.2.1,s39.2.2.1,s39.2.2.2.1,s39.2.2.2.2.1,s39.2.2.2.2.2.1,s39.2.2.2.2.2.2,s32,s38,s40) [3,4,5,6,7,8,9,1,2,10,0] rfl rfl)) (have hq26:=rn hA3;lV ((⟨false,(⟨0,0,0,0⟩:cM),0,0,(⟨0,0,0,0,0,0,0,0,0,false⟩:Sub),0,0,0,0⟩:bG):bG) bN (fun w=>fM (jQ (⟨false,(⟨0,0,0,0⟩:cM),0,0,(⟨0,0,0,0,0,0,0,0,0,false⟩:Sub),0,0,0,0⟩:bG)) w) rfl rfl rfl rfl rfl rfl rfl hq26 fun hq26 s41=>kS rfl rfl (have hq27:=rb hA1;wi hq27<|c1 rfl (fun _=>kX) fun u12 s42=>fun hq27=>match u12,hq27 with | _,rfl=>kS rfl rfl (have hq28:=rn hA2;lV (0:Int) bD (fun w=>fM rfl w) rfl rfl rfl rfl rfl rfl rfl hq28 fun hq28 s43=>have hq29:=rb hA4;wi hq29<|c1 rfl (fun h=>cY (h.a h1)) fun u13 s44=>fun hq29=>match u13,hq29 with | _,rfl=>wi hF<|pE (p:=((⟨x3,List.replicate ((2:Int).toNat) 0,List.replicate ((3:Int).toNat) (⟨false,(⟨0,0,0,0⟩:cM),0,0,(⟨0,0,0,0,0,0,0,0,0,false⟩:Sub),0,0,0,0⟩:bG),x4,[],0⟩:aE))) (s42.1,s42.2.1,s42.2.2.1,s42.2.2.2.1,s42.2.2.2.2.1,s42.2.2.2.2.2.1,s42.2.2.2.2.2.2,s43,s41,s44) [2,3,4,5,6,7,8,9,1,10,0] rfl rfl) (have hq30:=rb hA4;wi hq30<|c1 rfl (fun h=>cY (h.a h1)) fun u14 s45=>fun hq30=>match u14,hq30 with | _,rfl=>have hq31:=rn hA2;lV (0:Int) bD (fun w=>fM rfl w) rfl rfl rfl rfl rfl rfl rfl hq31 fun hq31 s46=>wi hF<|pE (p:=((⟨x3,List.replicate ((2:Int).toNat) 0,List.replicate ((3:Int).toNat) (⟨false,(⟨0,0,0,0⟩:cM),0,0,(⟨0,0,0,0,0,0,0,0,0,false⟩:Sub),0,0,0,0⟩:bG),x4,[],0⟩:aE))) (s42.1,s42.2.1,s42.2.2.1,s42.2.2.2.1,s42.2.2.2.2.1,s42.2.2.2.2.2.1,s42.2.2.2.2.2.2,s46,s41,s45) [2,3,4,5,6,7,8,10,1,9,0] rfl rfl)) (have hq32:=rn hA2;lV (0:Int) bD (fun w=>fM rfl w) rfl rfl rfl rfl rfl rfl rfl hq32 fun hq32 s47=>have hq33:=rb hA1;wi hq33<|c1 rfl (fun _=>kX) fun u15 s48=>fun hq33=>match u15,hq33 with | _,rfl=>have hq34:=rb hA4;wi hq34<|c1 rfl (fun h=>cY (h.a h1)) fun u16 s49=>fun hq34=>match u16,hq34 with | _,rfl=>wi hF<|pE (p:=((⟨x3,List.replicate ((2:Int).toNat) 0,List.replicate ((3:Int).toNat) (⟨false,(⟨0,0,0,0⟩:cM),0,0,(⟨0,0,0,0,0,0,0,0,0,false⟩:Sub),0,0,0,0⟩:bG),x4,[],0⟩:aE))) (s48.1,s48.2.1,s48.2.2.1,s48.2.2.2.1,s48.2.2.2.2.1,s48.2.2.2.2.2.1,s48.2.2.2.2.2.2,s47,s41,s49) [3,4,5,6,7,8,9,2,1,10,0] rfl rfl))) fun x2 ⟨s2,s3,s4,s5,s6,s7,s8,s9,s10,s11⟩=>fun hF=>sR rfl<|GA Ev<|nB (hT:=tok) (s2,s3,s4,s5,s6,s7,s8,s9,s10,s11,⟨none,0⟩) [0,1,2,3,4,5,6,7,8,9,11] hF rfl Tryz.results74 rfl rfl rfl rfl
theorem C4{x:dS}{s1 s2:AC}(h1:aQ κ s1 x.aU)(h2:aQ κ s2 x.bW):VS Tryz.prog κ 26 (nK x) [.g [.h s1 x.aU.length,.h s2 x.bW.length]] [] [] (fun r (y:AC)=>.h y r.length) (fun r y=>[ow y r]):=
 bM tok Tryz.call26 Tryz.func26 Tryz.results26 rfl rfl<|c1 rfl (fun h=>IG (h.a h1)) fun x1 s3=>aV [13] rfl rfl (fun hF=>sR rfl<|GA aE<|nB (hT:=tok) ⟨none,0⟩ [13] hF rfl Tryz.results26 rfl rfl rfl rfl)<|c1 rfl (fun h=>oF (h.o 1 rfl) (h.o 2 rfl) (h.o 3 rfl) (h.o 4 rfl) (h.o 5 rfl) (h.o 6 rfl) (h.o 7 rfl) (h.o 8 rfl) (h.o 9 rfl) (h.o 10 rfl) (h.o 11 rfl)) fun x2 s4=>fun hF=>ltN AK [13,14,15,16,17,18,19,20,21,22,23] (x2) (s4.1,s4.2.1,s4.2.2.1,s4.2.2.2.1,s4.2.2.2.2.1,s4.2.2.2.2.2.1,s4.2.2.2.2.2.2.1,s4.2.2.2.2.2.2.2.1,s4.2.2.2.2.2.2.2.2.1,s4.2.2.2.2.2.2.2.2.2.1,s4.2.2.2.2.2.2.2.2.2.2) kV rfl rfl rfl rfl rfl rfl rfl rfl rfl rfl rfl rfl rfl fun s5=>aW9 rfl rfl rfl rfl<|aVU rfl rfl rfl rfl rfl h2 rfl rfl hF fun hF s6 h3=>wi hF<|mQ (s5,s3.1,s3.2.1,s3.2.2.1,s3.2.2.2.1,s3.2.2.2.2.1,s3.2.2.2.2.2.1,s3.2.2.2.2.2.2.1,s3.2.2.2.2.2.2.2.2.2.2) [3,23,24] (fun(p:(List aE)×Int×aE) (u:AC×AC×AC×AC×AC×AC×AC×AC×AC)=>[(4,.h u.1 p.1.length),(25,I p.2.1)]) [24,1,2,3,4,5,6,7,8,9,10,11,12] [] (fun p u=>[ow u.1 (p.1:List aE),ow u.2.1 (p.2.2.aA.Mem.aC.Bytes:List Int),ow u.2.2.1 (p.2.2.aA.Mem.aC.Class:List Int),ow u.2.2.2.1 (p.2.2.aA.Mem.aB.Global:List aG),ow u.2.2.2.2.1 (p.2.2.aA.Mem.aB.bA:List aG),ow u.2.2.2.2.2.1 (p.2.2.aA.aD.aM:List cQ),ow u.2.2.2.2.2.2.1 (p.2.2.aA.aH:List aP),ow u.2.2.2.2.2.2.2.1 (p.2.2.aA.bO:List Int),ow s3.2.2.2.2.2.2.2.1 (p.2.2.Cells:List Int),ow s3.2.2.2.2.2.2.2.2.1 (p.2.2.aR:List bG),ow s3.2.2.2.2.2.2.2.2.2.1 (p.2.2.aU:List Queue),ow u.2.2.2.2.2.2.2.2 (p.2.2.Log:List Ev),.box 1 [.h u.2.1 p.2.2.aA.Mem.aC.Bytes.length,.h u.2.2.1 p.2.2.aA.Mem.aC.Class.length,.h u.2.2.2.1 p.2.2.aA.Mem.aB.Global.length,.h u.2.2.2.2.1 p.2.2.aA.Mem.aB.bA.length,I p.2.2.aA.aD.aJ,.h u.2.2.2.2.2.1 p.2.2.aA.aD.aM.length,.h u.2.2.2.2.2.2.1 p.2.2.aA.aH.length,.h u.2.2.2.2.2.2.2.1 p.2.2.aA.bO.length,.h s3.2.2.2.2.2.2.2.1 p.2.2.Cells.length,.h s3.2.2.2.2.2.2.2.2.1 p.2.2.aR.length,.h s3.2.2.2.2.2.2.2.2.2.1 p.2.2.aU.length,.h u.2.2.2.2.2.2.2.2 p.2.2.Log.length,I p.2.2.aK]]) id [] (fun(x9:(List aE)) (s25:AC)=>[(4,.h s25 x9.length)]) [] (fun x9 s25=>[ow s25 (x9:List aE)]) rfl rfl (fun hF1 ⟨x6,x7,x8⟩ ⟨s16,s17,s18,s19,s20,s21,s22,s23,s24⟩ hr1=>aV [26] rfl rfl (mH 2 2 (fun(p:(List aE)×aE)=>i4 x7 p.1 p.2) [3,23,24,25] (fun(p:(List aE)×aE) (u:AC×AC×AC×AC×AC×AC×AC×AC×AC)=>[(4,.h u.1 p.1.length)]) [] (fun p u=>[ow u.1 (p.1:List aE),ow u.2.1 (p.2.aA.Mem.aC.Bytes:List Int),ow u.2.2.1 (p.2.aA.Mem.aC.Class:List Int),ow u.2.2.2.1 (p.2.aA.Mem.aB.Global:List aG),ow u.2.2.2.2.1 (p.2.aA.Mem.aB.bA:List aG),ow u.2.2.2.2.2.1 (p.2.aA.aD.aM:List cQ),ow u.2.2.2.2.2.2.1 (p.2.aA.aH:List aP),ow u.2.2.2.2.2.2.2.1 (p.2.aA.bO:List Int),ow s3.2.2.2.2.2.2.2.1 (p.2.Cells:List Int),ow s3.2.2.2.2.2.2.2.2.1 (p.2.aR:List bG),ow s3.2.2.2.2.2.2.2.2.2.1 (p.2.aU:List Queue),ow u.2.2.2.2.2.2.2.2 (p.2.Log:List Ev),.box 1 [.h u.2.1 p.2.aA.Mem.aC.Bytes.length,.h u.2.2.1 p.2.aA.Mem.aC.Class.length,.h u.2.2.2.1 p.2.aA.Mem.aB.Global.length,.h u.2.2.2.2.1 p.2.aA.Mem.aB.bA.length,I p.2.aA.aD.aJ,.h u.2.2.2.2.2.1 p.2.aA.aD.aM.length,.h u.2.2.2.2.2.2.1 p.2.aA.aH.length,.h u.2.2.2.2.2.2.2.1 p.2.aA.bO.length,.h s3.2.2.2.2.2.2.2.1 p.2.Cells.length,.h s3.2.2.2.2.2.2.2.2.1 p.2.aR.length,.h s3.2.2.2.2.2.2.2.2.2.1 p.2.aU.length,.h u.2.2.2.2.2.2.2.2 p.2.Log.length,I p.2.aK]]) rfl (UT rfl h3 rfl fun x12=>c0 rfl (fun _=>mA) fun x13=>aV [30] rfl rfl (pG 12 1 0 13 [1,2,3,4,5,6,7,8,9,10,11] rfl rfl rfl rfl rfl (fun _=>uT) fun x14 s35=>c1 rfl (fun h=>oF (h.o 14 rfl) (h.o 15 rfl) (h.o 16 rfl) (h.o 17 rfl) (h.o 18 rfl) (h.o 19 rfl) (h.o 20 rfl) (h.o 21 rfl) (h.o 22 rfl) (h.o 23 rfl) (h.o 24 rfl)) fun x15 s36=>fun hG1=>ltN AK [25,26,27,28,29,30,31,32,33,34,35] (x15) (s36.1,s36.2.1,s36.2.2.1,s36.2.2.2.1,s36.2.2.2.2.1,s36.2.2.2.2.2.1,s36.2.2.2.2.2.2.1,s36.2.2.2.2.2.2.2.1,s36.2.2.2.2.2.2.2.2.1,s36.2.2.2.2.2.2.2.2.2.1,s36.2.2.2.2.2.2.2.2.2.2) kV rfl rfl rfl rfl rfl rfl rfl rfl rfl rfl rfl rfl rfl fun s37=>apN 0 36 kV rfl rfl rfl rfl rfl rfl rfl rfl rfl rfl rfl hG1 fun hG1 s38=>wi hG1<|pE (p:=(x6++([x15]),x14)) (s38,s35.1,s35.2.1,s35.2.2.1,s35.2.2.2.1,s35.2.2.2.2.1,s35.2.2.2.2.2.1,s35.2.2.2.2.2.2.1,s35.2.2.2.2.2.2.2) [37,14,15,16,17,18,19,20,21,22,23,24,12] rfl rfl)<|pE (p:=(x6,x8)) (s16,s17,s18,s19,s20,s21,s22,s23,s24) [0,1,2,3,4,5,6,7,8,9,10,11,12] rfl rfl) fun⟨x10,x11⟩ ⟨s26,s27,s28,s29,s30,s31,s32,s33,s34⟩=>nxW (s26,s27,s28,s29,s30,s31,s32,s33,s34) [0,1,2,3,4,5,6,7,8,9,10,11,12] rfl)<|bkW s16 [0] rfl) fun x9 s25=>gL s25 [0] rfl rfl
theorem UP{a_ b:List aE}{s1:AC}{s2:AC}(h1:aQ κ s1 a_)(h2:aQ κ s2 b):V0 Tryz.prog κ 27 (I0 a_ b) [.h s1 a_.length,.h s2 b.length] .b:=
 bM tok Tryz.call27 Tryz.func27 Tryz.results27 rfl rfl<|aV [10] rfl rfl (aY rfl rfl)<|CH 5 [0,1] [] Out.brk [] [] rfl rfl (fun hF1 x2 hr1=>aV [14] rfl rfl (jP aL [] rfl<|eG F5 rfl h1 rfl fun x3 s3 h3=>eG F5 rfl h2 rfl fun x4 s4 h4=>c0 rfl (fun h=>iM (h.a h3.1) (h.a h3.2.1) (h.a h3.2.2.1) (h.a h3.2.2.2.1) (h.a h3.2.2.2.2.1) (h.a h3.2.2.2.2.2.1) (h.a h3.2.2.2.2.2.2.1) (h.a h3.2.2.2.2.2.2.2.1) (h.a h3.2.2.2.2.2.2.2.2.1) (h.a h3.2.2.2.2.2.2.2.2.2.1) (h.a h3.2.2.2.2.2.2.2.2.2.2) (h.a h4.1) (h.a h4.2.1) (h.a h4.2.2.1) (h.a h4.2.2.2.1) (h.a h4.2.2.2.2.1) (h.a h4.2.2.2.2.2.1) (h.a h4.2.2.2.2.2.2.1) (h.a h4.2.2.2.2.2.2.2.1) (h.a h4.2.2.2.2.2.2.2.2.1) (h.a h4.2.2.2.2.2.2.2.2.2.1) (h.a h4.2.2.2.2.2.2.2.2.2.2)) fun x5=>aV [26] rfl rfl (eX hr1 hF1<|aY rfl rfl)<|pX [] rfl)<|jE [] rfl)<|aY rfl rfl
theorem IH{a_ b:dS}{s1 s2:AC}{s3 s4:AC}(h1:aQ κ s1 a_.aU)(h2:aQ κ s2 a_.bW)(h3:aQ κ s3 b.aU)(h4:aQ κ s4 b.bW):V0 Tryz.prog κ 28 (mO a_ b) [.g [.h s1 a_.aU.length,.h s2 a_.bW.length],.g [.h s3 b.aU.length,.h s4 b.bW.length]] .b:=
 bM tok Tryz.call28 Tryz.func28 Tryz.results28 rfl rfl<|c0 rfl (fun h=>vV (h.a h1) (h.a h3)) fun x1=>aV [10] rfl rfl (aY rfl rfl)<|c0 rfl (fun h=>fK (h.a h2) (h.a h4)) fun x2=>aV [16] rfl rfl (aY rfl rfl)<|aY rfl rfl
theorem aJ9{a_:dS}{k:Int}{s1 s2:AC}:VS Tryz.prog κ 29 (NR a_ k) [.g [.h s1 a_.aU.length,.h s2 a_.bW.length],I k] [] [ow s1 (a_.aU:List Queue),ow s2 (a_.bW:List Int)] (fun(r:Int×(List Queue)×(List Int)) (y:Unit)=>I r.1) (fun(r:Int×(List Queue)×(List Int)) (y:Unit)=>[.o (bH [AC.v s1 a_.aU.length] r.2.1),.o (bH [AC.v s2 a_.bW.length] r.2.2)]):=
 bM tok Tryz.call29 Tryz.func29 Tryz.results29 rfl rfl<|fZ [0] rfl rfl rfl rfl (fun _=>pA) fun x1 _=>fun hF=>un 3 [6] [(0,0)] [(2,0)] rfl rfl rfl rfl rfl rfl fun hl1=>wi hF<|fZ [1] rfl rfl rfl rfl (fun _=>dU) fun x2 _=>fun hF=>un 4 [10] [(0,1)] [(2,1)] rfl rfl rfl rfl rfl rfl fun hl2=>sR rfl<|pV 3 hl1 rfl<|pV 4 hl2 rfl<|nB (hT:=tok) () [3,4] hF rfl Tryz.results29 rfl rfl rfl rfl
theorem aKA{a_:List aE}{k:Int}{s1:AC}:VS Tryz.prog κ 30 (NS a_ k) [.h s1 a_.length,I k] [] [ow s1 (a_:List aE)] (fun(r:Int×(List aE)) (y:Unit)=>I r.1) (fun(r:Int×(List aE)) (y:Unit)=>[.o (bH [AC.v s1 a_.length] r.2)]):=
 bM tok Tryz.call30 Tryz.func30 Tryz.results30 rfl rfl<|mQ () [] (fun(p:(List aE)×Int×Int) (_:Unit)=>[(0,.h s1 p.1.length),(1,I p.2.1),(5,I p.2.2)]) [0] [] (fun p _=>[ow s1 (p.1:List aE)]) id [] (fun(p:(List aE)×Int) (_:Unit)=>[(0,.h s1 p.1.length),(1,I p.2)]) [] (fun p _=>[ow s1 (p.1:List aE)]) rfl rfl (fun hF1 ⟨x4,x5,x6⟩ _ hr1=>fun hG1=>nd hG1 fun hl3 hG1=>wi hG1<|aV [9] rfl rfl (mP AK 0 rfl rfl rfl fun x9 h1 s2 h2=>fun hG1=>dT 0 h2 h1 rfl rfl rfl rfl rfl<|wi hG1<|fZ [4] rfl rfl rfl rfl (fun _=>dU) fun x10 _=>fun hG1=>un 15 [19] [] [(2,0)] rfl rfl rfl rfl rfl rfl fun hl4=>dT 0 h2 h1 rfl rfl rfl rfl rfl<|wi hG1<|fZ [5] rfl rfl rfl rfl (fun _=>dU) fun x11 _=>fun hG1=>un 16 [29] [] [(2,1)] rfl rfl rfl rfl rfl rfl fun hl5=>dT 0 h2 h1 rfl rfl rfl rfl rfl<|wi hG1<|fZ [6] rfl rfl rfl rfl (fun _=>j9) fun x12 _=>fun hG1=>un 17 [39] [] [(2,2)] rfl rfl rfl rfl rfl rfl fun hl6=>dT 0 h2 h1 rfl rfl rfl rfl rfl<|wi hG1<|fZ [7] rfl rfl rfl rfl (fun _=>j9) fun x13 _=>fun hG1=>un 18 [49] [] [(2,3)] rfl rfl rfl rfl rfl rfl fun hl7=>dT 0 h2 h1 rfl rfl rfl rfl rfl<|dT 0 h2 h1 rfl rfl rfl rfl rfl<|wi hG1<|fZ [8] rfl rfl rfl rfl (fun _=>tQ) fun x14 _=>fun hG1=>un 19 [67] [] [(2,5)] rfl rfl rfl rfl rfl rfl fun hl8=>dT 0 h2 h1 rfl rfl rfl rfl rfl<|wi hG1<|fZ [9] rfl rfl rfl rfl (fun _=>qZ) fun x15 _=>fun hG1=>un 20 [75] [] [(2,6)] rfl rfl rfl rfl rfl rfl fun hl9=>dT 0 h2 h1 rfl rfl rfl rfl rfl<|wi hG1<|fZ [10] rfl rfl rfl rfl (fun _=>dU) fun x16 _=>fun hG1=>un 21 [83] [] [(2,7)] rfl rfl rfl rfl rfl rfl fun hl10=>dT 0 h2 h1 rfl rfl rfl rfl rfl<|wi hG1<|fZ [11] rfl rfl rfl rfl (fun _=>dU) fun x17 _=>fun hG1=>un 22 [90] [] [(2,8)] rfl rfl rfl rfl rfl rfl fun hl11=>dT 0 h2 h1 rfl rfl rfl rfl rfl<|wi hG1<|fZ [12] rfl rfl rfl rfl (fun _=>tR) fun x18 _=>fun hG1=>un 23 [97] [] [(2,9)] rfl rfl rfl rfl rfl rfl fun hl12=>dT 0 h2 h1 rfl rfl rfl rfl rfl<|wi hG1<|fZ [13] rfl rfl rfl rfl (fun _=>pA) fun x19 _=>fun hG1=>un 24 [104] [] [(2,10)] rfl rfl rfl rfl rfl rfl fun hl13=>dT 0 h2 h1 rfl rfl rfl rfl rfl<|wi hG1<|fZ [14] rfl rfl rfl rfl (fun _=>vI) fun x20 _=>fun hG1=>un 25 [111] [] [(2,11)] rfl rfl rfl rfl rfl rfl fun hl14=>dT 0 h2 h1 rfl rfl rfl rfl rfl<|sF rfl<|nD AK 1 [15,16,17,18,19,20,21,22,23,24,25] [0,7,12,22,32,42,52,61,70,78,86,93,100,107,114] (⟨(⟨(⟨(⟨x10.2,x11.2⟩:aC),(⟨x12.2,x13.2⟩:aB)⟩:Mem),(⟨x13.1,x14.2⟩:aD),x15.2,x16.2⟩:aA),x17.2,x18.2,x19.2,x20.2,x20.1⟩:aE) (s2.1,s2.2.1,s2.2.2.1,s2.2.2.2.1,s2.2.2.2.2.1,s2.2.2.2.2.2.1,s2.2.2.2.2.2.2.1,s2.2.2.2.2.2.2.2.1,s2.2.2.2.2.2.2.2.2.1,s2.2.2.2.2.2.2.2.2.2.1,s2.2.2.2.2.2.2.2.2.2.2) rfl rfl rfl rfl rfl rfl rfl rfl<|EY () [26] hG1 rfl)<|jE [0] rfl) fun⟨x7,x8⟩ _=>fun hF=>nd hF fun hl2 hF=>sR rfl<|pV 0 hl2 rfl<|nB (hT:=tok) () [0] hF rfl Tryz.results30 rfl rfl rfl rfl
theorem Y8{a_:List aE}{k:Int}{s1:AC}(h1:aQ κ s1 a_):V0 Tryz.prog κ 31 (IK a_ k) [.h s1 a_.length,I k] I:=
 bM tok Tryz.call31 Tryz.func31 Tryz.results31 rfl rfl<|mQ () [0] (fun(p:Int×Int) (_:Unit)=>[(1,I p.1),(5,I p.2)]) [] [] (fun p _=>[]) Out.brk [] (fun(x5:Int) (_:Unit)=>[(1,I x5)]) [] (fun x5 _=>[]) rfl rfl (fun hF1 ⟨x3,x4⟩ _ hr1=>aV [9] rfl rfl (eG F5 rfl h1 rfl fun x6 s2 h2=>c0 rfl (fun h=>d7 (h.a h2.1)) fun x7=>aV [23] rfl rfl (eX hr1 hF1<|aY rfl rfl)<|eG F5 rfl h1 rfl fun x8 s3 h3=>c0 rfl (fun h=>d7 (h.a h3.2.1)) fun x9=>aV [35] rfl rfl (eX hr1 hF1<|aY rfl rfl)<|eG F5 rfl h1 rfl fun x10 s4 h4=>c0 rfl (fun h=>kA (h.a h4.2.2.1)) fun x11=>aV [47] rfl rfl (eX hr1 hF1<|aY rfl rfl)<|eG F5 rfl h1 rfl fun x12 s5 h5=>c0 rfl (fun h=>kA (h.a h5.2.2.2.1)) fun x13=>aV [59] rfl rfl (eX hr1 hF1<|aY rfl rfl)<|eG F5 rfl h1 rfl fun x14 s6 h6=>aV [68] rfl rfl (eX hr1 hF1<|aY rfl rfl)<|eG F5 rfl h1 rfl fun x15 s7 h7=>c0 rfl (fun h=>tS (h.a h7.2.2.2.2.1)) fun x16=>aV [81] rfl rfl (eX hr1 hF1<|aY rfl rfl)<|eG F5 rfl h1 rfl fun x17 s8 h8=>c0 rfl (fun h=>rA (h.a h8.2.2.2.2.2.1)) fun x18=>aV [91] rfl rfl (eX hr1 hF1<|aY rfl rfl)<|eG F5 rfl h1 rfl fun x19 s9 h9=>c0 rfl (fun h=>d7 (h.a h9.2.2.2.2.2.2.1)) fun x20=>aV [101] rfl rfl (eX hr1 hF1<|aY rfl rfl)<|eG F5 rfl h1 rfl fun x21 s10 h10=>c0 rfl (fun h=>d7 (h.a h10.2.2.2.2.2.2.2.1)) fun x22=>aV [110] rfl rfl (eX hr1 hF1<|aY rfl rfl)<|eG F5 rfl h1 rfl fun x23 s11 h11=>c0 rfl (fun h=>tT (h.a h11.2.2.2.2.2.2.2.2.1)) fun x24=>aV [119] rfl rfl (eX hr1 hF1<|aY rfl rfl)<|eG F5 rfl h1 rfl fun x25 s12 h12=>c0 rfl (fun h=>rB (h.a h12.2.2.2.2.2.2.2.2.2.1)) fun x26=>aV [128] rfl rfl (eX hr1 hF1<|aY rfl rfl)<|eG F5 rfl h1 rfl fun x27 s13 h13=>c0 rfl (fun h=>vK (h.a h13.2.2.2.2.2.2.2.2.2.2)) fun x28=>aV [137] rfl rfl (eX hr1 hF1<|aY rfl rfl)<|eG F5 rfl h1 rfl fun x29 s14 h14=>aV [144] rfl rfl (eX hr1 hF1<|aY rfl rfl)<|pX [] rfl)<|jE [] rfl) fun x5 _=>aY rfl rfl
theorem aCW{aX:dS}{s1 s2:AC}(h1:aQ κ s1 aX.aU)(h2:aQ κ s2 aX.bW):V0 Tryz.prog κ 7 (KE aX) [.g [.h s1 aX.aU.length,.h s2 aX.bW.length]] .b:=
 bM tok Tryz.call7 Tryz.func7 Tryz.results7 rfl rfl<|c0 rfl (fun h=>H7 (h.a h1) (h.a h2)) fun x1=>aV [15] rfl rfl (aY rfl rfl)<|c1 rfl (fun h=>nW (h.a h1) (h.a h2)) fun x2 s3=>c1 rfl (fun h=>IC (h.o 1 rfl) (h.o 2 rfl)) fun x3 s4=>c1 rfl (fun h=>nW (h.a h1) (h.a h2)) fun x4 s5=>c1 rfl (fun h=>C4 (h.o 4 rfl) (h.o 5 rfl)) fun x5 s6=>c0 rfl (fun h=>UP (h.o 7 rfl) (h.o 3 rfl)) fun x6=>aV [26] rfl rfl (aY rfl rfl)<|jP aL [0,6] rfl<|c1 rfl (fun h=>nW (h.a h1) (h.a h2)) fun x7 s7=>c0 rfl (fun h=>IH (h.o 4 rfl) (h.o 5 rfl) (h.o 8 rfl) (h.o 9 rfl)) fun x8=>aV [31] rfl rfl (aY rfl rfl)<|fZ [4,5] rfl rfl rfl rfl (fun _=>aJ9) fun x9 _=>fun hF=>un 10 [] [(20,0),(21,0),(27,0),(32,0)] [(6,0)] rfl rfl rfl rfl rfl rfl fun hl1=>fG rfl rfl<|un 11 [] [(20,1),(21,1),(27,1),(32,1)] [(6,1)] rfl rfl rfl rfl rfl rfl fun hl2=>fG rfl rfl<|wi hF<|fS 0 2 (yR aX x3 x5) [1,4,6] 42 [3,7,0] rfl (fN [36,37] rfl rfl (cR [3,7,0] rfl rfl)<|c0 rfl (fun h=>UP (h.o 7 rfl) (h.o 3 rfl)) fun x17=>cR [3,7,0] rfl rfl) fun x10=>aV [42] rfl rfl (aY rfl rfl)<|fZ [1] rfl rfl rfl rfl (fun _=>aKA) fun x11 _=>fun hF=>un 3 [6,43] [] [] rfl rfl rfl rfl rfl rfl fun hl3=>wi hF<|c0 rfl (fun h=>Y8 (h.o 3 rfl)) fun x12=>aV [50] rfl rfl (aY rfl rfl)<|aV [53] rfl rfl (aY rfl rfl)<|c1 rfl (fun h=>nW (h.a h1) (h.a h2)) fun x13 s8=>c1 rfl (fun h=>C4 (h.o 4 rfl) (h.o 5 rfl)) fun x14 s9=>c0 rfl (fun h=>UP (h.o 6 rfl) (h.o 0 rfl)) fun x15=>aV [60] rfl rfl (aY rfl rfl)<|c0 rfl (fun h=>Y8 (h.o 3 rfl)) fun x16=>aV [65] rfl rfl (aY rfl rfl)<|aV [68] rfl rfl (aY rfl rfl)<|aY rfl rfl
end
end Go.Proofs.YtgboekoingacfaaGreat
end
noncomputable section
set_option linter.unusedVariables false
set_option linter.unusedSimpArgs false
namespace Go.Gv
theorem wrap_i64{x:Int}(h1:-9223372036854775808≤x)(h2:x≤9223372036854775807):IntKind.i64.wrap x=x:=O2 ⟨h1,h2⟩
end Go.Gv
end
noncomputable section
set_option linter.unusedVariables false
set_option linter.unusedSimpArgs false
namespace Go.Gv
theorem VX{v:aC}(h:dE v≤4194304):qK v v=some true:=by
  have h0:bK v.Bytes≤4194304:=by unfold dE at h;omega
  have h1:bK v.Class≤4194304:=by unfold dE at h;omega
  unfold qK
  simp [rJ h0,rJ h1]
theorem Q0{v:aG}(h:cP v≤4194304):nP v v=some true:=by
  have h0:bK v.bB≤4194304:=by unfold cP at h;omega
  unfold nP
  simp [rJ h0]
theorem mR{l:List aG}{x:aG}(h:x∈l):cP x≤bU l:=by have:=LA (f:=cP) h;unfold bU;omega
theorem mS(l:List aG):l.length≤bU l:=by unfold bU;omega
theorem yN{l:List aG}(h:bU l≤4194304):lX l l=some true:=by
  have hl:=mS l
  unfold lX
  have key:loop (fT l l) 0=some (Out.brk ()):=by
    refine fI (f:=fT l l) l.length (fun k=>(k:Int)) _ (fun k hk=>?_) ?_
    · simp only [fT]
      rw [if_pos (by simp;omega),aT hk,aZ (by omega) (by omega)]
      simp [Q0 (Nat.le_trans (mR (List.getElem_mem hk)) h)]
    · simp [fT]
  simp [key,A1,A0]
theorem Q1{v:aB}(h:dA v≤4194304):nQ v v=some true:=by
  have h0:bU v.Global≤4194304:=by unfold dA at h;omega
  have h1:bU v.bA≤4194304:=by unfold dA at h;omega
  unfold nQ
  simp [yN h0,yN h1]
theorem aCG{v:Mem}(h:dP v≤4194304):sJ v v=some true:=by
  have h0:dE v.aC≤4194304:=by unfold dP at h;omega
  have h1:dA v.aB≤4194304:=by unfold dP at h;omega
  unfold sJ
  simp [VX h0,Q1 h1]
theorem aCH(a:cQ):sK a a=some true:=by simp [sK]
theorem qI(l:List cQ):l.length≤eV l:=by unfold eV;omega
theorem VY{l:List cQ}(h:eV l≤4194304):qL l l=some true:=by
  have hl:=qI l
  unfold qL
  have key:loop (iD l l) 0=some (Out.brk ()):=by
    refine fI (f:=iD l l) l.length (fun k=>(k:Int)) _ (fun k hk=>?_) ?_
    · simp only [iD]
      rw [if_pos (by simp;omega),aT hk,aZ (by omega) (by omega)]
      simp [aCH]
    · simp [iD]
  simp [key,FD,FC]
theorem Q2{v:aD}(h:dB v≤4194304):nR v v=some true:=by
  have h0:eV v.aM≤4194304:=by unfold dB at h;omega
  unfold nR
  simp [VY h0]
theorem VZ(a:bP):qM a a=some true:=by simp [qM]
theorem o4(l:List bP):l.length≤eE l:=by unfold eE;omega
theorem Q3{l:List bP}(h:eE l≤4194304):nS l l=some true:=by
  have hl:=o4 l
  unfold nS
  have key:loop (gT l l) 0=some (Out.brk ()):=by
    refine fI (f:=gT l l) l.length (fun k=>(k:Int)) _ (fun k hk=>?_) ?_
    · simp only [gT]
      rw [if_pos (by simp;omega),aT hk,aZ (by omega) (by omega)]
      simp [VZ]
    · simp [gT]
  simp [key,CU,CT]
theorem Q4{v:aP}(h:cW v≤4194304):nT v v=some true:=by
  have h0:eE v.Rows≤4194304:=by unfold cW at h;omega
  unfold nT
  simp [Q3 h0]
theorem mT{l:List aP}{x:aP}(h:x∈l):cW x≤bZ l:=by have:=LA (f:=cW) h;unfold bZ;omega
theorem mU(l:List aP):l.length≤bZ l:=by unfold bZ;omega
theorem LC{l:List aP}(h:bZ l≤4194304):mL l l=some true:=by
  have hl:=mU l
  unfold mL
  have key:loop (fU l l) 0=some (Out.brk ()):=by
    refine fI (f:=fU l l) l.length (fun k=>(k:Int)) _ (fun k hk=>?_) ?_
    · simp only [fU]
      rw [if_pos (by simp;omega),aT hk,aZ (by omega) (by omega)]
      simp [Q4 (Nat.le_trans (mT (List.getElem_mem hk)) h)]
    · simp [fU]
  simp [key,A3,A2]
theorem V1{v:aA}(h:bX v≤4194304):qN v v=some true:=by
  have h0:dP v.Mem≤4194304:=by unfold bX at h;omega
  have h1:dB v.aD≤4194304:=by unfold bX at h;omega
  have h2:bZ v.aH≤4194304:=by unfold bX at h;omega
  have h3:bK v.bO≤4194304:=by unfold bX at h;omega
  unfold qN
  simp [aCG h0,Q2 h1,LC h2,rJ h3]
def cH(v:dS):Nat:=dC v.aU+bK v.bW
theorem aA8{v:dS}(hf:fit v){n:Int}(h0:0≤n)(h1:n≤1048576):mN v n=some (if (cH v:Int)≤n then n - cH v else -1):=by
  unfold mN cH
  rw [RY (hf.1) (by omega) (by omega)]
  by_cases q0:(dC v.aU:Int)≤n
  · rw [if_pos q0];simp only [Option.bind_some];rw [if_neg (by simp only [decide_eq_true_eq];omega)]
    rw [uV (hf.2) (by omega) (by omega)]
    by_cases q1:(bK v.bW:Int)≤n - (dC v.aU:Nat)
    · rw [if_pos q1];simp only [Option.bind_some];rw [if_neg (by simp only [decide_eq_true_eq];omega),if_pos (by omega)];congr 1;omega
    · rw [if_neg q1,if_neg (by omega)];rfl
  · rw [if_neg q0,if_neg (by omega)];rfl
theorem aA9{v:dS}(h:cH v≤4194304):fV v=some v:=by
  have h0:dC v.aU≤4194304:=by unfold cH at h;omega
  have h1:bK v.bW≤4194304:=by unfold cH at h;omega
  unfold fV
  simp only [RZ h0,uW h1,Option.bind_some]
theorem aBA{v:dS}(h:cH v≤4194304):mO v v=some true:=by
  have h0:dC v.aU≤4194304:=by unfold cH at h;omega
  have h1:bK v.bW≤4194304:=by unfold cH at h;omega
  unfold mO
  simp [OV h0,rJ h1]
theorem aCN(a:Sub):sL a a=some true:=by simp [sL]
theorem aCO(a:bG):sM a a=some true:=by simp [sM,aST,aCN]
theorem qJ(l:List bG):l.length≤dX l:=by unfold dX;omega
theorem V2{l:List bG}(h:dX l≤4194304):qO l l=some true:=by
  have hl:=qJ l
  unfold qO
  have key:loop (iE l l) 0=some (Out.brk ()):=by
    refine fI (f:=iE l l) l.length (fun k=>(k:Int)) _ (fun k hk=>?_) ?_
    · simp only [iE]
      rw [if_pos (by simp;omega),aT hk,aZ (by omega) (by omega)]
      simp [aCO]
    · simp [iE]
  simp [key,FF,FE]
theorem aJ0(a:Ev):vQ a a=some true:=by simp [vQ]
theorem sG(l:List Ev):l.length≤gO l:=by unfold gO;omega
theorem aCR{l:List Ev}(h:gO l≤4194304):sN l l=some true:=by
  have hl:=sG l
  unfold sN
  have key:loop (jI l l) 0=some (Out.brk ()):=by
    refine fI (f:=jI l l) l.length (fun k=>(k:Int)) _ (fun k hk=>?_) ?_
    · simp only [jI]
      rw [if_pos (by simp;omega),aT hk,aZ (by omega) (by omega)]
      simp [aJ0]
    · simp [jI]
  simp [key,IT,IS]
theorem Q5{v:aE}(h:bJ v≤4194304):cL v v=some true:=by
  have h0:bX v.aA≤4194304:=by unfold bJ at h;omega
  have h1:bK v.Cells≤4194304:=by unfold bJ at h;omega
  have h2:dX v.aR≤4194304:=by unfold bJ at h;omega
  have h3:dC v.aU≤4194304:=by unfold bJ at h;omega
  have h4:gO v.Log≤4194304:=by unfold bJ at h;omega
  unfold cL
  simp [V1 h0,rJ h1,V2 h2,OV h3,aCR h4]
def KF(l:List aE):Nat:=l.length+(l.map bJ).sum
theorem aNF{l:List aE}{x:aE}(h:x∈l):bJ x≤KF l:=by have:=LA (f:=bJ) h;unfold KF;omega
theorem aNG(l:List aE):l.length≤KF l:=by unfold KF;omega
theorem aZF{l:List aE}(h:KF l≤4194304):I0 l l=some true:=by
  have hl:=aNG l
  unfold I0
  have key:loop (F8 l l) 0=some (Out.brk ()):=by
    refine fI (f:=F8 l l) l.length (fun k=>(k:Int)) _ (fun k hk=>?_) ?_
    · simp only [F8]
      rw [if_pos (by simp;omega),aT hk,aZ (by omega) (by omega)]
      simp [Q5 (Nat.le_trans (aNF (List.getElem_mem hk)) h)]
    · simp [F8]
  simp [key,aBG,aBF]
theorem nx3{α ρ:Type}{x:α}{k k' i i':Int}(h1:k=k')(h2:i=i'):(some (Step.next (x,k,i)):Option (Step (α×Int×Int) ρ))=some (.next (x,k',i')):=by rw [h1,h2]
theorem nx2{ρ:Type}{k k' i i':Int}(h1:k=k')(h2:i=i'):(some (Step.next (k,i)):Option (Step (Int×Int) ρ))=some (.next (k',i')):=by rw [h1,h2]
theorem fB(x y:Int):aI (aI x+y)=aI (x+y):=by
  simp [aI,IntKind.wrap,IntKind.bits,IntKind.signed];split <;> split <;> omega
theorem fX{α:Type}(l:List α)(wt:α→Nat)(P:α→α→Int→Prop){f:(List α×Int×Int)→Option (Step (List α×Int×Int) (List α×Int))}{k0:Int}(h0:0≤k0)(hB:k0+(l.map wt).sum≤4611686018427387904)
    (hf:∀(m:List α) (k:Int) (i:Nat) (hi:i < l.length) (hm:m.length=l.length),m[i]'(by omega)=l[i]→0≤k→k+wt l[i]≤4611686018427387904→∃a,f (m,k,(i:Int))=some (.next (m.set i a,k+wt l[i],((i+1:Nat):Int)))∧P l[i] a k)
    (he:∀(m:List α) (k:Int),m.length=l.length→f (m,k,(l.length:Int))=some (.stop (m,k))) :
    ∃m,loop f (l,k0,0)=some (m,k0+(l.map wt).sum)∧m.length=l.length∧∀j (hj:j < l.length) (hj':j < m.length),P l[j] m[j] (k0+((l.take j).map wt).sum):=by
  have key:∀(d i:Nat) (m:List α),i+d=l.length→m.length=l.length→(∀j (hj:j < l.length) (hj':j < m.length),i≤j→m[j]=l[j])→(∀j (hj:j < l.length) (hj':j < m.length),j < i→P l[j] m[j] (k0+((l.take j).map wt).sum)) →
      ∃m',loop f (m,k0+((l.take i).map wt).sum,(i:Int))=some (m',k0+(l.map wt).sum)∧m'.length=l.length∧∀j (hj:j < l.length) (hj':j < m'.length),P l[j] m'[j] (k0+((l.take j).map wt).sum):=by
    intro d
    induction d with
    | zero =>
      intro i m hi hm _ h
      obtain rfl:i=l.length:=by omega
      rw [List.take_length]
      exact⟨m,cX (he m _ hm),hm,fun j hj hj'=>h j hj hj' hj⟩
    | succ d ih =>
      intro i m hi hm hs h
      have hil:i < l.length:=by omega
      have hle:((l.take i).map wt).sum+wt l[i]≤(l.map wt).sum:=by
        have e:l.map wt=(l.take i).map wt++(wt l[i] :: (l.drop (i+1)).map wt):=by
          rw [←List.map_cons,←List.drop_eq_getElem_cons hil,←List.map_append,List.take_append_drop]
        rw [e,List.sum_append,List.sum_cons];omega
      obtain⟨a,e1,e2⟩:=hf m (k0+((l.take i).map wt).sum) i hil hm (hs i hil (by omega) (Nat.le_refl _)) (by omega) (by omega)
      have et:((l.take (i+1)).map wt).sum=((l.take i).map wt).sum+wt l[i]:=by
        rw [List.take_succ_eq_append_getElem hil,List.map_append,List.sum_append];simp
      rw [cO e1,show k0+((((l.take i).map wt).sum:Nat):Int)+(wt l[i]:Int)=k0+((((l.take (i+1)).map wt).sum:Nat):Int) by rw [et];omega]
      refine ih (i+1) (m.set i a) (by omega) (by simpa using hm) (fun j hj hj' hij=>?_) (fun j hj hj' hij=>?_)
      · rw [List.getElem_set_ne (by omega)];exact hs j hj _ (by omega)
      · by_cases e:j=i
        · subst e;rw [List.getElem_set_self];exact e2
        · rw [List.getElem_set_ne (by omega)];exact h j hj (by simpa using hj') (by omega)
  have:=key l.length 0 l (by omega) rfl (fun _ _ _ _=>rfl) (fun _ _ _ h=>absurd h (by omega))
  simpa using this
theorem fY{α:Type}(l m:List α)(hml:m.length=l.length)(wt:α→Nat)(P:α→α→Int→Prop){g:(Int×Int)→Option (Step (Int×Int) (Out Int Int))}{k0:Int}
    (hP:∀j (hj:j < l.length) (hj':j < m.length),P l[j] m[j] (k0+((l.take j).map wt).sum))
    (hg:∀(i:Nat) (hi:i < l.length) (hi':i < m.length) (k:Int),P l[i] m[i] k→0≤k→k+wt l[i]≤4611686018427387904→g (k,(i:Int))=some (.next (k+wt l[i],((i+1:Nat):Int))))
    (he:∀k:Int,g (k,(m.length:Int))=some (.stop (.brk k))) (h0:0≤k0) (hB:k0+(l.map wt).sum≤4611686018427387904):loop g (k0,0)=some (.brk (k0+(l.map wt).sum)):=by
  have:=fI (f:=g) l.length (fun i=>(k0+((l.take i).map wt).sum,(i:Int))) (.brk (k0+(l.map wt).sum)) (fun i hi=>?_) (by
    rw [List.take_length,←hml];exact he _)
  · simpa using this
  · have hle:((l.take i).map wt).sum+wt l[i]≤(l.map wt).sum:=by
      have e:l.map wt=(l.take i).map wt++(wt l[i] :: (l.drop (i+1)).map wt):=by
        rw [←List.map_cons,←List.drop_eq_getElem_cons hi,←List.map_append,List.take_append_drop]
      rw [e,List.sum_append,List.sum_cons];omega
    have et:((l.take (i+1)).map wt).sum=((l.take i).map wt).sum+wt l[i]:=by
      rw [List.take_succ_eq_append_getElem hi,List.map_append,List.sum_append];simp
    rw [hg i hi (by omega) _ (hP i hi (by omega)) (by omega) (by omega),et]
    congr 3;omega
theorem kT{l:List Int}{k:Int}(h0:0≤k)(hB:k+bL l≤4611686018427387904)(hl:l.length≤maxLen):∃m,gU l k=some (k+bL l,m)∧d8 m k=some (k+bL l):=by
  obtain⟨m,e1,e2,e3⟩:=fX l (fun _=>1) (fun _ a k=>∀(m:List Int) (i:Nat) (hi:i < m.length),m.length≤maxLen→m[i]=a→eA m (k,(i:Int))=some (.next (k+1,((i+1:Nat):Int)))) (f:=jM l) h0 hB (fun m k i hi hm he hk hb=>⟨_,by
    simp only [jM]
    rw [aO hm,if_pos (by simp;omega),aT (by omega),Option.bind_some,Int.toNat_natCast]
    refine nx3 ?_ (bV (cG hi hl))
    (try simp only [fB,Int.add_assoc,Int.reduceAdd]);exact aZ (by omega) (by omega),fun m i hi hx e=>by
    simp only [eA]
    rw [if_pos (by simp;omega)]
    simp only [aT hi,e,Option.bind_some,bne_self_eq_false,beq_self_eq_true,Bool.not_true,Bool.false_eq_true,if_false]
    refine nx2 ?_ (bV (cG hi hx))
    (try simp only [fB,Int.add_assoc,Int.reduceAdd]);exact aZ (by omega) (by omega)⟩) (fun m k hm=>by
    simp only [jM]
    rw [aO hm,if_neg (by simp;omega)])
  refine⟨m,?_,?_⟩
  · unfold gU
    rw [e1];simp only [Option.bind_some,A5,A4];rw [aO e2];rfl
  · unfold d8
    rw [fY l m e2 (fun _=>1) (fun _ a k=>∀(m:List Int) (i:Nat) (hi:i < m.length),m.length≤maxLen→m[i]=a→eA m (k,(i:Int))=some (.next (k+1,((i+1:Nat):Int)))) e3 (g:=eA m) (fun i hi hi' k h _ _=>h m i hi' (by omega) rfl) (fun k=>by simp [eA]) h0 hB];rfl
theorem sP{l:List aG}{k:Int}(h0:0≤k)(hB:k+cJ l≤4611686018427387904)(hl:l.length≤maxLen)(hi:∀x∈l,x.bB.length≤maxLen):∃m,iO l k=some (k+cJ l,m)∧iP m k=some (k+cJ l):=by
  obtain⟨m,e1,e2,e3⟩:=fX l (fun x=>bL x.bB) (fun x a k=>d8 a.bB k=some (k+bL x.bB)) (f:=hO l) h0 hB (fun m k i hi' hm he hk hb=>by
    obtain⟨q,q1,q2⟩:=kT (l:=l[i].bB) hk hb (hi _ (List.getElem_mem hi'))
    refine⟨⟨q⟩,?_,q2⟩
    simp only [hO]
    rw [aO hm,if_pos (by simp;omega),aT (by omega),Option.bind_some,he,q1,Option.bind_some,Int.toNat_natCast,bV (cG hi' hl)]) (fun m k hm=>by
    simp only [hO]
    rw [aO hm,if_neg (by simp;omega)])
  refine⟨m,?_,?_⟩
  · unfold iO
    rw [e1];simp only [Option.bind_some,wL,wK];rw [aO e2];rfl
  · unfold iP
    rw [fY l m e2 (fun x=>bL x.bB) (fun x a k=>d8 a.bB k=some (k+bL x.bB)) e3 (g:=hY m) (fun i hi' hi2 k h hk hb=>by
      simp only [hY]
      rw [if_pos (by simp;omega),aT hi2,Option.bind_some,h,Option.bind_some,if_neg (by simp;omega),bV (cG hi2 (by omega))]) (fun k=>by simp [hY]) h0 hB];rfl
theorem LD{l:List cQ}{k:Int}(h0:0≤k)(hB:k+l7 l≤4611686018427387904)(hl:l.length≤maxLen):∃m,lY l k=some (k+l7 l,m)∧l4 m k=some (k+l7 l):=by
  obtain⟨m,e1,e2,e3⟩:=fX l (fun _=>4) (fun _ a k=>∀(m:List cQ) (i:Nat) (hi:i < m.length),m.length≤maxLen→m[i]=a→eB m (k,(i:Int))=some (.next (k+4,((i+1:Nat):Int)))) (f:=jN l) h0 hB (fun m k i hi hm he hk hb=>⟨_,by
    simp only [jN]
    rw [aO hm,if_pos (by simp;omega),aT (by omega),Option.bind_some,Int.toNat_natCast]
    refine nx3 ?_ (bV (cG hi hl))
    (try simp only [fB,Int.add_assoc,Int.reduceAdd]);exact aZ (by omega) (by omega),fun m i hi hx e=>by
    simp only [eB]
    rw [if_pos (by simp;omega)]
    simp only [aT hi,e,Option.bind_some,bne_self_eq_false,beq_self_eq_true,Bool.not_true,Bool.false_eq_true,if_false]
    refine nx2 ?_ (bV (cG hi hx))
    (try simp only [fB,Int.add_assoc,Int.reduceAdd]);exact aZ (by omega) (by omega)⟩) (fun m k hm=>by
    simp only [jN]
    rw [aO hm,if_neg (by simp;omega)])
  refine⟨m,?_,?_⟩
  · unfold lY
    rw [e1];simp only [Option.bind_some,A7,A6];rw [aO e2];rfl
  · unfold l4
    rw [fY l m e2 (fun _=>4) (fun _ a k=>∀(m:List cQ) (i:Nat) (hi:i < m.length),m.length≤maxLen→m[i]=a→eB m (k,(i:Int))=some (.next (k+4,((i+1:Nat):Int)))) e3 (g:=eB m) (fun i hi hi' k h _ _=>h m i hi' (by omega) rfl) (fun k=>by simp [eB]) h0 hB];rfl
theorem HK{l:List bP}{k:Int}(h0:0≤k)(hB:k+g9 l≤4611686018427387904)(hl:l.length≤maxLen):∃m,lF l k=some (k+g9 l,m)∧fE m k=some (k+g9 l):=by
  obtain⟨m,e1,e2,e3⟩:=fX l (fun _=>2) (fun _ a k=>∀(m:List bP) (i:Nat) (hi:i < m.length),m.length≤maxLen→m[i]=a→dR m (k,(i:Int))=some (.next (k+2,((i+1:Nat):Int)))) (f:=iS l) h0 hB (fun m k i hi hm he hk hb=>⟨_,by
    simp only [iS]
    rw [aO hm,if_pos (by simp;omega),aT (by omega),Option.bind_some,Int.toNat_natCast]
    refine nx3 ?_ (bV (cG hi hl))
    (try simp only [fB,Int.add_assoc,Int.reduceAdd]);exact aZ (by omega) (by omega),fun m i hi hx e=>by
    simp only [dR]
    rw [if_pos (by simp;omega)]
    simp only [aT hi,e,Option.bind_some,bne_self_eq_false,beq_self_eq_true,Bool.not_true,Bool.false_eq_true,if_false]
    refine nx2 ?_ (bV (cG hi hx))
    (try simp only [fB,Int.add_assoc,Int.reduceAdd]);exact aZ (by omega) (by omega)⟩) (fun m k hm=>by
    simp only [iS]
    rw [aO hm,if_neg (by simp;omega)])
  refine⟨m,?_,?_⟩
  · unfold lF
    rw [e1];simp only [Option.bind_some,yL,yK];rw [aO e2];rfl
  · unfold fE
    rw [fY l m e2 (fun _=>2) (fun _ a k=>∀(m:List bP) (i:Nat) (hi:i < m.length),m.length≤maxLen→m[i]=a→dR m (k,(i:Int))=some (.next (k+2,((i+1:Nat):Int)))) e3 (g:=dR m) (fun i hi hi' k h _ _=>h m i hi' (by omega) rfl) (fun k=>by simp [dR]) h0 hB];rfl
theorem DO{l:List aP}{k:Int}(h0:0≤k)(hB:k+eP l≤4611686018427387904)(hl:l.length≤maxLen)(hi:∀x∈l,x.Rows.length≤maxLen):∃m,jS l k=some (k+eP l,m)∧jT m k=some (k+eP l):=by
  obtain⟨m,e1,e2,e3⟩:=fX l (fun x=>g9 x.Rows) (fun x a k=>fE a.Rows k=some (k+g9 x.Rows)) (f:=hC l) h0 hB (fun m k i hi' hm he hk hb=>by
    obtain⟨q,q1,q2⟩:=HK (l:=l[i].Rows) hk hb (hi _ (List.getElem_mem hi'))
    refine⟨⟨q⟩,?_,q2⟩
    simp only [hC]
    rw [aO hm,if_pos (by simp;omega),aT (by omega),Option.bind_some,he,q1,Option.bind_some,Int.toNat_natCast,bV (cG hi' hl)]) (fun m k hm=>by
    simp only [hC]
    rw [aO hm,if_neg (by simp;omega)])
  refine⟨m,?_,?_⟩
  · unfold jS
    rw [e1];simp only [Option.bind_some,wJ,wI];rw [aO e2];rfl
  · unfold jT
    rw [fY l m e2 (fun x=>g9 x.Rows) (fun x a k=>fE a.Rows k=some (k+g9 x.Rows)) e3 (g:=hU m) (fun i hi' hi2 k h hk hb=>by
      simp only [hU]
      rw [if_pos (by simp;omega),aT hi2,Option.bind_some,h,Option.bind_some,if_neg (by simp;omega),bV (cG hi2 (by omega))]) (fun k=>by simp [hU]) h0 hB];rfl
theorem Q6{l:List cM}{k:Int}(h0:0≤k)(hB:k+mB l≤4611686018427387904)(hl:l.length≤maxLen):∃m,nU l k=some (k+mB l,m)∧iB m k=some (k+mB l):=by
  obtain⟨m,e1,e2,e3⟩:=fX l (fun _=>4) (fun _ a k=>∀(m:List cM) (i:Nat) (hi:i < m.length),m.length≤maxLen→m[i]=a→eR m (k,(i:Int))=some (.next (k+4,((i+1:Nat):Int)))) (f:=kM l) h0 hB (fun m k i hi hm he hk hb=>⟨_,by
    simp only [kM]
    rw [aO hm,if_pos (by simp;omega),aT (by omega),Option.bind_some,Int.toNat_natCast]
    refine nx3 ?_ (bV (cG hi hl))
    (try simp only [fB,Int.add_assoc,Int.reduceAdd]);exact aZ (by omega) (by omega),fun m i hi hx e=>by
    simp only [eR]
    rw [if_pos (by simp;omega)]
    simp only [aT hi,e,Option.bind_some,bne_self_eq_false,beq_self_eq_true,Bool.not_true,Bool.false_eq_true,if_false]
    refine nx2 ?_ (bV (cG hi hx))
    (try simp only [fB,Int.add_assoc,Int.reduceAdd]);exact aZ (by omega) (by omega)⟩) (fun m k hm=>by
    simp only [kM]
    rw [aO hm,if_neg (by simp;omega)])
  refine⟨m,?_,?_⟩
  · unfold nU
    rw [e1];simp only [Option.bind_some,CX,CV];rw [aO e2];rfl
  · unfold iB
    rw [fY l m e2 (fun _=>4) (fun _ a k=>∀(m:List cM) (i:Nat) (hi:i < m.length),m.length≤maxLen→m[i]=a→eR m (k,(i:Int))=some (.next (k+4,((i+1:Nat):Int)))) e3 (g:=eR m) (fun i hi hi' k h _ _=>h m i hi' (by omega) rfl) (fun k=>by simp [eR]) h0 hB];rfl
theorem AR{l:List Queue}{k:Int}(h0:0≤k)(hB:k+dQ l≤4611686018427387904)(hl:l.length≤maxLen)(hi:∀x∈l,x.kJ.length≤maxLen):∃m,jC l k=some (k+dQ l,m)∧jU m k=some (k+dQ l):=by
  obtain⟨m,e1,e2,e3⟩:=fX l (fun x=>mB x.kJ) (fun x a k=>iB a.kJ k=some (k+mB x.kJ)) (f:=hQ l) h0 hB (fun m k i hi' hm he hk hb=>by
    obtain⟨q,q1,q2⟩:=Q6 (l:=l[i].kJ) hk hb (hi _ (List.getElem_mem hi'))
    refine⟨⟨q⟩,?_,q2⟩
    simp only [hQ]
    rw [aO hm,if_pos (by simp;omega),aT (by omega),Option.bind_some,he,q1,Option.bind_some,Int.toNat_natCast,bV (cG hi' hl)]) (fun m k hm=>by
    simp only [hQ]
    rw [aO hm,if_neg (by simp;omega)])
  refine⟨m,?_,?_⟩
  · unfold jC
    rw [e1];simp only [Option.bind_some,wN,wM];rw [aO e2];rfl
  · unfold jU
    rw [fY l m e2 (fun x=>mB x.kJ) (fun x a k=>iB a.kJ k=some (k+mB x.kJ)) e3 (g:=iA m) (fun i hi' hi2 k h hk hb=>by
      simp only [iA]
      rw [if_pos (by simp;omega),aT hi2,Option.bind_some,h,Option.bind_some,if_neg (by simp;omega),bV (cG hi2 (by omega))]) (fun k=>by simp [iA]) h0 hB];rfl
def SI(v:dS):Nat:=dQ v.aU+bL v.bW
def aZG(v:dS):Prop:=v.aU.length≤maxLen∧(∀x∈v.aU,x.kJ.length≤maxLen)∧v.bW.length≤maxLen
theorem aVY{v:dS}{k:Int}(h0:0≤k)(hB:k+SI v≤4611686018427387904)(hm:aZG v):∃s0 s1,NR v k=some (k+SI v,s0,s1):=by
  unfold SI at hB ⊢
  obtain⟨s0,a0,b0⟩:=AR (l:=v.aU) (k:=k) (by omega) (by omega) (hm.1) (hm.2.1)
  have z0:¬k+(dQ v.aU:Nat) < 0:=by omega
  obtain⟨s1,a1,b1⟩:=kT (l:=v.bW) (k:=k+(dQ v.aU:Nat)) (by omega) (by omega) (hm.2.2)
  have z1:¬k+(dQ v.aU:Nat)+(bL v.bW:Nat) < 0:=by omega
  have e:k+(dQ v.aU:Nat)+(bL v.bW:Nat)=k+((dQ v.aU+bL v.bW:Nat):Int):=by omega
  rw [←e]
  refine⟨s0,s1,?_⟩
  · unfold NR;simp only [a0,a1,Option.bind_some]
theorem LF{l:List bG}{k:Int}(h0:0≤k)(hB:k+gJ l≤4611686018427387904)(hl:l.length≤maxLen):∃m,lZ l k=some (k+gJ l,m)∧l5 m k=some (k+gJ l):=by
  obtain⟨m,e1,e2,e3⟩:=fX l (fun _=>21) (fun _ a k=>∀(m:List bG) (i:Nat) (hi:i < m.length),m.length≤maxLen→m[i]=a→eC m (k,(i:Int))=some (.next (k+21,((i+1:Nat):Int)))) (f:=jO l) h0 hB (fun m k i hi hm he hk hb=>⟨_,by
    simp only [jO]
    rw [aO hm,if_pos (by simp;omega),aT (by omega),Option.bind_some,Int.toNat_natCast]
    refine nx3 ?_ (bV (cG hi hl))
    (try simp only [fB,Int.add_assoc,Int.reduceAdd]);exact aZ (by omega) (by omega),fun m i hi hx e=>by
    simp only [eC]
    rw [if_pos (by simp;omega)]
    simp only [aT hi,e,Option.bind_some,bne_self_eq_false,beq_self_eq_true,Bool.not_true,Bool.false_eq_true,if_false]
    refine nx2 ?_ (bV (cG hi hx))
    (try simp only [fB,Int.add_assoc,Int.reduceAdd]);exact aZ (by omega) (by omega)⟩) (fun m k hm=>by
    simp only [jO]
    rw [aO hm,if_neg (by simp;omega)])
  refine⟨m,?_,?_⟩
  · unfold lZ
    rw [e1];simp only [Option.bind_some,A9,A8];rw [aO e2];rfl
  · unfold l5
    rw [fY l m e2 (fun _=>21) (fun _ a k=>∀(m:List bG) (i:Nat) (hi:i < m.length),m.length≤maxLen→m[i]=a→eC m (k,(i:Int))=some (.next (k+21,((i+1:Nat):Int)))) e3 (g:=eC m) (fun i hi hi' k h _ _=>h m i hi' (by omega) rfl) (fun k=>by simp [eC]) h0 hB];rfl
theorem Q7{l:List Ev}{k:Int}(h0:0≤k)(hB:k+o8 l≤4611686018427387904)(hl:l.length≤maxLen):∃m,mZ l k=some (k+o8 l,m)∧m0 m k=some (k+o8 l):=by
  obtain⟨m,e1,e2,e3⟩:=fX l (fun _=>7) (fun _ a k=>∀(m:List Ev) (i:Nat) (hi:i < m.length),m.length≤maxLen→m[i]=a→eS m (k,(i:Int))=some (.next (k+7,((i+1:Nat):Int)))) (f:=kN l) h0 hB (fun m k i hi hm he hk hb=>⟨_,by
    simp only [kN]
    rw [aO hm,if_pos (by simp;omega),aT (by omega),Option.bind_some,Int.toNat_natCast]
    refine nx3 ?_ (bV (cG hi hl))
    (try simp only [fB,Int.add_assoc,Int.reduceAdd]);exact aZ (by omega) (by omega),fun m i hi hx e=>by
    simp only [eS]
    rw [if_pos (by simp;omega)]
    simp only [aT hi,e,Option.bind_some,bne_self_eq_false,beq_self_eq_true,Bool.not_true,Bool.false_eq_true,if_false]
    refine nx2 ?_ (bV (cG hi hx))
    (try simp only [fB,Int.add_assoc,Int.reduceAdd]);exact aZ (by omega) (by omega)⟩) (fun m k hm=>by
    simp only [kN]
    rw [aO hm,if_neg (by simp;omega)])
  refine⟨m,?_,?_⟩
  · unfold mZ
    rw [e1];simp only [Option.bind_some,CZ,CY];rw [aO e2];rfl
  · unfold m0
    rw [fY l m e2 (fun _=>7) (fun _ a k=>∀(m:List Ev) (i:Nat) (hi:i < m.length),m.length≤maxLen→m[i]=a→eS m (k,(i:Int))=some (.next (k+7,((i+1:Nat):Int)))) e3 (g:=eS m) (fun i hi hi' k h _ _=>h m i hi' (by omega) rfl) (fun k=>by simp [eS]) h0 hB];rfl
end Go.Gv
end
noncomputable section
set_option linter.unusedVariables false
set_option linter.unusedSimpArgs false
set_option linter.unusedSectionVars false
namespace Go.Gv
def aFL:aC:=⟨List.replicate 384 0,[-1,-1,-1,-1,-1,-1]⟩
def aQG:aB:=⟨List.replicate 3 ⟨[]⟩,List.replicate 9 ⟨[]⟩⟩
def Y6:aA:=⟨⟨aFL,aQG⟩,⟨0,List.replicate 3 ⟨false,0,false,0⟩⟩,List.replicate 3 ⟨[]⟩,List.replicate 3 0⟩
theorem II:rC=some aFL:=by
  unfold rC
  have key:loop jV (0,[])=some (List.replicate 6 (-1)):=fI (f:=jV) 6 (fun k=>((k:Int),List.replicate k (-1))) _ (fun k hk=>by
    simp only [jV]
    rw [if_pos (by simp;omega),aO (by simp;omega),aZ (by omega) (by omega),List.replicate_succ'];rfl) (by simp [jV])
  rw [aO (by omega),key];rfl
theorem aQH:kB [-1] 6=some [-1,-1,-1,-1,-1,-1]:=by
  unfold kB
  rw [if_neg (by simp),show mM (IntKind.u64.wrap (([-1]:List Int).length:Int)) (IntKind.u64.wrap 6)=some (0,6) by kernel_rfl]
  simp only [Option.bind_some]
  rw [if_neg (by simp),decide_eq_false (by omega)]
  simp only [iC,Bool.false_eq_true,if_false]
  rw [show IntKind.i64.wrap 6=6 from wrap_i64 (by omega) (by omega),aO (by omega),
    show(fD (List.replicate (Int.toNat 6) 0) 0 [-1],((min ([-1]:List Int).length ((List.replicate (Int.toNat 6) (0:Int)).length - 0):Nat):Int))=([-1,0,0,0,0,0],1) by kernel_rfl,
    cO (body:=fF) (s':=([-1,-1,0,0,0,0],2)) (by kernel_rfl),cO (body:=fF) (s':=([-1,-1,-1,-1,0,0],4)) (by kernel_rfl),
    cO (body:=fF) (s':=([-1,-1,-1,-1,-1,-1],6)) (by kernel_rfl),cX (body:=fF) (r:=[-1,-1,-1,-1,-1,-1]) (by kernel_rfl)]
  rfl
theorem IJ:rE=some aFL:=by
  unfold rE
  rw [aO (by omega),aQH];rfl
theorem KB:rD=some Y6∧rF=some Y6:=by
  unfold rD rF xX yB tA tD tB tE tC tF xY yC
  rw [II,IJ,aO (by omega),aO (by omega),aO (by omega),aO (by omega),aO (by omega)]
  exact⟨rfl,rfl⟩
theorem aFM:kP Y6:=of_decide_eq_true (by kernel_rfl)
def Y7:aE:=⟨⟨⟨⟨[],[]⟩,⟨[],[]⟩⟩,⟨0,[]⟩,[],[]⟩,[],[],[],[],0⟩
def o5(t:List Queue):aE:=⟨Y6,List.replicate 2 0,List.replicate 3 aAZ,t,[],0⟩
theorem aBB{t:List Queue}(h:LQ t):pW (o5 t):=
  ⟨aFM,rfl,rfl,h,by simp [o5],fun q hq=>by simp [o5] at hq;exact .inl hq,fun j hj=>by simp [o5] at hj;exact(zU (by rw [hj];rfl)).2 hj⟩
theorem T4{t:List Queue}(hl:t.length≤1048576)(hq:∀q∈t,q.kJ.length≤1048576):pB t=some (if LQ t then o5 t else Y7)∧pD t=some (if LQ t then o5 t else Y7):=by
  have hm:t.length≤maxLen:=by simp only [maxLen];omega
  unfold pB pD
  rw [G8 hm,G9 hm (fun q h=>by have:=hq q h;simp only [maxLen];omega)]
  simp only [Option.bind_some]
  by_cases h:LQ t
  · simp only [decide_eq_true h,Bool.not_true,Bool.false_eq_true,if_false,if_pos h,KB.1,KB.2,Option.bind_some,(OW hl hq).1,(OW hl hq).2]
    rw [aO (by omega),aO (by omega),aO (by omega),aO (by omega)]
    exact⟨rfl,rfl⟩
  · simp only [decide_eq_false h,Bool.not_false,if_true,if_neg h]
    exact⟨rfl,rfl⟩
end Go.Gv
end
noncomputable section
set_option linter.unusedVariables false
set_option linter.unusedSimpArgs false
set_option linter.unusedSectionVars false
set_option maxRecDepth 20000
namespace Go.Gv
theorem AS{s:aE}(h:pW s)(hl:s.Log.length≤1000000):o9 s:=zD (by have:=(QW h (by omega)).1;omega)
end Go.Gv
end
noncomputable section
set_option linter.unusedVariables false
set_option linter.unusedSimpArgs false
set_option linter.unusedSectionVars false
set_option maxRecDepth 20000
namespace Go.Gv
theorem T5{x:dS}(hp:x.bW.length≤1048576){m:Nat}(hm:m=min x.bW.length 400):∀d k:Nat,k+d=m→∀(s:aE) (out:List aE),pW s→s.Log.length≤k→out.length≤k+1→(∀y∈out,pW y∧y.Log.length≤400) →
    ∃l,loop (i3 x) (out,(k:Int),s)=some l∧loop (i5 x) (out,(k:Int),s)=some l∧l.length≤401∧∀y∈l,pW y∧y.Log.length≤400:=by
  have hN:(if 400 < (x.bW.length:Int) then (400:Int) else (x.bW.length:Int)).toNat=m:=by split <;> omega
  have hP:((x.bW.take ((if 400 < (x.bW.length:Int) then (400:Int) else (x.bW.length:Int)).toNat)).drop 0)=x.bW.take m:=by rw [hN,List.drop_zero]
  have hlen:(x.bW.take m).length=m:=by rw [List.length_take];omega
  intro d
  induction d with
  | zero =>
    intro k hk s out hs hl ho hy
    refine⟨out,cX ?_,cX ?_,by omega,hy⟩
    · simp only [i3,gK]
      by_cases q:(k:Int) < x.bW.length
      · rw [if_pos (by simpa using q),decide_eq_false (by omega)];rfl
      · rw [if_neg (by simpa using q)];rfl
    · simp only [i5,hP,hlen]
      rw [if_neg (by simp;omega)]
  | succ d ih =>
    intro k hk s out hs hl ho hy
    have hk':k < x.bW.length:=by omega
    have hx:idx x.bW (k:Int)=some x.bW[k]:=aT hk'
    have hx2:idx (x.bW.take m) (k:Int)=some x.bW[k]:=by rw [aT (by omega),List.getElem_take]
    have ew:aI ((k:Int)+1)=((k+1:Nat):Int):=by rw [aZ (by omega) (by omega)];rfl
    by_cases hw:0≤x.bW[k]∧x.bW[k]≤2
    · obtain⟨s1,e1,e2,h1,h2⟩:=HA hs (by omega) hw
      have hsm:=AS h1 (by omega)
      have hn:∀{β:Type} (q:Option β),need (out.length+([s1]:List aE).length≤1073741824) q=q:=fun q=>aO (by simp only [List.length_cons,List.length_nil];omega) q
      obtain⟨l,e3,e4,h3,h4⟩:=ih (k+1) (by omega) s1 (out ++ [s1]) h1 (by omega) (by simp;omega) (fun y hy'=>by
        rcases List.mem_append.1 hy' with h | h
        · exact hy y h
        · obtain rfl:=List.mem_singleton.1 h
          exact⟨h1,by omega⟩)
      refine⟨l,?_,?_,h3,h4⟩
      · rw [cO (s':=(out ++ [s1],((k+1:Nat):Int),s1)) (by
          simp only [i3,gK,iZ]
          rw [if_pos (by simp;omega),if_pos (by simp;omega),hx]
          simp only [Option.bind_some,fP,decide_eq_true hw,if_true,e1,sV hsm,hn,ew])]
        exact e3
      · rw [cO (s':=(out ++ [s1],((k+1:Nat):Int),s1)) (by
          simp only [i5,i4,hP,hlen]
          rw [if_pos (by simp;omega),hx2]
          simp only [Option.bind_some,nO,decide_eq_true hw,if_true,e2,sW hsm,hn,ew])]
        exact e4
    · obtain⟨l,e3,e4,h3,h4⟩:=ih (k+1) (by omega) s out hs (by omega) (by omega) hy
      refine⟨l,?_,?_,h3,h4⟩
      · rw [cO (s':=(out,((k+1:Nat):Int),s)) (by
          simp only [i3,gK,iZ]
          rw [if_pos (by simp;omega),if_pos (by simp;omega),hx]
          simp only [Option.bind_some,fP,decide_eq_false hw,Bool.false_eq_true,if_false,ew])]
        exact e3
      · rw [cO (s':=(out,((k+1:Nat):Int),s)) (by
          simp only [i5,i4,hP,hlen]
          rw [if_pos (by simp;omega),hx2]
          simp only [Option.bind_some,nO,decide_eq_false hw,Bool.false_eq_true,if_false,ew])]
        exact e4
theorem T6{x:dS}(h:cH x≤1048576):∃l,pC x=some l∧nK x=some l∧l.length≤401∧∀y∈l,pW y∧y.Log.length≤400:=by
  have h1:dC x.aU≤1048576:=by unfold cH at h;omega
  have h2:x.bW.length≤1048576:=by unfold cH bK at h;omega
  have hl:=zC x.aU
  have hq:∀q∈x.aU,q.kJ.length≤1048576:=fun q hq=>by have:=zB hq;unfold oK xS at this;omega
  obtain⟨e1,e2⟩:=T4 (t:=x.aU) (by omega) hq
  unfold pC nK
  rw [e1,e2]
  simp only [Option.bind_some]
  by_cases ht:LQ x.aU
  · simp only [if_pos ht]
    have hj:(((o5 x.aU).aR.length:Int) == 0)=false:=rfl
    have h0:=aBB ht
    have hsm:o9 (o5 x.aU):=AS h0 (by simp [o5])
    have hn:∀{β:Type} (q:Option β),need (([]:List aE).length+([o5 x.aU]:List aE).length≤1073741824) q=q:=fun q=>aO (by simp only [List.length_cons,List.length_nil];omega) q
    have hn2:∀{β:Type} (q:Option β),need (0≤(if 400 < (x.bW.length:Int) then 400 else (x.bW.length:Int):Int)∧(if 400 < (x.bW.length:Int) then 400 else (x.bW.length:Int):Int)≤(x.bW.length:Int)) q=q:=fun q=>aO (by split <;> omega) q
    obtain⟨l,f1,f2,f3,f4⟩:=T5 h2 (m:=min x.bW.length 400) rfl (min x.bW.length 400) 0 (by omega) _ [o5 x.aU] h0 (by simp [o5]) (by simp) (fun y hy=>by obtain rfl:=List.mem_singleton.1 hy;exact⟨h0,by simp [o5]⟩)
    rw [show((0:Nat):Int)=0 from rfl] at f1 f2
    simp only [hj,Bool.false_eq_true,if_false,sV hsm,sW hsm,Option.bind_some,hn,hn2,List.nil_append,f1,f2]
    exact⟨l,rfl,rfl,f3,f4⟩
  · simp only [if_neg ht]
    exact⟨[],rfl,rfl,by simp,fun y hy=>by simp at hy⟩
end Go.Gv
end
noncomputable section
set_option linter.unusedVariables false
set_option linter.unusedSimpArgs false
set_option maxRecDepth 20000
namespace Go.Gv
def TL(v:aE):Nat:=bL v.aA.Mem.aC.Bytes+bL v.aA.Mem.aC.Class+cJ v.aA.Mem.aB.Global+cJ v.aA.Mem.aB.bA+1+l7 v.aA.aD.aM+eP v.aA.aH+bL v.aA.bO+bL v.Cells+gJ v.aR+dQ v.aU+o8 v.Log+1
def SJ(l:List aE):Nat:=(l.map TL).sum
theorem aVZ{l:List aE}{k:Int}(h0:0≤k)(hB:k+SJ l≤4611686018427387904)(hl:l.length≤maxLen)(hi:∀x∈l,J2 x):∃m,NS l k=some (k+SJ l,m)∧IK m k=some (k+SJ l):=by
  obtain⟨m,e1,e2,e3⟩:=fX l TL (fun x a k=>∀(m:List aE) (i:Nat) (hi:i < m.length),m.length≤maxLen→m[i]=a→wX m (k,(i:Int))=some (.next (k+TL x,((i+1:Nat):Int)))) (f:=HL l) h0 hB (fun m k i hi' hm he hk hb=>by
    obtain⟨⟨⟨⟨c1,c2⟩,c3,c4,c5,c6⟩,c7,c8,c9,c10⟩,c11,c12,c13,c14,c15⟩:=hi _ (List.getElem_mem hi')
    generalize l[i]=v at *
    unfold TL at hb
    obtain⟨s0,a0,b0⟩:=kT (l:=v.aA.Mem.aC.Bytes) (k:=k) (by omega) (by omega) c1
    generalize hk1:k+(bL v.aA.Mem.aC.Bytes:Int)=k1 at *
    obtain⟨s1,a1,b1⟩:=kT (l:=v.aA.Mem.aC.Class) (k:=k1) (by omega) (by omega) c2
    generalize hk2:k1+(bL v.aA.Mem.aC.Class:Int)=k2 at *
    obtain⟨s2,a2,b2⟩:=sP (l:=v.aA.Mem.aB.Global) (k:=k2) (by omega) (by omega) c3 c4
    generalize hk3:k2+(cJ v.aA.Mem.aB.Global:Int)=k3 at *
    obtain⟨s3,a3,b3⟩:=sP (l:=v.aA.Mem.aB.bA) (k:=k3) (by omega) (by omega) c5 c6
    generalize hk4:k3+(cJ v.aA.Mem.aB.bA:Int)=k4 at *
    have w4:aI (k4+1)=k4+1:=aZ (by omega) (by omega)
    obtain⟨s4,a4,b4⟩:=LD (l:=v.aA.aD.aM) (k:=k4+1) (by omega) (by omega) c7
    generalize hk5:k4+1+(l7 v.aA.aD.aM:Int)=k5 at *
    obtain⟨s5,a5,b5⟩:=DO (l:=v.aA.aH) (k:=k5) (by omega) (by omega) c8 c9
    generalize hk6:k5+(eP v.aA.aH:Int)=k6 at *
    obtain⟨s6,a6,b6⟩:=kT (l:=v.aA.bO) (k:=k6) (by omega) (by omega) c10
    generalize hk7:k6+(bL v.aA.bO:Int)=k7 at *
    obtain⟨s7,a7,b7⟩:=kT (l:=v.Cells) (k:=k7) (by omega) (by omega) c11
    generalize hk8:k7+(bL v.Cells:Int)=k8 at *
    obtain⟨s8,a8,b8⟩:=LF (l:=v.aR) (k:=k8) (by omega) (by omega) c12
    generalize hk9:k8+(gJ v.aR:Int)=k9 at *
    obtain⟨s9,a9,b9⟩:=AR (l:=v.aU) (k:=k9) (by omega) (by omega) c13 c14
    generalize hk10:k9+(dQ v.aU:Int)=k10 at *
    obtain⟨s10,a10,b10⟩:=Q7 (l:=v.Log) (k:=k10) (by omega) (by omega) c15
    generalize hk11:k10+(o8 v.Log:Int)=k11 at *
    have w11:aI (k11+1)=k11+1:=aZ (by omega) (by omega)
    have ee:k+(TL v:Int)=k11+1:=by unfold TL;omega
    refine⟨⟨⟨⟨⟨s0,s1⟩,⟨s2,s3⟩⟩,⟨k4,s4⟩,s5,s6⟩,s7,s8,s9,s10,k11⟩,?_,fun m i hi hx e=>?_⟩
    · simp only [HL]
      rw [aO hm,if_pos (by simp;omega),aT (by omega),Option.bind_some,Int.toNat_natCast,he,ee,bV (cG hi' hl)]
      simp only [a0,a1,a2,a3,w4,a4,a5,a6,a7,a8,a9,a10,Option.bind_some,w11]
    · have n1:¬k1 < 0:=by omega
      have n2:¬k2 < 0:=by omega
      have n3:¬k3 < 0:=by omega
      have n4:¬k4 < 0:=by omega
      have n5:¬k5 < 0:=by omega
      have n6:¬k6 < 0:=by omega
      have n7:¬k7 < 0:=by omega
      have n8:¬k8 < 0:=by omega
      have n9:¬k9 < 0:=by omega
      have n10:¬k10 < 0:=by omega
      have n11:¬k11 < 0:=by omega
      simp only [wX]
      rw [if_pos (by simp;omega),ee,bV (cG hi hx)]
      simp only [aT hi,e,Option.bind_some,bne_self_eq_false,Bool.false_eq_true,if_false,b0,b1,b2,b3,w4,b4,b5,b6,b7,b8,b9,b10,w11,decide_eq_false n1,decide_eq_false n2,decide_eq_false n3,decide_eq_false n4,decide_eq_false n5,decide_eq_false n6,decide_eq_false n7,decide_eq_false n8,decide_eq_false n9,decide_eq_false n10,decide_eq_false n11]) (fun m k hm=>by
    simp only [HL]
    rw [aO hm,if_neg (by simp;omega)])
  refine⟨m,?_,?_⟩
  · unfold NS
    rw [e1];simp only [Option.bind_some,XY,XX];rw [aO e2];rfl
  · unfold IK
    rw [fY l m e2 TL (fun x a k=>∀(m:List aE) (i:Nat) (hi:i < m.length),m.length≤maxLen→m[i]=a→wX m (k,(i:Int))=some (.next (k+TL x,((i+1:Nat):Int)))) e3 (g:=wX m) (fun i hi' hi2 k h hk hb=>h m i hi2 (by omega) rfl) (fun k=>by simp [wX]) h0 hB];rfl
theorem aGI{aX:dS}(hf:fit aX):KE aX=some true:=by
  unfold KE
  rw [aA8 hf (by omega) (by omega)]
  simp only [Option.bind_some]
  by_cases h:(cH aX:Int)≤1048576
  · have h':cH aX≤1048576:=by omega
    obtain⟨l,e1,e2,l1,l2⟩:=T6 h'
    have hz:∀y∈l,bJ y≤3400∧lI y≤5800∧J2 y:=fun y hy=>by
      obtain⟨a,b⟩:=l2 y hy
      obtain⟨z1,z2,z3⟩:=QW a (by omega)
      exact⟨by omega,by omega,z3⟩
    have hs:KF l≤4194304:=by
      have:(l.map bJ).sum≤3400 * l.length:=vZ fun x hx=>(hz x hx).1
      unfold KF;omega
    have hc:SJ l≤1000000000:=by
      have:(l.map TL).sum≤5802 * l.length:=vZ fun x hx=>by
        have:=(hz x hx).2.1
        simp only [lI,dO,gG,iI,iX,eH] at this
        unfold TL;omega
      unfold SJ;omega
    have hM:∀{n:Nat},n≤1048576→n≤maxLen:=fun h=>by simp only [maxLen];omega
    obtain⟨m,g1,g2⟩:=aVZ (l:=l) (k:=1) (by omega) (by omega) (hM (by omega)) (fun y hy=>(hz y hy).2.2)
    have n1:¬(1048576 - (cH aX:Int)) < 0:=by omega
    have n2:¬(1+(SJ l:Int)) < 0:=by omega
    have hsz:dC aX.aU≤1048576∧aX.bW.length≤1048576:=by unfold cH bK at h';omega
    have hql:=zC aX.aU
    have hops:∀x∈aX.aU,x.kJ.length≤1048576:=fun q hq=>by have:=zB hq;unfold oK xS at this;omega
    have hcn:SI aX≤1000000000000000:=by
      have:dQ aX.aU≤4194304 * aX.aU.length:=vZ fun x hx=>by have:=hops x hx;rw [R0];omega
      unfold SI;rw [gP];omega
    obtain⟨t0,t1,g3⟩:=aVY (v:=aX) (k:=1) (by omega) (by omega) ⟨hM (by omega),fun x hx=>hM (hops x hx),hM (by omega)⟩
    have n3:¬(1+(SI aX:Int)) < 0:=by omega
    simp only [if_pos h,decide_eq_false n1,Bool.false_eq_true,if_false,aA9 (show cH aX≤4194304 by omega),Option.bind_some,e1,e2,aZF hs,aBA (show cH aX≤4194304 by omega),Bool.not_true,g3,decide_eq_false n3,yR,g1,g2,decide_eq_false n2,bne_self_eq_false]
  · rw [if_neg h]
    simp
end Go.Gv
end
