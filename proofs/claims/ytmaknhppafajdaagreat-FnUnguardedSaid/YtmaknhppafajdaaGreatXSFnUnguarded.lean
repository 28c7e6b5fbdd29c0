import Derived.Test.YtmaknhppafajdaaGreatXLF
set_option linter.unusedVariables false
set_option linter.unusedSimpArgs false
set_option linter.unusedSectionVars false
set_option linter.constructorNameAsVariable false
set_option linter.unnecessarySimpa false
noncomputable section
namespace Go.Gv
noncomputable section
def zL(x12:Bool):Option Bool:=
  some x12
def IF(code:List UInt8)(x9:(List Ev)):Option Bool:=
  (idx x9 6).bind fun x13=>(nN code 2).bind fun x14=>zL (x13.dK == x14)
def qP(x11:Int)(x15:Bool):Option (Step Int (Out Unit Bool)):=
  (if x15 then some (.stop (Out.ret false)) else some (.next (aY (x11+1))))
def mE(x2:Int)(x9:(List Ev)):Int→Option (Step Int (Out Unit Bool))
  | x11=>(if decide (x11 < (x9.length:Int)) then (idx x9 x11).bind fun x16=>(idx ([0,5,5,0,1,1,0,8,0,2,2]:List Int) x11).bind fun x17=>(if x16.Code != x17 then qP x11 true else qP x11 (x16.LI != (Int.tmod x2 3))) else some (.stop (Out.brk ())))
def IG(code:List UInt8)(x9:(List Ev)):(Out Unit Bool)→Option Bool
  | .brk ()=>IF code x9
  | .ret r=>some r
def FT(code:List UInt8):Option Bool:=
  (vS code).bind fun x1=>(if x1 then some true else (nN code 0).bind fun x2=>need (0≤(3:Int)∧(3:Int)≤4294967296) ((nN code 1).bind fun x3=>(nN code 2).bind fun x4=>(nN code 3).bind fun x5=>(idx (List.replicate ((3:Int).toNat) (⟨[]⟩:Queue)) (Int.tmod x2 3)).bind fun x6=>(pW ((List.replicate ((3:Int).toNat) (⟨[]⟩:Queue)).set ((Int.tmod x2 3).toNat) (⟨([(⟨1,0,aY (1+(Int.tmod x3 40)),x4⟩:bK),(⟨7,0,0,0⟩:bK),(⟨6,0,0,0⟩:bK),(⟨5,0,0,0⟩:bK),(⟨5,0,0,0⟩:bK),(⟨2,0,0,0⟩:bK),(⟨7,0,0,0⟩:bK),(⟨7,1,0,0⟩:bK),(⟨6,0,0,0⟩:bK),(⟨1,0,aY (41+(Int.tmod x5 60)),0⟩:bK),(⟨1,0,0,0⟩:bK)]:List bK)⟩:Queue))).bind fun x7=>(iP x7).bind fun x8=>(vT x8).bind fun x9=>(if (x9.length:Int) != (([0,5,5,0,1,1,0,8,0,2,2]:List Int).length:Int) then some false else (loop (mE x2 x9) 0).bind (IG code x9))))
end
end Go.Gv
end
noncomputable section
set_option maxHeartbeats 4000000
set_option maxRecDepth 100000
namespace Go.Proofs.YtmaknhppafajdaaGreat
open Go.Gv
noncomputable section
variable {κ:Ctx}
theorem W3{code:List UInt8}{s1:AC}(h1:bL κ s1 code):V0 Tryz.prog κ 3 (FT code) [.h s1 code.length] .b:=
 dW tok Tryz.call3 Tryz.func3 Tryz.results3 Q Q<|c0 Q (fun h=>KM (h.a h1)) fun x1=>b8 [9] Q Q (dE Q Q)<|c0 Q (fun h=>g8 (h.a h1)) fun x2=>fun hF=>xI ((⟨[]⟩:Queue):Queue) fI (fun _=>(kE (qS (⟨[]⟩:Queue)) (yV LG))) Q Q Q Q Q Q Q hF fun hF s2=>wi hF<|c0 Q (fun h=>g8 (h.a h1)) fun x3=>c0 Q (fun h=>g8 (h.a h1)) fun x4=>c0 Q (fun h=>g8 (h.a h1)) fun x5=>fun hF=>ltK D8 () ([(⟨1,0,aY (1+(Int.tmod x3 40)),x4⟩:bK),(⟨7,0,0,0⟩:bK),(⟨6,0,0,0⟩:bK),(⟨5,0,0,0⟩:bK),(⟨5,0,0,0⟩:bK),(⟨2,0,0,0⟩:bK),(⟨7,0,0,0⟩:bK),(⟨7,1,0,0⟩:bK),(⟨6,0,0,0⟩:bK),(⟨1,0,aY (41+(Int.tmod x5 60)),0⟩:bK),(⟨1,0,0,0⟩:bK)]:List bK) bG Q Q Q Q Q Q Q Q Q Q (fun _=>Q) fun s3=>wi hF<|nQ dS 0 Q Q Q fun x6 h2 s4 h3=>fun hF=>iS 0 h3 h2 Q Q Q Q Q<|ceS dS 2 [1] [4,13,14,40] (⟨([(⟨1,0,aY (1+(Int.tmod x3 40)),x4⟩:bK),(⟨7,0,0,0⟩:bK),(⟨6,0,0,0⟩:bK),(⟨5,0,0,0⟩:bK),(⟨5,0,0,0⟩:bK),(⟨2,0,0,0⟩:bK),(⟨7,0,0,0⟩:bK),(⟨7,1,0,0⟩:bK),(⟨6,0,0,0⟩:bK),(⟨1,0,aY (41+(Int.tmod x5 60)),0⟩:bK),(⟨1,0,0,0⟩:bK)]:List bK)⟩:Queue) s3 Q Q Q Q Q Q Q Q Q Q<|wi hF<|c1 Q (fun h=>BO (h.o 6 Q)) fun x7 s5=>c1 Q (fun h=>kU (h.o 7 Q) (h.o 8 Q) (h.o 9 Q) (h.o 10 Q) (h.o 11 Q) (h.o 12 Q) (h.o 13 Q) (h.o 14 Q) (h.o 15 Q) (h.o 16 Q) (h.o 17 Q)) fun x8 s6=>c1 Q (fun h=>D9 (h.o 18 Q) (h.o 19 Q) (h.o 20 Q) (h.o 21 Q) (h.o 22 Q) (h.o 23 Q) (h.o 24 Q) (h.o 25 Q) (h.o 26 Q) (h.o 27 Q) (h.o 28 Q)) fun x9 s7=>fun hF=>ltK oI () ([0,5,5,0,1,1,0,8,0,2,2]:List Int) aW Q Q Q Q Q Q Q Q Q Q (fun _=>Q) fun s8=>wi hF<|b8 [49] Q Q (dE Q Q)<|PG 7 [0,3,5,6] [29,30] Out.brk [0,5] [29] Q Q (fun hF1 x11 hr1=>b8 [53] Q Q (d5 0 1 (qP x11) [0,3,5,6,7] 74 [0,1] Q (nZ aO [] Q<|nQ GP 0 Q Q Q fun x16 h6 _ h7=>fun hG1=>iS 1 h7 h6 Q Q Q Q Q<|wi hG1<|nQ oI 1 Q Q Q fun x17 h8 _ h9=>fun hG1=>iS 2 h9 h8 Q Q Q Q Q<|hC Q Q (wi hG1<|eP [65,66] Q Q (fun hG1=>sF Q<|jR oI 5 [] h8 () Q Q Q Q Q Q Q<|jR GP 2 [] h6 () Q Q Q Q Q Q Q<|kK (p:=(true)) () [9,8] hG1 Q)<|fun hG1=>iS 1 h7 h6 Q Q Q Q Q<|sF Q<|jR oI 5 [] h8 () Q Q Q Q Q Q Q<|jR GP 2 [] h6 () Q Q Q Q Q Q Q<|kK (p:=(x16.LI != (Int.tmod x2 3))) () [9,8] hG1 Q) (wi hG1<|eP [65,66] Q Q (fun hG1=>sF Q<|jR oI 5 [] h8 () Q Q Q Q Q Q Q<|jR GP 2 [] h6 () Q Q Q Q Q Q Q<|kK (p:=(true)) () [9,8] hG1 Q)<|fun hG1=>iS 1 h7 h6 Q Q Q Q Q<|sF Q<|jR oI 5 [] h8 () Q Q Q Q Q Q Q<|jR GP 2 [] h6 () Q Q Q Q Q Q Q<|kK (p:=(x16.LI != (Int.tmod x2 3))) () [9,8] hG1 Q)) fun x15=>b8 [74] Q Q (MT hr1 hF1<|dE Q Q)<|J4 [0,1] Q)<|FW [0] Q)<|d5 0 1 zL [] 2 [] Q (nZ aO [] Q<|nQ GP 0 Q Q Q fun x13 h4 _ h5=>fun hF=>iS 1 h5 h4 Q Q Q Q Q<|bd hF fun x14 hA1 hF=>hC Q Q (have hq1:=rb hA1;wi hq1<|c0 Q (fun h=>g8 (h.a h1)) fun u1=>fun hq1=>match u1,hq1 with | _,rfl=>sF Q<|jR GP 1 [] h4 () Q Q Q Q Q Q Q<|kK (p:=(x13.dK == x14)) () [] hF Q) (have hq2:=rb hA1;wi hq2<|c0 Q (fun h=>g8 (h.a h1)) fun u2=>fun hq2=>match u2,hq2 with | _,rfl=>sF Q<|jR GP 1 [] h4 () Q Q Q Q Q Q Q<|kK (p:=(x13.dK == x14)) () [] hF Q)) fun x12=>dE Q Q
end
end Go.Proofs.YtmaknhppafajdaaGreat
end
noncomputable section
set_option maxRecDepth 20000
namespace Go.Gv
theorem a1T{n:Int}(h:n < 1∨40 < n):rp n=0:=by
  have e:lF n = -1:=by unfold lF;rw [if_neg (by omega),if_neg (by omega),if_neg (by omega)]
  unfold rp
  rw [e];rfl
end Go.Gv
end
noncomputable section
set_option maxRecDepth 20000
namespace Go.Gv
def aJ4(m v k:Int):List bK:=[⟨1,0,m,v⟩,⟨7,0,0,0⟩,⟨6,0,0,0⟩,⟨5,0,0,0⟩,⟨5,0,0,0⟩,⟨2,0,0,0⟩,⟨7,0,0,0⟩,⟨7,1,0,0⟩,⟨6,0,0,0⟩,⟨1,0,k,0⟩,⟨1,0,0,0⟩]
def unT(w:Nat)(m v k:Int):List Queue:=(List.replicate 3 ⟨[]⟩).set w ⟨aJ4 m v k⟩
def unL(w:Nat)(m v:Int):List Ev:=eF (yK (dD (unT w m v 0))).Log
def N2(w:Nat)(m v:Int):Prop:=(unL w m v).map (fun e=>(e.Code,e.LI))=[(0,(w:Int)),(5,(w:Int)),(5,(w:Int)),(0,(w:Int)),(1,(w:Int)),(1,(w:Int)),(0,(w:Int)),(8,(w:Int)),(0,(w:Int)),(2,(w:Int)),(2,(w:Int))]∧((unL w m v).getD 6 ⟨0,0,0,0,0,0,0⟩).dK=ldx v
theorem a8R(v:Int):N2 0 8 v:=⟨by kernel_rfl,by kernel_rfl⟩
theorem a8S(v:Int):N2 0 16 v:=⟨by kernel_rfl,by kernel_rfl⟩
theorem a8T(v:Int):N2 0 40 v:=⟨by kernel_rfl,by kernel_rfl⟩
theorem a8U(v:Int):N2 1 8 v:=⟨by kernel_rfl,by kernel_rfl⟩
theorem a8V(v:Int):N2 1 16 v:=⟨by kernel_rfl,by kernel_rfl⟩
theorem a8W(v:Int):N2 1 40 v:=⟨by kernel_rfl,by kernel_rfl⟩
theorem a8X(v:Int):N2 2 8 v:=⟨by kernel_rfl,by kernel_rfl⟩
theorem a8Y(v:Int):N2 2 16 v:=⟨by kernel_rfl,by kernel_rfl⟩
theorem a8Z(v:Int):N2 2 40 v:=⟨by kernel_rfl,by kernel_rfl⟩
theorem a40{w:Nat}(hw:w < 3){m:Int}(hm:m=8∨m=16∨m=40)(v:Int):N2 w m v:=by
  rcases(by omega:w=0∨w=1∨w=2) with rfl | rfl | rfl <;> rcases hm with rfl | rfl | rfl
  · exact a8R v
  · exact a8S v
  · exact a8T v
  · exact a8U v
  · exact a8V v
  · exact a8W v
  · exact a8X v
  · exact a8Y v
  · exact a8Z v
theorem a64{w:Nat}(hw:w < 3){n v k:Int}(hk:40 < k):nS (dD (unT w n v k))=dD (unT w (rp n) v 0):=by
  have e:rp k=0:=a1T (.inr hk)
  have z:rp 0=0:=rfl
  unfold nS dD unT
  simp only [List.map_set,List.map_replicate,aLL]
  have eq:nq ⟨aJ4 n v k⟩=⟨aJ4 (rp n) v 0⟩:=by
    unfold nq aJ4 no
    simp only [List.map_cons,List.map_nil,e,z]
  rw [eq];rfl
theorem a41{w:Nat}(hw:w < 3){n v k:Int}(hn:0≤n∧n≤100)(hv:0≤v∧v≤65535)(hk:0≤k∧k≤100):ES (unT w n v k):=by
  refine⟨by simp [unT],fun q hq=>?_⟩
  unfold unT at hq
  rcases List.mem_or_eq_of_mem_set hq with h | h
  · rw [List.eq_of_mem_replicate h];exact⟨by simp,fun o ho=>by simp at ho⟩
  · rw [h]
    refine⟨by simp [aJ4],fun o ho=>?_⟩
    simp only [aJ4,List.mem_cons,List.not_mem_nil,or_false] at ho
    rcases ho with rfl | rfl | rfl | rfl | rfl | rfl | rfl | rfl | rfl | rfl | rfl
    · exact O9 hn hv
    all_goals (first | exact O9 hk (by omega) | decide)
theorem aCX{code:List UInt8}(_:fit code):FT code=some true:=by
  unfold FT vS
  rw [aG]
  by_cases hcl:1048576 < (code.length:Int)
  · rw [if_pos (by simpa using hcl)]
  rw [if_neg (by simpa using hcl)]
  obtain⟨a0,e0,h0⟩:=RM (code:=code) (by omega) (i:=0) (by omega)
  obtain⟨a1,e1,h1⟩:=RM (code:=code) (by omega) (i:=1) (by omega)
  obtain⟨a2,e2,h2⟩:=RM (code:=code) (by omega) (i:=2) (by omega)
  obtain⟨a3,e3,h3⟩:=RM (code:=code) (by omega) (i:=3) (by omega)
  have hw:=aJW h0
  rw [e0,aG,aQ (by omega),e1,aG,e2,aG,e3,aG]
  obtain⟨w,ew⟩:=Int.eq_ofNat_of_zero_le hw.1
  have hw3:w < 3:=by omega
  have t1:Int.tmod a1 40=a1 % 40:=jX h1.1
  have t3:Int.tmod a3 60=a3 % 60:=jX h3.1
  rw [t1,t3,aN (x:=1+a1 % 40) (by omega) (by omega),aN (x:=41+a3 % 60) (by omega) (by omega)]
  have hn:1≤1+a1 % 40∧1+a1 % 40≤40:=by omega
  have hk:41≤41+a3 % 60∧41+a3 % 60≤100:=by omega
  generalize 1+a1 % 40=n at *
  generalize 41+a3 % 60=k at *
  have hok:ES (unT w n a2 k):=a41 hw3 (by omega) (by omega) (by omega)
  have hidx:idx (List.replicate ((3:Int).toNat) (⟨[]⟩:Queue)) (Int.tmod a0 3)=some ⟨[]⟩:=by
    rw [ew,aV (by simpa using hw3),List.getElem_replicate]
  have eT:(List.replicate ((3:Int).toNat) (⟨[]⟩:Queue)).set ((Int.tmod a0 3).toNat) (⟨([(⟨1,0,n,a2⟩:bK),(⟨7,0,0,0⟩:bK),(⟨6,0,0,0⟩:bK),(⟨5,0,0,0⟩:bK),(⟨5,0,0,0⟩:bK),(⟨2,0,0,0⟩:bK),(⟨7,0,0,0⟩:bK),(⟨7,1,0,0⟩:bK),(⟨6,0,0,0⟩:bK),(⟨1,0,k,0⟩:bK),(⟨1,0,0,0⟩:bK)]:List bK)⟩:Queue)=unT w n a2 k:=by rw [ew];rfl
  obtain⟨f1,f2,f3⟩:=MK (UW hok) (by simp [dD])
  rw [show(dD (unT w n a2 k)).Log.length=0 from rfl] at f3
  have hl:eF (yK (dD (unT w n a2 k))).Log=unL w (rp n) a2:=by
    unfold unL
    rw [←a64 hw3 (n:=n) (v:=a2) (k:=k) (by omega),aDK];rfl
  obtain⟨g1,g2⟩:=a40 hw3 (aNW hn) a2
  rw [hidx,aG,eT,(CM (t:=unT w n a2 k) (by have:=hok.1;omega) (fun q hq=>by have:=(hok.2 q hq).1;omega)).2,aG,if_pos hok,f1,aG,T3 (by omega),aG,hl]
  generalize unL w (rp n) a2=L at *
  have hlen:L.length=11:=by have:=congrArg List.length g1;simpa using this
  have hne:(((L.length:Int)) != (([0,5,5,0,1,1,0,8,0,2,2]:List Int).length:Int))=false:=by rw [hlen];rfl
  rw [hne,if_neg (by simp)]
  have key:loop (mE a0 L) 0=some (Out.brk ()):=iQ (f:=mE a0 L) 11 (fun k=>(k:Int)) _ (fun i hi=>by
    have hx:idx L (i:Int)=some L[i]:=aV (by omega)
    have hg:(L.map (fun e=>(e.Code,e.LI)))[i]?=some (L[i].Code,L[i].LI):=by rw [List.getElem?_map,List.getElem?_eq_getElem (by omega)];rfl
    rw [g1] at hg
    have ei:aY ((i:Int)+1)=((i+1:Nat):Int):=by rw [aN (by omega) (by omega)];rfl
    simp only [mE,qP]
    rw [if_pos (by simp;omega),hx,aG,ew,ei]
    have hc:idx ([0,5,5,0,1,1,0,8,0,2,2]:List Int) (i:Int)=some L[i].Code∧L[i].LI=(w:Int):=by
      rcases(by omega:i=0∨i=1∨i=2∨i=3∨i=4∨i=5∨i=6∨i=7∨i=8∨i=9∨i=10) with rfl | rfl | rfl | rfl | rfl | rfl | rfl | rfl | rfl | rfl | rfl <;>
        (simp only [List.getElem?_cons_zero,List.getElem?_cons_succ,Option.some.injEq,Prod.mk.injEq] at hg;exact⟨by rw [←hg.1];rfl,hg.2.symm⟩)
    rw [hc.1,aG,hc.2]
    simp only [bne_self_eq_false,aP,if_false]) (by simp [mE,hlen])
  rw [key,aG]
  simp only [IG,IF,zL]
  have h6:idx L 6=some (L.getD 6 ⟨0,0,0,0,0,0,0⟩):=by
    have:idx L ((6:Nat):Int)=some L[6]:=aV (by omega)
    rw [List.getD_eq_getElem?_getD,List.getElem?_eq_getElem (by omega)]
    exact this
  rw [h6,aG,e2,aG,g2,aP9 (by omega)]
  simp
end Go.Gv
end
