import Derived.Test.YtbdmodalljibjaaGreatXOG
set_option linter.unusedVariables false
set_option linter.unusedSimpArgs false
set_option linter.unusedSectionVars false
set_option linter.constructorNameAsVariable false
set_option linter.unnecessarySimpa false
noncomputable section
set_option maxRecDepth 20000
namespace Go.Gv
def JF(s:aC):Prop:=(∀j∈s.aW,j.fP=false)∧∀q∈s.cG,q.eZ=[]
instance (s:aC):Decidable (JF s):=by unfold JF;infer_instance
theorem W2{s:aC}(h1:s.aW.length≤maxLen)(h2:s.cG.length≤maxLen):MK s=some (decide (JF s)):=by
  have e1:loop (uN s) 0=some (if ∀j∈s.aW,j.fP=false then Out.brk () else Out.ret false):=
    iD (f := uN s) s.aW (fun k => (k : Int)) (fun j => j.fP = false) (.brk ()) (.ret false)
      (fun k hk hp=>by
        simp only [uN]
        rw [if_pos (by simp;omega),aQ hk,cX (eE hk h1)]
        simp only [aI,hp,a9,if_false])
      (fun k hk hp=>by
        have hp':s.aW[k].fP=true:=by simpa using hp
        simp only [uN]
        rw [if_pos (by simp;omega),aQ hk]
        simp only [aI,hp',if_true])
      (by simp [uN])
  have e2:loop (uM s) 0=some (if ∀q∈s.cG,q.eZ=[] then Out.brk () else Out.ret false):=
    iD (f := uM s) s.cG (fun k => (k : Int)) (fun q => q.eZ = []) (.brk ()) (.ret false)
      (fun k hk hp=>by
        simp only [uM]
        rw [if_pos (by simp;omega),aQ hk,cX (eE hk h2)]
        simp [hp])
      (fun k hk hp=>by
        have hp':0 < s.cG[k].eZ.length:=List.length_pos_iff.2 hp
        simp only [uM]
        rw [if_pos (by simp;omega),aQ hk]
        simp only [aI]
        rw [if_pos (by simp;omega)])
      (by simp [uM])
  unfold MK
  rw [e1]
  by_cases a:∀j∈s.aW,j.fP=false
  · rw [if_pos a]
    simp only [aI,VH,VG]
    rw [e2]
    by_cases b:∀q∈s.cG,q.eZ=[]
    · rw [if_pos b,bL (p:=JF s) ⟨a,b⟩];rfl
    · rw [if_neg b,bH (p:=JF s) (fun h=>b h.2)];rfl
  · rw [if_neg a,bH (p:=JF s) (fun h=>a h.1)];rfl
theorem aFQ{s:aC}(h1:s.aW.length≤maxLen)(h2:s.cG.length≤maxLen):MS s=some (decide (JF s)):=by
  unfold MS
  rw [WR h1 (fun j=>j.fP) (fun y0=>Q4 y0) (fun x _=>rfl)]
  simp only [aI]
  rw [R7 h2 (fun q=>decide (0 < (q.eZ.length:Int))) (fun y0=>Q5 y0) (fun x _=>rfl)]
  have ea:(s.aW.any fun j=>j.fP)=!decide (∀j∈s.aW,j.fP=false):=by
    rw [Bool.eq_iff_iff];simp
  have eb:(s.cG.any fun q=>decide (0 < (q.eZ.length:Int)))=!decide (∀q∈s.cG,q.eZ=[]):=by
    rw [Bool.eq_iff_iff];simp [List.length_pos_iff]
  rw [ea,eb]
  by_cases a:∀j∈s.aW,j.fP=false
  · rw [bL a]
    simp only [eD,lJ,if_true,aI,GL,Bool.not_not]
    congr 1
    by_cases b:∀q∈s.cG,q.eZ=[]
    · rw [bL b,bL (p:=JF s) ⟨a,b⟩]
    · rw [bH b,bH (p:=JF s) (fun h=>b h.2)]
  · rw [bH a,bH (p:=JF s) (fun h=>a h.1)];rfl
theorem CG.lens{s:aC}(h:CG s):s.aW.length≤maxLen∧s.cG.length≤maxLen:=by
  have h1:=h.2.2.1;have h2:=h.2.2.2.1.1
  simp only [maxLen];omega
theorem aMC{s:aC}(h:CG s)(hl:s.Log.length≤1000000):CE s:=U1 (by have:=(aMB h (by omega)).1;omega)
theorem aHK{s:aC}(q:CG s)(hl:s.Log.length≤1060000):∃x,loop oV (0,s)=some x∧loop pA (0,s)=some x∧CG x∧x.Log.length≤s.Log.length+3000:=by
  obtain ⟨x, e1, e2, h1, h2⟩ := aIL (f := oV) (g := pA) (fun k s => ((k : Int), s)) (fun k s => ((k : Int), s)) id id (m := 3000) (L := s.Log.length)
    (fun k t hk ht hL=>by
      have hw:0≤Int.tmod (k:Int) 3∧Int.tmod (k:Int) 3≤2:=by rw [B5 (by omega)];omega
      obtain⟨y,f1,f2,f3,f4⟩:=aKL ht (by omega) hw
      by_cases i:JF t
      · refine .inr ⟨?_,?_⟩
        · simp only [oV,oT]
          rw [W2 ht.lens.1 ht.lens.2,bL i];rfl
        · simp only [pA,o9]
          rw [if_pos (by simp;omega),aFQ ht.lens.1 ht.lens.2,bL i];rfl
      · refine .inl ⟨y,?_,?_,f3,by omega⟩
        · simp only [oV,oT]
          rw [W2 ht.lens.1 ht.lens.2,bH i]
          simp only [aI,lJ,if_true]
          rw [if_pos (by simp;omega),f1,aU (by omega) (by omega)];rfl
        · simp only [pA,o9]
          rw [if_pos (by simp;omega),aFQ ht.lens.1 ht.lens.2,bH i]
          simp only [aI,lJ,if_true]
          rw [f2,aU (by omega) (by omega)];rfl)
    (fun t ht=>by
      constructor
      · simp only [oV,oT]
        rw [W2 ht.lens.1 ht.lens.2]
        by_cases i:JF t
        · rw [bL i];rfl
        · rw [bH i];rfl
      · simp only [pA,o9]
        rw [if_neg (by simp)];rfl) 3000 0 (by omega) s q (by omega)
  exact⟨x,e1,e2,h1,h2⟩
theorem aQY{s:aC}(hs:CE s):∃x,KB s=some x∧KN s=some x∧(x=s∨(CG x∧x.Log.length≤s.Log.length+3000)):=by
  have hl:=hs.2.2.2.2.2
  unfold KB KN
  rw [T6 hs,T7 hs,aPQ hs,aPR hs]
  simp only [aI]
  by_cases q:CG s
  · obtain⟨x,e1,e2,h1,h2⟩:=aHK q (by omega)
    simp only [bL q,eD,a9,if_false]
    rw [e1,e2]
    exact⟨x,rfl,rfl,.inr ⟨h1,h2⟩⟩
  · simp only [bH q,lJ,if_true]
    exact⟨s,rfl,rfl,.inl rfl⟩
theorem aQZ{aS:aC}(hf:fit aS){A B:aC→Option aC}(hAB:dF aS≤1048576→∃x,A aS=some x∧B aS=some x∧aVB x){J:Bool→aC→aC→Option Bool}{L:Option Bool}
    (hL:L=(AA aS 1048576).bind fun x1=>(if decide (x1 < 0) then some true else (gZ aS).bind fun x2=>(A x2).bind fun x3=>(gZ aS).bind fun x4=>(B x4).bind fun x5=>(g8 x5 x3).bind fun x6=>(if !x6 then some false else (gZ aS).bind fun x7=>(g8 x4 x7).bind fun x8=>(if !x8 then some false else (jO x4 1).bind fun x9=>(if decide (x9.1 < 0) then J true x3 x5 else (g8 x5 x3).bind fun x19=>J (!x19) x3 x5)))))
    (hJ:∀x11 x12,J false x11 x12=(jO x12 1).bind fun x13=>(jP (⟨(⟨(⟨(⟨x13.2.1,x13.2.2.1⟩:aG),(⟨x13.2.2.2.1,x13.2.2.2.2.1⟩:aA)⟩:Mem),(⟨x12.aD.aJ.aM,x13.2.2.2.2.2.1⟩:aJ),x13.2.2.2.2.2.2.1,x13.2.2.2.2.2.2.2.1⟩:aD),x13.2.2.2.2.2.2.2.2.1,x13.2.2.2.2.2.2.2.2.2.1,x13.2.2.2.2.2.2.2.2.2.2.1,x13.2.2.2.2.2.2.2.2.2.2.2,x12.aR⟩:aC) 1).bind fun x14=>(if decide (x14 < 0) then some false else (if x14 != x13.1 then some false else (gZ aS).bind fun x15=>(B x15).bind fun x16=>(g8 x16 x11).bind fun x17=>(if !x17 then some false else (jP (⟨(⟨(⟨(⟨x13.2.1,x13.2.2.1⟩:aG),(⟨x13.2.2.2.1,x13.2.2.2.2.1⟩:aA)⟩:Mem),(⟨x12.aD.aJ.aM,x13.2.2.2.2.2.1⟩:aJ),x13.2.2.2.2.2.2.1,x13.2.2.2.2.2.2.2.1⟩:aD),x13.2.2.2.2.2.2.2.2.1,x13.2.2.2.2.2.2.2.2.2.1,x13.2.2.2.2.2.2.2.2.2.2.1,x13.2.2.2.2.2.2.2.2.2.2.2,x12.aR⟩:aC) 1).bind fun x18=>(if decide (x18 < 0) then some false else (if x18 != x13.1 then some false else some true))))))
    : L=some true:=by
  rw [hL,aU3 hf (by omega) (by omega)]
  simp only [aI]
  by_cases h:(dF aS:Int)≤1048576
  · have h':dF aS≤1048576:=by omega
    obtain⟨s,e1,e2,⟨e3,c,s0,s1,s2,s3,s4,s5,s6,s7,s8,s9,s10,hc,e4,e5⟩⟩:=hAB h'
    have n1:¬(1048576 - (dF aS:Int)) < 0:=by omega
    have n2:¬c < 0:=by omega
    obtain⟨d3,c',t0,t1,t2,t3,t4,t5,t6,t7,t8,t9,t10,hc',d4,d5⟩:=aFP h'
    have n3:¬c' < 0:=by omega
    have t:gZ aS=some aS:=aU4 (by omega)
    simp only [if_pos h,bH n1,a9,if_false,t,aI,e1,e2,e3,d3,eD,d4,bH n3,hJ,e4,e5,bH n2,bne_self_eq_false]
  · rw [if_neg h]
    simp
end Go.Gv
end
noncomputable section
set_option maxRecDepth 20000
namespace Go.Gv
def rQ:dP:=⟨4,0,0,0⟩
theorem aVC{n:Nat}(hn:n≤12):∀d j:Nat,1≤j→j≤n→n≤j+d→loop kP (List.replicate j rQ++List.replicate (n - j) ⟨0,0,0,0⟩,(j:Int))=some (List.replicate n rQ):=by
  intro d
  induction d with
  | zero =>
    intro j h1 h2 h3
    obtain rfl:j=n:=by omega
    apply bZ
    simp only [kP,Nat.sub_self,List.replicate_zero,List.append_nil,List.length_replicate]
    rw [if_neg (by simp)]
  | succ d ih =>
    intro j h1 h2 h3
    by_cases e:j=n
    · subst e
      apply bZ
      simp only [kP,Nat.sub_self,List.replicate_zero,List.append_nil,List.length_replicate]
      rw [if_neg (by simp)]
    · have hl:(List.replicate j rQ++List.replicate (n - j) (⟨0,0,0,0⟩:dP)).length=n:=by simp;omega
      have ht:((List.replicate j rQ++List.replicate (n - j) (⟨0,0,0,0⟩:dP)).take j).drop 0=List.replicate j rQ:=by simp [List.take_append,List.take_replicate]
      have hb:cT (List.replicate j rQ++List.replicate (n - j) (⟨0,0,0,0⟩:dP)) j (List.replicate j rQ)=List.replicate (j+min j (n - j)) rQ++List.replicate (n - (j+min j (n - j))) ⟨0,0,0,0⟩:=by
        unfold cT
        rw [hl]
        simp only [List.take_append,List.take_replicate,List.drop_append,List.drop_replicate,List.length_replicate,Nat.min_self,Nat.sub_self,Nat.zero_min,List.replicate_zero,List.append_nil,Nat.min_comm (n - j) j]
        rw [show j - (j+j)=0 by omega,List.replicate_zero,List.nil_append,←List.append_assoc,List.replicate_append_replicate,show n - j - (j+j - j)=n - (j+min j (n - j)) by omega]
      rw [cH (s':=(List.replicate (j+min j (n - j)) rQ++List.replicate (n - (j+min j (n - j))) ⟨0,0,0,0⟩,((j+min j (n - j):Nat):Int))) (by
        simp only [kP,hl,Int.toNat_natCast,ht,List.length_replicate]
        rw [if_pos (by simp;omega),aP (by omega),aP (by omega),hb,aU (by omega) (by omega)];rfl)]
      exact ih _ (by omega) (by omega) (by omega)
theorem aXO:((List.range 13).all fun n=>DU (IntKind.u64.wrap 1) (IntKind.u64.wrap (n:Int)) == some (0,(n:Int)))=true:=by kernel_rfl
theorem aVD{n:Nat}(hn:n≤12):uY [rQ] (n:Int)=some (List.replicate n rQ):=by
  have hb:DU (IntKind.u64.wrap 1) (IntKind.u64.wrap (n:Int))=some (0,(n:Int)):=by
    have:=List.all_eq_true.1 aXO n (List.mem_range.2 (by omega))
    exact eq_of_beq this
  unfold uY nW
  rw [if_neg (by simp),show((([rQ]:List dP).length:Int))=1 from rfl,hb]
  simp only [aI]
  rw [if_neg (by simp),bH (by omega),if_neg (by simp),wrap_i64 (by omega) (by omega),aP (by omega),Int.toNat_natCast]
  by_cases h0:n=0
  · subst h0
    rw [bZ (r:=([]:List dP)) (by rfl)];rfl
  · have e1:cT (List.replicate n (⟨0,0,0,0⟩:dP)) 0 [rQ]=List.replicate 1 rQ++List.replicate (n - 1) ⟨0,0,0,0⟩:=by
      obtain⟨m,rfl⟩:∃m,n=m+1:=⟨n - 1,by omega⟩
      simp [cT,List.replicate_succ]
    have e2:((min ([rQ]:List dP).length ((List.replicate n (⟨0,0,0,0⟩:dP):List dP).length - 0):Nat):Int)=((1:Nat):Int):=by simp;omega
    rw [e1,e2,aVC hn n 1 (by omega) (by omega) (by omega)];rfl
def JJ(n k:Nat):List Queue:=List.replicate k ⟨List.replicate n rQ⟩++List.replicate (3 - k) ⟨[]⟩
theorem aMD(n:Nat){k:Nat}(h:k≤3):(JJ n k).length=3:=by simp [JJ];omega
theorem aME(n:Nat){k:Nat}(h:k < 3):(JJ n k).set k ⟨List.replicate n rQ⟩=JJ n (k+1):=by
  rcases(by omega:k=0∨k=1∨k=2) with rfl | rfl | rfl <;> rfl
theorem aMF(n:Nat){k:Nat}(h:k < 3):(JJ n k).set k ⟨[]⟩=JJ n k:=by
  rcases(by omega:k=0∨k=1∨k=2) with rfl | rfl | rfl <;> rfl
def aMG(s:aC)(n:Nat):aC:={s with cG:=JJ n 3}
theorem aXP{s:aC}(hs:CG s){n:Nat}(hn:n≤12):CG (aMG s n):=by
  obtain⟨h1,h2,h3,h4,h5⟩:=hs
  refine⟨h1,h2,h3,⟨rfl,fun q hq=>?_⟩,h5⟩
  obtain rfl:q=⟨List.replicate n rQ⟩:=by simpa [aMG,JJ] using hq
  refine⟨by simpa using hn,fun o ho=>?_⟩
  obtain rfl:=List.eq_of_mem_replicate ho
  decide
theorem aBF{s:aC}(hs:s.cG=JJ 0 3){n:Nat}(hn:n≤12):loop (lY (n:Int)) (0,s)=some (aMG s n):=by
  have hT:∀n,JJ n 0=s.cG:=fun n=>by rw [hs];rfl
  have:=gA (f:=lY (n:Int)) 3 (fun k=>((k:Int),{s with cG:=JJ n k})) (aMG s n) (fun k hk=>by
    have hin:=gA (f:=lX (n:Int) (k:Int)) n (fun j=>((j:Int),{s with cG:=(JJ n k).set k ⟨List.replicate j rQ⟩})) ({s with cG:=(JJ n k).set k ⟨List.replicate n rQ⟩}) (fun j hj=>by
      have hi:idx ((JJ n k).set k ⟨List.replicate j rQ⟩) (k:Int)=some ⟨List.replicate j rQ⟩:=by
        rw [aQ (by rw [List.length_set,aMD n (by omega)];exact hk),List.getElem_set_self]
      simp only [lX,zC]
      rw [if_pos (by simp;omega),hi,aI,aP (by simp;omega),aU (by omega) (by omega),Int.toNat_natCast,List.set_set]
      rw [show(List.replicate j rQ ++ [(⟨4,0,0,0⟩:dP)])=List.replicate (j+1) rQ from List.replicate_succ'.symm];rfl) (by simp only [lX];rw [if_neg (by simp)])
    have hin':loop (lX (n:Int) (k:Int)) (0,{s with cG:=JJ n k})=some {s with cG:=JJ n (k+1)}:=by
      have e:=aMF n hk
      have e2:=aME n hk
      rw [e2] at hin
      simp only [List.replicate_zero,e] at hin
      exact hin
    simp only [lY]
    rw [if_pos (by simp;omega),hin',aI]
    simp only [IC,IB]
    rw [aU (by omega) (by omega)];rfl) (by simp [lY,aMG])
  simp only [hT] at this
  exact this
theorem aBG{s:aC}(hs:s.cG=JJ 0 3){n:Nat}(hn:n≤12):loop (l4 (n:Int) s) (0,s)=some (aMG s n):=by
  have hT:∀n,JJ n 0=s.cG:=fun n=>by rw [hs];rfl
  have hlen:s.cG.length=3:=by rw [hs];rfl
  have:=gA (f:=l4 (n:Int) s) 3 (fun k=>((k:Int),{s with cG:=JJ n k})) (aMG s n) (fun k hk=>by
    have hi:idx (JJ n k) (k:Int)=some ⟨[]⟩:=by
      rw [←aMF n hk,aQ (by rw [List.length_set,aMD n (by omega)];exact hk),List.getElem_set_self]
    simp only [l4,zE,hlen]
    rw [if_pos (by simp;omega),hi,aI,show [(⟨4,0,0,0⟩:dP)]=[rQ] from rfl,aVD hn,aI,aP (by simp;omega),aU (by omega) (by omega),Int.toNat_natCast,List.nil_append,aME n hk];rfl) (by simp [l4,hlen,aMG])
  simp only [hT] at this
  exact this
theorem JF.todo{s:aC}(hs:CG s)(h:JF s):s.cG=JJ 0 3:=by
  apply List.ext_getElem
  · rw [hs.2.2.2.1.1];rfl
  · intro i h1 h2
    have:=h.2 _ (List.getElem_mem h1)
    have e:(JJ 0 3)[i]=⟨[]⟩:=by
      have h3:i < 3:=h2
      rcases(by omega:i=0∨i=1∨i=2) with rfl | rfl | rfl <;> rfl
    rw [e]
    cases hq:s.cG[i];rw [hq] at this;simp only at this;rw [this]
theorem aHL{s:aC}(hs:CE s){n:Int}(hn:-9223372036854775808≤n∧n≤9223372036854775807):∃x,xW s n=some x∧yF s n=some x∧(x=s∨(CG x∧x.Log=s.Log)):=by
  have hl:=hs.2.2.2.2.2
  have hM:∀{k:Nat},k≤1048576→k≤maxLen:=fun h=>by simp only [maxLen];omega
  unfold xW yF
  rw [T6 hs,T7 hs,aPQ hs,aPR hs,W2 (hM hs.2.2.1) (hM hs.2.2.2.1),aFQ (hM hs.2.2.1) (hM hs.2.2.2.1),cW,dO]
  simp only [aI,lZ,l5]
  by_cases q:CG s
  · by_cases i:JF s
    · by_cases w:0≤n∧n≤12
      · obtain⟨m,rfl⟩:=Int.eq_ofNat_of_zero_le w.1
        have ht:=i.todo q
        simp only [bL q,bL i,bL w,eD,a9,if_false,aBF ht (show m≤12 by omega),aBG ht (show m≤12 by omega),aI,ID,IA,IK,IJ]
        exact⟨_,rfl,rfl,.inr ⟨aXP q (by omega),rfl⟩⟩
      · simp only [bL q,bL i,bH w,eD,lJ,a9,if_false,if_true]
        exact⟨s,rfl,rfl,.inl rfl⟩
    · simp only [bL q,bH i,eD,lJ,a9,if_false,if_true]
      exact⟨s,rfl,rfl,.inl rfl⟩
  · simp only [bH q,lJ,if_true]
    exact⟨s,rfl,rfl,.inl rfl⟩
theorem drain_eq{s:aC}(h:dF s≤1048576){n:Int}(hn:-9223372036854775808≤n∧n≤9223372036854775807):∃x,IE s n=some x∧C3 s n=some x∧aVB x:=by
  have hs:=U1 h
  have hl:=hs.2.2.2.2.2
  obtain⟨x,e1,e2,h1⟩:=aHL hs hn
  have hx:CE x:=by
    rcases h1 with rfl | ⟨h1,h2⟩
    · exact hs
    · obtain⟨a1,a2,a3,a4,a5,a6⟩:=aMC (s:={x with Log:=[]}) h1 (by simp)
      exact⟨a1,a2,a3,a4,a5,by rw [h2];exact hl⟩
  obtain⟨y,f1,f2,g1⟩:=aQY hx
  unfold IE C3
  rw [e1,e2]
  simp only [aI,f1,f2]
  refine⟨y,rfl,rfl,?_⟩
  have hxl:=hx.2.2.2.2.2
  rcases g1 with rfl | ⟨g1,g2⟩
  · rcases h1 with rfl | ⟨h1,h2⟩
    · exact aFP h
    · exact a1Y h1 (by omega)
  · exact a1Y g1 (by omega)
end Go.Gv
end
noncomputable section
namespace Go.Gv
theorem YG{aS:aC}(hf:fit aS){aN:Int}(hn:fit aN):KV aS aN=some true:=
  aQZ hf (A:=fun s=>IE s aN) (B:=fun s=>C3 s aN) (fun h=>drain_eq h hn) (J:=nG aS aN) rfl fun _ _=>rfl
end Go.Gv
end
