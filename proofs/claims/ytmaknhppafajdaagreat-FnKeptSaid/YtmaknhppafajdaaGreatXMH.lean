import Derived.Test.YtmaknhppafajdaaGreatXMG
set_option linter.unusedVariables false
set_option linter.unusedSimpArgs false
set_option linter.unusedSectionVars false
set_option linter.constructorNameAsVariable false
set_option linter.unnecessarySimpa false
noncomputable section
namespace Go.Gv
def bi(b:Bool):Int:=if b then 1 else 0
theorem YL(b:Bool):FK b=some (bi b):=by cases b <;> rfl
theorem aGR(b:Bool):P9 b=some (bi b):=by cases b <;> rfl
def qV(p:eX):List UInt8:=bZ (bi p.On)++bZ p.aK++bZ (bi p.dT)++bZ p.Seen
def qW(r:bC):List UInt8:=bZ r.Handle++bZ r.aK
def lI(l:aP):List UInt8:=bZ l.Rows.length++l.Rows.flatMap qW
def A5(b:aE):List UInt8:=gY b.Mem++bZ b.aI.aK++b.aI.aX.flatMap qV++b.aR.flatMap lI++b.fW.flatMap bZ
theorem aCJ(p:eX):(qV p).length≤28:=by
  have:=hQ (bi p.On);have:=hQ p.aK;have:=hQ (bi p.dT);have:=hQ p.Seen
  simp [qV];omega
theorem aRX(r:bC):(qW r).length≤14:=by
  have:=hQ r.Handle;have:=hQ r.aK
  simp [qW];omega
theorem HM{α:Type}(f:α→List UInt8)(c:Nat)(h:∀x,(f x).length≤c):∀l:List α,(l.flatMap f).length≤c * l.length
  | []=>by simp
  | x :: r => by
    have:=h x;have:=HM f c h r
    rw [List.flatMap_cons,List.length_append,List.length_cons,Nat.mul_add];omega
theorem aRY(l:aP):(lI l).length≤7+14 * l.Rows.length:=by
  have:=hQ (l.Rows.length:Int);have:=HM qW 14 aRX l.Rows
  simp only [lI,List.length_append];omega
theorem UF:∀l:List aP,(l.flatMap lI).length≤7 * l.length+14 * (a9 l).length
  | []=>by simp
  | x :: r => by
    have:=aRY x;have:=UF r
    have e:a9 (x :: r)=x.Rows++a9 r:=by simp [a9]
    rw [List.flatMap_cons,List.length_append,List.length_cons,e,List.length_append];omega
theorem aE0{m:Mem}(h:i3 m)(hl:(cK m.aA).length≤1073741824):(gY m).length≤10000000000:=by
  have hb:m.aB.Bytes.length=384:=h.1.1.1.1
  have hc:m.aB.Class.length=6:=h.1.1.1.2.1
  have hg:m.aA.Global.length=3:=h.1.2.1
  have ho:m.aA.bB.length=9:=h.1.2.2.1
  have hsum:=eS m.aA
  have s1:=rJ m.aA.Global
  have s2:=rJ m.aA.bB
  simp only [gY,List.length_append,List.length_map];omega
noncomputable section
variable {b:aE} (h:eN b) (hl:(cK b.Mem.aA).length≤1073741824) (hr:(a9 b.aR).length≤1073741824)
include h hl hr
theorem aE1:b.Mem.aB.Bytes.length≤maxLen∧(cK b.Mem.aA).length≤1073741824∧b.aI.aX.length≤maxLen∧b.aR.length≤maxLen∧(a9 b.aR).length≤1073741824∧b.fW.length≤maxLen:=by
  have h1:b.Mem.aB.Bytes.length=384:=h.1.1.1.1.1.1
  have h2:b.aI.aX.length=3:=h.1.2.1.2.1
  have h3:b.aR.length=3:=h.1.2.2.1.1
  have h4:b.fW.length=3:=h.1.2.2.2.1
  have hm:(384:Nat)≤maxLen:=by simp [maxLen]
  exact⟨by omega,hl,by omega,by omega,hr,by omega⟩
theorem V1:mQ b=some (A5 b):=by
  have h2:b.aI.aX.length=3:=h.1.2.1.2.1
  have h3:b.aR.length=3:=h.1.2.2.1.1
  have h4:b.fW.length=3:=h.1.2.2.2.1
  have hsm:=aE0 h.1.1 hl
  have hve:=hQ b.aI.aK
  have hvp:=HM qV 28 aCJ b.aI.aX
  have hvl:=UF b.aR
  have hvh:=HM bZ 7 hQ b.fW
  unfold mQ
  rw [iX (aE1 h hl hr),bD h,YK h.1.1 hl,o4]
  simp only [aG,dU,bE,if_false]
  rw [aL (by omega)]
  generalize hA:gY b.Mem++bZ b.aI.aK=A
  have hAl:A.length≤10000000007:=by rw [←hA,List.length_append];omega
  have k1:loop (oH b) (A,0)=some (A++b.aI.aX.flatMap qV):=by
    have:=cM (f:=oH b) b.aI.aX.length (fun k=>(A++(b.aI.aX.take k).flatMap qV,(k:Int))) (A++b.aI.aX.flatMap qV) (fun k hk=>?_) ?_
    · simpa using this
    · have h1:=uT qV hk
      have hp:(qV b.aI.aX[k]).length=(bZ (bi b.aI.aX[k].On)).length+(bZ b.aI.aX[k].aK).length+(bZ (bi b.aI.aX[k].dT)).length+(bZ b.aI.aX[k].Seen).length:=by simp [qV];omega
      simp only [oH]
      rw [if_pos (by simp;omega),aU hk]
      simp only [aG,YL,o4]
      rw [aL (by first | omega | (simp [-List.length_flatMap];omega)),aL (by first | omega | (simp [-List.length_flatMap];omega)),aL (by first | omega | (simp [-List.length_flatMap];omega)),aL (by first | omega | (simp [-List.length_flatMap];omega)),lD qV hk,aM (by omega) (by omega)]
      simp only [qV,List.append_assoc];rfl
    · have e:b.aI.aX.take b.aI.aX.length=b.aI.aX:=List.take_length
      simp only [oH,e]
      rw [if_neg (by simp;omega)]
  rw [k1]
  simp only [aG,KN,KM]
  generalize hB:A++b.aI.aX.flatMap qV=B
  have hBl:B.length≤10000000100:=by rw [←hB,List.length_append];omega
  have k2:loop (oG b) (B,0)=some (B++b.aR.flatMap lI):=by
    have:=cM (f:=oG b) b.aR.length (fun k=>(B++(b.aR.take k).flatMap lI,(k:Int))) (B++b.aR.flatMap lI) (fun k hk=>?_) ?_
    · simpa using this
    · have h1:=uT lI hk
      have hv0:=hQ (b.aR[k].Rows.length:Int)
      have hlk:=VU _ hk
      have hss:(lI b.aR[k]).length=(bZ b.aR[k].Rows.length).length+(b.aR[k].Rows.flatMap qW).length:=by simp [lI,-List.length_flatMap]
      simp only [oG]
      rw [if_pos (by simp;omega),aU hk]
      simp only [aG,o4]
      rw [aL (by first | omega | (simp [-List.length_flatMap];omega))]
      have inner:loop (oF b (k:Int)) (B++(b.aR.take k).flatMap lI++bZ b.aR[k].Rows.length,0)=some (B++(b.aR.take (k+1)).flatMap lI):=by
        have:=cM (f:=oF b (k:Int)) b.aR[k].Rows.length (fun j=>(B++(b.aR.take k).flatMap lI++bZ b.aR[k].Rows.length++(b.aR[k].Rows.take j).flatMap qW,(j:Int))) (B++(b.aR.take (k+1)).flatMap lI) (fun j hj=>?_) ?_
        · simpa using this
        · have h5:=uT qW hj
          have hrl:(qW b.aR[k].Rows[j]).length=(bZ b.aR[k].Rows[j].Handle).length+(bZ b.aR[k].Rows[j].aK).length:=by simp [qW]
          simp only [oF]
          rw [aU hk]
          simp only [aG]
          rw [if_pos (by simp;omega),aU hj]
          simp only [aG,o4]
          rw [aL (by first | omega | (simp [-List.length_flatMap];omega)),aL (by first | omega | (simp [-List.length_flatMap];omega)),lD qW hj,aM (by omega) (by omega)]
          simp only [qW,List.append_assoc];rfl
        · simp only [oF]
          rw [aU hk]
          simp only [aG]
          rw [if_neg (by simp),List.take_length,lD lI hk]
          simp only [lI,List.append_assoc]
      rw [inner]
      simp only [aG,KK,KJ]
      rw [aM (by omega) (by omega)];rfl
    · simp only [oG,List.take_length]
      rw [if_neg (by simp;omega)]
  rw [k2]
  simp only [aG,KL,KI]
  generalize hC:B++b.aR.flatMap lI=C
  have hCl:C.length≤100000000000:=by rw [←hC,List.length_append];omega
  have k3:loop (oE b) (C,0)=some (C++b.fW.flatMap bZ):=by
    have:=cM (f:=oE b) b.fW.length (fun k=>(C++(b.fW.take k).flatMap bZ,(k:Int))) (C++b.fW.flatMap bZ) (fun k hk=>?_) ?_
    · simpa using this
    · have h1:=uT bZ hk
      simp only [oE]
      rw [if_pos (by simp;omega),aU hk]
      simp only [aG,o4]
      rw [aL (by first | omega | (simp [-List.length_flatMap];omega)),lD bZ hk,aM (by omega) (by omega),List.append_assoc];rfl
    · simp only [oE,List.take_length]
      rw [if_neg (by simp;omega)]
  rw [k3]
  subst hC;subst hB;subst hA;rfl
theorem V2:kA b=some (A5 b):=by
  have h2:b.aI.aX.length=3:=h.1.2.1.2.1
  have h3:b.aR.length=3:=h.1.2.2.1.1
  have h4:b.fW.length=3:=h.1.2.2.2.1
  have hsm:=aE0 h.1.1 hl
  have hve:=hQ b.aI.aK
  have hvp:=HM qV 28 aCJ b.aI.aX
  have hvl:=UF b.aR
  have hvh:=HM bZ 7 hQ b.fW
  unfold kA
  rw [tL (aE1 h hl hr),bD h,NM h.1.1 hl,tM]
  simp only [aG,dU,bE,if_false]
  rw [aL (by omega)]
  generalize hA:gY b.Mem++bZ b.aI.aK=A
  have hAl:A.length≤10000000007:=by rw [←hA,List.length_append];omega
  have k1:loop (nY b) (A,0)=some (A++b.aI.aX.flatMap qV):=by
    have:=cM (f:=nY b) b.aI.aX.length (fun k=>(A++(b.aI.aX.take k).flatMap qV,(k:Int))) (A++b.aI.aX.flatMap qV) (fun k hk=>?_) ?_
    · simpa using this
    · have h1:=uT qV hk
      have hp:(qV b.aI.aX[k]).length=(bZ (bi b.aI.aX[k].On)).length+(bZ b.aI.aX[k].aK).length+(bZ (bi b.aI.aX[k].dT)).length+(bZ b.aI.aX[k].Seen).length:=by simp [qV];omega
      simp only [nY]
      rw [if_pos (by simp;omega),aU hk]
      simp only [aG,aGR,tM]
      rw [aL (by first | omega | (simp [-List.length_flatMap];omega)),aL (by first | omega | (simp [-List.length_flatMap];omega)),aL (by first | omega | (simp [-List.length_flatMap];omega)),aL (by first | omega | (simp [-List.length_flatMap];omega)),lD qV hk,aM (by omega) (by omega)]
      simp only [qV,List.append_assoc];rfl
    · simp only [nY,List.take_length]
      rw [if_neg (by simp)]
  rw [k1]
  simp only [aG,KD,KC]
  generalize hB:A++b.aI.aX.flatMap qV=B
  have hBl:B.length≤10000000100:=by rw [←hB,List.length_append];omega
  have k2:loop (nX b) (B,0)=some (B++b.aR.flatMap lI):=by
    have:=cM (f:=nX b) b.aR.length (fun k=>(B++(b.aR.take k).flatMap lI,(k:Int))) (B++b.aR.flatMap lI) (fun k hk=>?_) ?_
    · simpa using this
    · have h1:=uT lI hk
      have hv0:=hQ (b.aR[k].Rows.length:Int)
      have hlk:=VU _ hk
      have hss:(lI b.aR[k]).length=(bZ b.aR[k].Rows.length).length+(b.aR[k].Rows.flatMap qW).length:=by simp [lI,-List.length_flatMap]
      simp only [nX]
      rw [if_pos (by simp;omega),aU hk]
      simp only [aG,tM]
      rw [aL (by first | omega | (simp [-List.length_flatMap];omega))]
      have inner:loop (nW b.aR[k]) (B++(b.aR.take k).flatMap lI++bZ b.aR[k].Rows.length,0)=some (B++(b.aR.take (k+1)).flatMap lI):=by
        have:=cM (f:=nW b.aR[k]) b.aR[k].Rows.length (fun j=>(B++(b.aR.take k).flatMap lI++bZ b.aR[k].Rows.length++(b.aR[k].Rows.take j).flatMap qW,(j:Int))) (B++(b.aR.take (k+1)).flatMap lI) (fun j hj=>?_) ?_
        · simpa using this
        · have h5:=uT qW hj
          have hrl:(qW b.aR[k].Rows[j]).length=(bZ b.aR[k].Rows[j].Handle).length+(bZ b.aR[k].Rows[j].aK).length:=by simp [qW]
          simp only [nW]
          rw [if_pos (by simp;omega),aU hj]
          simp only [aG,tM]
          rw [aL (by omega),aL (by first | omega | (simp [-List.length_flatMap];omega)),lD qW hj,aM (by omega) (by omega)]
          simp only [qW,List.append_assoc];rfl
        · simp only [nW]
          rw [if_neg (by simp),List.take_length,lD lI hk]
          simp only [lI,List.append_assoc]
      rw [inner]
      simp only [aG,KA,J9]
      rw [aM (by omega) (by omega)];rfl
    · simp only [nX,List.take_length]
      rw [if_neg (by simp)]
  rw [k2]
  simp only [aG,KB,J8]
  generalize hC:B++b.aR.flatMap lI=C
  have hCl:C.length≤100000000000:=by rw [←hC,List.length_append];omega
  have k3:loop (nV b) (C,0)=some (C++b.fW.flatMap bZ):=by
    have:=cM (f:=nV b) b.fW.length (fun k=>(C++(b.fW.take k).flatMap bZ,(k:Int))) (C++b.fW.flatMap bZ) (fun k hk=>?_) ?_
    · simpa using this
    · have h1:=uT bZ hk
      simp only [nV]
      rw [if_pos (by simp;omega),aU hk]
      simp only [aG,tM]
      rw [aL (by first | omega | (simp [-List.length_flatMap];omega)),lD bZ hk,aM (by omega) (by omega),List.append_assoc];rfl
    · simp only [nV,List.take_length]
      rw [if_neg (by simp)]
  rw [k3]
  subst hC;subst hB;subst hA;rfl
end
def JU(b:aE):List UInt8:=if eN b then A5 b else []
theorem CE{b:aE}(hf:b.Mem.aB.Bytes.length≤maxLen∧(cK b.Mem.aA).length≤1073741824∧b.aI.aX.length≤maxLen∧b.aR.length≤maxLen∧(a9 b.aR).length≤1073741824∧b.fW.length≤maxLen):mQ b=some (JU b):=by
  unfold JU
  by_cases h:eN b
  · rw [if_pos h,V1 h hf.2.1 hf.2.2.2.2.1]
  · rw [if_neg h];unfold mQ;rw [iX hf,bN h];rfl
theorem uU{b:aE}(hf:b.Mem.aB.Bytes.length≤maxLen∧(cK b.Mem.aA).length≤1073741824∧b.aI.aX.length≤maxLen∧b.aR.length≤maxLen∧(a9 b.aR).length≤1073741824∧b.fW.length≤maxLen):kA b=some (JU b):=by
  unfold JU
  by_cases h:eN b
  · rw [if_pos h,V2 h hf.2.1 hf.2.2.2.2.1]
  · rw [if_neg h];unfold kA;rw [tL hf,bN h];rfl
end Go.Gv
end
noncomputable section
namespace Go.Gv
theorem aNM(c:UInt8):IntKind.i64.wrap (cN .and .u8 (c.toNat:Int) (((127:UInt8).toNat:Nat):Int))=((c.toNat % 128:Nat):Int):=by
  have hc:c.toNat < 256:=c.toNat_lt
  have h1:cN .and .u8 (c.toNat:Int) (((127:UInt8).toNat:Nat):Int)=((c.toNat % 128:Nat):Int):=by
    show IntKind.u8.wrap ((BitVec.ofInt 8 (c.toNat:Int) &&& BitVec.ofInt 8 (((127:UInt8).toNat:Nat):Int)).toNat:Int)=_
    rw [BitVec.ofInt_natCast,BitVec.ofInt_natCast,BitVec.toNat_and,BitVec.toNat_ofNat,BitVec.toNat_ofNat,Nat.mod_eq_of_lt (by omega),show(127:UInt8).toNat % 2 ^ 8=2 ^ 7 - 1 from rfl,aL5]
    simp [IntKind.wrap,IntKind.bits,IntKind.signed];omega
  rw [h1,wrap_i64 (by omega) (by omega)]
theorem aKB{k:Nat}(h:k≤7):128 ^ k≤562949953421312:=by
  have h1:(128:Nat) ^ k≤128 ^ 7:=Nat.pow_le_pow_right (by omega) h
  have h2:(128:Nat) ^ 7=562949953421312:=by decide
  omega
theorem V3(k:Nat):(2:Nat) ^ (7 * k)=128 ^ k:=by rw [Nat.pow_mul]
theorem a0M{d k:Nat}(hd:d < 128)(hk:k≤6):QU .i64 (d:Int) (IntKind.u64.wrap (aV (7 * (k:Int))))=((d * 128 ^ k:Nat):Int):=by
  have e1:IntKind.u64.wrap (aV (7 * (k:Int)))=((7 * k:Nat):Int):=by
    rw [aM (by omega) (by omega)]
    simp [IntKind.wrap,IntKind.bits,IntKind.signed];omega
  have hp:=aKB (k:=k) (by omega)
  have hm:min (7 * k) IntKind.i64.bits=7 * k:=by simp [IntKind.bits];omega
  have hb:d * 128 ^ k≤127 * 562949953421312:=Nat.mul_le_mul (by omega) hp
  unfold QU
  rw [e1,Int.toNat_natCast,hm]
  have:(d:Int) * 2 ^ (7 * k)=((d * 128 ^ k:Nat):Int):=by rw [←V3];simp
  rw [this,wrap_i64 (by omega) (by omega)]
theorem aXH{a d k:Nat}(ha:a < 128 ^ k)(hd:d < 128)(hk:k≤6):cN .or .i64 (a:Int) ((d * 128 ^ k:Nat):Int)=((a+d * 128 ^ k:Nat):Int):=by
  have hp:=aKB (k:=k) (by omega)
  have hb:d * 128 ^ k≤127 * 562949953421312:=Nat.mul_le_mul (by omega) hp
  rw [aL4 (by omega) (by omega)]
  have h2:=Nat.two_pow_add_eq_or_of_lt (i:=7 * k) (b:=a) (by rw [V3];exact ha) d
  rw [V3] at h2
  rw [Nat.or_comm,Nat.mul_comm d,←h2,Nat.add_comm]
theorem aZB(s:List UInt8):(if (7:Int) < (s.length:Int) then (7:Int) else (s.length:Int))=((min 7 s.length:Nat):Int):=by
  split <;> omega
theorem Y8{s:List UInt8}{a k:Nat}(hk:k < s.length)(hk7:k < 7)(ha:a < 128 ^ k):lS s ((a:Int),(k:Int)) =
    if s[k].toNat < 128 then (if 0 < k∧s[k].toNat=0 then some (.stop (.brk ())) else some (.stop (.ret (((a+s[k].toNat % 128 * 128 ^ k:Nat):Int),((k+1:Nat):Int))))) else some (.next (((a+s[k].toNat % 128 * 128 ^ k:Nat):Int),((k+1:Nat):Int))):=by
  have e1:¬IntKind.u64.wrap (aV (7 * (k:Int))) < 0:=by
    rw [aM (by omega) (by omega)]
    simp [IntKind.wrap,IntKind.bits,IntKind.signed];omega
  have e2:=a0M (d:=s[k].toNat % 128) (k:=k) (by omega) (by omega)
  have e3:=aXH (a:=a) (d:=s[k].toNat % 128) (k:=k) ha (by omega) (by omega)
  have ec:((((128:UInt8)).toNat:Nat):Int)=128:=rfl
  have ez:((((0:UInt8)).toNat:Nat):Int)=0:=rfl
  simp only [lS,aZB]
  rw [if_pos (by simp;omega),aU hk]
  simp only [aG,aNM,e2,e3,ec,ez,wU]
  rw [aL (Int.not_lt.1 e1),aM (x:=(k:Int)+1) (by omega) (by omega)]
  have d1:decide ((s[k].toNat:Int) < 128)=decide (s[k].toNat < 128):=decide_eq_decide.2 (by omega)
  have d2:decide ((0:Int) < (k:Int))=decide (0 < k):=decide_eq_decide.2 (by omega)
  have d3:((s[k].toNat:Int) == 0)=decide (s[k].toNat=0):=by rw [Bool.eq_iff_iff];simp
  rw [d1,d2,d3]
  by_cases h1:s[k].toNat < 128 <;> by_cases h2:0 < k <;> by_cases h3:s[k].toNat=0 <;> simp [h1,h2,h3]
theorem SI(s:List UInt8):∃n k:Int,uD s=some (n,k)∧0≤k∧k≤s.length:=by
  have key:=rY (f:=lS s) (fun q=>7 - q.2.toNat) (fun q=>∃a k:Nat,q=((a:Int),(k:Int))∧k≤7∧a < 128 ^ k) (fun o=>match o with | .brk _=>True | .ret r=>0≤r.2∧r.2≤s.length) (by
    rintro q ⟨a,k,rfl,hk,ha⟩
    by_cases h:k < s.length∧k < 7
    · have hst:=Y8 h.1 h.2 ha
      by_cases h1:s[k].toNat < 128
      · rw [if_pos h1] at hst
        left
        by_cases h2:0 < k∧s[k].toNat=0
        · rw [if_pos h2] at hst;exact⟨_,hst,trivial⟩
        · rw [if_neg h2] at hst;exact⟨_,hst,by simp only;omega,by simp only;omega⟩
      · rw [if_neg h1] at hst
        right
        refine⟨_,hst,⟨_,k+1,rfl,by omega,?_⟩,by simp only;omega⟩
        have:s[k].toNat % 128 * 128 ^ k≤127 * 128 ^ k:=Nat.mul_le_mul (by omega) (Nat.le_refl _)
        rw [Nat.pow_succ];omega
    · left
      refine⟨.brk (),?_,trivial⟩
      simp only [lS,aZB]
      rw [if_neg (by simp;omega)]) ((0:Nat),(0:Nat)) ⟨0,0,rfl,by omega,by simp⟩
  obtain⟨o,h1,h2⟩:=key
  unfold uD
  rw [show(((0:Nat):Int),((0:Nat):Int))=(0,0) from rfl] at h1
  rw [h1]
  cases o with
  | brk u=>exact⟨0,0,rfl,by omega,by omega⟩
  | ret r=>exact⟨r.1,r.2,rfl,h2⟩
theorem aKC{pre t:List UInt8}{c:UInt8}{k:Nat}(hk:pre.length=k)(h:k < (pre++c :: t).length):(pre++c :: t)[k]=c:=by
  subst hk;simp
theorem ofNat_toNat{n:Nat}(h:n < 256):(UInt8.ofNat n).toNat=n:=by simp;omega
theorem aT4:∀(j n:Nat) (pre t:List UInt8) (a k:Nat),n < 128 ^ (j+1)→pre.length=k→k+j < 7→a < 128 ^ k→(0 < k→0 < n) →
    loop (lS (pre++(fZ n++t))) ((a:Int),(k:Int))=some (.ret (((a+n * 128 ^ k:Nat):Int),((k+(fZ n).length:Nat):Int))):=by
  intro j
  induction j with
  | zero =>
    intro n pre t a k hn hp hk ha h0
    have hn':n < 128:=by omega
    rw [fZ,if_pos hn']
    have hl:k < (pre++([UInt8.ofNat n]++t)).length:=by simp;omega
    have hst:=Y8 hl (by omega) ha
    have hc:(pre++([UInt8.ofNat n]++t))[k]=UInt8.ofNat n:=aKC hp hl
    rw [hc,ofNat_toNat (by omega),if_pos hn',if_neg (by omega),Nat.mod_eq_of_lt hn'] at hst
    exact bK hst
  | succ j ih =>
    intro n pre t a k hn hp hk ha h0
    by_cases hn':n < 128
    · rw [fZ,if_pos hn']
      have hl:k < (pre++([UInt8.ofNat n]++t)).length:=by simp;omega
      have hst:=Y8 hl (by omega) ha
      have hc:(pre++([UInt8.ofNat n]++t))[k]=UInt8.ofNat n:=aKC hp hl
      rw [hc,ofNat_toNat (by omega),if_pos hn',if_neg (by omega),Nat.mod_eq_of_lt hn'] at hst
      exact bK hst
    · rw [fZ,if_neg hn']
      have hl:k < (pre++(UInt8.ofNat (n % 128+128) :: fZ (n / 128)++t)).length:=by simp;omega
      have hst:=Y8 hl (by omega) ha
      have hc:(pre++(UInt8.ofNat (n % 128+128) :: fZ (n / 128)++t))[k]=UInt8.ofNat (n % 128+128):=aKC hp hl
      rw [hc,ofNat_toNat (by omega),if_neg (by omega)] at hst
      rw [bT hst]
      have e:(n % 128+128) % 128=n % 128:=by omega
      rw [e]
      have hlt:n % 128 * 128 ^ k≤127 * 128 ^ k:=Nat.mul_le_mul (by omega) (Nat.le_refl _)
      have hdiv:n / 128 < 128 ^ (j+1):=by rw [Nat.pow_succ] at hn;exact Nat.div_lt_of_lt_mul (by omega)
      have:=ih (n / 128) (pre ++ [UInt8.ofNat (n % 128+128)]) t (a+n % 128 * 128 ^ k) (k+1) hdiv (by simp [hp]) (by omega) (by rw [Nat.pow_succ];omega) (fun _=>by omega)
      have e2:pre ++ [UInt8.ofNat (n % 128+128)]++(fZ (n / 128)++t)=pre++(UInt8.ofNat (n % 128+128) :: fZ (n / 128)++t):=by simp
      rw [e2] at this
      rw [this]
      have e3:a+n % 128 * 128 ^ k+n / 128 * 128 ^ (k+1)=a+n * 128 ^ k:=by
        have:n / 128 * 128 ^ (k+1)=n / 128 * 128 * 128 ^ k:=by rw [Nat.pow_succ,Nat.mul_comm (128 ^ k),Nat.mul_assoc]
        rw [this,Nat.add_assoc,←Nat.add_mul]
        congr 2;omega
      rw [e3]
      simp only [List.length_cons]
      congr 4;omega
theorem UG{n:Int}(h0:0≤n)(h1:n≤562949953421311)(t:List UInt8):uD (bZ n++t)=some (n,((bZ n).length:Int)):=by
  obtain⟨k,rfl⟩:=Int.eq_ofNat_of_zero_le h0
  have e:bZ (k:Int)=fZ k:=by unfold bZ;rw [if_pos ⟨h0,h1⟩,Int.toNat_natCast]
  have:=aT4 6 k [] t 0 0 (by omega) rfl (by omega) (by simp) (fun h=>absurd h (by omega))
  unfold uD
  rw [e]
  rw [List.nil_append,show(((0:Nat):Int),((0:Nat):Int))=(0,0) from rfl] at this
  rw [this]
  simp [MR]
def HN:List UInt8→Nat
  | []=>0
  | c :: r=>c.toNat % 128+128 * HN r
theorem aMJ:∀l:List UInt8,HN l < 128 ^ l.length
  | []=>by simp [HN]
  | c :: r=>by have:=aMJ r;simp only [HN,List.length_cons,Nat.pow_succ];omega
theorem aIH{s:List UInt8}{k:Nat}(h1:1≤k)(h7:k≤7)(hl:k≤s.length):loop (qR s) (0,aV ((k:Int) - 1))=some ((HN (s.take k):Nat):Int):=by
  rw [aM (by omega) (by omega)]
  have key:=cM (f:=qR s) k (fun j=>((((HN ((s.take k).drop (k - j)):Nat)):Int),(k:Int) - 1 - j)) (((HN (s.take k):Nat)):Int) (fun j hj=>?_) ?_
  · have e:(s.take k).drop (k - 0)=[]:=List.drop_eq_nil_of_le (by simp;omega)
    simp only [e,HN] at key
    simpa using key
  · have hi:k - 1 - j < s.length:=by omega
    have ei:(k:Int) - 1 - j=((k - 1 - j:Nat):Int):=by omega
    have hd:(s.take k).drop (k - (j+1))=s[k - 1 - j] :: (s.take k).drop (k - j):=by
      have e1:k - (j+1)=k - 1 - j:=by omega
      have e2:k - 1 - j+1=k - j:=by omega
      rw [e1,List.drop_eq_getElem_cons (by simp;omega),e2]
      congr 1;simp
    have hv:=aMJ ((s.take k).drop (k - j))
    have hlen:((s.take k).drop (k - j)).length=j:=by simp;omega
    rw [hlen] at hv
    have hp:=aKB (k:=j) (by omega)
    simp only [qR,ei]
    rw [if_pos (by simp),aU hi]
    simp only [aG,hd,HN]
    have e4:Int.tmod ((s[k - 1 - j].toNat:Nat):Int) 128=((s[k - 1 - j].toNat % 128:Nat):Int):=by rw [oW (by omega)];omega
    rw [e4,aM (x:=((HN ((s.take k).drop (k - j)):Nat):Int) * 128) (by omega) (by omega),aM (by omega) (by omega),aM (by omega) (by omega)]
    congr 3 <;> omega
  · have e:(s.take k).drop (k - k)=s.take k:=by simp
    simp only [qR,e]
    rw [if_neg (by simp;omega)]
theorem LZ{s:List UInt8}{k:Nat}(h1:1≤k)(h7:k≤7)(hl:k≤s.length):gQ s (k:Int)=if bZ (HN (s.take k))=s.take k then some (.stop (.ret (((HN (s.take k):Nat):Int),(k:Int)))) else some (.next ((k+1:Nat):Int)):=by
  simp only [gQ]
  rw [if_pos (by simp;omega),bD (by omega)]
  simp only [wV,if_true]
  rw [aIH h1 h7 hl]
  simp only [aG,MX,MW,o4,Int.toNat_natCast]
  rw [aL (by omega),aM (by omega) (by omega)]
  by_cases q:bZ (HN (s.take k))=s.take k
  · rw [if_pos q,if_pos (by simpa using q)]
  · rw [if_neg q,if_neg (by simpa using q)];rfl
theorem aII{s:List UInt8}{k:Nat}(h:¬(k≤7∧k≤s.length)):gQ s (k:Int)=some (.stop (.brk ())):=by
  simp only [gQ]
  by_cases h7:k≤7
  · rw [if_pos (by simp;omega),bN (by omega)];rfl
  · rw [if_neg (by simp;omega)];rfl
theorem SJ(s:List UInt8):∃n k:Int,uG s=some (n,k)∧0≤k∧k≤s.length:=by
  have key:=rY (f:=gQ s) (fun q=>8 - q.toNat) (fun q=>∃k:Nat,q=(k:Int)∧1≤k∧k≤8) (fun o=>match o with | .brk _=>True | .ret r=>0≤r.2∧r.2≤s.length) (by
    rintro q ⟨k,rfl,hk,hk8⟩
    by_cases h:k≤7∧k≤s.length
    · have hst:=LZ hk h.1 h.2
      by_cases h1:bZ (HN (s.take k))=s.take k
      · rw [if_pos h1] at hst
        exact .inl ⟨_,hst,by simp only;omega,by simp only;omega⟩
      · rw [if_neg h1] at hst
        exact .inr ⟨_,hst,⟨k+1,rfl,by omega,by omega⟩,by omega⟩
    · exact .inl ⟨_,aII h,trivial⟩) ((1:Nat):Int) ⟨1,rfl,by omega,by omega⟩
  obtain⟨o,h1,h2⟩:=key
  unfold uG
  rw [show((1:Nat):Int)=1 from rfl] at h1
  rw [h1]
  cases o with
  | brk u=>exact⟨0,0,rfl,by omega,by omega⟩
  | ret r=>exact⟨r.1,r.2,rfl,h2⟩
theorem aNN:∀n:Nat,HN (fZ n)=n:=by
  intro n
  induction n using Nat.strongRecOn with
  | _ n ih =>
    rw [fZ]
    split
    · rename_i h;simp only [HN];rw [ofNat_toNat (by omega)];omega
    · rename_i h
      have:=ih (n / 128) (by omega)
      simp only [HN,this];rw [ofNat_toNat (by omega)];omega
theorem aCK(n:Nat):0 < (fZ n).length:=by rw [fZ];split <;> simp
theorem aE2:∀(n k:Nat) (h:k < (fZ n).length),(fZ n)[k].toNat < 128↔k+1=(fZ n).length:=by
  intro n
  induction n using Nat.strongRecOn with
  | _ n ih =>
    intro k h
    by_cases hn:n < 128
    · have e:fZ n=[UInt8.ofNat n]:=by rw [fZ,if_pos hn]
      simp only [e] at h ⊢
      have:k=0:=by simpa using h
      subst this
      simp;omega
    · have e:fZ n=UInt8.ofNat (n % 128+128) :: fZ (n / 128):=by rw [fZ,if_neg hn]
      simp only [e] at h ⊢
      cases k with
      | zero =>
        have:=aCK (n / 128)
        simp only [List.getElem_cons_zero,List.length_cons]
        rw [ofNat_toNat (by omega)];omega
      | succ k =>
        have:=ih (n / 128) (by omega) k (by simpa using h)
        simp only [List.getElem_cons_succ,List.length_cons,this];omega
theorem UH{n:Int}(h0:0≤n)(h1:n≤562949953421311)(t:List UInt8):uG (bZ n++t)=some (n,((bZ n).length:Int)):=by
  obtain⟨m,rfl⟩:=Int.eq_ofNat_of_zero_le h0
  have e:bZ (m:Int)=fZ m:=by unfold bZ;rw [if_pos ⟨h0,h1⟩,Int.toNat_natCast]
  have hL:(fZ m).length≤7:=aIG 6 m (by omega)
  have hpos:=aCK m
  rw [e]
  have hin:∀k,k≤(fZ m).length→(fZ m++t).take k=(fZ m).take k:=fun k hk=>by rw [List.take_append_of_le_length hk]
  have key:loop (gQ (fZ m++t)) (((0+1:Nat)):Int)=some (.ret ((m:Int),((fZ m).length:Int))):=by
    refine cM (f:=gQ (fZ m++t)) ((fZ m).length - 1) (fun k=>((k+1:Nat):Int)) _ (fun k hk=>?_) ?_
    · have hst:=LZ (s:=fZ m++t) (k:=k+1) (by omega) (by omega) (by simp;omega)
      rw [hin _ (by omega)] at hst
      rw [hst,if_neg]
      intro q
      have hq:(bZ ((HN ((fZ m).take (k+1)):Nat):Int)).length=k+1:=by rw [q];simp;omega
      have hq2:bZ ((HN ((fZ m).take (k+1)):Nat):Int)=fZ (HN ((fZ m).take (k+1))):=by
        unfold bZ at hq ⊢
        split
        · rw [Int.toNat_natCast]
        · rename_i hh;rw [if_neg hh] at hq;simp at hq
      rw [hq2] at q hq
      have h3:=(aE2 (HN ((fZ m).take (k+1))) k (by omega)).2 (by omega)
      have h4:=aE2 m k (by omega)
      have h5:(fZ (HN ((fZ m).take (k+1))))[k]'(by omega)=(fZ m)[k]'(by omega):=by
        have:(fZ (HN ((fZ m).take (k+1))))[k]'(by omega)=((fZ m).take (k+1))[k]'(by simp;omega):=by
          congr 1
        rw [this];simp
      rw [h5] at h3
      have:=h4.1 h3
      omega
    · have e1:(fZ m).length - 1+1=(fZ m).length:=by omega
      simp only [e1]
      have hst:=LZ (s:=fZ m++t) (k:=(fZ m).length) (by omega) (by omega) (by simp)
      rw [hin _ (Nat.le_refl _),List.take_length,aNN,e,if_pos rfl] at hst
      exact hst
  unfold uG
  rw [show((0+1:Nat):Int)=1 from rfl] at key
  rw [key];rfl
end Go.Gv
end
noncomputable section
namespace Go.Gv
def o5(n:Int):Prop:=0≤n∧n≤562949953421311
theorem UI{n:Int}(h:o5 n):0 < (bZ n).length:=by
  unfold bZ;rw [if_pos (show 0≤n∧n≤562949953421311 from h)];exact aCK _
theorem aMK:∀l:List Int,(∀x∈l,o5 x)→l.length≤(l.flatMap bZ).length
  | [],_=>by simp
  | x :: r, h => by
    have:=UI (h x List.mem_cons_self);have:=aMK r (fun y hy=>h y (List.mem_cons_of_mem _ hy))
    simp [-List.length_flatMap];omega
theorem iJ(r:Reader):∃n l' b',aT r=some (n,⟨⟨l'⟩,b'⟩)∧l'.length≤r.left.b.length:=by
  obtain⟨n,k,h,h0,h1⟩:=SI r.left.b
  unfold aT hO
  rw [h]
  simp only [aG]
  rw [aL ⟨h0,h1⟩,aL ⟨h0,h1⟩]
  cases r.bad
  · exact⟨n,r.left.b.drop k.toNat,k == 0,rfl,by simp⟩
  · exact⟨n,r.left.b.drop k.toNat,true,rfl,by simp⟩
theorem kD{n:Int}(h:o5 n)(t:List UInt8):aT ⟨⟨bZ n++t⟩,false⟩=some (n,⟨⟨t⟩,false⟩):=by
  have hp:=UI h
  unfold aT hO
  rw [UG h.1 h.2]
  have e:(((bZ n).length:Int) == 0)=false:=by simp only [beq_eq_false_iff_ne];omega
  simp only [aG,bE,if_false,e,Int.toNat_natCast,List.drop_left]
  rw [aL (by simp;omega)]
theorem WQ(r:Reader):∃n l' b',d8 r=some (n,⟨⟨l'⟩,b'⟩)∧l'.length≤r.left.b.length∧n≤(l'.length:Int):=by
  obtain⟨n,l',b',h,h1⟩:=iJ r
  unfold d8
  rw [h]
  simp only [aG]
  by_cases q:(l'.length:Int) < n
  · rw [if_pos (by simpa using q)];exact⟨0,l',true,rfl,h1,by omega⟩
  · rw [if_neg (by simpa using q)];exact⟨n,l',b',rfl,h1,by omega⟩
theorem aCL{n:Int}(h:o5 n){t:List UInt8}(ht:n≤t.length):d8 ⟨⟨bZ n++t⟩,false⟩=some (n,⟨⟨t⟩,false⟩):=by
  unfold d8
  rw [kD h]
  simp only [aG]
  rw [if_neg (by simp;omega)]
theorem aKD(r:Reader)(hr:r.left.b.length≤1048576):∃x l' b',eJ r=some (x,⟨⟨l'⟩,b'⟩)∧l'.length≤r.left.b.length∧x.aJ.length≤r.left.b.length:=by
  obtain⟨n,l0,b0,h,h1,h2⟩:=WQ r
  unfold eJ
  rw [h]
  simp only [aG]
  have key:=rY (f:=fF (n,⟨⟨l0⟩,b0⟩)) (fun s=>(n - s.1).toNat) (fun s=>∃k:Nat,s.1=(k:Int)∧(k≤l0.length∨k=0)∧s.2.1.length≤l0.length∧s.2.2.2.length=k) (fun o=>o.1.length≤l0.length∧o.2.2.length≤l0.length) (by
    rintro⟨i,l,b,acc⟩ ⟨k,rfl,hk,hl,ha⟩
    simp only at hl ha
    simp only [fF]
    by_cases q:(k:Int) < n
    · rw [if_pos (by simpa using q)]
      obtain⟨x,l',b',e,e1⟩:=iJ ⟨⟨l⟩,b⟩
      rw [e]
      simp only [aG,m8]
      rw [aL (by simp;omega),aM (by omega) (by omega)]
      simp only at e1
      exact .inr ⟨_,rfl,⟨k+1,rfl,.inl (by omega),by simp only;omega,by simp [ha]⟩,by simp only;omega⟩
    · rw [if_neg (by simpa using q)]
      exact .inl ⟨_,rfl,hl,by simp only;omega⟩) (0,l0,b0,[]) ⟨0,rfl,.inr rfl,Nat.le_refl _,rfl⟩
  obtain⟨⟨l',b',acc⟩,e,e1,e2⟩:=key
  simp only at e1 e2 ⊢
  rw [e]
  exact⟨⟨acc⟩,l',b',rfl,by omega,by simp only;omega⟩
def UJ(s:aC):Prop:=s.aJ.length≤1048576∧∀x∈s.aJ,o5 x
theorem aNO{x:aC}(h:UJ x)(t:List UInt8):eJ ⟨⟨cY x++t⟩,false⟩=some (x,⟨⟨t⟩,false⟩):=by
  have hg:=aMK x.aJ h.2
  have hl:=h.1
  have hc:=aCL (n:=(x.aJ.length:Int)) ⟨by omega,by omega⟩ (t:=x.aJ.flatMap bZ++t) (by rw [List.length_append];omega)
  unfold eJ cY
  rw [List.append_assoc,hc]
  simp only [aG]
  have key:loop (fF ((x.aJ.length:Int),⟨⟨x.aJ.flatMap bZ++t⟩,false⟩)) (0,x.aJ.flatMap bZ++t,false,[])=some (t,false,x.aJ):=by
    have:=cM (f:=fF ((x.aJ.length:Int),⟨⟨x.aJ.flatMap bZ++t⟩,false⟩)) x.aJ.length (fun k=>((k:Int),(x.aJ.drop k).flatMap bZ++t,false,x.aJ.take k)) (t,false,x.aJ) (fun k hk=>?_) ?_
    · simpa using this
    · have hd:x.aJ.drop k=x.aJ[k] :: x.aJ.drop (k+1):=List.drop_eq_getElem_cons hk
      simp only [fF,hd,List.flatMap_cons,List.append_assoc]
      rw [if_pos (by simp;omega),kD (h.2 _ (List.getElem_mem hk))]
      simp only [aG,m8]
      rw [aL (by simp;omega),aM (by omega) (by omega),List.take_succ_eq_append_getElem hk];rfl
    · simp [fF]
  rw [key];rfl
def Y9(N:Nat)(f:(Int×List UInt8×Bool×List aC)→Option (Step (Int×List UInt8×Bool×List aC) (List UInt8×Bool×List aC))):Prop:=
  ∀i l b acc,f (i,l,b,acc)=if i < (N:Int) then (eJ ⟨⟨l⟩,b⟩).bind fun x=>need (acc.length+1≤1073741824) (some (.next (aV (i+1),x.2.left.b,x.2.bad,acc ++ [x.1]))) else some (.stop (l,b,acc))
theorem WR{N:Nat}{f:(Int×List UInt8×Bool×List aC)→Option (Step (Int×List UInt8×Bool×List aC) (List UInt8×Bool×List aC))}(hf:Y9 N f)(hN:N≤100)(l:List UInt8)(b:Bool)(hl:l.length≤1048576) :
    ∃l' b' acc,loop f (0,l,b,[])=some (l',b',acc)∧l'.length≤l.length∧acc.length=N∧(bX acc).length≤N * 1048576:=by
  have key:=rY (f:=f) (fun s=>((N:Int) - s.1).toNat) (fun s=>∃k:Nat,s.1=(k:Int)∧k≤N∧s.2.1.length≤l.length∧s.2.2.2.length=k∧(bX s.2.2.2).length≤k * 1048576) (fun o=>o.1.length≤l.length∧o.2.2.length=N∧(bX o.2.2).length≤N * 1048576) (by
    rintro⟨i,l2,b2,acc⟩ ⟨k,rfl,hk,hl2,ha,hfl⟩
    simp only at hl2 ha hfl
    rw [hf]
    by_cases q:k < N
    · rw [if_pos (by omega)]
      obtain⟨x,l',b',e,e1,e2⟩:=aKD ⟨⟨l2⟩,b2⟩ (by simp only;omega)
      simp only at e1 e2
      rw [e]
      simp only [aG]
      rw [aL (by omega),aM (by omega) (by omega)]
      refine .inr ⟨_,rfl,⟨k+1,rfl,by omega,by simp only;omega,by simp [ha],?_⟩,by simp only;omega⟩
      have:bX (acc ++ [x])=bX acc++x.aJ:=by simp [bX]
      simp only [this,List.length_append];omega
    · rw [if_neg (by omega)]
      obtain rfl:k=N:=by omega
      exact .inl ⟨_,rfl,hl2,ha,hfl⟩) (0,l,b,[]) ⟨0,rfl,Nat.zero_le _,Nat.le_refl _,rfl,by simp [bX]⟩
  obtain⟨⟨l',b',acc⟩,e,e1,e2,e3⟩:=key
  exact⟨l',b',acc,e,e1,e2,e3⟩
theorem aCM{N:Nat}{f:(Int×List UInt8×Bool×List aC)→Option (Step (Int×List UInt8×Bool×List aC) (List UInt8×Bool×List aC))}(hf:Y9 N f)(hN:N≤100){L:List aC}(hL:L.length=N)(hs:∀s∈L,UJ s)(t:List UInt8) :
    loop f (0,L.flatMap cY++t,false,[])=some (t,false,L):=by
  have:=cM (f:=f) N (fun k=>((k:Int),(L.drop k).flatMap cY++t,false,L.take k)) (t,false,L) (fun k hk=>?_) ?_
  · simpa using this
  · have hk':k < L.length:=by omega
    have hd:L.drop k=L[k] :: L.drop (k+1):=List.drop_eq_getElem_cons hk'
    simp only [hd,List.flatMap_cons,List.append_assoc]
    rw [hf,if_pos (by omega),aNO (hs _ (List.getElem_mem hk'))]
    simp only [aG]
    rw [aL (by simp;omega),aM (by omega) (by omega),List.take_succ_eq_append_getElem hk'];rfl
  · rw [hf,if_neg (by omega),List.drop_eq_nil_of_le (by omega),List.take_of_length_le (by omega)];rfl
theorem aKE(l:List UInt8)(b:Bool):∃x l' b',fU ⟨⟨l⟩,b⟩=some (x,⟨⟨l'⟩,b'⟩)∧l'.length≤l.length∧0≤x∧x≤255:=by
  unfold fU
  cases l with
  | nil=>exact⟨0,[],true,rfl,Nat.le_refl _,by omega,by omega⟩
  | cons c r =>
    have hc:=c.toNat_lt
    refine⟨(c.toNat:Int),r,b,?_,by simp,by omega,by omega⟩
    have h0:idx (c :: r) 0=some c:=rfl
    have e:((c :: r:List UInt8) == [])=false:=rfl
    have h1:(0:Int)≤1∧(1:Int)≤((c :: r).length:Int):=by simp;omega
    simp only [e,bE,if_false,h0,aG]
    rw [aL h1];rfl
theorem aNP(c:UInt8)(t:List UInt8):fU ⟨⟨c :: t⟩,false⟩=some ((c.toNat:Int),⟨⟨t⟩,false⟩):=by
  unfold fU
  have h0:idx (c :: t) 0=some c:=rfl
  have e:((c :: t:List UInt8) == [])=false:=rfl
  have h1:(0:Int)≤1∧(1:Int)≤((c :: t).length:Int):=by simp;omega
  simp only [e,bE,if_false,h0,aG]
  rw [aL h1];rfl
def ZA(N:Nat)(g:Int→Int)(f:(Int×List UInt8×Bool×List Int)→Option (Step (Int×List UInt8×Bool×List Int) (List UInt8×Bool×List Int))):Prop:=
  ∀i l b acc,f (i,l,b,acc)=if i < (N:Int) then (fU ⟨⟨l⟩,b⟩).bind fun x=>need (acc.length+1≤1073741824) (some (.next (aV (i+1),x.2.left.b,x.2.bad,acc ++ [g x.1]))) else some (.stop (l,b,acc))
theorem bytes_total{N:Nat}{g:Int→Int}{f:(Int×List UInt8×Bool×List Int)→Option (Step (Int×List UInt8×Bool×List Int) (List UInt8×Bool×List Int))}(hf:ZA N g f)(hN:N≤1000)(l:List UInt8)(b:Bool) :
    ∃l' b' acc,loop f (0,l,b,[])=some (l',b',acc)∧l'.length≤l.length∧acc.length=N:=by
  have key:=rY (f:=f) (fun s=>((N:Int) - s.1).toNat) (fun s=>∃k:Nat,s.1=(k:Int)∧k≤N∧s.2.1.length≤l.length∧s.2.2.2.length=k) (fun o=>o.1.length≤l.length∧o.2.2.length=N) (by
    rintro⟨i,l2,b2,acc⟩ ⟨k,rfl,hk,hl2,ha⟩
    simp only at hl2 ha
    rw [hf]
    by_cases q:k < N
    · rw [if_pos (by omega)]
      obtain⟨x,l',b',e,e1,e2⟩:=aKE l2 b2
      rw [e]
      simp only [aG]
      rw [aL (by omega),aM (by omega) (by omega)]
      exact .inr ⟨_,rfl,⟨k+1,rfl,by omega,by simp only;omega,by simp [ha]⟩,by simp only;omega⟩
    · rw [if_neg (by omega)]
      obtain rfl:k=N:=by omega
      exact .inl ⟨_,rfl,hl2,ha⟩) (0,l,b,[]) ⟨0,rfl,Nat.zero_le _,Nat.le_refl _,rfl⟩
  obtain⟨⟨l',b',acc⟩,e,e1,e2⟩:=key
  exact⟨l',b',acc,e,e1,e2⟩
theorem aCN{N:Nat}{g:Int→Int}{f:(Int×List UInt8×Bool×List Int)→Option (Step (Int×List UInt8×Bool×List Int) (List UInt8×Bool×List Int))}(hf:ZA N g f)(hN:N≤1000){B:List UInt8}(hB:B.length=N)(t:List UInt8) :
    loop f (0,B++t,false,[])=some (t,false,B.map fun c=>g (c.toNat:Int)):=by
  have:=cM (f:=f) N (fun k=>((k:Int),B.drop k++t,false,(B.take k).map fun c=>g (c.toNat:Int))) (t,false,B.map fun c=>g (c.toNat:Int)) (fun k hk=>?_) ?_
  · simpa using this
  · have hk':k < B.length:=by omega
    have hd:B.drop k=B[k] :: B.drop (k+1):=List.drop_eq_getElem_cons hk'
    simp only [hd,List.cons_append]
    rw [hf,if_pos (by omega),aNP]
    simp only [aG]
    rw [aL (by simp;omega),aM (by omega) (by omega),map_take _ hk'];rfl
  · rw [hf,if_neg (by omega),List.drop_eq_nil_of_le (by omega),List.take_of_length_le (by omega)];rfl
theorem aU1:ZA 384 (fun x=>x) yD:=fun i l b acc=>by
  simp only [yD,yC,decide_eq_true_eq];rfl
theorem aU2:ZA 6 (fun x=>aV (x - 1)) xY:=fun i l b acc=>by
  simp only [xY,xX,decide_eq_true_eq];rfl
theorem aU3:Y9 3 xU:=fun i l b acc=>by
  simp only [xU,xT,decide_eq_true_eq];rfl
def aGS{A B C D:Type}(f:A→C)(g:B→D):Step A B→Step C D
  | .next s=>.next (f s)
  | .stop r=>.stop (g r)
theorem aE3{A B C D:Type}{f:A→Option (Step A B)}{f':C→Option (Step C D)}(u:A→C)(v:B→D)(h:∀s o,f s=some o→f' (u s)=some (aGS u v o)):∀(n:Nat) (s:A) (r:B),iter f n s=some r→iter f' n (u s)=some (v r)
  | 0,_,_,e=>by simp [iter] at e
  | n + 1, s, r, e => by
    simp only [iter] at e ⊢
    cases hb:f s with
    | none=>rw [hb] at e;simp at e
    | some o =>
      rw [h s o hb]
      cases o with
      | next s'=>rw [hb] at e;exact aE3 u v h n s' r e
      | stop q=>rw [hb] at e;simp at e;simp [aGS,e]
theorem aE4{A B C D:Type}{f:A→Option (Step A B)}{f':C→Option (Step C D)}(u:A→C)(v:B→D)(h:∀s o,f s=some o→f' (u s)=some (aGS u v o)){s:A}{r:B}(e:loop f s=some r):loop f' (u s)=some (v r):=by
  obtain⟨n,hn⟩:=DK.1 e
  exact DK.2 ⟨n,aE3 u v h n s r hn⟩
def ird{α:Type}(N:Int)(R:Reader→Option (α×Reader))(s:Int×List UInt8×Bool×List α):Option (Step (Int×List UInt8×Bool×List α) (List UInt8×Bool×List α)):=
  if s.1 < N then (R ⟨⟨s.2.1⟩,s.2.2.1⟩).bind fun x=>need (s.2.2.2.length+1≤1073741824) (some (.next (aV (s.1+1),x.2.left.b,x.2.bad,s.2.2.2 ++ [x.1]))) else some (.stop (s.2.1,s.2.2.1,s.2.2.2))
theorem PO{α β γ:Type}{N:Int}{R:Reader→Option (α×Reader)}{f:(Int×List UInt8×Bool×β)→Option (Step (Int×List UInt8×Bool×β) (List UInt8×Bool×γ))}(u:List α→β)(v:List α→γ)
    (h1:∀i l b c x,i < N→R ⟨⟨l⟩,b⟩=some x→c.length+1≤1073741824→f (i,l,b,u c)=some (.next (aV (i+1),x.2.left.b,x.2.bad,u (c ++ [x.1]))))
    (h2:∀i l b c,¬i < N→f (i,l,b,u c)=some (.stop (l,b,v c))) {l l':List UInt8} {b b':Bool} {a:List α} (e:loop (ird N R) (0,l,b,[])=some (l',b',a)):loop f (0,l,b,u [])=some (l',b',v a):=by
  refine aE4 (f:=ird N R) (f':=f) (fun s=>(s.1,s.2.1,s.2.2.1,u s.2.2.2)) (fun r=>(r.1,r.2.1,v r.2.2)) ?_ e
  rintro⟨i,q,d,c⟩ o ho
  unfold ird at ho
  simp only at ho ⊢
  by_cases h:i < N
  · rw [if_pos h] at ho
    cases hr:R ⟨⟨q⟩,d⟩ with
    | none=>rw [hr] at ho;simp at ho
    | some x =>
      rw [hr] at ho
      simp only [aG] at ho
      by_cases g:c.length+1≤1073741824
      · rw [aL g] at ho
        obtain rfl:=Option.some.inj ho
        rw [h1 i q d c x h hr g];rfl
      · unfold need at ho;rw [if_neg g] at ho;simp at ho
  · rw [if_neg h] at ho
    obtain rfl:=Option.some.inj ho
    rw [h2 i q d c h];rfl
theorem aU4:Y9 9 (ird 9 eJ):=fun i l b acc=>rfl
theorem aU5{H:aB}{G:List aC}{l l':List UInt8}{b b':Bool}{a:List aC}(e:loop (ird 9 eJ) (0,l,b,[])=some (l',b',a)):loop pL (0,l,b,⟨H,⟨G,[]⟩⟩)=some (l',b',⟨H,⟨G,a⟩⟩):=
  PO (fun c=>(⟨H,⟨G,c⟩⟩:Mem)) (fun c=>(⟨H,⟨G,c⟩⟩:Mem)) (fun i l b c x h hr g=>by
    simp only [pL,xQ,decide_eq_true_eq]
    rw [if_pos h,hr]
    simp only [aG,List.length_singleton]
    rw [aL g]) (fun i l b c h=>by
    simp only [pL,decide_eq_true_eq]
    rw [if_neg h]) e
theorem aE5(l:List UInt8)(hl:l.length≤1048576):∃m l' b',jK ⟨⟨l⟩,false⟩=some (m,⟨⟨l'⟩,b'⟩)∧l'.length≤l.length∧m.aB.Bytes.length=384∧m.aB.Class.length=6∧m.aA.Global.length=3∧m.aA.bB.length=9∧(cK m.aA).length≤12 * 1048576:=by
  obtain⟨l1,b1,a1,e1,h1,n1⟩:=bytes_total aU1 (by omega) l false
  obtain⟨l2,b2,a2,e2,h2,n2⟩:=bytes_total aU2 (by omega) l1 b1
  obtain⟨l3,b3,a3,e3,h3,n3,f3⟩:=WR aU3 (by omega) l2 b2 (by omega)
  obtain⟨l4,b4,a4,e4,h4,n4,f4⟩:=WR aU4 (by omega) l3 b3 (by omega)
  unfold jK
  simp only
  rw [e1]
  simp only [aG,yE,yA]
  rw [e2]
  simp only [aG,xZ,xW]
  rw [e3]
  simp only [aG,xV,xS]
  rw [aU5 e4]
  simp only [aG,xR,xP]
  refine⟨_,_,_,rfl,by omega,n1,n2,n3,n4,?_⟩
  simp only [cK,List.length_append];omega
theorem aCO{x:Int}(h:0≤x∧x≤255):((u8 x).toNat:Int)=x:=by
  obtain⟨k,rfl⟩:=Int.eq_ofNat_of_zero_le h.1
  rw [HL,ofNat_toNat (by omega)]
theorem PQ:∀(n:Nat) (l:List Nat),l.Nodup→(∀x∈l,x < n)→l.length≤n
  | 0, l, _, h => by
    cases l with
    | nil=>simp
    | cons x r=>exact absurd (h x List.mem_cons_self) (by omega)
  | n + 1, l, hn, h => by
    by_cases hm:n∈l
    · have h1:=PQ n (l.erase n) (hn.erase n) fun x hx=>by
        have:=h x (List.mem_of_mem_erase hx)
        have hne:x≠n:=fun e=>by subst e;exact(hn.not_mem_erase) hx
        omega
      have:=List.length_erase_of_mem hm
      have:=List.length_pos_of_mem hm
      omega
    · have:=PQ n l hn fun x hx=>by
        have:=h x hx
        have hne:x≠n:=fun e=>hm (e ▸ hx)
        omega
      omega
theorem i3.IP{m:Mem}(h:i3 m):(cK m.aA).length≤24∧(∀s∈m.aA.Global,UJ s∧s.aJ.length≤24)∧∀s∈m.aA.bB,UJ s∧s.aJ.length≤24:=by
  have hr:∀x∈cK m.aA,0≤x∧x≤23:=h.1.2.2.2.2.1
  have hn:(cK m.aA).Nodup:=h.1.2.2.2.2.2
  have h24:(cK m.aA).length≤24:=by
    have h1:((cK m.aA).map Int.toNat).Nodup:=by
      rw [List.nodup_iff_pairwise_ne] at hn ⊢
      rw [List.pairwise_map]
      exact hn.imp_of_mem fun{a b} ha hb hab e=>hab (by have:=hr a ha;have:=hr b hb;omega)
    have h2:∀y∈(cK m.aA).map Int.toNat,y < 24:=by
      intro y hy
      obtain⟨x,hx,rfl⟩:=List.mem_map.1 hy
      have:=hr x hx
      omega
    have:=PQ 24 _ h1 h2
    simpa using this
  have hal:=eS m.aA
  have hm1:∀s∈m.aA.Global,∀x∈s.aJ,x∈cK m.aA:=fun s hs x hx=>List.mem_append_left _ (List.mem_flatMap.2 ⟨s,hs,hx⟩)
  have hm2:∀s∈m.aA.bB,∀x∈s.aJ,x∈cK m.aA:=fun s hs x hx=>List.mem_append_right _ (List.mem_flatMap.2 ⟨s,hs,hx⟩)
  refine⟨h24,fun s hs=>?_,fun s hs=>?_⟩
  · have:=oX hs
    exact⟨⟨by omega,fun x hx=>by have:=hr x (hm1 s hs x hx);unfold o5;omega⟩,by omega⟩
  · have:=oX hs
    exact⟨⟨by omega,fun x hx=>by have:=hr x (hm2 s hs x hx);unfold o5;omega⟩,by omega⟩
theorem aCP{l:List Int}(h:qS l):(l.map u8).map (fun c=>(fun x:Int=>x) (c.toNat:Int))=l:=by
  rw [List.map_map]
  conv=>rhs;rw [←List.map_id l]
  exact List.map_congr_left fun x hx=>aCO (h x hx)
theorem aKF{l:List Int}(h:∀c∈l,-1≤c∧c≤2):(l.map fun c=>u8 (c+1)).map (fun c=>(fun x:Int=>aV (x - 1)) (c.toNat:Int))=l:=by
  rw [List.map_map]
  conv=>rhs;rw [←List.map_id l]
  refine List.map_congr_left fun x hx=>?_
  have:=h x hx
  show aV (((u8 (x+1)).toNat:Int) - 1)=x
  rw [aCO (by omega),aM (by omega) (by omega)];omega
theorem aIJ{m:Mem}(h:i3 m)(t:List UInt8):jK ⟨⟨gY m++t⟩,false⟩=some (m,⟨⟨t⟩,false⟩):=by
  have hs:=h.IP
  have hh:=h.1.1.1
  have e1:=aCN aU1 (by omega) (B:=m.aB.Bytes.map u8) (by simpa using hh.1) ((m.aB.Class.map fun c=>u8 (c+1))++(m.aA.Global.flatMap cY++(m.aA.bB.flatMap cY++t)))
  have e2:=aCN aU2 (by omega) (B:=m.aB.Class.map fun c=>u8 (c+1)) (by simpa using hh.2.1) (m.aA.Global.flatMap cY++(m.aA.bB.flatMap cY++t))
  have e3:=aCM aU3 (by omega) (L:=m.aA.Global) h.1.2.1 (fun s q=>(hs.2.1 s q).1) (m.aA.bB.flatMap cY++t)
  have e4:=aCM aU4 (by omega) (L:=m.aA.bB) h.1.2.2.1 (fun s q=>(hs.2.2 s q).1) t
  rw [aCP hh.2.2.1] at e1
  rw [aKF hh.2.2.2] at e2
  unfold jK gY
  simp only [List.append_assoc]
  rw [e1]
  simp only [aG,yE,yA]
  rw [e2]
  simp only [aG,xZ,xW]
  rw [e3]
  simp only [aG,xV,xS]
  rw [aU5 e4]
  simp only [aG,xR,xP]
end Go.Gv
end
noncomputable section
namespace Go.Gv
theorem gN{s:List UInt8}{a:Int}(h:a≤s.length)(hs:s.length≤1048576):∃n a',dK s a=some (n,a')∧a'≤s.length:=by
  unfold dK
  by_cases q:a < 0
  · exact⟨0,-1,by simp [q],by omega⟩
  · rw [if_neg (by simpa using q),aL (by omega)]
    obtain⟨n,k,e,h0,h1⟩:=SJ (s.drop a.toNat)
    rw [List.length_drop] at h1
    rw [e]
    simp only [aG]
    by_cases q2:k=0
    · exact⟨0,-1,by simp [q2],by omega⟩
    · exact⟨n,a+k,by rw [if_neg (by simpa using q2),aM (by omega) (by omega)],by omega⟩
theorem PR{n:Int}(h:o5 n)(p t:List UInt8)(hs:(p++(bZ n++t)).length≤1048576):dK (p++(bZ n++t)) (p.length:Int)=some (n,((p++bZ n).length:Int)):=by
  have hp:=UI h
  have hl:(p++(bZ n++t)).length=p.length+(bZ n).length+t.length:=by simp;omega
  unfold dK
  rw [if_neg (by simp),aL (by omega),Int.toNat_natCast,List.drop_left,UH h.1 h.2]
  simp only [aG]
  rw [if_neg (by simp;intro q;rw [q] at hp;simp at hp),aM (by omega) (by omega)]
  simp
theorem PT{s:List UInt8}{a:Int}{N:Nat}(h:a≤s.length)(hs:s.length≤1048576)(hN:N≤100):∃ls a',mR s a (N:Int)=some (ls,a')∧a'≤s.length∧ls.length=N∧(bX ls).length≤N * 24:=by
  have inner:∀(x:Int×Int),x.2≤s.length→∃a' acc,loop (fV s x) (x.2,0,[])=some (a',acc)∧a'≤s.length∧acc.length≤24:=by
    intro x hx
    have key:=rY (f:=fV s x) (fun q=>24 - q.2.1.toNat) (fun q=>∃k:Nat,q.2.1=(k:Int)∧k≤24∧q.1≤s.length∧q.2.2.length=k) (fun o=>o.1≤s.length∧o.2.length≤24) (by
      rintro⟨b,i,acc⟩ ⟨k,rfl,hk,hb,ha⟩
      simp only at hb ha
      simp only [fV,kL]
      by_cases q:(k:Int) < x.1
      · rw [if_pos (by simpa using q)]
        by_cases q2:k < 24
        · rw [if_pos (by simp;omega)]
          obtain⟨n,a',e,e1⟩:=gN hb hs
          rw [e]
          simp only [aG]
          rw [aL (by simp;omega),aM (by omega) (by omega)]
          exact .inr ⟨_,rfl,⟨k+1,rfl,by omega,e1,by simp [ha]⟩,by simp only;omega⟩
        · rw [if_neg (by simp;omega)]
          exact .inl ⟨_,rfl,hb,by simp only;omega⟩
      · rw [if_neg (by simpa using q)]
        exact .inl ⟨_,rfl,hb,by simp only;omega⟩) (x.2,0,[]) ⟨0,rfl,by omega,hx,rfl⟩
    obtain⟨⟨a',acc⟩,e,e1,e2⟩:=key
    exact⟨a',acc,e,e1,e2⟩
  have key:=rY (f:=hY s (N:Int)) (fun q=>N - q.2.2.toNat) (fun q=>∃k:Nat,q.2.2=(k:Int)∧k≤N∧q.1≤s.length∧q.2.1.length=k∧(bX q.2.1).length≤k * 24) (fun o=>o.1≤s.length∧o.2.length=N∧(bX o.2).length≤N * 24) (by
    rintro⟨b,acc,i⟩ ⟨k,rfl,hk,hb,ha,hfl⟩
    simp only at hb ha hfl
    simp only [hY]
    by_cases q:k < N
    · rw [if_pos (by simp;omega)]
      obtain⟨n,a',e,e1⟩:=gN hb hs
      rw [e]
      simp only [aG]
      obtain⟨a2,acc2,e3,e4,e5⟩:=inner (n,a') e1
      simp only at e3
      rw [e3]
      simp only [aG,BZ,BY]
      rw [aL (by simp;omega),aM (by omega) (by omega)]
      refine .inr ⟨_,rfl,⟨k+1,rfl,by omega,e4,by simp [ha],?_⟩,by simp only;omega⟩
      have:bX (acc ++ [⟨acc2⟩])=bX acc++acc2:=by simp [bX]
      simp only [this,List.length_append];omega
    · rw [if_neg (by simp;omega)]
      obtain rfl:k=N:=by omega
      exact .inl ⟨_,rfl,hb,ha,hfl⟩) (a,[],0) ⟨0,rfl,by omega,h,rfl,by simp [bX]⟩
  obtain⟨⟨a',ls⟩,e,e1,e2,e3⟩:=key
  unfold mR
  rw [e]
  exact⟨ls,a',rfl,e1,e2,e3⟩
theorem RV{N:Nat}{L:List aC}(hN:N≤100)(hL:L.length=N)(hs:∀x∈L,UJ x∧x.aJ.length≤24)(p t:List UInt8)(hb:(p++(L.flatMap cY++t)).length≤1048576) :
    mR (p++(L.flatMap cY++t)) (p.length:Int) (N:Int)=some (L,((p++L.flatMap cY).length:Int)):=by
  have key:loop (hY (p++(L.flatMap cY++t)) (N:Int)) ((p.length:Int),[],0)=some (((p++L.flatMap cY).length:Int),L):=by
    have:=cM (f:=hY (p++(L.flatMap cY++t)) (N:Int)) N (fun k=>(((p++(L.take k).flatMap cY).length:Int),L.take k,(k:Int))) (((p++L.flatMap cY).length:Int),L) (fun k hk=>?_) ?_
    · simpa using this
    · have hk':k < L.length:=by omega
      have hsk:=hs _ (List.getElem_mem hk')
      have hsplit:p++(L.flatMap cY++t)=(p++(L.take k).flatMap cY)++(cY L[k]++((L.drop (k+1)).flatMap cY++t)):=by
        have e1:L.flatMap cY=(L.take k).flatMap cY++(cY L[k]++(L.drop (k+1)).flatMap cY):=by
          have:L=L.take k++L[k] :: L.drop (k+1):=by rw [←List.drop_eq_getElem_cons hk',List.take_append_drop]
          conv=>lhs;rw [this]
          rw [List.flatMap_append,List.flatMap_cons]
        rw [e1];simp only [List.append_assoc]
      rw [hsplit] at hb ⊢
      generalize hP:p++(L.take k).flatMap cY=P at hb ⊢
      generalize hT:(L.drop (k+1)).flatMap cY++t=T at hb ⊢
      have hP2:p++(L.take (k+1)).flatMap cY=P++cY L[k]:=by rw [lD cY hk',←List.append_assoc,hP]
      rw [hP2]
      have hlen0:o5 (L[k].aJ.length:Int):=by unfold o5;omega
      have hn:=PR hlen0 P (L[k].aJ.flatMap bZ++T) (by simp only [cY,List.append_assoc] at hb;exact hb)
      have hshow:P++(cY L[k]++T)=P++(bZ (L[k].aJ.length:Int)++(L[k].aJ.flatMap bZ++T)):=by simp only [cY,List.append_assoc]
      simp only [hY]
      rw [if_pos (by simp;omega),hshow,hn]
      simp only [aG]
      rw [hshow] at hb
      have inner:loop (fV (P++(bZ (L[k].aJ.length:Int)++(L[k].aJ.flatMap bZ++T))) ((L[k].aJ.length:Int),((P++bZ (L[k].aJ.length:Int)).length:Int))) (((P++bZ (L[k].aJ.length:Int)).length:Int),0,[])=some (((P++cY L[k]).length:Int),L[k].aJ):=by
        have:=cM (f:=fV (P++(bZ (L[k].aJ.length:Int)++(L[k].aJ.flatMap bZ++T))) ((L[k].aJ.length:Int),((P++bZ (L[k].aJ.length:Int)).length:Int))) L[k].aJ.length (fun j=>(((P++bZ (L[k].aJ.length:Int)++(L[k].aJ.take j).flatMap bZ).length:Int),(j:Int),L[k].aJ.take j)) (((P++cY L[k]).length:Int),L[k].aJ) (fun j hj=>?_) ?_
        · simpa using this
        · have hsp:P++(bZ (L[k].aJ.length:Int)++(L[k].aJ.flatMap bZ++T))=(P++bZ (L[k].aJ.length:Int)++(L[k].aJ.take j).flatMap bZ)++(bZ L[k].aJ[j]++((L[k].aJ.drop (j+1)).flatMap bZ++T)):=by
            have e1:L[k].aJ.flatMap bZ=(L[k].aJ.take j).flatMap bZ++(bZ L[k].aJ[j]++(L[k].aJ.drop (j+1)).flatMap bZ):=by
              have:L[k].aJ=L[k].aJ.take j++L[k].aJ[j] :: L[k].aJ.drop (j+1):=by rw [←List.drop_eq_getElem_cons hj,List.take_append_drop]
              conv=>lhs;rw [this]
              rw [List.flatMap_append,List.flatMap_cons]
            rw [e1];simp only [List.append_assoc]
          have hn2:=PR (hsk.1.2 _ (List.getElem_mem hj)) (P++bZ (L[k].aJ.length:Int)++(L[k].aJ.take j).flatMap bZ) ((L[k].aJ.drop (j+1)).flatMap bZ++T) (by rw [←hsp];exact hb)
          rw [←hsp] at hn2
          simp only [fV,kL]
          rw [if_pos (by simp;omega),if_pos (by simp;omega),hn2]
          simp only [aG]
          rw [aL (by simp;omega),aM (by omega) (by omega),lD bZ hj,List.take_succ_eq_append_getElem hj,←List.append_assoc];rfl
        · simp only [fV,kL]
          rw [if_neg (by simp),List.take_length]
          simp only [bE,if_false,cY,List.append_assoc]
      rw [inner]
      simp only [aG,BZ,BY]
      rw [aL (by simp;omega),aM (by omega) (by omega),List.take_succ_eq_append_getElem hk'];rfl
    · simp only [hY]
      rw [if_neg (by simp),List.take_of_length_le (by omega)]
  unfold mR
  rw [key];rfl
theorem aRZ{s:List UInt8}(h:390≤s.length)(hs:s.length≤1048576):loop (tA s) (0,[])=some ((s.take 384).map fun c=>(c.toNat:Int)):=by
  refine cM (f:=tA s) 384 (fun k=>((k:Int),(s.take k).map fun c=>(c.toNat:Int))) _ (fun k hk=>?_) ?_
  · have hk':k < s.length:=by omega
    simp only [tA,GS]
    rw [if_pos (by simp;omega),aU hk']
    simp only [aG]
    rw [aL (by simp;omega),aM (by omega) (by omega),map_take _ hk'];rfl
  · simp [tA]
theorem aR0{s:List UInt8}(h:390≤s.length)(hs:s.length≤1048576):loop (sZ s) (0,[])=some (((s.drop 384).take 6).map fun c=>(c.toNat:Int) - 1):=by
  refine cM (f:=sZ s) 6 (fun k=>((k:Int),((s.drop 384).take k).map fun c=>(c.toNat:Int) - 1)) _ (fun k hk=>?_) ?_
  · have hk':k < (s.drop 384).length:=by simp;omega
    have hk2:384+k < s.length:=by omega
    have hc:=(s[384+k]).toNat_lt
    have e:aV (384+(k:Int))=((384+k:Nat):Int):=by rw [aM (by omega) (by omega)];omega
    simp only [sZ,GP]
    rw [if_pos (by simp;omega),e,aU hk2]
    simp only [aG]
    rw [aL (by simp;omega),aM (x:=(k:Int)+1) (by omega) (by omega),map_take _ hk',aM (by omega) (by omega),List.getElem_drop];rfl
  · simp [sZ]
theorem aIK{m:Mem}(h:i3 m)(t:List UInt8)(hb:(gY m++t).length≤1048576):yY (gY m++t)=some (m,((gY m).length:Int)):=by
  have hs:=h.IP
  have hh:=h.1.1.1
  have hB:(m.aB.Bytes.map u8).length=384:=by simpa using hh.1
  have hC:(m.aB.Class.map fun c=>u8 (c+1)).length=6:=by simpa using hh.2.1
  have e0:gY m++t=m.aB.Bytes.map u8++((m.aB.Class.map fun c=>u8 (c+1))++(m.aA.Global.flatMap cY++(m.aA.bB.flatMap cY++t))):=by
    unfold gY;simp only [List.append_assoc]
  have hl:390≤(gY m++t).length:=by rw [e0,List.length_append,List.length_append];omega
  have t1:((gY m++t).take 384).map (fun c=>(c.toNat:Int))=m.aB.Bytes:=by
    rw [e0,←hB,List.take_left];exact aCP hh.2.2.1
  have t2:(((gY m++t).drop 384).take 6).map (fun c=>(c.toNat:Int) - 1)=m.aB.Class:=by
    rw [e0,←hB,List.drop_left,←hC,List.take_left]
    rw [List.map_map]
    conv=>rhs;rw [←List.map_id m.aB.Class]
    refine List.map_congr_left fun x hx=>?_
    have:=hh.2.2.2 x hx
    show((u8 (x+1)).toNat:Int) - 1=x
    rw [aCO (by omega)];omega
  unfold yY
  rw [if_neg (by simp only [decide_eq_true_eq];omega),aRZ hl hb]
  simp only [aG,GU,GR]
  rw [aR0 hl hb]
  simp only [aG,GQ,GO,t1,t2]
  have p1:(m.aB.Bytes.map u8++(m.aB.Class.map fun c=>u8 (c+1))).length=390:=by rw [List.length_append];omega
  have g1:=RV (N:=3) (by omega) h.1.2.1 hs.2.1 (m.aB.Bytes.map u8++(m.aB.Class.map fun c=>u8 (c+1))) (m.aA.bB.flatMap cY++t) (by simp only [gY,List.append_assoc] at hb ⊢;exact hb)
  have g2:=RV (N:=9) (by omega) h.1.2.2.1 hs.2.2 (m.aB.Bytes.map u8++(m.aB.Class.map fun c=>u8 (c+1))++m.aA.Global.flatMap cY) t (by simp only [gY,List.append_assoc] at hb ⊢;exact hb)
  rw [p1] at g1
  simp only [List.append_assoc] at g1 g2
  simp only [gY,List.append_assoc]
  rw [show((390:Nat):Int)=390 from rfl,show((3:Nat):Int)=3 from rfl] at g1
  rw [show((9:Nat):Int)=9 from rfl] at g2
  rw [g1]
  simp only [aG,List.append_assoc,g2]
end Go.Gv
end
noncomputable section
namespace Go.Gv
def noM:Mem:=⟨⟨[],[]⟩,⟨[],[]⟩⟩
theorem i3.small{m:Mem}(h:i3 m):gZ m:=by
  have h1:=h.1.1.1.1;have h2:=h.1.1.1.2.1;have h3:=h.1.2.1;have h4:=h.1.2.2.1;have h5:=h.IP.1
  unfold gZ;omega
theorem aIL:gZ noM:=by unfold gZ noM;simp [cK,bX]
theorem aCQ{m:Mem}(h:i3 m):SH m=gY m:=by unfold SH;rw [if_pos h]
end Go.Gv
end
noncomputable section
namespace Go.Gv
noncomputable section
variable {α:Type}
def IRd(N:Nat)(R:Reader→Option (α×Reader))(f:(Int×List UInt8×Bool×List α)→Option (Step (Int×List UInt8×Bool×List α) (List UInt8×Bool×List α))):Prop:=
  ∀i l b acc,f (i,l,b,acc)=if i < (N:Int) then (R ⟨⟨l⟩,b⟩).bind fun x=>need (acc.length+1≤1073741824) (some (.next (aV (i+1),x.2.left.b,x.2.bad,acc ++ [x.1]))) else some (.stop (l,b,acc))
theorem PU{N:Nat}{R:Reader→Option (α×Reader)}{f:(Int×List UInt8×Bool×List α)→Option (Step (Int×List UInt8×Bool×List α) (List UInt8×Bool×List α))}{T:α→Prop}(hf:IRd N R f)(hN:N≤100){M:Nat}
    (hR:∀l b,l.length≤M→∃x l' b',R ⟨⟨l⟩,b⟩=some (x,⟨⟨l'⟩,b'⟩)∧l'.length≤l.length∧T x) (l:List UInt8) (b:Bool) (hl:l.length≤M) :
    ∃l' b' acc,loop f (0,l,b,[])=some (l',b',acc)∧l'.length≤l.length∧acc.length=N∧∀x∈acc,T x:=by
  have key:=rY (f:=f) (fun s=>((N:Int) - s.1).toNat) (fun s=>∃k:Nat,s.1=(k:Int)∧k≤N∧s.2.1.length≤l.length∧s.2.2.2.length=k∧∀x∈s.2.2.2,T x) (fun o=>o.1.length≤l.length∧o.2.2.length=N∧∀x∈o.2.2,T x) (by
    rintro⟨i,l2,b2,acc⟩ ⟨k,rfl,hk,hl2,ha,hT⟩
    simp only at hl2 ha hT
    rw [hf]
    by_cases q:k < N
    · rw [if_pos (by omega)]
      obtain⟨x,l',b',e,e1,e2⟩:=hR l2 b2 (by omega)
      rw [e]
      simp only [aG]
      rw [aL (by omega),aM (by omega) (by omega)]
      refine .inr ⟨_,rfl,⟨k+1,rfl,by omega,by simp only;omega,by simp [ha],fun y hy=>?_⟩,by simp only;omega⟩
      rcases List.mem_append.1 hy with hy | hy
      · exact hT y hy
      · rw [List.mem_singleton.1 hy];exact e2
    · rw [if_neg (by omega)]
      obtain rfl:k=N:=by omega
      exact .inl ⟨_,rfl,hl2,ha,hT⟩) (0,l,b,[]) ⟨0,rfl,Nat.zero_le _,Nat.le_refl _,rfl,fun x hx=>by cases hx⟩
  obtain⟨⟨l',b',acc⟩,e,e1,e2,e3⟩:=key
  exact⟨l',b',acc,e,e1,e2,e3⟩
theorem L4{N:Nat}{R:Reader→Option (α×Reader)}{f:(Int×List UInt8×Bool×List α)→Option (Step (Int×List UInt8×Bool×List α) (List UInt8×Bool×List α))}{enc:α→List UInt8}(hf:IRd N R f)(hN:N≤100){L:List α}(hL:L.length=N)
    (hR:∀x∈L,∀t,R ⟨⟨enc x++t⟩,false⟩=some (x,⟨⟨t⟩,false⟩)) (t:List UInt8):loop f (0,L.flatMap enc++t,false,[])=some (t,false,L):=by
  have:=cM (f:=f) N (fun k=>((k:Int),(L.drop k).flatMap enc++t,false,L.take k)) (t,false,L) (fun k hk=>?_) ?_
  · simpa using this
  · have hk':k < L.length:=by omega
    have hd:L.drop k=L[k] :: L.drop (k+1):=List.drop_eq_getElem_cons hk'
    simp only [hd,List.flatMap_cons,List.append_assoc]
    rw [hf,if_pos (by omega),hR _ (List.getElem_mem hk')]
    simp only [aG]
    rw [aL (by simp;omega),aM (by omega) (by omega),List.take_succ_eq_append_getElem hk'];rfl
  · rw [hf,if_neg (by omega),List.drop_eq_nil_of_le (by omega),List.take_of_length_le (by omega)];rfl
def SRd(N:Nat)(R:Int→Option (α×Int))(f:(Int×Int×List α)→Option (Step (Int×Int×List α) (Int×List α))):Prop:=
  ∀a i acc,f (a,i,acc)=if i < (N:Int) then (R a).bind fun x=>need (acc.length+1≤1073741824) (some (.next (x.2,aV (i+1),acc ++ [x.1]))) else some (.stop (a,acc))
theorem PW{N:Nat}{R:Int→Option (α×Int)}{f:(Int×Int×List α)→Option (Step (Int×Int×List α) (Int×List α))}{T:α→Prop}(hf:SRd N R f)(hN:N≤100){M:Int}
    (hR:∀a,a≤M→∃x a',R a=some (x,a')∧a'≤M∧T x) {a:Int} (h:a≤M):∃a' acc,loop f (a,0,[])=some (a',acc)∧a'≤M∧acc.length=N∧∀x∈acc,T x:=by
  have key:=rY (f:=f) (fun s=>((N:Int) - s.2.1).toNat) (fun s=>∃k:Nat,s.2.1=(k:Int)∧k≤N∧s.1≤M∧s.2.2.length=k∧∀x∈s.2.2,T x) (fun o=>o.1≤M∧o.2.length=N∧∀x∈o.2,T x) (by
    rintro⟨a2,i,acc⟩ ⟨k,rfl,hk,hl2,ha,hT⟩
    simp only at hl2 ha hT
    rw [hf]
    by_cases q:k < N
    · rw [if_pos (by omega)]
      obtain⟨x,a',e,e1,e2⟩:=hR a2 hl2
      rw [e]
      simp only [aG]
      rw [aL (by omega),aM (by omega) (by omega)]
      refine .inr ⟨_,rfl,⟨k+1,rfl,by omega,e1,by simp [ha],fun y hy=>?_⟩,by simp only;omega⟩
      rcases List.mem_append.1 hy with hy | hy
      · exact hT y hy
      · rw [List.mem_singleton.1 hy];exact e2
    · rw [if_neg (by omega)]
      obtain rfl:k=N:=by omega
      exact .inl ⟨_,rfl,hl2,ha,hT⟩) (a,0,[]) ⟨0,rfl,Nat.zero_le _,h,rfl,fun x hx=>by cases hx⟩
  obtain⟨⟨a',acc⟩,e,e1,e2,e3⟩:=key
  exact⟨a',acc,e,e1,e2,e3⟩
theorem SK{N:Nat}{R:Int→Option (α×Int)}{f:(Int×Int×List α)→Option (Step (Int×Int×List α) (Int×List α))}{enc:α→List UInt8}{s:List UInt8}(hf:SRd N R f)(hN:N≤100){L:List α}(hL:L.length=N)
    (hR:∀x∈L,∀p t,s=p++(enc x++t)→R (p.length:Int)=some (x,((p++enc x).length:Int))) (p t:List UInt8) (hs:s=p++(L.flatMap enc++t)) :
    loop f ((p.length:Int),0,[])=some (((p++L.flatMap enc).length:Int),L):=by
  have:=cM (f:=f) N (fun k=>(((p++(L.take k).flatMap enc).length:Int),(k:Int),L.take k)) (((p++L.flatMap enc).length:Int),L) (fun k hk=>?_) ?_
  · simpa using this
  · have hk':k < L.length:=by omega
    have hsplit:s=(p++(L.take k).flatMap enc)++(enc L[k]++((L.drop (k+1)).flatMap enc++t)):=by
      have e1:L.flatMap enc=(L.take k).flatMap enc++(enc L[k]++(L.drop (k+1)).flatMap enc):=by
        have:L=L.take k++L[k] :: L.drop (k+1):=by rw [←List.drop_eq_getElem_cons hk',List.take_append_drop]
        conv=>lhs;rw [this]
        rw [List.flatMap_append,List.flatMap_cons]
      rw [hs,e1];simp only [List.append_assoc]
    rw [hf,if_pos (by omega),hR _ (List.getElem_mem hk') _ _ hsplit]
    simp only [aG]
    rw [aL (by simp;omega),aM (by omega) (by omega),lD enc hk',List.take_succ_eq_append_getElem hk',←List.append_assoc];rfl
  · rw [hf,if_neg (by omega),List.take_of_length_le (by omega)]
end
def aKG(r:Reader):Option (eX×Reader):=(aT r).bind fun x57=>(aT x57.2).bind fun x58=>(aT x58.2).bind fun x59=>(aT x59.2).bind fun x60=>some (⟨x57.1 == 1,x58.1,x59.1 == 1,x60.1⟩,x60.2)
theorem aKH(l:List UInt8)(b:Bool):∃x l' b',aKG ⟨⟨l⟩,b⟩=some (x,⟨⟨l'⟩,b'⟩)∧l'.length≤l.length∧True:=by
  unfold aKG
  obtain⟨n1,l1,b1,e1,h1⟩:=iJ ⟨⟨l⟩,b⟩
  rw [e1];simp only [aG]
  obtain⟨n2,l2,b2,e2,h2⟩:=iJ ⟨⟨l1⟩,b1⟩
  rw [e2];simp only [aG]
  obtain⟨n3,l3,b3,e3,h3⟩:=iJ ⟨⟨l2⟩,b2⟩
  rw [e3];simp only [aG]
  obtain⟨n4,l4,b4,e4,h4⟩:=iJ ⟨⟨l3⟩,b3⟩
  rw [e4];simp only [aG]
  simp only at h1 h2 h3 h4
  exact⟨_,l4,b4,rfl,by omega,trivial⟩
def aXI(p:eX):Prop:=o5 p.aK∧o5 p.Seen
theorem aML(b:Bool):o5 (bi b):=by cases b <;> simp [bi,o5]
theorem aR1(b:Bool):(bi b == 1)=b:=by cases b <;> rfl
theorem aNQ{p:eX}(h:aXI p)(t:List UInt8):aKG ⟨⟨qV p++t⟩,false⟩=some (p,⟨⟨t⟩,false⟩):=by
  unfold aKG qV
  simp only [List.append_assoc,kD (aML p.On),kD h.1,kD (aML p.dT),kD h.2,aG,aR1]
def aCR(r:Reader):Option (bC×Reader):=(aT r).bind fun x55=>(aT x55.2).bind fun x56=>some (⟨x55.1,x56.1⟩,x56.2)
theorem aKI(l:List UInt8)(b:Bool):∃x l' b',aCR ⟨⟨l⟩,b⟩=some (x,⟨⟨l'⟩,b'⟩)∧l'.length≤l.length:=by
  unfold aCR
  obtain⟨n1,l1,b1,e1,h1⟩:=iJ ⟨⟨l⟩,b⟩
  rw [e1];simp only [aG]
  obtain⟨n2,l2,b2,e2,h2⟩:=iJ ⟨⟨l1⟩,b1⟩
  rw [e2];simp only [aG]
  simp only at h1 h2
  exact⟨_,l2,b2,rfl,by omega⟩
def aXJ(r:bC):Prop:=o5 r.Handle∧o5 r.aK
theorem aNR{r:bC}(h:aXJ r)(t:List UInt8):aCR ⟨⟨qW r++t⟩,false⟩=some (r,⟨⟨t⟩,false⟩):=by
  unfold aCR qW
  simp only [List.append_assoc,kD h.1,kD h.2,aG]
def llI(r:Reader):Option (aP×Reader):=(d8 r).bind fun x43=>(loop (ird x43.1 aCR) (0,x43.2.left.b,x43.2.bad,[])).bind fun o=>some (⟨o.2.2⟩,⟨⟨o.1⟩,o.2.1⟩)
theorem aNS(l:List UInt8)(b:Bool)(hl:l.length≤1048576):∃x l' b',llI ⟨⟨l⟩,b⟩=some (x,⟨⟨l'⟩,b'⟩)∧l'.length≤l.length∧x.Rows.length≤1048576:=by
  unfold llI
  obtain⟨n,l0,b0,h,h1,h2⟩:=WQ ⟨⟨l⟩,b⟩
  simp only at h1
  rw [h]
  simp only [aG]
  have key:=rY (f:=ird n aCR) (fun s=>(n - s.1).toNat) (fun s=>∃k:Nat,s.1=(k:Int)∧(k≤l0.length∨k=0)∧s.2.1.length≤l0.length∧s.2.2.2.length=k) (fun o=>o.1.length≤l0.length∧o.2.2.length≤l0.length) (by
    rintro⟨i,l2,b2,acc⟩ ⟨k,rfl,hk,hl2,ha⟩
    simp only at hl2 ha
    unfold ird;simp only
    by_cases q:(k:Int) < n
    · rw [if_pos q]
      obtain⟨x,l',b',e,e1⟩:=aKI l2 b2
      rw [e]
      simp only [aG]
      rw [aL (by omega),aM (by omega) (by omega)]
      exact .inr ⟨_,rfl,⟨k+1,rfl,.inl (by omega),by simp only;omega,by simp [ha]⟩,by simp only;omega⟩
    · rw [if_neg q]
      exact .inl ⟨_,rfl,hl2,by simp only;omega⟩) (0,l0,b0,[]) ⟨0,rfl,.inr rfl,Nat.le_refl _,rfl⟩
  obtain⟨⟨l',b',acc⟩,e,e1,e2⟩:=key
  simp only at e1 e2
  rw [e]
  exact⟨⟨acc⟩,l',b',rfl,by omega,by simp only;omega⟩
def LlV(l:aP):Prop:=l.Rows.length≤24∧∀r∈l.Rows,aXJ r
theorem aMM:∀l:List bC,(∀x∈l,aXJ x)→l.length≤(l.flatMap qW).length
  | [],_=>by simp
  | x :: r, h => by
    have:=UI (h x List.mem_cons_self).1;have:=aMM r (fun y hy=>h y (List.mem_cons_of_mem _ hy))
    rw [List.flatMap_cons,List.length_append,List.length_cons]
    simp only [qW,List.length_append];omega
theorem aR2{x:aP}(h:LlV x)(t:List UInt8):llI ⟨⟨lI x++t⟩,false⟩=some (x,⟨⟨t⟩,false⟩):=by
  have hg:=aMM x.Rows h.2
  have hl:=h.1
  have hc:=aCL (n:=(x.Rows.length:Int)) ⟨by omega,by omega⟩ (t:=x.Rows.flatMap qW++t) (by rw [List.length_append];omega)
  unfold llI lI
  rw [List.append_assoc,hc]
  simp only [aG]
  have key:loop (ird (x.Rows.length:Int) aCR) (0,x.Rows.flatMap qW++t,false,[])=some (t,false,x.Rows):=
    L4 (N:=x.Rows.length) (R:=aCR) (enc:=qW) (fun i l b acc=>rfl) (by omega) rfl (fun r hr t=>aNR (h.2 r hr) t) t
  rw [key];rfl
theorem aU6:IRd 3 aKG (ird 3 aKG):=fun i l b acc=>rfl
theorem aU7:IRd 3 llI (ird 3 llI):=fun i l b acc=>rfl
theorem aU8:IRd 3 aT (ird 3 aT):=fun i l b acc=>rfl
theorem aU9{x1:Mem×Reader}{x2:Int×Reader}{l l':List UInt8}{b b':Bool}{a:List eX}(e:loop (ird 3 aKG) (0,l,b,[])=some (l',b',a)):loop (n9 x1 x2) (0,l,b,[])=some (l',b',⟨x1.1,⟨x2.1,a⟩,[],[]⟩):=
  PO (f := n9 x1 x2) (fun c => c) (fun c => (⟨x1.1, ⟨x2.1, c⟩, [], []⟩ : aE)) (fun i l b c x h hr g => by
    simp only [n9,decide_eq_true_eq]
    rw [if_pos h]
    have hr':((aT ⟨⟨l⟩,b⟩).bind fun x57=>(aT x57.2).bind fun x58=>(aT x58.2).bind fun x59=>(aT x59.2).bind fun x60=>some ((⟨x57.1 == 1,x58.1,x59.1 == 1,x60.1⟩:eX),x60.2))=some x:=hr
    cases e1:aT ⟨⟨l⟩,b⟩ with
    | none=>rw [e1] at hr';simp at hr'
    | some y1 =>
      rw [e1] at hr';simp only [aG] at hr' ⊢
      cases e2:aT y1.2 with
      | none=>rw [e2] at hr';simp at hr'
      | some y2 =>
        rw [e2] at hr';simp only [aG] at hr' ⊢
        cases e3:aT y2.2 with
        | none=>rw [e3] at hr';simp at hr'
        | some y3 =>
          rw [e3] at hr';simp only [aG] at hr' ⊢
          cases e4:aT y3.2 with
          | none=>rw [e4] at hr';simp at hr'
          | some y4 =>
            rw [e4] at hr';simp only [aG] at hr' ⊢
            obtain rfl:=Option.some.inj hr'
            rw [aL (by simpa using g)]) (fun i l b c h=>by
    simp only [n9,decide_eq_true_eq]
    rw [if_neg h]) e
theorem aZE{B:aE}{x:Int×Reader}{l l':List UInt8}{b b':Bool}{a:List bC}(e:loop (ird x.1 aCR) (0,l,b,[])=some (l',b',a)):loop (n7 B x) (0,l,b,[])=some (l',b',({B with fW:=[]}:aE),a):=
  PO (f := n7 B x) (fun c => c) (fun c => (({B with fW := []} : aE), c)) (fun i l b c x' h hr g => by
    simp only [n7,decide_eq_true_eq]
    rw [if_pos h]
    have hr':((aT ⟨⟨l⟩,b⟩).bind fun x57=>(aT x57.2).bind fun x58=>some ((⟨x57.1,x58.1⟩:bC),x58.2))=some x':=hr
    cases e1:aT ⟨⟨l⟩,b⟩ with
    | none=>rw [e1] at hr';simp at hr'
    | some y1 =>
      rw [e1] at hr';simp only [aG] at hr' ⊢
      cases e2:aT y1.2 with
      | none=>rw [e2] at hr';simp at hr'
      | some y2 =>
        rw [e2] at hr';simp only [aG] at hr' ⊢
        obtain rfl:=Option.some.inj hr'
        rw [aL (by simpa using g)]) (fun i l b c h=>by
    simp only [n7,decide_eq_true_eq]
    rw [if_neg h]) e
theorem aVA{m:Mem}{k:aI}{l l':List UInt8}{b b':Bool}{a:List aP}(e:loop (ird 3 llI) (0,l,b,[])=some (l',b',a)):loop n8 (0,l,b,⟨m,k,[],[]⟩)=some (l',b',⟨m,k,a,[]⟩):=
  PO (f := n8) (fun c => (⟨m, k, c, []⟩ : aE)) (fun c => (⟨m, k, c, []⟩ : aE)) (fun i l b c x h hr g => by
    simp only [n8,decide_eq_true_eq]
    rw [if_pos h]
    have hr':((d8 ⟨⟨l⟩,b⟩).bind fun x43=>(loop (ird x43.1 aCR) (0,x43.2.left.b,x43.2.bad,[])).bind fun o=>some ((⟨o.2.2⟩:aP),(⟨⟨o.1⟩,o.2.1⟩:Reader)))=some x:=hr
    cases e1:d8 ⟨⟨l⟩,b⟩ with
    | none=>rw [e1] at hr';simp at hr'
    | some y1 =>
      rw [e1] at hr';simp only [aG] at hr' ⊢
      cases e2:loop (ird y1.1 aCR) (0,y1.2.left.b,y1.2.bad,[]) with
      | none=>rw [e2] at hr';simp at hr'
      | some o =>
        obtain⟨o1,o2,o3⟩:=o
        rw [e2] at hr';simp only [aG] at hr'
        obtain rfl:=Option.some.inj hr'
        rw [aZE e2]
        simp only [aG,KF,KE]
        rw [aL (by simpa using g)]) (fun i l b c h=>by
    simp only [n8,decide_eq_true_eq]
    rw [if_neg h]) e
theorem aVB{m:Mem}{k:aI}{L:List aP}{l l':List UInt8}{b b':Bool}{a:List Int}(e:loop (ird 3 aT) (0,l,b,[])=some (l',b',a)):loop nZ (0,l,b,⟨m,k,L,[]⟩)=some (l',b',⟨m,k,L,a⟩):=
  PO (f:=nZ) (fun c=>(⟨m,k,L,c⟩:aE)) (fun c=>(⟨m,k,L,c⟩:aE)) (fun i l b c x h hr g=>by
    simp only [nZ,BR,decide_eq_true_eq]
    rw [if_pos h,hr]
    simp only [aG]
    rw [aL (by simpa using g)]) (fun i l b c h=>by
    simp only [nZ,decide_eq_true_eq]
    rw [if_neg h]) e
theorem aD1(l:List UInt8)(b:Bool):∃n l' b',aT ⟨⟨l⟩,b⟩=some (n,⟨⟨l'⟩,b'⟩)∧l'.length≤l.length∧True:=by
  obtain⟨n,l',b',e,h⟩:=iJ ⟨⟨l⟩,b⟩
  exact⟨n,l',b',e,h,trivial⟩
theorem aKJ{s:List UInt8}(hs:s.length≤1048576){a:Int}(h:a≤s.length):∃x a',mF s a=some (x,a')∧a'≤(s.length:Int)∧True:=by
  unfold mF
  obtain⟨n1,a1,e1,h1⟩:=gN h hs
  rw [e1];simp only [aG]
  obtain⟨n2,a2,e2,h2⟩:=gN h1 hs
  rw [e2];simp only [aG]
  obtain⟨n3,a3,e3,h3⟩:=gN h2 hs
  rw [e3];simp only [aG]
  obtain⟨n4,a4,e4,h4⟩:=gN h3 hs
  rw [e4];exact⟨_,a4,rfl,h4,trivial⟩
theorem L5{n:Int}(h:o5 n){s p t:List UInt8}(hs:s.length≤1048576)(e:s=p++(bZ n++t)):dK s (p.length:Int)=some (n,((p++bZ n).length:Int)):=by
  subst e;exact PR h p t hs
theorem aNT{x:eX}(h:aXI x){s p t:List UInt8}(hs:s.length≤1048576)(e:s=p++(qV x++t)):mF s (p.length:Int)=some (x,((p++qV x).length:Int)):=by
  unfold mF
  simp only [qV,List.append_assoc] at e
  rw [L5 (aML x.On) hs e];simp only [aG]
  rw [L5 h.1 hs (t:=bZ (bi x.dT)++(bZ x.Seen++t)) (by rw [e];simp only [List.append_assoc])];simp only [aG]
  rw [L5 (aML x.dT) hs (t:=bZ x.Seen++t) (by rw [e];simp only [List.append_assoc])];simp only [aG]
  rw [L5 h.2 hs (t:=t) (by rw [e];simp only [List.append_assoc])];simp only [aG,aR1,qV,List.append_assoc]
theorem aIM{s:List UInt8}(hs:s.length≤1048576){a:Int}(h:a≤s.length):∃x a',jW s a=some (x,a')∧a'≤(s.length:Int)∧x.Rows.length≤1048576:=by
  unfold jW
  obtain⟨n,a1,e1,h1⟩:=gN h hs
  rw [e1];simp only [aG]
  have key:=rY (f:=jL s (n,a1)) (fun q=>24 - q.2.1.toNat) (fun q=>∃k:Nat,q.2.1=(k:Int)∧k≤24∧q.1≤s.length∧q.2.2.length=k) (fun o=>o.1≤s.length∧o.2.length≤24) (by
    rintro⟨b,i,acc⟩ ⟨k,rfl,hk,hb,ha⟩
    simp only at hb ha
    simp only [jL,lU]
    by_cases q:(k:Int) < n
    · rw [if_pos (by simpa using q)]
      by_cases q2:k < 24
      · rw [if_pos (by simp;omega)]
        obtain⟨n2,a2,e2,h2⟩:=gN hb hs
        rw [e2];simp only [aG]
        obtain⟨n3,a3,e3,h3⟩:=gN h2 hs
        rw [e3];simp only [aG]
        rw [aL (by simp;omega),aM (by omega) (by omega)]
        exact .inr ⟨_,rfl,⟨k+1,rfl,by omega,h3,by simp [ha]⟩,by simp only;omega⟩
      · rw [if_neg (by simp;omega)]
        exact .inl ⟨_,rfl,hb,by simp only;omega⟩
    · rw [if_neg (by simpa using q)]
      exact .inl ⟨_,rfl,hb,by simp only;omega⟩) (a1,0,[]) ⟨0,rfl,by omega,h1,rfl⟩
  obtain⟨⟨a',acc⟩,e,e1,e2⟩:=key
  rw [e]
  exact⟨⟨acc⟩,a',rfl,e1,by simp only at e2 ⊢;omega⟩
theorem aKK{x:aP}(h:LlV x){s p t:List UInt8}(hs:s.length≤1048576)(e:s=p++(lI x++t)):jW s (p.length:Int)=some (x,((p++lI x).length:Int)):=by
  have hl:=h.1
  unfold jW
  simp only [lI,List.append_assoc] at e
  rw [L5 (n:=(x.Rows.length:Int)) ⟨by omega,by omega⟩ hs e]
  simp only [aG]
  generalize hP:p++bZ (x.Rows.length:Int)=P
  have key:loop (jL s ((x.Rows.length:Int),(P.length:Int))) ((P.length:Int),0,[])=some (((P++x.Rows.flatMap qW).length:Int),x.Rows):=by
    have:=cM (f:=jL s ((x.Rows.length:Int),(P.length:Int))) x.Rows.length (fun j=>(((P++(x.Rows.take j).flatMap qW).length:Int),(j:Int),x.Rows.take j)) (((P++x.Rows.flatMap qW).length:Int),x.Rows) (fun j hj=>?_) ?_
    · simpa using this
    · have hsp:s=(P++(x.Rows.take j).flatMap qW)++(bZ x.Rows[j].Handle++(bZ x.Rows[j].aK++((x.Rows.drop (j+1)).flatMap qW++t))):=by
        have e1:x.Rows.flatMap qW=(x.Rows.take j).flatMap qW++(qW x.Rows[j]++(x.Rows.drop (j+1)).flatMap qW):=by
          have:x.Rows=x.Rows.take j++x.Rows[j] :: x.Rows.drop (j+1):=by rw [←List.drop_eq_getElem_cons hj,List.take_append_drop]
          conv=>lhs;rw [this]
          rw [List.flatMap_append,List.flatMap_cons]
        rw [e,e1,←hP];simp only [qW,List.append_assoc]
      have hr:=h.2 _ (List.getElem_mem hj)
      simp only [jL,lU]
      rw [if_pos (by simp;omega),if_pos (by simp;omega),L5 hr.1 hs hsp]
      simp only [aG]
      rw [L5 hr.2 hs (t:=(x.Rows.drop (j+1)).flatMap qW++t) (by rw [hsp];simp only [List.append_assoc])]
      simp only [aG]
      rw [aL (by simp;omega),aM (by omega) (by omega),lD qW hj,List.take_succ_eq_append_getElem hj]
      simp only [qW,List.append_assoc];rfl
    · simp only [jL,lU]
      rw [if_neg (by simp),List.take_length];simp
  rw [key]
  simp only [aG,MZ,MY,lI,←hP,List.append_assoc]
def srd{α:Type}(N:Int)(R:Int→Option (α×Int))(s:Int×Int×List α):Option (Step (Int×Int×List α) (Int×List α)):=
  if s.2.1 < N then (R s.1).bind fun x=>need (s.2.2.length+1≤1073741824) (some (.next (x.2,aV (s.2.1+1),s.2.2 ++ [x.1]))) else some (.stop (s.1,s.2.2))
theorem aCS{α γ:Type}{N:Int}{R:Int→Option (α×Int)}{f:(Int×Int×List α)→Option (Step (Int×Int×List α) (Int×γ))}(v:List α→γ)
    (h1:∀a i c x,i < N→R a=some x→c.length+1≤1073741824→f (a,i,c)=some (.next (x.2,aV (i+1),c ++ [x.1])))
    (h2:∀a i c,¬i < N→f (a,i,c)=some (.stop (a,v c))) {a a':Int} {c:List α} (e:loop (srd N R) (a,0,[])=some (a',c)):loop f (a,0,[])=some (a',v c):=by
  refine aE4 (f:=srd N R) (f':=f) (fun s=>s) (fun r=>(r.1,v r.2)) ?_ e
  rintro⟨q,i,c⟩ o ho
  unfold srd at ho
  simp only at ho ⊢
  by_cases h:i < N
  · rw [if_pos h] at ho
    cases hr:R q with
    | none=>rw [hr] at ho;simp at ho
    | some x =>
      rw [hr] at ho
      simp only [aG] at ho
      by_cases g:c.length+1≤1073741824
      · rw [aL g] at ho
        obtain rfl:=Option.some.inj ho
        rw [h1 q i c x h hr g];rfl
      · unfold need at ho;rw [if_neg g] at ho;simp at ho
  · rw [if_neg h] at ho
    obtain rfl:=Option.some.inj ho
    rw [h2 q i c h];rfl
theorem aVC(s:List UInt8):SRd 3 (mF s) (srd 3 (mF s)):=fun a i acc=>rfl
theorem aVD(s:List UInt8):SRd 3 (jW s) (srd 3 (jW s)):=fun a i acc=>rfl
theorem aVE(s:List UInt8):SRd 3 (dK s) (srd 3 (dK s)):=fun a i acc=>rfl
theorem aVF{s:List UInt8}{x1:Mem×Int}{x2:Int×Int}{a a':Int}{c:List eX}(e:loop (srd 3 (mF s)) (a,0,[])=some (a',c)):loop (oL s x1 x2) (a,0,[])=some (a',(⟨x1.1,⟨x2.1,c⟩,[],[]⟩:aE)):=
  aCS (f:=oL s x1 x2) (fun c=>(⟨x1.1,⟨x2.1,c⟩,[],[]⟩:aE)) (fun a i c x h hr g=>by
    simp only [oL,decide_eq_true_eq]
    rw [if_pos h,hr]
    simp only [aG]
    rw [aL (by simpa using g)]) (fun a i c h=>by
    simp only [oL,decide_eq_true_eq]
    rw [if_neg h]) e
theorem aVG{s:List UInt8}{m:Mem}{k:aI}{a a':Int}{c:List aP}(e:loop (srd 3 (jW s)) (a,0,[])=some (a',c)):loop (oK s ⟨m,k,[],[]⟩) (a,0,[])=some (a',(⟨m,k,c,[]⟩:aE)):=
  aCS (f:=oK s ⟨m,k,[],[]⟩) (fun c=>(⟨m,k,c,[]⟩:aE)) (fun a i c x h hr g=>by
    simp only [oK,decide_eq_true_eq]
    rw [if_pos h,hr]
    simp only [aG]
    rw [aL (by simpa using g)]) (fun a i c h=>by
    simp only [oK,decide_eq_true_eq]
    rw [if_neg h]) e
theorem aVH{s:List UInt8}{m:Mem}{k:aI}{L:List aP}{a a':Int}{c:List Int}(e:loop (srd 3 (dK s)) (a,0,[])=some (a',c)):loop (oJ s ⟨m,k,L,[]⟩) (a,0,[])=some (a',(⟨m,k,L,c⟩:aE)):=
  aCS (f:=oJ s ⟨m,k,L,[]⟩) (fun c=>(⟨m,k,L,c⟩:aE)) (fun a i c x h hr g=>by
    simp only [oJ,decide_eq_true_eq]
    rw [if_pos h,hr]
    simp only [aG]
    rw [aL (by simpa using g)]) (fun a i c h=>by
    simp only [oJ,decide_eq_true_eq]
    rw [if_neg h]) e
end Go.Gv
end
noncomputable section
namespace Go.Gv
theorem UK{m:Mem}(hm:i3 m):uF (gY m)=some (m,true):=by
  have hmx:(384:Nat)≤maxLen:=by simp [maxLen]
  have hsl:=hm.IP
  have hb:m.aB.Bytes.length≤maxLen:=by rw [hm.1.1.1.1];exact hmx
  have hal:(cK m.aA).length≤1073741824:=by omega
  have a1:=aIJ hm []
  rw [List.append_nil] at a1
  unfold uF lT
  rw [a1]
  simp only [aG,bE,if_false]
  rw [rI hb hal,ET hb hal,bD hm,aCQ hm]
  simp
theorem aKL{s:List UInt8}(hs:s.length≤1048576):∃m b,uF s=some (m,b)∧(b=true→i3 m∧gY m=s):=by
  have hmx:(384:Nat)≤maxLen:=by simp [maxLen]
  by_cases q:∃m,i3 m∧gY m=s
  · obtain⟨m,hm,rfl⟩:=q
    exact⟨m,true,UK hm,fun _=>⟨hm,rfl⟩⟩
  · refine⟨noM,false,?_,fun e=>by cases e⟩
    obtain⟨m,l',b',e,h1⟩:=aE5 s hs
    unfold uF lT
    rw [e]
    simp only [aG]
    rw [rI (by omega) (by omega),ET (by omega) (by omega)]
    cases b'
    · by_cases hm:i3 m
      · have:(SH m == s)=false:=by rw [aCQ hm];simp only [beq_eq_false_iff_ne];exact fun e=>q ⟨m,hm,e⟩
        simp only [aG,bD hm,dU,bE,if_false,this,rX,if_true];rfl
      · simp only [aG,bN hm,rX,if_true,bE,if_false];rfl
    · rfl
def noB:aE:=⟨noM,⟨0,[]⟩,[],[]⟩
theorem aNU:tK noB:=⟨aIL,by simp [noB],by simp [noB],by simp [noB,a9],by simp [noB]⟩
theorem HO{b:aE}(h:eN b):JU b=A5 b:=by unfold JU;rw [if_pos h]
noncomputable section
variable {b:aE} (h:eN b)
include h
theorem aIN:o5 b.aI.aK:=by have:=h.1.2.1.1;unfold o5;omega
theorem aMN:∀p∈b.aI.aX,aXI p:=fun p hp=>by
  have h1:=h.1.2.1.1
  have h2:=h.1.2.1.2.2 p hp
  have h3:=h2.1;have h4:=h2.2.1
  exact⟨by unfold o5;omega,by unfold o5;omega⟩
theorem aIO:∀l∈b.aR,LlV l:=fun l hl=>by
  have h2:=h.1.2.2.1
  have:=FY hl
  refine⟨by have:=h2.2.1;omega,fun r hr=>?_⟩
  have h3:=h2.2.2.1 r (List.mem_flatMap.2 ⟨l,hl,hr⟩)
  have h4:=h3.1;unfold pS at h4
  have h5:=h3.2
  exact⟨by unfold o5;omega,by unfold o5;omega⟩
theorem aR3:∀z∈b.fW,o5 z:=fun z hz=>by
  have h2:=h.1.2.2.2.2 z hz
  rcases h2 with h2 | h2
  · unfold o5;omega
  · unfold pS at h2;unfold o5;omega
theorem UL:mP (A5 b)=some (b,true):=by
  have h2:b.aI.aX.length=3:=h.1.2.1.2.1
  have h3:b.aR.length=3:=h.1.2.2.1.1
  have h4:b.fW.length=3:=h.1.2.2.2.1
  have e1:=aIJ h.1.1 (bZ b.aI.aK++(b.aI.aX.flatMap qV++(b.aR.flatMap lI++b.fW.flatMap bZ)))
  have e2:=kD (aIN h) (b.aI.aX.flatMap qV++(b.aR.flatMap lI++b.fW.flatMap bZ))
  have e3:=L4 aU6 (by omega) h2 (fun p hp t=>aNQ (aMN h p hp) t) (b.aR.flatMap lI++b.fW.flatMap bZ)
  have e4:=L4 aU7 (by omega) h3 (fun l hl t=>aR2 (aIO h l hl) t) (b.fW.flatMap bZ)
  have e5:=L4 aU8 (by omega) h4 (fun z hz t=>kD (aR3 h z hz) t) []
  rw [List.append_nil] at e5
  have hs:A5 b=gY b.Mem++(bZ b.aI.aK++(b.aI.aX.flatMap qV++(b.aR.flatMap lI++b.fW.flatMap bZ))):=by
    unfold A5;simp only [List.append_assoc]
  unfold mP
  rw [hs,e1]
  simp only [aG]
  rw [e2]
  simp only [aG]
  rw [aU9 e3]
  simp only [aG,BW,BV]
  rw [aVA e4]
  simp only [aG,BU,BT]
  rw [aVB e5]
  simp only [aG,BS,BQ,kK,bE,if_false]
  have hb:(⟨b.Mem,⟨b.aI.aK,b.aI.aX⟩,b.aR,b.fW⟩:aE)=b:=rfl
  rw [hb,tL h.small.fits,uU h.small.fits,bD h,HO h,←hs]
  simp
theorem aGT(hl:(A5 b).length≤1048576):rC (A5 b)=some (b,true):=by
  have h2:b.aI.aX.length=3:=h.1.2.1.2.1
  have h3:b.aR.length=3:=h.1.2.2.1.1
  have h4:b.fW.length=3:=h.1.2.2.2.1
  have hs:A5 b=gY b.Mem++(bZ b.aI.aK++(b.aI.aX.flatMap qV++(b.aR.flatMap lI++b.fW.flatMap bZ))):=by
    unfold A5;simp only [List.append_assoc]
  generalize hS:A5 b=s at hl hs ⊢
  have e1:=aIK h.1.1 (bZ b.aI.aK++(b.aI.aX.flatMap qV++(b.aR.flatMap lI++b.fW.flatMap bZ))) (by rw [←hs];exact hl)
  rw [←hs] at e1
  have e2:=L5 (aIN h) hl hs
  have e3:=SK (aVC s) (by omega) h2 (fun p hp q t e=>aNT (aMN h p hp) hl e) (gY b.Mem++bZ b.aI.aK) (b.aR.flatMap lI++b.fW.flatMap bZ) (by rw [hs];simp only [List.append_assoc])
  have e4:=SK (aVD s) (by omega) h3 (fun l hl' q t e=>aKK (aIO h l hl') hl e) (gY b.Mem++bZ b.aI.aK++b.aI.aX.flatMap qV) (b.fW.flatMap bZ) (by rw [hs];simp only [List.append_assoc])
  have e5:=SK (aVE s) (by omega) h4 (fun z hz q t e=>L5 (aR3 h z hz) hl e) (gY b.Mem++bZ b.aI.aK++b.aI.aX.flatMap qV++b.aR.flatMap lI) [] (by rw [hs];simp only [List.append_assoc,List.append_nil])
  unfold rC
  rw [e1]
  simp only [aG]
  rw [e2]
  simp only [aG]
  rw [aVF e3]
  simp only [aG,B8,B7]
  rw [aVG e4]
  simp only [aG,B6,B5]
  rw [aVH e5]
  have hend:gY b.Mem++bZ b.aI.aK++b.aI.aX.flatMap qV++b.aR.flatMap lI++b.fW.flatMap bZ=s:=by rw [hs];simp only [List.append_assoc]
  simp only [aG,B4,B3,kM,hend,bne_self_eq_false,bE,if_false]
  have hb:(⟨b.Mem,⟨b.aI.aK,b.aI.aX⟩,b.aR,b.fW⟩:aE)=b:=rfl
  rw [hb,iX h.small.fits,CE h.small.fits,bD h,HO h,hS]
  simp
end
theorem aD2(s:List UInt8)(hs:s.length≤1048576):∃m a,yY s=some (m,a)∧a≤(s.length:Int)∧gZ m:=by
  unfold yY
  by_cases q:s.length < 390
  · rw [if_pos (by simp;omega)]
    exact⟨_,-1,rfl,by omega,aIL⟩
  · rw [if_neg (by simp;omega),aRZ (by omega) hs]
    simp only [aG,GU,GR]
    rw [aR0 (by omega) hs]
    simp only [aG,GQ,GO]
    obtain⟨g,a1,e1,h1,n1,f1⟩:=PT (s:=s) (a:=390) (N:=3) (by omega) hs (by omega)
    obtain⟨o,a2,e2,h2,n2,f2⟩:=PT (s:=s) (a:=a1) (N:=9) h1 hs (by omega)
    rw [show((3:Nat):Int)=3 from rfl] at e1
    rw [show((9:Nat):Int)=9 from rfl] at e2
    rw [e1]
    simp only [aG,e2]
    refine⟨_,_,rfl,h2,?_⟩
    unfold gZ
    simp only [cK,List.length_append]
    refine⟨by simp;omega,by simp;omega,by omega,by omega,by omega⟩
theorem PX:∀(l:List aP) (c:Nat),(∀x∈l,x.Rows.length≤c)→(a9 l).length≤l.length * c
  | [],c,_=>by simp [a9]
  | x :: r, c, h => by
    have:=h x List.mem_cons_self
    have:=PX r c (fun y hy=>h y (List.mem_cons_of_mem _ hy))
    have e:a9 (x :: r)=x.Rows++a9 r:=by simp [a9]
    rw [e,List.length_append,List.length_cons,Nat.add_mul];omega
theorem WS{s:List UInt8}(hs:s.length≤1048576):∃b ok,rC s=some (b,ok)∧mP s=some (b,ok)∧tK b∧(ok=true→eN b∧A5 b=s):=by
  have hmx:(1048576:Nat)≤maxLen:=by simp [maxLen]
  by_cases q:∃b,eN b∧A5 b=s
  · obtain⟨b,hb,rfl⟩:=q
    exact⟨b,true,aGT hb hs,UL hb,hb.small,fun _=>⟨hb,rfl⟩⟩
  · refine⟨noB,false,?_,?_,aNU,fun e=>by cases e⟩
    · obtain⟨m,a0,e0,h0,hm⟩:=aD2 s hs
      obtain⟨n,a1,e1,h1⟩:=gN h0 hs
      obtain⟨a2,ps,e2,h2,n2,_⟩:=PW (T:=fun _=>True) (aVC s) (by omega) (M:=(s.length:Int)) (fun a ha=>aKJ hs ha) h1
      obtain⟨a3,ls,e3,h3,n3,t3⟩:=PW (T:=fun x:aP=>x.Rows.length≤1048576) (aVD s) (by omega) (M:=(s.length:Int)) (fun a ha=>aIM hs ha) h2
      obtain⟨a4,zs,e4,h4,n4,_⟩:=PW (T:=fun _=>True) (aVE s) (by omega) (M:=(s.length:Int)) (fun a ha=>by obtain⟨x,a',e,h⟩:=gN ha hs;exact⟨x,a',e,h,trivial⟩) h3
      have hr:=PX ls 1048576 t3
      unfold rC
      rw [e0];simp only [aG]
      rw [e1];simp only [aG]
      rw [aVF e2];simp only [aG,B8,B7]
      rw [aVG e3];simp only [aG,B6,B5]
      rw [aVH e4];simp only [aG,B4,B3,kM]
      by_cases c:a4=(s.length:Int)
      · have hf:(⟨m,⟨n,ps⟩,ls,zs⟩:aE).Mem.aB.Bytes.length≤maxLen∧(cK (⟨m,⟨n,ps⟩,ls,zs⟩:aE).Mem.aA).length≤1073741824∧(⟨m,⟨n,ps⟩,ls,zs⟩:aE).aI.aX.length≤maxLen∧(⟨m,⟨n,ps⟩,ls,zs⟩:aE).aR.length≤maxLen∧(a9 (⟨m,⟨n,ps⟩,ls,zs⟩:aE).aR).length≤1073741824∧(⟨m,⟨n,ps⟩,ls,zs⟩:aE).fW.length≤maxLen:=by
          have g1:=hm.1;have g2:=hm.2.2.2.2
          exact⟨by show m.aB.Bytes.length≤_;omega,by show(cK m.aA).length≤_;omega,by show ps.length≤_;omega,by show ls.length≤_;omega,by show(a9 ls).length≤_;omega,by show zs.length≤_;omega⟩
        rw [if_neg (by simp only [bne_iff_ne,ne_eq,Decidable.not_not];exact c),iX hf,CE hf]
        by_cases hb:eN ⟨m,⟨n,ps⟩,ls,zs⟩
        · have:(JU ⟨m,⟨n,ps⟩,ls,zs⟩ == s)=false:=by rw [HO hb];simp only [beq_eq_false_iff_ne];exact fun e=>q ⟨_,hb,e⟩
          simp only [aG,bD hb,dU,bE,if_false,this,rX,if_true];rfl
        · simp only [aG,bN hb,rX,if_true];rfl
      · rw [if_pos (by simp only [bne_iff_ne];exact c)];rfl
    · obtain⟨m,l0,b0,e0,h0,g1,g2,g3,g4,g5⟩:=aE5 s hs
      obtain⟨n,l1,b1,e1,h1⟩:=iJ ⟨⟨l0⟩,b0⟩
      simp only at h1
      obtain⟨l2,b2,ps,e2,h2,n2,_⟩:=PU (T:=fun _=>True) aU6 (by omega) (M:=1048576) (fun l b _=>aKH l b) l1 b1 (by omega)
      obtain⟨l3,b3,ls,e3,h3,n3,t3⟩:=PU (T:=fun x:aP=>x.Rows.length≤1048576) aU7 (by omega) (M:=1048576) (fun l b hl=>aNS l b hl) l2 b2 (by omega)
      obtain⟨l4,b4,zs,e4,h4,n4,_⟩:=PU (T:=fun _=>True) aU8 (by omega) (M:=1048576) (fun l b _=>aD1 l b) l3 b3 (by omega)
      have hr:=PX ls 1048576 t3
      unfold mP
      rw [e0];simp only [aG]
      rw [e1];simp only [aG]
      rw [aU9 e2];simp only [aG,BW,BV]
      rw [aVA e3];simp only [aG,BU,BT]
      rw [aVB e4];simp only [aG,BS,BQ,kK]
      have hf:(⟨m,⟨n,ps⟩,ls,zs⟩:aE).Mem.aB.Bytes.length≤maxLen∧(cK (⟨m,⟨n,ps⟩,ls,zs⟩:aE).Mem.aA).length≤1073741824∧(⟨m,⟨n,ps⟩,ls,zs⟩:aE).aI.aX.length≤maxLen∧(⟨m,⟨n,ps⟩,ls,zs⟩:aE).aR.length≤maxLen∧(a9 (⟨m,⟨n,ps⟩,ls,zs⟩:aE).aR).length≤1073741824∧(⟨m,⟨n,ps⟩,ls,zs⟩:aE).fW.length≤maxLen:=by
        exact⟨by show m.aB.Bytes.length≤_;omega,by show(cK m.aA).length≤_;omega,by show ps.length≤_;omega,by show ls.length≤_;omega,by show(a9 ls).length≤_;omega,by show zs.length≤_;omega⟩
      rw [tL hf,uU hf]
      cases b4
      · by_cases hb:eN ⟨m,⟨n,ps⟩,ls,zs⟩
        · have:(JU ⟨m,⟨n,ps⟩,ls,zs⟩ == s)=false:=by rw [HO hb];simp only [beq_eq_false_iff_ne];exact fun e=>q ⟨_,hb,e⟩
          simp only [aG,bD hb,dU,bE,if_false,this,rX,if_true];rfl
        · simp only [aG,bN hb,rX,if_true,bE,if_false];rfl
      · rfl
end Go.Gv
end
noncomputable section
namespace Go.Gv
noncomputable section
variable {b:List UInt8} {i h:Int} (hc:Cu b i)
include hc
theorem aZF{m:Int}(hm:0≤m∧m≤1000):fA (IH ⟨b,i,h⟩ m) (fun x=>x.1.length≤1000∧Cu b x.2.1):=by
  unfold IH
  refine .bind (below hc (by omega)) fun x1 ⟨_,h1⟩=>.bind (below h1 (by rw [aM (by omega) (by omega)];omega)) fun x2 ⟨hx2,h2⟩=>?_
  rw [aM (by omega) (by omega)] at hx2
  refine .bind (P:=fun x=>x.1.length≤1000∧Cu b x.2.1) (.loop (fun s=>s.2.1.toNat) (fun s=>(0≤s.2.1∧(s.1.length:Int)+s.2.1≤m)∧Cu b s.2.2.1) ⟨⟨hx2.1,by simp;omega⟩,h2⟩ ?_) fun x hx=>.ret hx
  rintro⟨l,n,i1,h1⟩ ⟨⟨n0,n1⟩,hi1⟩
  simp only at n0 n1 hi1
  simp only [ON]
  refine .ite (fun q=>?_) (fun q=>.ret ⟨by (try simp only);omega,hi1⟩)
  have q':=of_decide_eq_true q
  refine .bind (aCD hi1) fun x14 ⟨_,h14⟩=>?_
  have fin:∀z,fA (sY l n x14 z) (aCC (fun s'=>((0≤s'.2.1∧(s'.1.length:Int)+s'.2.1≤m)∧Cu b s'.2.2.1)∧s'.2.1.toNat < n.toNat) (fun x=>x.1.length≤1000∧Cu b x.2.1)):=fun z=>by
    unfold sY
    rw [aM (by omega) (by omega)]
    have e:(l ++ [u8 z]).length=l.length+1:=by simp
    exact .need (by simp;omega) (.ret ⟨⟨⟨by (try simp only);omega,by (try simp only);omega⟩,h14⟩,by (try simp only);omega⟩)
  unfold AA
  exact .ite (fun _=>.ite (fun _=>fin _) fun _=>fin _) fun _=>.ite (fun _=>fin _) fun _=>fin _
theorem aT6{s:List UInt8}(hs:s.length≤90000):fA (FI ⟨b,i,h⟩ s) (fun x=>x.1.length≤200000∧Cu b x.2.1):=by
  unfold FI
  refine .ite (fun _=>.bind (aZF hc (by omega)) fun x ⟨hx,h1⟩=>.ret ⟨by (try simp only);omega,h1⟩) fun q0=>?_
  have q0':¬(s.length:Int)=0:=by simpa using q0
  refine .bind (below hc (by omega)) fun x2 ⟨hx2,h2⟩=>.bind (below h2 (by omega)) fun x3 ⟨_,h3⟩=>?_
  have hk:0≤x2.1∧x2.1 < s.length:=by omega
  have ew:aV (x2.1+1)=x2.1+1:=aM (by omega) (by omega)
  have l1:(s.take x2.1.toNat).length≤s.length:=List.length_take_le' ..
  have l2:∀k,(s.drop k).length≤s.length:=fun k=>by simp
  refine .ite (fun _=>?_) fun _=>.ite (fun _=>?_) fun _=>.ite (fun _=>?_) fun _=>?_
  · rw [ew]
    have:=l2 (x2.1+1).toNat
    exact .need (by omega) (.need (by omega) (.need (by omega) (.ret ⟨by simp only [List.length_append];omega,h3⟩)))
  · have:=l2 x2.1.toNat
    exact .need (by omega) (.need (by omega) (.bind (aCD h3) fun x4 ⟨_,h4⟩=>.need (by simp;omega) (.need (by simp;omega) (.ret ⟨by simp only [List.length_append,List.length_cons,List.length_nil];omega,h4⟩))))
  · exact .need (by omega) (.ret ⟨by (try simp only);omega,h3⟩)
  · refine .need (by omega) (.bind (.idx hk) fun x5 _=>?_)
    rw [ew]
    have:=l2 (x2.1+1).toNat
    exact .need (by omega) (.bind (below h3 (by omega)) fun x6 ⟨_,h6⟩=>.need (by simp;omega) (.need (by simp;omega) (.ret ⟨by simp only [List.length_append,List.length_cons,List.length_nil];omega,h6⟩)))
theorem aXL{s:List UInt8}(hs:s.length≤90000):fA (CY ⟨b,i,h⟩ s) (fun x=>x.1.length≤200000∧Cu b x.2.1):=by
  unfold CY
  refine .bind (below hc (by omega)) fun x1 ⟨_,h1⟩=>.ite (fun _=>.bind (aT6 h1 hs) fun x h2=>.ret h2) fun _=>.ite (fun _=>?_) fun _=>.ite (fun _=>.need (by simp;omega) (.ret ⟨by simp;omega,h1⟩)) fun _=>.ret ⟨by (try simp only);omega,h1⟩
  rw [aM (by omega) (by omega)]
  exact .bind (below h1 (by omega)) fun x3 ⟨hx,h3⟩=>.need (by omega) (.ret ⟨by simp;omega,h3⟩)
end
theorem aIP{m:Mem}(h:i3 m):(gY m).length≤1000:=by
  obtain⟨hcnt,h3,h9,h1,h2,_⟩:=i3.facts h
  have a:=rJ m.aA.Global
  have b:=rJ m.aA.bB
  have c:=eS m.aA
  unfold gY
  simp only [List.length_append,List.length_map]
  omega
theorem aIQ{b:aE}(h:eN b):(A5 b).length≤3000:=by
  have a:=aIP h.1.1
  have l3:=h.1.2.2.1.1
  have l24:=h.1.2.2.1.2.1
  have p3:=h.1.2.1.2.1
  have z3:=h.1.2.2.2.1
  have e1:=HM qV 28 aCJ b.aI.aX
  have e2:=UF b.aR
  have e3:=UE b.fW
  have e4:(bZ b.aI.aK).length≤7:=hQ _
  unfold A5
  simp only [List.length_append]
  omega
theorem aIR{m:Mem}(h:i3 m):gY m≠[]:=fun e=>by
  have h1:=h.1.1.1.1
  have:=congrArg List.length e
  unfold gY at this
  simp only [List.length_append,List.length_map,List.length_nil] at this
  omega
theorem aIS{b:aE}(h:eN b):A5 b≠[]:=fun e=>by
  unfold A5 at e
  simp only [List.append_eq_nil_iff] at e
  exact aIR h.1.1 e.1.1.1.1
theorem aNV{code:List UInt8}(hl:code.length≤1048576):fA (rT code) (fun x=>x.length≤200000):=by
  unfold rT
  refine .bind (aW7 hl) fun x1 h1=>.bind (aUZ h1 (by omega)) fun x2 ⟨hb,h2⟩=>?_
  rw [CE hb.small.fits,HO hb,aG]
  exact .bind (aXL h2 (by have:=aIQ hb;omega)) fun x4 ⟨hx,_⟩=>.ret hx
theorem aNW{code:List UInt8}(hl:code.length≤1048576):fA (rQ code) tK:=by
  unfold rQ
  exact .bind (aW7 hl) fun x1 h1=>.bind (aRV h1) fun x2 ⟨h2,_⟩=>.ret h2
theorem aR4{code:List UInt8}(hl:code.length≤1048576):fA (uE code) gZ:=by
  unfold uE
  exact .bind (aW7 hl) fun x1 h1=>.bind (aMG h1) fun x2 ⟨h2,_⟩=>.ret h2
theorem aKM{code:List UInt8}(_:fit code):OU code=some true:=by
  unfold OU Z0
  rw [aG]
  by_cases hcl:1048576 < (code.length:Int)
  · rw [if_pos (by simpa using hcl)]
  rw [if_neg (by simpa using hcl)]
  obtain⟨b,eb,hs⟩:=aNW (code:=code) (by omega)
  obtain⟨m,em,hm⟩:=aR4 (code:=code) (by omega)
  obtain⟨t,et,ht⟩:=aNV (code:=code) (by omega)
  obtain⟨a,ea,ha⟩:=aY6 (code:=code) (by omega) (i:=0) (by omega)
  have mf:m.aB.Bytes.length≤maxLen∧(cK m.aA).length≤1073741824:=by have:=hm.1;have:=hm.2.2.2.2;simp only [maxLen];omega
  obtain⟨y,g,r1,r2,r3,r4⟩:=WS (s:=t) (by omega)
  rw [eb,aG,uU hs.fits,aG]
  have j3:∀(x4:aE×Bool),(x4.2=true→x4.1=b∧eN b)→oP code x4 false b x4.1=some true:=fun x4 hx=>by
    unfold oP
    rw [if_neg (by simp)]
    cases q:x4.2
    · rw [rX,if_pos rfl]
    · obtain⟨e,hb⟩:=hx q
      have hw:0≤(1:Int)∧(1:Int)≤2:=by omega
      rw [dU,if_neg (by simp),ea,aG]
      unfold OT
      rw [aG,e,aKA hs,aG]
      simp only [G0]
      rw [ea,aG,aJ8 hs,aG]
      have ok:=aJ9 hb 1 ⟨aV (1+Int.tmod a 5),9,0,0,0,0,0,0,0,false⟩
      simp only [GZ,decide_true,if_true]
      rw [RU ok.small,aG];rfl
  have j2:∀(x4:aE×Bool),(x4.2=true→x4.1=b∧eN b)→oQ code x4 false b x4.1=some true:=fun x4 hx=>by
    unfold oQ
    rw [if_neg (by simp),et,aG,r2,aG,r1,aG]
    simp only [beq_self_eq_true,dU,bE,if_false]
    cases q:g
    · rw [if_neg (by simp)];exact j3 x4 hx
    · obtain⟨k1,k2⟩:=r4 q
      rw [if_pos rfl,uU r3.fits,HO k1,k2,aG]
      simp only [beq_self_eq_true,dU]
      exact j3 x4 hx
  have j1:∀(x4:aE×Bool),(x4.2=true→x4.1=b∧eN b)→kX code x4 false b x4.1=some true:=fun x4 hx=>by
    unfold kX
    rw [if_neg (by simp),em,aG,ET mf.1 mf.2,aG]
    by_cases ho:i3 m
    · have back:=UK ho
      rw [aCQ ho,back,aG,rH mf.1 mf.2,bD ho,aG]
      simp only [beq_self_eq_true,dU,bE,if_false,if_true]
      rw [UC hm,aG,dU]
      exact j2 x4 hx
    · obtain⟨n,f,q2,q4⟩:=aKL (s:=[]) (by simp)
      have hf:f=false:=by
        cases q:f
        · rfl
        · obtain⟨k1,k2⟩:=q4 q
          exact absurd k2 (aIR k1)
      have e0:SH m=[]:=by unfold SH;rw [if_neg ho]
      rw [e0,q2,aG,rH mf.1 mf.2,bN ho,aG,hf]
      simp only [beq_self_eq_true,dU,bE,if_false]
      exact j2 x4 hx
  by_cases hb:eN b
  · rw [HO hb,UL hb,aG,iX hs.fits,bD hb,aG]
    have ne:(A5 b == [])=false:=by simpa using aIS hb
    simp only [beq_self_eq_true,dU,bE,if_false,if_true]
    rw [RU hs,aG,dU,if_neg (by simp),ne]
    exact j1 (b,true) fun _=>⟨rfl,hb⟩
  · obtain⟨n,f,q1,q2,q3,q4⟩:=WS (s:=[]) (by simp)
    have hf:f=false:=by
      cases q:f
      · rfl
      · obtain⟨k1,k2⟩:=q4 q
        exact absurd k2 (aIS k1)
    have e0:JU b=[]:=by unfold JU;rw [if_neg hb]
    rw [e0,q2,aG,iX hs.fits,bN hb,aG,hf]
    simp only [beq_self_eq_true,dU,bE,if_false]
    exact j1 (n,false) fun e=>by cases e
end Go.Gv
end
