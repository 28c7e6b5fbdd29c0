import Derived.Test.YtmaknhppafajdaaGreatXLE
set_option linter.unusedVariables false
set_option linter.unusedSimpArgs false
set_option linter.unusedSectionVars false
set_option linter.constructorNameAsVariable false
set_option linter.unnecessarySimpa false
noncomputable section
namespace Go.Gv
def aXK:aE:=⟨List.replicate 384 0,[-1,-1,-1,-1,-1,-1]⟩
def a4B:aD:=⟨List.replicate 3 ⟨[]⟩,List.replicate 9 ⟨[]⟩⟩
def aGA:aA:=⟨⟨aXK,a4B⟩,⟨0,List.replicate 3 ⟨false,0,false,0⟩⟩,List.replicate 3 ⟨[]⟩,List.replicate 3 0⟩
theorem aB7:JD=some aXK:=by
  unfold JD
  have key:loop tT (0,[])=some (List.replicate 6 (-1)):=iQ (f:=tT) 6 (fun k=>((k:Int),List.replicate k (-1))) _ (fun k hk=>by
    simp only [tT]
    rw [if_pos (by simp;omega),aQ (by simp;omega),aN (by omega) (by omega),List.replicate_succ'];rfl) (by simp [tT])
  rw [aQ (by omega),key];rfl
theorem a4C:vC [-1] 6=some [-1,-1,-1,-1,-1,-1]:=by
  unfold vC
  rw [if_neg (by simp),show uG (IntKind.u64.wrap (([-1]:List Int).length:Int)) (IntKind.u64.wrap 6)=some (0,6) by kernel_rfl]
  simp only [aG]
  rw [if_neg (by simp),bP (by omega)]
  simp only [pH,aP,if_false]
  rw [show IntKind.i64.wrap 6=6 from wrap_i64 (by omega) (by omega),aQ (by omega),
    show(dQ (List.replicate (Int.toNat 6) 0) 0 [-1],((min ([-1]:List Int).length ((List.replicate (Int.toNat 6) (0:Int)).length - 0):Nat):Int))=([-1,0,0,0,0,0],1) by kernel_rfl,
    bV (body:=lB) (s':=([-1,-1,0,0,0,0],2)) (by kernel_rfl),bV (body:=lB) (s':=([-1,-1,-1,-1,0,0],4)) (by kernel_rfl),
    bV (body:=lB) (s':=([-1,-1,-1,-1,-1,-1],6)) (by kernel_rfl),bU (body:=lB) (r:=[-1,-1,-1,-1,-1,-1]) (by kernel_rfl)]
  rfl
theorem aB8:I2=some aXK:=by
  unfold I2
  rw [aQ (by omega),a4C];rfl
theorem aGB:JG=some aGA∧I3=some aGA:=by
  unfold JG I3 S3 SR M4 MZ M7 M0 M8 M1 S7 SS
  rw [aB7,aB8,aQ (by omega),aQ (by omega),aQ (by omega),aQ (by omega),aQ (by omega)]
  exact⟨rfl,rfl⟩
theorem aXL:mR aGA:=of_decide_eq_true (by kernel_rfl)
def MI:aB:=⟨⟨⟨⟨[],[]⟩,⟨[],[]⟩⟩,⟨0,[]⟩,[],[]⟩,[],[],[],[],0⟩
def dD(t:List Queue):aB:=⟨aGA,List.replicate 2 0,List.replicate 3 kD,t,[],0⟩
theorem UW{t:List Queue}(h:ES t):mY (dD t):=
  ⟨aXL,rfl,rfl,h,by simp [dD],fun q hq=>by simp [dD] at hq;exact .inl hq,fun j hj=>by simp [dD] at hj;exact(TW (by rw [hj];rfl)).2 hj⟩
theorem ZY{l:List Queue}(hl:l.length≤1048576)(hq:∀q∈l,q.fM.length≤1048576):D5 l=some l∧zP l=some l:=by
  constructor
  · unfold D5
    rw [X9 l]
    · rfl
    · intro k hk
      have:=hq _ (List.getElem_mem hk)
      simp only [D4]
      rw [if_pos (by simp;omega),aV hk]
      simp only [aG]
      rw [aQ (by simp;omega),aQ (by simp;omega),aN (by omega) (by omega)];rfl
    · simp [D4]
  · unfold zP
    rw [X9 l]
    · rfl
    · intro k hk
      have:=hq _ (List.getElem_mem hk)
      simp only [FC]
      rw [if_pos (by simp;omega),aV hk]
      simp only [aG,HR]
      rw [aQ (by simp;omega),aG,aQ (by simp;omega),aN (by omega) (by omega)];rfl
    · simp [FC]
theorem CM{t:List Queue}(hl:t.length≤1048576)(hq:∀q∈t,q.fM.length≤1048576):GO t=some (if ES t then dD t else MI)∧pW t=some (if ES t then dD t else MI):=by
  have hm:t.length≤maxLen:=by simp only [maxLen];omega
  unfold GO pW
  rw [YH hm,YI hm (fun q h=>by have:=hq q h;simp only [maxLen];omega)]
  simp only [aG]
  by_cases h:ES t
  · simp only [bA h,dT,aP,if_false,if_pos h,aGB.1,aGB.2,aG,(ZY hl hq).1,(ZY hl hq).2]
    rw [aQ (by omega),aQ (by omega),aQ (by omega),aQ (by omega)]
    exact⟨rfl,rfl⟩
  · simp only [bP h,iF,if_true,if_neg h]
    exact⟨rfl,rfl⟩
end Go.Gv
end
noncomputable section
namespace Go.Gv
def JM(s:aB):Prop:=NO s.aA∧s.Cells.length≤1048576∧s.aT.length≤1048576∧s.aZ.length≤1048576∧(∀q∈s.aZ,q.fM.length≤1048576)∧s.Log.length≤1048576
theorem JM.fits{s:aB}(h:JM s):s.aA.Mem.aE.Bytes.length≤maxLen∧(dM s.aA.Mem.aD).length≤1073741824∧s.aA.aC.cK.length≤maxLen∧s.aA.aM.length≤maxLen∧(bH s.aA.aM).length≤1073741824∧s.aA.mP.length≤maxLen:=by
  obtain⟨⟨⟨a1,a2,a3,a4,a5⟩,b1,b2,b3,b4⟩,_⟩:=h
  simp only [maxLen];omega
theorem aLJ{s:aB}(h:JM s):sL s=some (decide (mY s)):=aB5 h.fits (by have:=h.2.2.2.1;simp only [maxLen];omega)
theorem YK{s:aB}(h:JM s):pC s=some (decide (mY s)):=
  have hM:∀{n:Nat},n≤1048576→n≤maxLen:=fun h=>by simp only [maxLen];omega
  aB6 h.fits (hM h.2.2.2.1) (fun q hq=>hM (h.2.2.2.2.1 q hq)) (hM h.2.1) (hM h.2.2.1)
theorem GX{s:aB}(h:JM s):qT s=some s:=by
  obtain⟨hb,c1,c2,c3,c4,c5⟩:=h
  have n1:∀{β:Type} (k:Option β),need (([]:List bD).length+s.aT.length≤1073741824) k=k:=fun k=>aQ (by simp only [List.length_nil];omega) k
  have n2:∀{β:Type} (k:Option β),need (([]:List Ev).length+s.Log.length≤1073741824) k=k:=fun k=>aQ (by simp only [List.length_nil];omega) k
  unfold qT FD HT
  simp only [aLA hb,pN (show s.Cells.length≤1073741824 by omega),(ZY c3 c4).2,aG,n1,n2,List.nil_append]
theorem CN{s:aB}(h:mY s)(hl:s.Log.length≤1000000):JM s:=by
  have ht:=h.2.2.2.1
  exact⟨h.1.small,by have:=h.2.1;omega,by have:=h.2.2.1;omega,by have:=ht.1;omega,fun q hq=>by have:=(ht.2 q hq).1;omega,by omega⟩
end Go.Gv
end
noncomputable section
namespace Go.Gv
def xD(m:Mem)(h n:Int):Mem×Int:=if g9 m h then (⟨⟨EO m.aE.Bytes ((eJ (h % 32) (aX m.aE (h % 32))).toNat+4) n,m.aE.Class⟩,m.aD⟩,0) else (m,4)
theorem aXM{h:aE}{s:Int}(hcl:0≤aX h s):(eJ s (aX h s)).toNat+8≤384∧8≤gW (aX h s)∧gW (aX h s)≤40:=by
  have hc2:0≤aX h s∧aX h s≤2:=by
    obtain⟨_,q,e⟩:=qO hcl
    rw [e];exact hY.1 (by omega)
  have hz:8≤gW (aX h s)∧gW (aX h s)≤40:=by rcases fY hc2 with e | e | e <;> rw [e] <;> decide
  obtain⟨p,i,p6,hi,es,ec,eo,ep⟩:=tY hcl
  refine⟨?_,hz⟩
  rw [eo]
  have hcl':0≤bZ h p∧bZ h p≤2:=by rw [←ec];exact hc2
  generalize bZ h p=c at hi hcl'
  rcases fY hcl' with rfl | rfl | rfl
  · rw [show(b9 0).toNat=4 from rfl] at hi;rw [show(aU 0).toNat=12 from rfl];omega
  · rw [show(b9 1).toNat=2 from rfl] at hi;rw [show(aU 1).toNat=20 from rfl];omega
  · rw [show(b9 2).toNat=1 from rfl] at hi;rw [show(aU 2).toNat=44 from rfl];omega
theorem aTL{m:Mem}(hm:mW m){h n:Int}(hn:0≤n∧n≤65535):DW m h 0 4 n=some (xD m h n):=by
  obtain⟨hcnt,h3,h9,h1,h2,hsm,hcp,hlo,hsG,hsO⟩:=mW.facts hm
  have hs:=hm.1.1.1
  have hbl:m.aE.Bytes.length≤maxLen:=by rw [h1];simp [maxLen]
  have hall:(dM m.aD).length≤1073741824:=by omega
  have hg:m.aD.Global.length≤maxLen:=by rw [h3];simp [maxLen]
  have ho:m.aD.cT.length≤maxLen:=by rw [h9];simp [maxLen]
  unfold DW S2 xD
  rw [aAL hsm,NM hbl hall,bA hm,cE]
  simp only [aG,dT,aP,if_false,DV,show(decide ((1:Int)≤4∧(4:Int)≤7))=true from rfl,oT hs hall hg ho]
  by_cases hv:g9 m h
  · have hh:=hv.1
    have hcl:=iA hv.2.1
    have hgo:=GU hcl
    obtain⟨hroom,hz⟩:=aXM hcl
    simp only [bA hv,dT,aP,if_false,if_pos hv,dR,if_pos hh,aG,i9 hs,rP,cE]
    rw [aN (x:=gW (aX m.aE (h % 32)) - 1) (by omega) (by omega),bA (show(0:Int)≤0∧(0:Int)≤gW (aX m.aE (h % 32)) - 1 by omega),aN (x:=gW (aX m.aE (h % 32)) - 0) (by omega) (by omega),bP (show ¬gW (aX m.aE (h % 32)) - 0 < 4 by omega)]
    simp only [dT,aP,if_false,DU,(start_eq hs hcl).1,aG]
    rw [aN (x:=eJ (h % 32) (aX m.aE (h % 32))+4+0) (by omega) (by omega),Int.add_zero]
    have eo':eJ (h % 32) (aX m.aE (h % 32))+4=(((eJ (h % 32) (aX m.aE (h % 32))).toNat+4:Nat):Int):=by omega
    obtain⟨t,ht1,ht2⟩:=aAN hn
    rw [eo']
    simp only [aG,aP,if_false,bne_self_eq_false,ht1,ht2]
    rw [ZW (by omega) (by omega) ⟨hn.1,by omega⟩];rfl
  · simp only [bP hv,iF,if_true,aG,show((4:Int) != 0)=true from rfl,if_neg hv]
def ZZ(h:aE)(x:Int):Int:=if j7 x∧0≤aX h (x % 32) then ld h.Bytes ((eJ (x % 32) (aX h (x % 32))).toNat+4) 4 else 0
theorem aLK{s:aB}(hm:mW s.aA.Mem)(j:bD):pK s j=some (ZZ s.aA.Mem.aE j.H):=by
  have hs:=hm.1.1.1
  have h1:=hs.1
  unfold pK MF ZZ
  generalize j.H=h
  rw [eM,cE]
  simp only [aG,D6,show(decide ((1:Int)≤4∧(4:Int)≤7))=true from rfl,dT,aP,if_false]
  by_cases hh:j7 h
  · simp only [bA hh,dT,aP,if_false,dR,if_pos hh,aG,i9 hs]
    by_cases hcl:aX s.aA.Mem.aE (h % 32) < 0
    · simp only [bA hcl,if_true,nI,aG,if_neg (show ¬(j7 h∧0≤aX s.aA.Mem.aE (h % 32)) by omega)]
    · have hcl':0≤aX s.aA.Mem.aE (h % 32):=by omega
      have hgo:=GU hcl'
      obtain⟨hroom,hz⟩:=aXM hcl'
      simp only [bP hcl,aP,if_false,rP,cE,aG,if_pos (show j7 h∧0≤aX s.aA.Mem.aE (h % 32) from ⟨hh,hcl'⟩)]
      rw [aN (x:=gW (aX s.aA.Mem.aE (h % 32)) - 1) (by omega) (by omega),bA (show(0:Int)≤0∧(0:Int)≤gW (aX s.aA.Mem.aE (h % 32)) - 1 by omega),aN (x:=gW (aX s.aA.Mem.aE (h % 32)) - 0) (by omega) (by omega),bP (show ¬gW (aX s.aA.Mem.aE (h % 32)) - 0 < 4 by omega)]
      simp only [dT,aP,if_false,nI,dR,if_pos hh,(start_eq hs hcl').1,aG]
      rw [aN (x:=eJ (h % 32) (aX s.aA.Mem.aE (h % 32))+4+0) (by omega) (by omega),Int.add_zero]
      have eo':eJ (h % 32) (aX s.aA.Mem.aE (h % 32))+4=(((eJ (h % 32) (aX s.aA.Mem.aE (h % 32))).toNat+4:Nat):Int):=by omega
      rw [eo',show(4:Int)=((4:Nat):Int) from rfl,EH hs.2.2.1 (by omega) (by omega) (by omega)];rfl
  · simp only [bP hh,iF,if_true,aG,if_neg (show ¬(j7 h∧0≤aX s.aA.Mem.aE (h % 32)) from fun q=>hh q.1)]
def O8(z:List Int)(w h:Int):List Int:=if j7 h then z.set w.toNat h else z
theorem aNR{z:List Int}(hz:JJ z){w:Int}(hw:0≤w∧w≤2)(h:Int):∃t,D2 z w h=some (O8 z w h,t):=by
  have h3:=hz.1
  unfold D2 tW O8
  rw [FN (by omega),AT (by simp only [maxLen];omega),bA hz,cE,bA hw,eM]
  by_cases q:j7 h
  · simp only [bA q,O7 hz hw,aG,dT,aP,if_false,if_pos q];exact⟨_,rfl⟩
  · simp only [bP q,aG,dT,iF,aP,if_false,if_true,if_neg q];exact⟨_,rfl⟩
def Z0(z:List Int)(w:Int):List Int:=if rQ z w=0 then z else z.set w.toNat 0
theorem aTM{z:List Int}(hz:JJ z){w:Int}(hw:0≤w∧w≤2):∃t,KK z w=some (Z0 z w,t):=by
  have h3:=hz.1
  unfold KK AJ Z0
  rw [FN (by omega),AT (by simp only [maxLen];omega),bA hz,cE,bA hw,O7 hz hw]
  by_cases q:rQ z w=0
  · have q':(rQ z w == 0)=true:=by simpa using q
    simp only [q',aG,dT,aP,if_false,if_true,if_pos q,O7 hz hw];exact⟨_,rfl⟩
  · have q':(rQ z w == 0)=false:=by simpa using q
    simp only [q',aG,dT,aP,if_false,if_neg q,O7 hz hw];exact⟨_,rfl⟩
structure JR where
  b:aA
  c:List Int
  j:bD
  l:List Ev
def cC(j:bD)(pc code:Int):bD:={j with Pc:=pc,Code:=code}
def vO(kind a:Int):Sub:=⟨kind,a,0,0,0,0,0,0,0,false⟩
def cellAt(c:List Int)(k:Int):Int:=c.getD k.toNat 0
def gY(c:aC)(w:Int)(j:bD)(pc:Int):bD:=if (bS c w).On=true∧(bS c w).dJ=false then cC j pc 0 else cC {j with dK:=0} pc 6
noncomputable section
variable (s:aB) (w:Int) (j:bD)
def y9(h:Int):Ev:=⟨3,w,j.aI,j.Op.Cell,h,0,0⟩
def EW:JR:=
  if j.Pc=0 then
    if (d7 s.aA w j.Sub).2.cW then
      if (d7 s.aA w j.Sub).2.Code≠0 then ⟨(d7 s.aA w j.Sub).1,s.Cells,cC {j with Sub:=(d7 s.aA w j.Sub).2} 9 (d7 s.aA w j.Sub).2.Code,[]⟩
      else if j7 (d7 s.aA w j.Sub).2.Out then ⟨(d7 s.aA w j.Sub).1,s.Cells,cC {j with Sub:=(d7 s.aA w j.Sub).2,H:=(d7 s.aA w j.Sub).2.Out} 1 0,[]⟩
      else ⟨(d7 s.aA w j.Sub).1,s.Cells,cC {j with Sub:=(d7 s.aA w j.Sub).2} 9 1,[]⟩
    else ⟨(d7 s.aA w j.Sub).1,s.Cells,{j with Sub:=(d7 s.aA w j.Sub).2},[]⟩
  else if j.Pc=1 then ⟨{s.aA with Mem:=(xD s.aA.Mem j.H j.Op.dK).1},s.Cells,if (xD s.aA.Mem j.H j.Op.dK).2=0 then cC j 2 0 else cC j 9 (xD s.aA.Mem j.H j.Op.dK).2,[]⟩
  else if j.Pc=2 then ⟨s.aA,s.Cells.set j.Op.Cell.toNat j.H,if cellAt s.Cells j.Op.Cell=0 then cC {j with Old:=0} 9 0 else cC {j with Sub:=vO 2 (cellAt s.Cells j.Op.Cell),Old:=cellAt s.Cells j.Op.Cell} 3 0,[⟨2,w,j.aI,j.Op.Cell,j.H,j.Op.dK,0⟩]⟩
  else if j.Pc=3 then ⟨(d7 s.aA w j.Sub).1,s.Cells,if (d7 s.aA w j.Sub).2.cW then cC {j with Sub:=(d7 s.aA w j.Sub).2} 9 (d7 s.aA w j.Sub).2.Code else {j with Sub:=(d7 s.aA w j.Sub).2},[]⟩
  else ⟨s.aA,s.Cells,cC j 9 1,[]⟩
def NR:JR:=
  if j.Pc=0 then ⟨(d7 s.aA w j.Sub).1,s.Cells,if (d7 s.aA w j.Sub).2.cW then cC {j with Sub:=(d7 s.aA w j.Sub).2} 1 0 else {j with Sub:=(d7 s.aA w j.Sub).2},[]⟩
  else if j.Pc=1 then ⟨s.aA,s.Cells,if cellAt s.Cells j.Op.Cell=0 then cC {j with H:=0} 4 8 else cC {j with H:=cellAt s.Cells j.Op.Cell} 2 0,[y9 w j (cellAt s.Cells j.Op.Cell)]⟩
  else if j.Pc=2 then ⟨s.aA,s.Cells,cC {j with dK:=ZZ s.aA.Mem.aE j.H} 3 0,[]⟩
  else if j.Pc=3 then ⟨s.aA,s.Cells,gY s.aA.aC w j 4,[]⟩
  else if j.Pc=4 then ⟨{s.aA with aC:=(zH s.aA.aC w).1},s.Cells,cC j 9 j.Code,[]⟩
  else ⟨s.aA,s.Cells,cC j 9 1,[]⟩
def R3:JR:=
  if j.Pc=0 then if cellAt s.Cells j.Op.Cell=0 then ⟨s.aA,s.Cells,cC {j with H:=0} 4 8,[y9 w j 0]⟩ else ⟨s.aA,s.Cells,cC {j with H:=cellAt s.Cells j.Op.Cell} 1 0,[]⟩
  else if j.Pc=1 then ⟨{s.aA with mP:=O8 s.aA.mP w j.H},s.Cells,cC j 2 0,[]⟩
  else if j.Pc=2 then if cellAt s.Cells j.Op.Cell=j.H then ⟨s.aA,s.Cells,cC j 3 0,[y9 w j j.H]⟩ else ⟨s.aA,s.Cells,cC j 0 0,[]⟩
  else if j.Pc=3 then ⟨s.aA,s.Cells,cC {j with dK:=ZZ s.aA.Mem.aE j.H} 4 0,[]⟩
  else if j.Pc=4 then ⟨{s.aA with mP:=Z0 s.aA.mP w},s.Cells,cC j 9 j.Code,[]⟩
  else ⟨s.aA,s.Cells,cC j 9 1,[]⟩
def IE:JR:=
  if j.Pc=0 then
    if (bS s.aA.aC w).On=false then ⟨s.aA,s.Cells,cC j 9 5,[]⟩
    else if (bS s.aA.aC w).dJ=true then ⟨s.aA,s.Cells,cC j 9 6,[]⟩
    else ⟨s.aA,s.Cells,if cellAt s.Cells j.Op.Cell=0 then cC {j with H:=0} 9 8 else cC {j with H:=cellAt s.Cells j.Op.Cell} 1 0,[y9 w j (cellAt s.Cells j.Op.Cell)]⟩
  else if j.Pc=1 then ⟨s.aA,s.Cells,cC {j with dK:=ZZ s.aA.Mem.aE j.H} 2 0,[]⟩
  else if j.Pc=2 then ⟨s.aA,s.Cells,gY s.aA.aC w j 9,[]⟩
  else ⟨s.aA,s.Cells,cC j 9 1,[]⟩
def uU:JR:=
  if j.Op.Kind=6 then
    if j.Pc=0 then ⟨{s.aA with aC:=(zH s.aA.aC w).1},s.Cells,cC j 9 (if (zH s.aA.aC w).2 then 0 else 5),[]⟩
    else ⟨s.aA,s.Cells,cC j 9 1,[]⟩
  else if j.Pc=0∨j.Pc=1∧j.Op.Kind≠5 then
    ⟨(d7 s.aA w j.Sub).1, s.Cells, if (d7 s.aA w j.Sub).2.cW then
      if j.Op.Kind=5 then cC {j with Sub:=(d7 s.aA w j.Sub).2} 9 (d7 s.aA w j.Sub).2.Code
      else if j.Pc=0 then cC {j with Sub:=vO 4 0} 1 0
      else cC {j with Sub:=(d7 s.aA w j.Sub).2,dK:=(d7 s.aA w j.Sub).2.Out} 9 (d7 s.aA w j.Sub).2.Code
      else {j with Sub:=(d7 s.aA w j.Sub).2},[]⟩
  else ⟨s.aA,s.Cells,cC j 9 1,[]⟩
def tZ:JR:=if j.Op.Kind=1 then EW s w j else if j.Op.Kind=2 then NR s w j else if j.Op.Kind=3 then R3 s w j else if j.Op.Kind=7 then IE s w j else uU s w j
end
def kV(s:aB)(w:Int)(r:JR):aB:=⟨r.b,r.c,s.aT.set w.toNat r.j,s.aZ,s.Log++r.l,s.aI⟩
def dN(t:List Queue)(w:Int):List bK:=(t.getD w.toNat ⟨[]⟩).fM
def aK(s:aB)(w:Int):bD:=s.aT.getD w.toNat kD
def iJ(c:aC)(w:Int)(o:bK)(ser:Int):bD:=
  if o.Kind=1 then ⟨true,o,ser,0,vO 1 o.gP,0,0,0,0⟩
  else if o.Kind=2∨o.Kind=5 then if (bS c w).On then ⟨true,o,ser,9,vO 5 0,0,0,0,1⟩ else ⟨true,o,ser,0,vO 5 0,0,0,0,0⟩
  else if o.Kind=4 then ⟨true,o,ser,0,vO 3 0,0,0,0,0⟩
  else ⟨true,o,ser,0,⟨0,0,0,0,0,0,0,0,0,false⟩,0,0,0,0⟩
def NS(s:aB)(w:Int):aB:=match dN s.aZ w with
  | []=>s
  | o :: r => if s.aI = 1000000 then s else
    ⟨s.aA,s.Cells,s.aT.set w.toNat (iJ s.aA.aC w o (s.aI+1)),s.aZ.set w.toNat ⟨r⟩,s.Log ++ [⟨1,w,s.aI+1,o.Cell,0,0,0⟩],s.aI+1⟩
def zA(w:Int)(j:bD):Ev:=⟨4,w,j.aI,j.Op.Cell,j.H,j.dK,j.Code⟩
def iO(s:aB)(w:Int):aB:=
  if (aK s w).cY=false then NS s w
  else if (aK s w).Pc=9 then ⟨s.aA,s.Cells,s.aT.set w.toNat kD,s.aZ,s.Log ++ [zA w (aK s w)],s.aI⟩
  else kV s w (tZ s w (aK s w))
noncomputable section
variable {s:aB} (hs:mY s) (hl:s.Log.length≤1000000000) {w:Int} (hw:0≤w∧w≤2) {j:bD} (hjo:jY j.Op∧dC j.H∧dC j.Old)
include hs
theorem uN(hw:0≤w∧w≤2):idx s.aT w=some (aK s w):=by
  have:=hs.2.2.1
  rw [fL hw.1 (by omega)]
  simp [aK,List.getD_eq_getElem?_getD,List.getElem?_eq_getElem (show w.toNat < s.aT.length by omega)]
theorem QG{k:Int}(hk:0≤k∧k≤1):idx s.Cells k=some (cellAt s.Cells k):=by
  have:=hs.2.1
  rw [fL hk.1 (by omega)]
  simp [cellAt,List.getD_eq_getElem?_getD,List.getElem?_eq_getElem (show k.toNat < s.Cells.length by omega)]
include hw
theorem aNS(x:aB)(hx:x.aT=s.aT)(j:bD):cZ w x j=some {x with aT:=x.aT.set w.toNat j}:=by
  unfold cZ
  rw [hx,uN hs hw,aG]
include hl hjo
theorem a0V(hk:j.Op.Kind=1):((HH s w j).bind fun q=>cZ w q.1 q.2)=some (kV s w (EW s w j)):=by
  have hn:∀(e:Ev) {α:Type} (k:Option α),need (s.Log.length + [e].length≤1073741824) k=k:=fun e _ k=>aQ (by simp;omega) k
  have hcell:=QG hs hjo.1.2.2.1
  have hval:0≤j.Op.dK∧j.Op.dK≤65535:=by have:=hjo.1.2.2.2;rw [if_pos hk] at this;exact this.2
  have hj:=fun x hx j=>aNS hs hw x hx j
  unfold HH EW
  simp only [aLI hs.1 hw,aTL hs.1.1.1 hval,hcell,aG,bI,hU,hn]
  by_cases p0:j.Pc=0
  · have p0':(j.Pc == 0)=true:=by simpa using p0
    simp only [p0',if_true,if_pos p0]
    cases hd:(d7 s.aA w j.Sub).2.cW with
    | false=>simp only [iF,if_true,aP,if_false,aG];refine(hj _ ?_ _).trans ?_;rfl;simp [kV]
    | true =>
      simp only [dT,aP,if_false,if_true]
      by_cases c0:(d7 s.aA w j.Sub).2.Code=0
      · have c0':((d7 s.aA w j.Sub).2.Code != 0)=false:=by simpa using c0
        simp only [c0',aP,if_false,if_neg (show ¬(d7 s.aA w j.Sub).2.Code≠0 from fun h=>h c0),eM,aG]
        by_cases o0:j7 (d7 s.aA w j.Sub).2.Out
        · simp only [bA o0,dT,aP,if_false,if_pos o0,aG];refine(hj _ ?_ _).trans ?_;rfl;simp [kV,cC]
        · simp only [bP o0,iF,if_true,if_neg o0,aG];refine(hj _ ?_ _).trans ?_;rfl;simp [kV,cC]
      · have c0':((d7 s.aA w j.Sub).2.Code != 0)=true:=by simpa using c0
        simp only [c0',if_true,if_pos (show(d7 s.aA w j.Sub).2.Code≠0 from c0),aG];refine(hj _ ?_ _).trans ?_;rfl;simp [kV,cC]
  have p0':(j.Pc == 0)=false:=by simpa using p0
  simp only [p0',aP,if_false,if_neg p0]
  by_cases p1:j.Pc=1
  · have p1':(j.Pc == 1)=true:=by simpa using p1
    simp only [p1',if_true,if_pos p1]
    by_cases c0:(xD s.aA.Mem j.H j.Op.dK).2=0
    · have c0':((xD s.aA.Mem j.H j.Op.dK).2 != 0)=false:=by simpa using c0
      simp only [c0',aP,if_false,if_pos c0,aG];refine(hj _ ?_ _).trans ?_;rfl;simp [kV,cC]
    · have c0':((xD s.aA.Mem j.H j.Op.dK).2 != 0)=true:=by simpa using c0
      simp only [c0',if_true,if_neg c0,aG];refine(hj _ ?_ _).trans ?_;rfl;simp [kV,cC]
  have p1':(j.Pc == 1)=false:=by simpa using p1
  simp only [p1',aP,if_false,if_neg p1]
  by_cases p2:j.Pc=2
  · have p2':(j.Pc == 2)=true:=by simpa using p2
    simp only [p2',if_true,if_pos p2]
    by_cases c0:cellAt s.Cells j.Op.Cell=0
    · have c0':(cellAt s.Cells j.Op.Cell == 0)=true:=by simpa using c0
      simp only [c0',if_true,if_pos c0,aG];refine(hj _ ?_ _).trans ?_;rfl;simp [kV,cC,c0]
    · have c0':(cellAt s.Cells j.Op.Cell == 0)=false:=by simpa using c0
      simp only [c0',aP,if_false,if_neg c0,aG];refine(hj _ ?_ _).trans ?_;rfl;simp [kV,cC,vO]
  have p2':(j.Pc == 2)=false:=by simpa using p2
  simp only [p2',aP,if_false,if_neg p2]
  by_cases p3:j.Pc=3
  · have p3':(j.Pc == 3)=true:=by simpa using p3
    simp only [p3',if_true,if_pos p3]
    cases hd:(d7 s.aA w j.Sub).2.cW with
    | false=>simp only [iF,if_true,aP,if_false,aG];refine(hj _ ?_ _).trans ?_;rfl;simp [kV]
    | true=>simp only [dT,aP,if_false,if_true,aG];refine(hj _ ?_ _).trans ?_;rfl;simp [kV,cC]
  have p3':(j.Pc == 3)=false:=by simpa using p3
  simp only [p3',aP,if_false,if_neg p3,aG];refine(hj _ ?_ _).trans ?_;rfl;simp [kV,cC]
theorem a0W:((HI s w j).bind fun q=>cZ w q.1 q.2)=some (kV s w (NR s w j)):=by
  have hn:∀(e:Ev) {α:Type} (k:Option α),need (s.Log.length + [e].length≤1073741824) k=k:=fun e _ k=>aQ (by simp;omega) k
  have hcell:=QG hs hjo.1.2.2.1
  have hj:=fun x hx j=>aNS hs hw x hx j
  unfold HI NR
  simp only [aLI hs.1 hw,hcell,aG,bI,jV,hn,aLK hs.1.1.1,aJU hs.1.1.2.1 hw,uI,uM hs.1.1.2.1 hw]
  by_cases p0:j.Pc=0
  · have p0':(j.Pc == 0)=true:=by simpa using p0
    simp only [p0',if_true,if_pos p0]
    cases hd:(d7 s.aA w j.Sub).2.cW with
    | false=>simp only [iF,if_true,aP,if_false,aG];refine(hj _ ?_ _).trans ?_;rfl;simp [kV]
    | true=>simp only [dT,aP,if_false,if_true,aG];refine(hj _ ?_ _).trans ?_;rfl;simp [kV,cC]
  have p0':(j.Pc == 0)=false:=by simpa using p0
  simp only [p0',aP,if_false,if_neg p0]
  by_cases p1:j.Pc=1
  · have p1':(j.Pc == 1)=true:=by simpa using p1
    simp only [p1',if_true,if_pos p1]
    by_cases c0:cellAt s.Cells j.Op.Cell=0
    · have c0':(cellAt s.Cells j.Op.Cell == 0)=true:=by simpa using c0
      simp only [c0',if_true,if_pos c0,aG];refine(hj _ ?_ _).trans ?_;rfl;simp [kV,cC,y9,c0]
    · have c0':(cellAt s.Cells j.Op.Cell == 0)=false:=by simpa using c0
      simp only [c0',aP,if_false,if_neg c0,aG];refine(hj _ ?_ _).trans ?_;rfl;simp [kV,cC,y9]
  have p1':(j.Pc == 1)=false:=by simpa using p1
  simp only [p1',aP,if_false,if_neg p1]
  by_cases p2:j.Pc=2
  · have p2':(j.Pc == 2)=true:=by simpa using p2
    simp only [p2',if_true,if_pos p2,aG];refine(hj _ ?_ _).trans ?_;rfl;simp [kV,cC]
  have p2':(j.Pc == 2)=false:=by simpa using p2
  simp only [p2',aP,if_false,if_neg p2]
  by_cases p3:j.Pc=3
  · have p3':(j.Pc == 3)=true:=by simpa using p3
    simp only [p3',if_true,if_pos p3,aG,m7,bI,gY]
    cases h1:(bS s.aA.aC w).On <;> cases h2:(bS s.aA.aC w).dJ <;> simp only [iF,dT,aP,if_false,if_true,aG,and_false,and_true,false_and,true_and,reduceCtorEq] <;> (refine(hj _ ?_ _).trans ?_;rfl;simp [kV,cC])
  have p3':(j.Pc == 3)=false:=by simpa using p3
  simp only [p3',aP,if_false,if_neg p3]
  by_cases p4:j.Pc=4
  · have p4':(j.Pc == 4)=true:=by simpa using p4
    simp only [p4',if_true,if_pos p4,aG];refine(hj _ ?_ _).trans ?_;rfl;simp [kV,cC]
  have p4':(j.Pc == 4)=false:=by simpa using p4
  simp only [p4',aP,if_false,if_neg p4,aG];refine(hj _ ?_ _).trans ?_;rfl;simp [kV,cC]
theorem a0X:((HJ s w j).bind fun q=>cZ w q.1 q.2)=some (kV s w (R3 s w j)):=by
  have hn:∀(e:Ev) {α:Type} (k:Option α),need (s.Log.length + [e].length≤1073741824) k=k:=fun e _ k=>aQ (by simp;omega) k
  have hcell:=QG hs hjo.1.2.2.1
  have hj:=fun x hx j=>aNS hs hw x hx j
  obtain⟨t1,e1⟩:=aNR hs.1.1.2.2.2 hw j.H
  obtain⟨t2,e2⟩:=aTM hs.1.1.2.2.2 hw
  unfold HJ R3
  simp only [hcell,aG,bI,jV,hn,aLK hs.1.1.1,e1,e2]
  by_cases p0:j.Pc=0
  · have p0':(j.Pc == 0)=true:=by simpa using p0
    simp only [p0',if_true,if_pos p0]
    by_cases c0:cellAt s.Cells j.Op.Cell=0
    · have c0':(cellAt s.Cells j.Op.Cell == 0)=true:=by simpa using c0
      simp only [c0',if_true,if_pos c0,aG];refine(hj _ ?_ _).trans ?_;rfl;simp [kV,cC,y9,c0]
    · have c0':(cellAt s.Cells j.Op.Cell == 0)=false:=by simpa using c0
      simp only [c0',aP,if_false,if_neg c0,aG];refine(hj _ ?_ _).trans ?_;rfl;simp [kV,cC]
  have p0':(j.Pc == 0)=false:=by simpa using p0
  simp only [p0',aP,if_false,if_neg p0]
  by_cases p1:j.Pc=1
  · have p1':(j.Pc == 1)=true:=by simpa using p1
    simp only [p1',if_true,if_pos p1,aG];refine(hj _ ?_ _).trans ?_;rfl;simp [kV,cC]
  have p1':(j.Pc == 1)=false:=by simpa using p1
  simp only [p1',aP,if_false,if_neg p1]
  by_cases p2:j.Pc=2
  · have p2':(j.Pc == 2)=true:=by simpa using p2
    simp only [p2',if_true,if_pos p2]
    by_cases c0:cellAt s.Cells j.Op.Cell=j.H
    · have c0':(cellAt s.Cells j.Op.Cell != j.H)=false:=by simpa using c0
      simp only [c0',aP,if_false,if_pos c0,aG];refine(hj _ ?_ _).trans ?_;rfl;simp [kV,cC,y9]
    · have c0':(cellAt s.Cells j.Op.Cell != j.H)=true:=by simpa using c0
      simp only [c0',if_true,if_neg c0,aG];refine(hj _ ?_ _).trans ?_;rfl;simp [kV,cC]
  have p2':(j.Pc == 2)=false:=by simpa using p2
  simp only [p2',aP,if_false,if_neg p2]
  by_cases p3:j.Pc=3
  · have p3':(j.Pc == 3)=true:=by simpa using p3
    simp only [p3',if_true,if_pos p3,aG];refine(hj _ ?_ _).trans ?_;rfl;simp [kV,cC]
  have p3':(j.Pc == 3)=false:=by simpa using p3
  simp only [p3',aP,if_false,if_neg p3]
  by_cases p4:j.Pc=4
  · have p4':(j.Pc == 4)=true:=by simpa using p4
    simp only [p4',if_true,if_pos p4,aG];refine(hj _ ?_ _).trans ?_;rfl;simp [kV,cC]
  have p4':(j.Pc == 4)=false:=by simpa using p4
  simp only [p4',aP,if_false,if_neg p4,aG];refine(hj _ ?_ _).trans ?_;rfl;simp [kV,cC]
theorem aXN:((D7 s w j).bind fun q=>cZ w q.1 q.2)=some (kV s w (IE s w j)):=by
  have hn:∀(e:Ev) {α:Type} (k:Option α),need (s.Log.length + [e].length≤1073741824) k=k:=fun e _ k=>aQ (by simp;omega) k
  have hcell:=QG hs hjo.1.2.2.1
  have hj:=fun x hx j=>aNS hs hw x hx j
  unfold D7 IE
  simp only [hcell,aG,bI,jV,hn,aLK hs.1.1.1,uI,uM hs.1.1.2.1 hw]
  by_cases p0:j.Pc=0
  · have p0':(j.Pc == 0)=true:=by simpa using p0
    simp only [p0',if_true,if_pos p0]
    cases h1:(bS s.aA.aC w).On with
    | false=>simp only [iF,if_true,aG];refine(hj _ ?_ _).trans ?_;rfl;simp [kV,cC]
    | true =>
      cases h2:(bS s.aA.aC w).dJ with
      | true=>simp only [dT,aP,if_false,if_true,aG,reduceCtorEq];refine(hj _ ?_ _).trans ?_;rfl;simp [kV,cC]
      | false =>
        simp only [dT,aP,if_false,reduceCtorEq]
        by_cases c0:cellAt s.Cells j.Op.Cell=0
        · have c0':(cellAt s.Cells j.Op.Cell == 0)=true:=by simpa using c0
          simp only [c0',if_true,if_pos c0,aG];refine(hj _ ?_ _).trans ?_;rfl;simp [kV,cC,y9,c0]
        · have c0':(cellAt s.Cells j.Op.Cell == 0)=false:=by simpa using c0
          simp only [c0',aP,if_false,if_neg c0,aG];refine(hj _ ?_ _).trans ?_;rfl;simp [kV,cC,y9]
  have p0':(j.Pc == 0)=false:=by simpa using p0
  simp only [p0',aP,if_false,if_neg p0]
  by_cases p1:j.Pc=1
  · have p1':(j.Pc == 1)=true:=by simpa using p1
    simp only [p1',if_true,if_pos p1,aG];refine(hj _ ?_ _).trans ?_;rfl;simp [kV,cC]
  have p1':(j.Pc == 1)=false:=by simpa using p1
  simp only [p1',aP,if_false,if_neg p1]
  by_cases p2:j.Pc=2
  · have p2':(j.Pc == 2)=true:=by simpa using p2
    simp only [p2',if_true,if_pos p2,aG,m7,bI,gY]
    cases h1:(bS s.aA.aC w).On <;> cases h2:(bS s.aA.aC w).dJ <;> simp only [iF,dT,aP,if_false,if_true,aG,and_false,and_true,false_and,true_and,reduceCtorEq] <;> (refine(hj _ ?_ _).trans ?_;rfl;simp [kV,cC])
  have p2':(j.Pc == 2)=false:=by simpa using p2
  simp only [p2',aP,if_false,if_neg p2,aG];refine(hj _ ?_ _).trans ?_;rfl;simp [kV,cC]
theorem aTN:((AM s w j).bind fun q=>cZ w q.1 q.2)=some (kV s w (uU s w j)):=by
  have hj:=fun x hx j=>aNS hs hw x hx j
  unfold AM uU yI
  simp only [aJU hs.1.1.2.1 hw,aG,bI]
  have step:j.Op.Kind≠6→(j.Pc=0∨j.Pc=1∧j.Op.Kind≠5)→((iH s w j false).bind fun q=>cZ w q.1 q.2)=some (kV s w ⟨(d7 s.aA w j.Sub).1,s.Cells,if (d7 s.aA w j.Sub).2.cW then if j.Op.Kind=5 then cC {j with Sub:=(d7 s.aA w j.Sub).2} 9 (d7 s.aA w j.Sub).2.Code else if j.Pc=0 then cC {j with Sub:=vO 4 0} 1 0 else cC {j with Sub:=(d7 s.aA w j.Sub).2,dK:=(d7 s.aA w j.Sub).2.Out} 9 (d7 s.aA w j.Sub).2.Code else {j with Sub:=(d7 s.aA w j.Sub).2},[]⟩):=fun k6 kp=>by
    unfold iH
    simp only [aP,if_false,aLI hs.1 hw,aG,bI,hU]
    cases hd:(d7 s.aA w j.Sub).2.cW with
    | false=>simp only [iF,if_true,aP,if_false,aG];refine(hj _ ?_ _).trans ?_;rfl;simp [kV]
    | true =>
      simp only [dT,aP,if_false,if_true]
      by_cases k5:j.Op.Kind=5
      · have k5':(j.Op.Kind == 5)=true:=by simpa using k5
        simp only [k5',if_true,if_pos k5,aG];refine(hj _ ?_ _).trans ?_;rfl;simp [kV,cC]
      · have k5':(j.Op.Kind == 5)=false:=by simpa using k5
        simp only [k5',aP,if_false,if_neg k5]
        by_cases p0:j.Pc=0
        · have p0':(j.Pc == 0)=true:=by simpa using p0
          simp only [p0',if_true,if_pos p0,aG];refine(hj _ ?_ _).trans ?_;rfl;simp [kV,cC,vO]
        · have p0':(j.Pc == 0)=false:=by simpa using p0
          simp only [p0',aP,if_false,if_neg p0,aG];refine(hj _ ?_ _).trans ?_;rfl;simp [kV,cC]
  have bad:((iH s w j true).bind fun q=>cZ w q.1 q.2)=some (kV s w ⟨s.aA,s.Cells,cC j 9 1,[]⟩):=by
    unfold iH
    simp only [if_true,bI,aG];refine(hj _ ?_ _).trans ?_;rfl;simp [kV,cC]
  by_cases k6:j.Op.Kind=6
  · have k6':(j.Op.Kind == 6)=true:=by simpa using k6
    simp only [k6',if_true,if_pos k6]
    by_cases p0:j.Pc=0
    · have p0':(j.Pc == 0)=true:=by simpa using p0
      simp only [p0',if_true,if_pos p0]
      cases h1:(zH s.aA.aC w).2 with
      | true=>simp only [dT,aP,if_false,if_true,aG];refine(hj _ ?_ _).trans ?_;rfl;simp [kV,cC]
      | false=>simp only [iF,aP,if_false,if_true,aG];refine(hj _ ?_ _).trans ?_;rfl;simp [kV,cC]
    · have p0':(j.Pc == 0)=false:=by simpa using p0
      simp only [p0',aP,if_false,if_neg p0]
      exact bad
  have k6':(j.Op.Kind == 6)=false:=by simpa using k6
  simp only [k6',aP,if_false,if_neg k6]
  by_cases p0:j.Pc=0
  · have p0':(j.Pc != 0)=false:=by simpa using p0
    have hc:j.Pc=0∨j.Pc=1∧j.Op.Kind≠5:=.inl p0
    simp only [p0',aP,if_false,if_pos hc]
    exact step k6 hc
  have p0':(j.Pc != 0)=true:=by simpa using p0
  simp only [p0',if_true]
  by_cases p1:j.Pc=1
  · have p1':(j.Pc != 1)=false:=by simpa using p1
    simp only [p1',aP,if_false]
    by_cases k5:j.Op.Kind=5
    · have k5':(j.Op.Kind == 5)=true:=by simpa using k5
      simp only [k5',if_neg (show ¬(j.Pc=0∨j.Pc=1∧j.Op.Kind≠5) from fun h=>h.elim p0 fun h=>h.2 k5)]
      exact bad
    · have k5':(j.Op.Kind == 5)=false:=by simpa using k5
      have hc:j.Pc=0∨j.Pc=1∧j.Op.Kind≠5:=.inr ⟨p1,k5⟩
      simp only [k5',if_pos hc]
      exact step k6 hc
  · have p1':(j.Pc != 1)=true:=by simpa using p1
    simp only [p1',if_true,if_neg (show ¬(j.Pc=0∨j.Pc=1∧j.Op.Kind≠5) from fun h=>h.elim p0 fun h=>p1 h.1)]
    exact bad
omit hjo
theorem aTO:AL s w=some (NS s w):=by
  have ht:=hs.2.2.2.1
  have hser:=hs.2.2.2.2.1
  have hn:∀(e:Ev) {α:Type} (k:Option α),need (s.Log.length + [e].length≤1073741824) k=k:=fun e _ k=>aQ (by simp;omega) k
  have hq:idx s.aZ w=some ⟨dN s.aZ w⟩:=by
    have:=ht.1
    rw [fL hw.1 (by omega)]
    simp [dN,List.getD_eq_getElem?_getD,List.getElem?_eq_getElem (show w.toNat < s.aZ.length by omega)]
  have ew:aY (s.aI+1)=s.aI+1:=aN (by omega) (by omega)
  have h12:(dN s.aZ w).length≤12:=by
    have h3:=ht.1
    rw [fL hw.1 (by omega)] at hq
    injection hq with hq
    have:=(ht.2 _ (List.getElem_mem (show w.toNat < s.aZ.length by omega))).1
    rw [hq] at this;exact this
  unfold AL NS
  rw [hq,aG]
  simp only [yH,hq,aG]
  cases ho:dN s.aZ w with
  | nil=>simp
  | cons o r =>
    rw [ho] at h12
    simp only [List.length_cons] at h12
    have l0:(((o :: r).length:Int) == 0)=false:=by simp;omega
    simp only [l0,aP,if_false]
    by_cases s0:s.aI=1000000
    · have s0':(s.aI == 1000000)=true:=by simpa using s0
      simp only [s0',if_true,if_pos s0]
    have s0':(s.aI == 1000000)=false:=by simpa using s0
    have hx:idx (o :: r) 0=some o:=rfl
    have etk:((o :: r).take (o :: r).length).drop (1:Int).toNat=r:=by rw [List.take_length];rfl
    simp only [s0',aP,if_false,if_neg s0,hx,aG,hU,ew]
    rw [aQ (by simp only [List.length_cons];omega)]
    have fin:∀jb:bD,fC s w ⟨o :: r⟩ o jb=some ⟨s.aA,s.Cells,s.aT.set w.toNat jb,s.aZ.set w.toNat ⟨r⟩,s.Log ++ [⟨1,w,s.aI+1,o.Cell,0,0,0⟩],s.aI+1⟩:=fun jb=>by
      simp only [fC,uN hs hw,aG,hn,etk,ew]
    unfold iJ
    by_cases k1:o.Kind=1
    · have k1':(o.Kind == 1)=true:=by simpa using k1
      simp only [k1',if_true,if_pos k1,fin];rfl
    have k1':(o.Kind == 1)=false:=by simpa using k1
    simp only [k1',aP,if_false,if_neg k1]
    have pin:∀z,z=true→jJ s w ⟨o :: r⟩ o z=some ⟨s.aA,s.Cells,s.aT.set w.toNat (if (bS s.aA.aC w).On then ⟨true,o,s.aI+1,9,vO 5 0,0,0,0,1⟩ else ⟨true,o,s.aI+1,0,vO 5 0,0,0,0,0⟩),s.aZ.set w.toNat ⟨r⟩,s.Log ++ [⟨1,w,s.aI+1,o.Cell,0,0,0⟩],s.aI+1⟩:=fun z hz=>by
      subst hz
      simp only [jJ,if_true,hU,uM hs.1.1.2.1 hw,aG,ew,fin]
      cases (bS s.aA.aC w).On <;> rfl
    by_cases k2:o.Kind=2
    · have k2':(o.Kind == 2)=true:=by simpa using k2
      simp only [k2',if_true,if_pos (show o.Kind=2∨o.Kind=5 from .inl k2)]
      exact pin true rfl
    have k2':(o.Kind == 2)=false:=by simpa using k2
    simp only [k2',aP,if_false]
    by_cases k5:o.Kind=5
    · have k5':(o.Kind == 5)=true:=by simpa using k5
      simp only [k5',if_pos (show o.Kind=2∨o.Kind=5 from .inr k5)]
      exact pin true rfl
    have k5':(o.Kind == 5)=false:=by simpa using k5
    simp only [k5',jJ,aP,if_false,if_neg (show ¬(o.Kind=2∨o.Kind=5) from fun h=>h.elim k2 k5),hU,aG,ew,fin]
    by_cases k4:o.Kind=4
    · have k4':(o.Kind == 4)=true:=by simpa using k4
      simp only [k4',if_true,if_pos k4];rfl
    · have k4':(o.Kind == 4)=false:=by simpa using k4
      simp only [k4',aP,if_false,if_neg k4]
theorem aXO:P2 s w=some (iO s w):=by
  have hn:∀(e:Ev) {α:Type} (k:Option α),need (s.Log.length + [e].length≤1073741824) k=k:=fun e _ k=>aQ (by simp;omega) k
  have hjk:JOk (aK s w):=by
    have h:=uN hs hw
    have h3:=hs.2.2.1
    rw [fL hw.1 (by omega)] at h
    injection h with h
    rw [←h];exact hs.2.2.2.2.2.2 _ (List.getElem_mem _)
  unfold P2 iO
  rw [uN hs hw,aG]
  cases hb:(aK s w).cY with
  | false=>simp only [iF,if_true,aTO hs hl hw,aG]
  | true =>
    have hjo:=(AV hb).1 hjk
    simp only [dT,aP,if_false,reduceCtorEq]
    by_cases p9:(aK s w).Pc=9
    · have p9':((aK s w).Pc == 9)=true:=by simpa using p9
      simp only [p9',if_true,if_pos p9,hn];rfl
    have p9':((aK s w).Pc == 9)=false:=by simpa using p9
    simp only [p9',aP,if_false,if_neg p9]
    unfold tZ
    by_cases k1:(aK s w).Op.Kind=1
    · have k1':((aK s w).Op.Kind == 1)=true:=by simpa using k1
      simp only [k1',if_true,if_pos k1];exact a0V hs hl hw hjo k1
    have k1':((aK s w).Op.Kind == 1)=false:=by simpa using k1
    simp only [k1',aP,if_false,if_neg k1]
    by_cases k2:(aK s w).Op.Kind=2
    · have k2':((aK s w).Op.Kind == 2)=true:=by simpa using k2
      simp only [k2',if_true,if_pos k2];exact a0W hs hl hw hjo
    have k2':((aK s w).Op.Kind == 2)=false:=by simpa using k2
    simp only [k2',aP,if_false,if_neg k2]
    by_cases k3:(aK s w).Op.Kind=3
    · have k3':((aK s w).Op.Kind == 3)=true:=by simpa using k3
      simp only [k3',if_true,if_pos k3];exact a0X hs hl hw hjo
    have k3':((aK s w).Op.Kind == 3)=false:=by simpa using k3
    simp only [k3',aP,if_false,if_neg k3]
    by_cases k7:(aK s w).Op.Kind=7
    · have k7':((aK s w).Op.Kind == 7)=true:=by simpa using k7
      simp only [k7',if_true,if_pos k7];exact aXN hs hl hw hjo
    have k7':((aK s w).Op.Kind == 7)=false:=by simpa using k7
    simp only [k7',aP,if_false,if_neg k7];exact aTN hs hl hw hjo
theorem K1:l4 s w=some (iO s w)∧mY (iO s w)∧(iO s w).Log.length≤s.Log.length+1:=by
  obtain⟨x,e1,e2,h1,h2⟩:=aLH hs hl hw
  rw [aXO hs hl hw] at e1
  injection e1 with e1
  rw [e1];exact⟨e2,h1,h2⟩
end
end Go.Gv
end
noncomputable section
namespace Go.Gv
def aXP(b:aA)(s:Int):Int:=if eQ b.Mem s=3 then (if E5 b.aM s then 3 else 4) else eQ b.Mem s
noncomputable section
variable {b:aA} (hb:mR b)
include hb
theorem mR.fits:b.Mem.aE.Bytes.length≤maxLen∧(dM b.Mem.aD).length≤1073741824∧b.aC.cK.length≤maxLen∧b.aM.length≤maxLen∧(bH b.aM).length≤1073741824∧b.mP.length≤maxLen:=by
  obtain⟨h1,h2,h3,h4,_⟩:=mW.facts hb.1.1
  have a:=hb.1.2.1.2.1;have c:=hb.1.2.2.1.1;have d:=hb.1.2.2.1.2.1;have e:=hb.1.2.2.2.1
  simp only [maxLen];omega
end
end Go.Gv
end
noncomputable section
namespace Go.Gv
def uV{α:Type}(o:Option α)(Q:α→Prop):Prop:=∃x,o=some x∧Q x
abbrev a2O{σ ρ:Type}(I:σ→Prop)(Q:ρ→Prop):Step σ ρ→Prop
  | .next s=>I s
  | .stop r=>Q r
namespace uV
variable {α β σ ρ:Type} {Q:α→Prop}
theorem ret{x:α}(h:Q x):uV (some x) Q:=⟨x,rfl,h⟩
theorem bind{P:β→Prop}{o:Option β}{f:β→Option α}(h:uV o P)(hf:∀x,P x→uV (f x) Q):uV (o.bind f) Q:=by
  obtain⟨x,e,hx⟩:=h
  rw [e];exact hf x hx
theorem need{p:Prop}[Decidable p]{k:Option α}(h:p)(hk:uV k Q):uV (Gv.need p k) Q:=by rw [aQ h];exact hk
theorem ite{c:Prop}[Decidable c]{a b:Option α}(h1:c→uV a Q)(h2:¬c→uV b Q):uV (if c then a else b) Q:=by
  by_cases h:c
  · rw [if_pos h];exact h1 h
  · rw [if_neg h];exact h2 h
theorem mono{P:α→Prop}{o:Option α}(h:uV o P)(hf:∀x,P x→Q x):uV o Q:=by obtain⟨x,e,hx⟩:=h;exact⟨x,e,hf x hx⟩
theorem idx{l:List β}{i:Int}(h:0≤i∧i < l.length):uV (Gv.idx l i) (fun x=>x∈l):=⟨_,fL h.1 h.2,List.getElem_mem _⟩
theorem loop{Q:ρ→Prop}{f:σ→Option (Step σ ρ)}{s:σ}(μ:σ→Nat)(Inv:σ→Prop)(h0:Inv s)(hb:∀s,Inv s→uV (f s) (a2O (fun s'=>Inv s'∧μ s' < μ s) (fun r=>Q r))):uV (Gv.loop f s) Q:=by
  have key:∀n s,μ s < n→Inv s→uV (Gv.loop f s) Q:=by
    intro n
    induction n with
    | zero=>intro s h;omega
    | succ n ih =>
      intro s h hs
      obtain⟨q,e,hq⟩:=hb s hs
      cases q with
      | next s'=>rw [bV e];exact ih s' (by have:=hq.2;omega) hq.1
      | stop r=>rw [bU e];exact⟨r,rfl,hq⟩
  exact key _ s (Nat.lt_succ_self _) h0
theorem of{o:Option α}{x:α}(h:o=some x):uV o (fun y=>y=x):=⟨x,h,rfl⟩
end uV
def Cu(b:List UInt8)(i:Int):Prop:=(0≤i∧i≤b.length)∧b.length≤1048576
theorem aXQ(x:Int):0≤hJ .and .i64 x 255∧hJ .and .i64 x 255≤255:=by
  have e:hJ .and .i64 x 255=IntKind.i64.wrap ((BitVec.ofInt 64 x &&& BitVec.ofInt 64 255).toNat:Int):=rfl
  have h:(BitVec.ofInt 64 x &&& BitVec.ofInt 64 255).toNat≤255:=by
    rw [BitVec.toNat_and];exact Nat.le_trans Nat.and_le_right (by decide)
  rw [e,wrap_i64 (by omega) (by omega)];omega
noncomputable section
variable {b:List UInt8} {i h:Int} (hc:Cu b i)
include hc
theorem aNT:uV (rW ⟨b,i,h⟩) (fun x=>(0≤x.1∧x.1≤255)∧Cu b x.2.1):=by
  unfold rW DT
  obtain⟨⟨a1,a2⟩,a3⟩:=hc
  refine .ite (fun q=>?_) (fun q=>?_)
  · have q':=of_decide_eq_true q
    simp only at q'
    refine .bind (.idx ⟨a1,q'⟩) fun x _=>.ret ⟨aXQ _,?_⟩
    show Cu b (aY (i+1))
    rw [aN (by omega) (by omega)]
    exact⟨by omega,a3⟩
  · exact .ret ⟨aXQ _,⟨a1,a2⟩,a3⟩
theorem below{n:Int}(hn:n≤1000000):uV (gH ⟨b,i,h⟩ n) (fun x=>(0≤x.1∧(x.1 < n∨n≤0∧x.1=0))∧Cu b x.2.1):=by
  unfold gH
  refine .ite (fun q=>?_) (fun q=>?_)
  · have q':=of_decide_eq_true q
    exact .ret ⟨by simp;omega,hc⟩
  · have q0:0 < n:=by simpa using q
    refine .ite (fun q=>?_) (fun q=>?_)
    · refine .bind (aNT hc) fun x ⟨hx,h1⟩=>.need (by omega) (.ret ⟨?_,h1⟩)
      simp only [jX hx.1]
      exact⟨Int.emod_nonneg _ (by omega),.inl (Int.emod_lt_of_pos _ q0)⟩
    · refine .bind (aNT hc) fun x ⟨hx,h1⟩=>.bind (aNT h1) fun y ⟨hy,h2⟩=>.bind (aNT h2) fun z ⟨hz,h3⟩=>.bind (aNT h3) fun w ⟨hw,h4⟩=>.need (by omega) (.ret ⟨?_,h4⟩)
      have e:aY (aY (aY (aY (x.1 * 16777216)+aY (y.1 * 65536))+aY (z.1 * 256))+w.1)=x.1 * 16777216+y.1 * 65536+z.1 * 256+w.1:=by
        rw [aN (x:=x.1 * 16777216) (by omega) (by omega),aN (x:=y.1 * 65536) (by omega) (by omega),aN (x:=z.1 * 256) (by omega) (by omega),aN (x:=x.1 * 16777216+y.1 * 65536) (by omega) (by omega),aN (x:=x.1 * 16777216+y.1 * 65536+z.1 * 256) (by omega) (by omega),aN (by omega) (by omega)]
      simp only [e]
      rw [jX (by omega)]
      exact⟨Int.emod_nonneg _ (by omega),.inl (Int.emod_lt_of_pos _ q0)⟩
theorem a6H{n:Int}(hn:n≤1000000):uV (SX ⟨b,i,h⟩ n) (fun x=>Cu b x.2.1):=
  .bind (below hc hn) fun _ ⟨_,h1⟩=>.ret h1
theorem aNU{l:List Int}(hl:0 < l.length)(hl2:l.length≤1000):uV (rJ ⟨b,i,h⟩ l) (fun x=>x.1∈l∧Cu b x.2.1):=
  .bind (below hc (by omega)) fun x ⟨hx,h1⟩=>.bind (.idx (by omega)) fun y hy=>.ret ⟨hy,h1⟩
end
theorem a6I{code:List UInt8}(hl:code.length≤1048576):uV (P0 code) (fun x=>Cu code x.1):=by
  unfold P0
  refine .bind (P:=fun _=>True) (.loop (fun s=>code.length - s.2.toNat) (fun s=>0≤s.2∧s.2≤code.length) ⟨by simp,by simp⟩ ?_) fun x _=>.ret ⟨⟨by simp,by simp⟩,hl⟩
  rintro⟨a,k⟩ ⟨h1,h2⟩
  simp only [VL,GK]
  simp only at h1 h2
  have nx:k < code.length→uV ((idx code k).bind fun x7=>some (Step.next (hJ .and .i64 (aY ((aY ((aY (a * 131))+(x7.toNat:Int)))+7)) 1073741823,aY (k+1)))) (a2O (ρ:=Int) (fun s'=>(0≤s'.2∧s'.2≤code.length)∧code.length - s'.2.toNat < code.length - k.toNat) (fun r=>True)):=fun hk=>by
    refine .bind (.idx ⟨h1,hk⟩) fun x _=>.ret ?_
    rw [aN (x:=k+1) (by omega) (by omega)]
    refine⟨⟨?_,?_⟩,?_⟩ <;> (try simp only) <;> omega
  refine .ite (fun q=>?_) (fun q=>?_)
  · have q':=of_decide_eq_true q
    exact .ite (fun _=>nx q') (fun _=>.ret trivial)
  · rw [if_neg (by simp)];exact .ret trivial
end Go.Gv
end
noncomputable section
namespace Go.Gv
noncomputable section
variable {b:List UInt8} {i h:Int} (hc:Cu b i)
include hc
theorem opD:uV (P1 ⟨b,i,h⟩) (fun x=>jY x.1∧Cu b x.2.1):=by
  unfold P1
  refine .bind (aNU hc (by decide) (by decide)) fun x1 ⟨hk,h1⟩=>?_
  have hk7:1≤x1.1∧x1.1≤7:=by simp at hk;omega
  rw [aJT,aG]
  have key:∀(i' h' cell:Int),Cu b i'→(ER x1.1∨cell=0)→(0≤cell∧cell≤1)→uV (AK ⟨b,i,h⟩ x1 i' h' cell) (fun x=>jY x.1∧Cu b x.2.1):=by
    intro i' h' cell hc' h2 h3
    unfold AK GM GL
    refine .ite (fun q=>?_) (fun q=>?_)
    · have q1:x1.1=1:=by simpa using q
      have fin:∀(i h size:Int),Cu b i→(0≤size∧size≤100)→uV ((gH ⟨b,i,h⟩ 60000).bind fun x13=>some ((⟨x1.1,cell,size,x13.1⟩:bK),(x13.2.1,x13.2.2))) (fun x=>jY x.1∧Cu b x.2.1):=fun i h size hi hs=>
        .bind (below hi (by omega)) fun v ⟨hv,h4⟩=>.ret ⟨⟨hk7,h2,h3,by rw [if_pos q1];exact⟨hs,by (try simp only);omega⟩⟩,h4⟩
      refine .bind (below hc' (by omega)) fun s ⟨hs,h4⟩=>.bind (a6H h4 (by omega)) fun o h5=>.ite (fun _=>.bind (aNU h5 (by decide) (by decide)) fun p ⟨hp,h6⟩=>fin _ _ _ h6 (by simp at hp;omega)) (fun _=>fin _ _ _ h5 (by rw [aN (by omega) (by omega)];omega))
    · have q1:¬x1.1=1:=by simpa using q
      exact .ret ⟨⟨hk7,h2,h3,by rw [if_neg q1];exact⟨rfl,rfl⟩⟩,hc'⟩
  refine .ite (fun q=>?_) (fun q=>?_)
  · refine .bind (aNU h1 (by decide) (by decide)) fun x ⟨hx,h2⟩=>key _ _ _ h2 (.inl (of_decide_eq_true q)) (by simp at hx;omega)
  · exact key _ _ _ h1 (.inr rfl) (by omega)
theorem aDI{m:Int}(hm:0≤m∧m≤12):uV (wS ⟨b,i,h⟩ m) (fun x=>(x.1.length=3∧∀q∈x.1,q.fM.length≤m∧∀o∈q.fM,jY o)∧Cu b x.2.1):=by
  unfold wS
  refine .bind (P:=fun x=>(x.1.length=3∧∀q∈x.1,q.fM.length≤m∧∀o∈q.fM,jY o)∧Cu b x.2.1) (.loop (fun s=>3 - s.2.1.toNat) (fun s=>((s.1.length:Int)=s.2.1∧s.2.1≤3∧∀q∈s.1,q.fM.length≤m∧∀o∈q.fM,jY o)∧Cu b s.2.2.1) ⟨⟨rfl,by simp,by simp⟩,hc⟩ ?_) fun x hx=>.ret hx
  rintro⟨l,k,i',h'⟩ ⟨⟨e,k3,hq⟩,hi⟩
  simp only at e k3 hq hi
  simp only [MD]
  refine .ite (fun q=>?_) (fun q=>?_)
  · have q':=of_decide_eq_true q
    rw [aN (x:=m+1) (by omega) (by omega)]
    refine .bind (below hi (by omega)) fun n ⟨hn,h1⟩=>?_
    refine .bind (P:=fun x=>((x.2.2.length:Int)≤m∧∀o∈x.2.2,jY o)∧Cu b x.1) (.loop (fun s=>s.1.toNat) (fun s=>(0≤s.1∧s.1+s.2.2.2.length≤m∧∀o∈s.2.2.2,jY o)∧Cu b s.2.1) ⟨⟨hn.1,by simp;omega,by simp⟩,h1⟩ ?_) ?_
    · rintro⟨n,i1,h1,ops⟩ ⟨⟨n0,n1,ho⟩,hi1⟩
      simp only at n0 n1 ho hi1
      simp only [MB,D3]
      refine .ite (fun q=>?_) (fun q=>?_)
      · have q1:=of_decide_eq_true q
        refine .bind (opD hi1) fun o ⟨h2,h3⟩=>.need (by simp;omega) (.ret ?_)
        rw [aN (by omega) (by omega)]
        refine⟨⟨⟨by (try simp only);omega,by simp;omega,?_⟩,h3⟩,by (try simp only);omega⟩
        intro x hx
        rcases List.mem_append.1 hx with hx | hx
        · exact ho x hx
        · rw [List.mem_singleton.1 hx];exact h2
      · have q1:¬0 < n:=by simpa using q
        exact .ret ⟨⟨by (try simp only);omega,ho⟩,hi1⟩
    · rintro⟨i1,h1,ops⟩ ⟨⟨o1,o2⟩,hi1⟩
      simp only [MC,MA]
      refine .need (by simp;omega) (.ret ?_)
      rw [aN (by omega) (by omega)]
      refine⟨⟨⟨by simp;omega,by (try simp only);omega,?_⟩,hi1⟩,by (try simp only);omega⟩
      intro x hx
      rcases List.mem_append.1 hx with hx | hx
      · exact hq x hx
      · rw [List.mem_singleton.1 hx];exact⟨o1,o2⟩
  · have q':¬k < 3:=by simpa using q
    exact .ret ⟨⟨by (try simp only);omega,hq⟩,hi⟩
def K2(l:List Queue):Prop:=l.length≤3∧∀q∈l,q.fM.length≤1000
omit hc in
theorem UX{l:List Queue}(hl:K2 l)(k:Nat){q:Queue}(hq:q.fM.length≤1000):K2 (l.set k q):=⟨by simpa using hl.1,fun x hx=>(List.mem_or_eq_of_mem_set hx).elim (hl.2 x) (fun e=>e ▸ hq)⟩
theorem aXR{m:Int}(hm:m≤1000):uV (GN ⟨b,i,h⟩ m) (fun x=>x.1.length≤4000∧Cu b x.2.1):=by
  unfold GN
  refine .bind (below hc (by omega)) fun x1 ⟨hx1,h1⟩=>?_
  refine .bind (P:=fun x=>x.1.length≤4000∧Cu b x.2.1) (.loop (fun s=>s.2.1.toNat) (fun s=>(0≤s.2.1∧s.1.length+4 * s.2.1≤4000)∧Cu b s.2.2.1) ⟨⟨hx1.1,by simp;omega⟩,h1⟩ ?_) fun x hx=>.ret hx
  rintro⟨l,n,i1,h1⟩ ⟨⟨n0,n1⟩,hi1⟩
  simp only at n0 n1 hi1
  simp only [OS]
  refine .ite (fun q=>?_) (fun q=>?_)
  · have q':=of_decide_eq_true q
    refine .bind (below hi1 (by omega)) fun x13 ⟨_,h13⟩=>.bind (below h13 (by omega)) fun x14 ⟨hx14,h14⟩=>?_
    rw [aN (by omega) (by omega)]
    refine .bind (P:=fun x=>(x.length:Int)≤l.length+4) (.loop (fun s=>s.2.toNat) (fun s=>0≤s.2∧(s.1.length:Int)+s.2≤l.length+4) ⟨by (try simp only);omega,by (try simp only);omega⟩ ?_) ?_
    · rintro⟨r,k⟩ ⟨k0,k1⟩
      simp only at k0 k1
      simp only [OQ]
      refine .ite (fun q=>?_) (fun q=>?_)
      · have q2:=of_decide_eq_true q
        refine .need (by simp;omega) (.ret ?_)
        rw [aN (by omega) (by omega)]
        have e:(r ++ [x13.1]).length=r.length+1:=by simp
        exact⟨⟨by (try simp only);omega,by (try simp only);omega⟩,by (try simp only);omega⟩
      · exact .ret (by (try simp only);omega)
    · intro r hr
      simp only [OR,OO]
      refine .ret ?_
      rw [aN (by omega) (by omega)]
      exact⟨⟨⟨by (try simp only);omega,by (try simp only);omega⟩,h14⟩,by (try simp only);omega⟩
  · exact .ret ⟨by (try simp only);omega,hi1⟩
end
theorem a2P{x:zD}(hx:K2 x.aZ)(hp:x.jL.length≤5000)(P:aB→Prop)(h0:∀t,ES t→t=x.aZ→P (dD t))(hs:∀s w,mY s→(0≤w∧w≤2)→P s→P (iO s w))(ht:ES x.aZ) :
    uV (lD x) (fun s=>mY s∧P s∧s.Log.length≤400):=by
  unfold lD
  rw [(CM (t:=x.aZ) (by have:=hx.1;omega) (fun q hq=>by have:=hx.2 q hq;omega)).2,aG,if_pos ht]
  have hj:(((dD x.aZ).aT.length:Int) == 0)=false:=rfl
  rw [hj,if_neg (by simp)]
  refine .need (by split <;> omega) ?_
  have hN:((x.jL.take ((if 400 < (x.jL.length:Int) then (400:Int) else (x.jL.length:Int)).toNat)).drop 0).length≤400:=by
    rw [List.drop_zero,List.length_take];split <;> omega
  refine .bind (P:=fun s=>mY s∧P s∧s.Log.length≤400) (.loop (fun s=>1000 - s.1.toNat) (fun s=>(0≤s.1∧s.1≤400)∧mY s.2∧P s.2∧(s.2.Log.length:Int)≤s.1) ⟨⟨by simp,by simp⟩,UW ht,h0 _ ht rfl,by simp [dD]⟩ ?_) fun s h=>.ret h
  rintro⟨k,s⟩ ⟨⟨k0,k1⟩,h1,h2,h3⟩
  simp only at k0 k1 h1 h2 h3
  simp only [ME,vF]
  refine .ite (fun q=>?_) (fun q=>.ret ⟨h1,h2,by (try simp only);omega⟩)
  have q':=of_decide_eq_true q
  refine .bind (.idx ⟨k0,q'⟩) fun w _=>?_
  rw [kC,aG]
  refine .ite (fun hw=>?_) (fun hw=>?_)
  · have hw':=of_decide_eq_true hw
    obtain⟨e,o1,o2⟩:=K1 h1 (by omega) hw'
    rw [e,aG]
    refine .ret ?_
    rw [aN (by omega) (by omega)]
    exact⟨⟨⟨by (try simp only);omega,by (try simp only);omega⟩,o1,hs s w h1 hw' h2,by (try simp only);omega⟩,by (try simp only);omega⟩
  · refine .ret ?_
    rw [aN (by omega) (by omega)]
    exact⟨⟨⟨by (try simp only);omega,by (try simp only);omega⟩,h1,h2,by (try simp only);omega⟩,by (try simp only);omega⟩
end Go.Gv
end
noncomputable section
namespace Go.Gv
theorem UY(b:aA)(w:Int)(s:Sub):(d7 b w s).2.Kind=s.Kind:=by
  unfold d7 FQ uT GW lG lH TY pO
  simp only [apply_ite Prod.snd,apply_ite Sub.Kind,ite_self]
theorem uO{c:aC}(hc:JX c){w v:Int}(hw:0≤w∧w≤2)(hv:0≤v∧v≤2)(e:Int)(x:qA):bS ⟨e,c.cK.set w.toNat x⟩ v=if v=w then x else bS c v:=by
  have h3:=hc.2.1
  unfold bS
  simp only [List.getD_eq_getElem?_getD,List.getElem?_set]
  by_cases q:v=w
  · subst q;simp [show v.toNat < c.cK.length by omega]
  · rw [if_neg q,if_neg (by omega)]
def mS(j:bD):Prop:=j.cY=true∧(j.Op.Kind=2∨j.Op.Kind=5)∧j.Pc=0
def Adv(j:bD):Prop:=j.cY=true∧j.Op.Kind=4∧j.Pc=0
def JI(e:Int)(p:qA)(j:bD):Prop:=j.cY=true →
  (j.Op.Kind=1→j.Sub.Kind=1∨j.Sub.Kind=2)∧(j.Op.Kind=4→j.Pc=1→j.Sub.Kind=4) ∧
  (Adv j→j.Sub.Kind=3∧j.Sub.cW=false∧(j.Sub.Pc=0∨j.Sub.E≤e∧(j.Sub.Pc=1∧(0≤j.Sub.B∧j.Sub.B≤2)∨j.Sub.Pc=2∧j.Sub.B=3))) ∧
  (mS j→j.Sub.Kind=5∧j.Sub.cW=false∧(j.Sub.Pc=0∨j.Sub.Pc=1∧(0≤j.Sub.E∧j.Sub.E≤e)∨j.Sub.Pc=2∧p.aJ=j.Sub.E))
def Calm(j:bD):Prop:=¬mS j∧¬Adv j∧(j.Op.Kind=1→j.Sub.Kind=1∨j.Sub.Kind=2)∧(j.Op.Kind=4→j.Pc=1→j.Sub.Kind=4)
theorem Calm.ji{j:bD}(h:Calm j)(e:Int)(p:qA):JI e p j:=fun _=>⟨h.2.2.1,h.2.2.2,fun q=>absurd q h.2.1,fun q=>absurd q h.1⟩
def Ep(c:aC)(J:Int→bD):Prop:=(∀w,0≤w∧w≤2→JI c.aJ (bS c w) (J w))∧∀p,0≤p∧p≤2→¬mS (J p)→(bS c p).On=true→(bS c p).dJ=false→c.aJ≤(bS c p).aJ+1∧(c.aJ=(bS c p).aJ+1→∀a,0≤a∧a≤2→Adv (J a)→(J a).Sub.Pc≠0→(J a).Sub.E=c.aJ→(J a).Sub.B≤p)
def MJ(J:Int→bD)(w:Int)(j:bD):Int→bD:=fun v=>if v=w then j else J v
theorem dZ(J:Int→bD)(w:Int)(j:bD):MJ J w j w=j:=if_pos rfl
theorem eN(J:Int→bD){w v:Int}(j:bD)(h:v≠w):MJ J w j v=J v:=if_neg h
noncomputable section
variable {c:aC} {J:Int→bD} (h:Ep c J)
include h
theorem Ep.congr{J':Int→bD}(e:∀v,0≤v∧v≤2→J' v=J v):Ep c J':=by
  refine⟨fun w hw=>by rw [e w hw];exact h.1 w hw,fun p hp hn h1 h2=>?_⟩
  rw [e p hp] at hn
  obtain⟨a1,a2⟩:=h.2 p hp hn h1 h2
  exact⟨a1,fun q a ha=>by rw [e a ha];exact a2 q a ha⟩
variable {w:Int} (hw:0≤w∧w≤2) {j:bD}
include hw
theorem Ep.step{c':aC}(he:c'.aJ=c.aJ)(hp:∀v,0≤v∧v≤2→v≠w→bS c' v=bS c v)(hj:JI c.aJ (bS c' w) j)
    (h2:¬mS j→(bS c' w).On=true→(bS c' w).dJ=false→c.aJ≤(bS c' w).aJ+1∧(c.aJ=(bS c' w).aJ+1→∀a,0≤a∧a≤2→a≠w→Adv (J a)→(J a).Sub.Pc≠0→(J a).Sub.E=c.aJ→(J a).Sub.B≤w))
    (ha:Adv j→j.Sub.Pc=0∨j.Sub.B=0):Ep c' (MJ J w j):=by
  constructor
  · intro v hv
    rw [he]
    by_cases q:v=w
    · subst q;rw [dZ];exact hj
    · rw [eN _ _ q,hp v hv q];exact h.1 v hv
  · intro p hpr hn o1 o2
    rw [he]
    have hadv:∀a,0≤a∧a≤2→(∀q:a≠w,Adv (J a)→(J a).Sub.Pc≠0→(J a).Sub.E=c.aJ→(J a).Sub.B≤p)→Adv (MJ J w j a)→(MJ J w j a).Sub.Pc≠0→(MJ J w j a).Sub.E=c.aJ→(MJ J w j a).Sub.B≤p:=by
      intro a har hk
      by_cases q:a=w
      · subst q
        rw [dZ]
        intro x1 x2 _
        rcases ha x1 with y | y
        · exact absurd y x2
        · omega
      · rw [eN _ _ q];exact hk q
    by_cases q:p=w
    · subst q
      rw [dZ] at hn
      obtain⟨a1,a2⟩:=h2 hn o1 o2
      exact⟨a1,fun e a har=>hadv a har (fun q=>a2 e a har q)⟩
    · rw [eN _ _ q] at hn
      rw [hp p hpr q] at o1 o2 ⊢
      obtain⟨a1,a2⟩:=h.2 p hpr hn o1 o2
      exact⟨a1,fun e a har=>hadv a har (fun _=>a2 e a har)⟩
theorem Ep.pin{b:aA}(hb:b.aC=c)(hc:JX c)(hj:J w=j)(hP:mS j){fin:bD}(hf:Calm fin) :
    Ep (TY b w j.Sub).1.aC (MJ J w (if (TY b w j.Sub).2.cW then fin else {j with Sub:=(TY b w j.Sub).2})):=by
  have hji:=h.1 w hw
  rw [hj] at hji
  have hk5:=hP.2.1
  obtain⟨k,d,hpc⟩:=(hji hP.1).2.2.2 hP
  have noadv:∀s:Sub,¬Adv {j with Sub:=s}:=fun s q=>by have:=q.2.1;simp only at this;omega
  have hP':∀s:Sub,mS {j with Sub:=s}:=fun s=>hP
  have mk:∀(s:Sub) (p:qA),(s.Kind=5∧s.cW=false∧(s.Pc=0∨s.Pc=1∧(0≤s.E∧s.E≤c.aJ)∨s.Pc=2∧p.aJ=s.E))→JI c.aJ p {j with Sub:=s}:=fun s p hs _=>⟨fun q=>by simp only at q;omega,fun q=>by simp only at q;omega,fun q=>absurd q (noadv s),fun _=>hs⟩
  unfold TY
  rw [hb]
  rcases hpc with p0 | ⟨p1,e0,e1⟩ | ⟨p2,pe⟩
  · simp only [if_pos p0,d,aP,if_false,hb]
    exact h.step hw rfl (fun _ _ _=>rfl) (mk _ _ ⟨k,rfl,.inr (.inl ⟨rfl,hc.1.1,Int.le_refl _⟩)⟩) (fun q=>absurd (hP' _) q) (fun q=>absurd q (noadv _))
  · have hpt:K0 c w j.Sub.E=(⟨c.aJ,c.cK.set w.toNat ⟨true,j.Sub.E,false,0⟩⟩,true):=by unfold K0;rw [if_pos ⟨e0,e1⟩]
    simp only [if_neg (show ¬j.Sub.Pc=0 by omega),if_pos p1,hpt,if_true,d,aP,if_false]
    exact h.step hw rfl (fun v hv hvw=>by rw [uO hc hw hv,if_neg hvw]) (mk _ _ ⟨k,rfl,.inr (.inr ⟨rfl,by rw [uO hc hw hw,if_pos rfl]⟩)⟩) (fun q=>absurd (hP' _) q) (fun q=>absurd q (noadv _))
  · simp only [if_neg (show ¬j.Sub.Pc=0 by omega),if_neg (show ¬j.Sub.Pc=1 by omega),if_pos p2]
    by_cases q:c.aJ=j.Sub.E
    · simp only [if_pos q,pO,if_true,hb]
      exact h.step hw rfl (fun _ _ _=>rfl) (hf.ji _ _) (fun _ _ _=>⟨by omega,fun e=>by omega⟩) (fun q=>absurd q hf.2.1)
    · simp only [if_neg q,d,aP,if_false,hb]
      exact h.step hw rfl (fun _ _ _=>rfl) (mk _ _ ⟨k,rfl,.inl rfl⟩) (fun q=>absurd (hP' _) q) (fun q=>absurd q (noadv _))
end
end Go.Gv
end
noncomputable section
namespace Go.Gv
theorem m9{s:aB}(h3:s.aT.length=3){w v:Int}(hw:0≤w∧w≤2)(hv:0≤v∧v≤2)(b:aA)(c:List Int)(j:bD)(t:List Queue)(l:List Ev)(n:Int):aK ⟨b,c,s.aT.set w.toNat j,t,l,n⟩ v=MJ (aK s) w j v:=by
  unfold aK MJ
  simp only [List.getD_eq_getElem?_getD,List.getElem?_set]
  by_cases q:v=w
  · subst q;simp [show v.toNat < s.aT.length by omega]
  · rw [if_neg q,if_neg (by omega)]
noncomputable section
variable (s:aB) (w:Int) (j:bD)
end
noncomputable section
variable {s:aB} (hs:mY s) {w:Int} (hw:0≤w∧w≤2) (h:Ep s.aA.aC (aK s))
include hs hw h
end
def K3(s:aB)(k:Nat):Prop:=(bS s.aA.aC k).On=true∧(aK s k).cY=false
instance (s:aB) (k:Nat):Decidable (K3 s k):=by unfold K3;infer_instance
end Go.Gv
end
noncomputable section
namespace Go.Gv
def Hk(h:aE):Prop:=h.Bytes.length=384∧h.Class.length=6
def Wk(m:Mem):Prop:=Hk m.aE∧m.aD.Global.length=3∧m.aD.cT.length=9∧(dM m.aD).length≤24
theorem mW.wk{m:Mem}(hm:mW m):Wk m:=by obtain⟨a,b,c,d,e,_⟩:=mW.facts hm;exact⟨⟨d,e⟩,b,c,a⟩
theorem Wk.small{m:Mem}(h:Wk m):sY m:=by obtain⟨⟨a,b⟩,c,d,e⟩:=h;exact⟨by omega,by omega,by omega,by omega,by omega⟩
noncomputable section
variable {b:List UInt8} {i h:Int} (hc:Cu b i)
include hc
end
end Go.Gv
end
noncomputable section
namespace Go.Gv
noncomputable section
variable {b:List UInt8} {i h:Int} (hc:Cu b i)
include hc
def Rk(l:List bB):Prop:=l.length=3∧(bH l).length≤24
omit hc in
theorem Rk.rows{l:List bB}(hl:Rk l):∀s∈l,s.Rows.length≤24:=fun s hs=>by have:=O4 hs;have:=hl.2;omega
end
end Go.Gv
end
noncomputable section
namespace Go.Gv
theorem RM{code:List UInt8}(hl:code.length≤1048576){i:Int}(hi:0≤i∧i≤1000):uV (nN code i) (fun x=>0≤x∧x≤255):=by
  unfold nN
  refine .ite (fun q=>?_) fun q=>?_
  · have q':=of_decide_eq_true q
    exact .bind (.idx ⟨hi.1,q'⟩) fun x _=>.ret (by have:=x.toNat_lt;omega)
  · rw [aN (x:=i * 37) (by omega) (by omega),aN (x:=(code.length:Int) * 11) (by omega) (by omega),aN (by omega) (by omega)]
    refine .ret ?_
    rw [jX (by omega)];omega
theorem aJW{x:Int}(h:0≤x∧x≤255):0≤Int.tmod x 3∧Int.tmod x 3≤2:=by rw [jX h.1];omega
end Go.Gv
end
noncomputable section
namespace Go.Gv
def a6J(c:aC)(k:Nat):Prop:=((bS c k).On=true∧(bS c k).dJ=false)∧(bS c k).aJ < c.aJ
instance (c:aC) (k:Nat):Decidable (a6J c k):=by unfold a6J;infer_instance
def a6K(c:aC)(k:Nat):Prop:=(bS c k).On=true∧(bS c k).dJ=false
instance (c:aC) (k:Nat):Decidable (a6K c k):=by unfold a6K;infer_instance
end Go.Gv
end
noncomputable section
set_option maxRecDepth 20000
namespace Go.Gv
noncomputable section
variable {b:List UInt8} {i h:Int} (hc:Cu b i)
include hc
end
theorem aGC{l:List bB}(h3:l.length=3){w:Int}(hw:0≤w∧w≤2)(r:List dO):cX (l.set w.toNat ⟨r⟩) w=r:=by
  unfold cX
  rw [List.getD_eq_getElem?_getD,List.getElem?_set_self (by omega)];rfl
end Go.Gv
end
noncomputable section
namespace Go.Gv
def Aft{α:Type}(o:Option α)(Q:α→Prop):Prop:=∀x,o=some x→Q x
namespace Aft
variable {α β:Type} {Q:α→Prop}
theorem ret{x:α}(h:Q x):Aft (some x) Q:=fun _ e=>by injection e with e;rw [←e];exact h
theorem bind{o:Option β}{f:β→Option α}(h:∀x,o=some x→Aft (f x) Q):Aft (o.bind f) Q:=fun y e=>by
  cases ho:o with
  | none=>rw [ho] at e;cases e
  | some x=>rw [ho] at e;exact h x ho y e
theorem ite{c:Prop}[Decidable c]{a b:Option α}(h1:Aft a Q)(h2:Aft b Q):Aft (if c then a else b) Q:=by
  split
  · exact h1
  · exact h2
theorem need{p:Prop}[Decidable p]{k:Option α}(h:p→Aft k Q):Aft (Gv.need p k) Q:=fun y e=>by
  unfold Gv.need at e
  split at e
  · rename_i q;exact h q y e
  · cases e
end Aft
noncomputable section
variable (s:aB) (w:Int) (j:bD)
end
end Go.Gv
end
noncomputable section
set_option maxRecDepth 20000
namespace Go.Gv
def mZ(s:aB):Prop:=(∀j∈s.aT,j.cY=false)∧∀q∈s.aZ,q.fM=[]
instance (s:aB):Decidable (mZ s):=by unfold mZ;infer_instance
theorem aGD{s:aB}(h1:s.aT.length≤maxLen)(h2:s.aZ.length≤maxLen):OI s=some (decide (mZ s)):=by
  unfold OI
  rw [YD h1 (fun j=>j.cY) (fun y0=>SI y0) (fun x _=>rfl)]
  simp only [aG]
  rw [TV h2 (fun q=>decide (0 < (q.fM.length:Int))) (fun y0=>SJ y0) (fun x _=>rfl)]
  have ea:(s.aT.any fun j=>j.cY)=!decide (∀j∈s.aT,j.cY=false):=by
    rw [Bool.eq_iff_iff];simp
  have eb:(s.aZ.any fun q=>decide (0 < (q.fM.length:Int)))=!decide (∀q∈s.aZ,q.fM=[]):=by
    rw [Bool.eq_iff_iff];simp [List.length_pos_iff]
  rw [ea,eb]
  by_cases a:∀j∈s.aT,j.cY=false
  · rw [bA a]
    simp only [dT,iF,if_true,aG,IQ,Bool.not_not]
    congr 1
    by_cases b:∀q∈s.aZ,q.fM=[]
    · rw [bA b,bA (p:=mZ s) ⟨a,b⟩]
    · rw [bP b,bP (p:=mZ s) (fun h=>b h.2)]
  · rw [bP a,bP (p:=mZ s) (fun h=>a h.1)];rfl
theorem mY.lens{s:aB}(h:mY s):s.aT.length≤maxLen∧s.aZ.length≤maxLen:=by
  have h1:=h.2.2.1;have h2:=h.2.2.2.1.1
  simp only [maxLen];omega
end Go.Gv
end
noncomputable section
set_option maxRecDepth 20000
namespace Go.Gv
def AW:bK:=⟨4,0,0,0⟩
theorem aXS{n:Nat}(hn:n≤12):∀d j:Nat,1≤j→j≤n→n≤j+d→loop mD (List.replicate j AW++List.replicate (n - j) ⟨0,0,0,0⟩,(j:Int))=some (List.replicate n AW):=by
  intro d
  induction d with
  | zero =>
    intro j h1 h2 h3
    obtain rfl:j=n:=by omega
    apply bU
    simp only [mD,Nat.sub_self,List.replicate_zero,List.append_nil,List.length_replicate]
    rw [if_neg (by simp)]
  | succ d ih =>
    intro j h1 h2 h3
    by_cases e:j=n
    · subst e
      apply bU
      simp only [mD,Nat.sub_self,List.replicate_zero,List.append_nil,List.length_replicate]
      rw [if_neg (by simp)]
    · have hl:(List.replicate j AW++List.replicate (n - j) (⟨0,0,0,0⟩:bK)).length=n:=by simp;omega
      have ht:((List.replicate j AW++List.replicate (n - j) (⟨0,0,0,0⟩:bK)).take j).drop 0=List.replicate j AW:=by simp [List.take_append,List.take_replicate]
      have hb:dQ (List.replicate j AW++List.replicate (n - j) (⟨0,0,0,0⟩:bK)) j (List.replicate j AW)=List.replicate (j+min j (n - j)) AW++List.replicate (n - (j+min j (n - j))) ⟨0,0,0,0⟩:=by
        unfold dQ
        rw [hl]
        simp only [List.take_append,List.take_replicate,List.drop_append,List.drop_replicate,List.length_replicate,Nat.min_self,Nat.sub_self,Nat.zero_min,List.replicate_zero,List.append_nil,Nat.min_comm (n - j) j]
        rw [show j - (j+j)=0 by omega,List.replicate_zero,List.nil_append,←List.append_assoc,List.replicate_append_replicate,show n - j - (j+j - j)=n - (j+min j (n - j)) by omega]
      rw [bV (s':=(List.replicate (j+min j (n - j)) AW++List.replicate (n - (j+min j (n - j))) ⟨0,0,0,0⟩,((j+min j (n - j):Nat):Int))) (by
        simp only [mD,hl,Int.toNat_natCast,ht,List.length_replicate]
        rw [if_pos (by simp;omega),aQ (by omega),aQ (by omega),hb,aN (by omega) (by omega)];rfl)]
      exact ih _ (by omega) (by omega) (by omega)
theorem a0Y:((List.range 13).all fun n=>uG (IntKind.u64.wrap 1) (IntKind.u64.wrap (n:Int)) == some (0,(n:Int)))=true:=by kernel_rfl
theorem aXT{n:Nat}(hn:n≤12):xW [AW] (n:Int)=some (List.replicate n AW):=by
  have hb:uG (IntKind.u64.wrap 1) (IntKind.u64.wrap (n:Int))=some (0,(n:Int)):=by
    have:=List.all_eq_true.1 a0Y n (List.mem_range.2 (by omega))
    exact eq_of_beq this
  unfold xW qN
  rw [if_neg (by simp),show((([AW]:List bK).length:Int))=1 from rfl,hb]
  simp only [aG]
  rw [if_neg (by simp),bP (by omega),if_neg (by simp),wrap_i64 (by omega) (by omega),aQ (by omega),Int.toNat_natCast]
  by_cases h0:n=0
  · subst h0
    rw [bU (r:=([]:List bK)) (by rfl)];rfl
  · have e1:dQ (List.replicate n (⟨0,0,0,0⟩:bK)) 0 [AW]=List.replicate 1 AW++List.replicate (n - 1) ⟨0,0,0,0⟩:=by
      obtain⟨m,rfl⟩:∃m,n=m+1:=⟨n - 1,by omega⟩
      simp [dQ,List.replicate_succ]
    have e2:((min ([AW]:List bK).length ((List.replicate n (⟨0,0,0,0⟩:bK):List bK).length - 0):Nat):Int)=((1:Nat):Int):=by simp;omega
    rw [e1,e2,aXS hn n 1 (by omega) (by omega) (by omega)];rfl
def T1(n k:Nat):List Queue:=List.replicate k ⟨List.replicate n AW⟩++List.replicate (3 - k) ⟨[]⟩
theorem aXU(n:Nat){k:Nat}(h:k≤3):(T1 n k).length=3:=by simp [T1];omega
theorem aXV(n:Nat){k:Nat}(h:k < 3):(T1 n k).set k ⟨List.replicate n AW⟩=T1 n (k+1):=by
  rcases(by omega:k=0∨k=1∨k=2) with rfl | rfl | rfl <;> rfl
theorem aXW(n:Nat){k:Nat}(h:k < 3):(T1 n k).set k ⟨[]⟩=T1 n k:=by
  rcases(by omega:k=0∨k=1∨k=2) with rfl | rfl | rfl <;> rfl
def U6(s:aB)(n:Nat):aB:={s with aZ:=T1 n 3}
theorem a0Z{s:aB}(hs:mY s){n:Nat}(hn:n≤12):mY (U6 s n):=by
  obtain⟨h1,h2,h3,h4,h5⟩:=hs
  refine⟨h1,h2,h3,⟨rfl,fun q hq=>?_⟩,h5⟩
  obtain rfl:q=⟨List.replicate n AW⟩:=by simpa [U6,T1] using hq
  refine⟨by simpa using hn,fun o ho=>?_⟩
  obtain rfl:=List.eq_of_mem_replicate ho
  decide
theorem aB9{s:aB}(hs:s.aZ=T1 0 3){n:Nat}(hn:n≤12):loop (nG (n:Int) s) (0,s)=some (U6 s n):=by
  have hT:∀n,T1 n 0=s.aZ:=fun n=>by rw [hs];rfl
  have hlen:s.aZ.length=3:=by rw [hs];rfl
  have:=iQ (f:=nG (n:Int) s) 3 (fun k=>((k:Int),{s with aZ:=T1 n k})) (U6 s n) (fun k hk=>by
    have hi:idx (T1 n k) (k:Int)=some ⟨[]⟩:=by
      rw [←aXW n hk,aV (by rw [List.length_set,aXU n (by omega)];exact hk),List.getElem_set_self]
    simp only [nG,BZ,hlen]
    rw [if_pos (by simp;omega),hi,aG,show [(⟨4,0,0,0⟩:bK)]=[AW] from rfl,aXT hn,aG,aQ (by simp;omega),aN (by omega) (by omega),Int.toNat_natCast,List.nil_append,aXV n hk];rfl) (by simp [nG,hlen,U6])
  simp only [hT] at this
  exact this
theorem mZ.todo{s:aB}(hs:mY s)(h:mZ s):s.aZ=T1 0 3:=by
  apply List.ext_getElem
  · rw [hs.2.2.2.1.1];rfl
  · intro i h1 h2
    have:=h.2 _ (List.getElem_mem h1)
    have e:(T1 0 3)[i]=⟨[]⟩:=by
      have h3:i < 3:=h2
      rcases(by omega:i=0∨i=1∨i=2) with rfl | rfl | rfl <;> rfl
    rw [e]
    cases hq:s.aZ[i];rw [hq] at this;simp only at this;rw [this]
end Go.Gv
end
noncomputable section
namespace Go.Gv
theorem aII{s:aB}(hs:JM s)(n:Int):BF s n=some (if mY s∧mZ s∧0≤n∧n≤12 then U6 s n.toNat else s):=by
  have hl:=hs.2.2.2.2.2
  have hM:∀{k:Nat},k≤1048576→k≤maxLen:=fun h=>by simp only [maxLen];omega
  unfold BF
  rw [GX hs,YK hs,aGD (hM hs.2.2.1) (hM hs.2.2.2.1),eG]
  simp only [aG,nH]
  by_cases q:mY s
  · by_cases i:mZ s
    · by_cases w:0≤n∧n≤12
      · obtain⟨m,rfl⟩:=Int.eq_ofNat_of_zero_le w.1
        have ht:=i.todo q
        simp only [bA q,bA i,bA w,dT,aP,if_false,aB9 ht (show m≤12 by omega),aG,KB,KA,if_pos (show mY s∧mZ s∧0≤(m:Int)∧(m:Int)≤12 from ⟨q,i,w⟩),Int.toNat_natCast]
      · simp only [bA q,bA i,bP w,dT,iF,aP,if_false,if_true,if_neg (show ¬(mY s∧mZ s∧0≤n∧n≤12) from fun h=>w h.2.2)]
    · simp only [bA q,bP i,dT,iF,aP,if_false,if_true,if_neg (show ¬(mY s∧mZ s∧0≤n∧n≤12) from fun h=>i h.2.1)]
  · simp only [bP q,iF,if_true,if_neg (show ¬(mY s∧mZ s∧0≤n∧n≤12) from fun h=>q h.1)]
end Go.Gv
end
noncomputable section
namespace Go.Gv
def a4D(z:List Int)(h:Int):Prop:=∀v:Int,0≤v∧v≤2→rQ z v≠h
def a6L(e:Int)(z:List Int)(r:dO):Prop:=EU r e∧a4D z r.Handle
def aXX(m:Mem)(r:dO):Prop:=0≤aX m.aE (r.Handle % 32)∧r.Handle / 32 < iI m.aE (r.Handle % 32)
theorem aXX.not{m:Mem}{r:dO}(h:aXX m r):¬g9 m r.Handle:=fun l=>by have:=l.2.2;have:=h.2;omega
structure Gc (w:Int) (b b':aA) (row out:Int):Prop where
  kept:∀j:Nat,(j:Int) < row→∀hj:j < (cX b'.aM w).length,¬a6L b.aC.aJ b.mP (cX b'.aM w)[j]
  len:((cX b'.aM w).length:Int)+out=(cX b.aM w).length
  flat:((bH b'.aM).length:Int)+out=(bH b.aM).length
  gone:∀r∈cX b.aM w,r∈cX b'.aM w∨aXX b'.Mem r
  used:∀i:Nat,i < 24→(aXP b' i=4↔aXP b i=4)
  cls:∀t,aX b'.Mem.aE t=aX b.Mem.aE t
  pos:0≤out
noncomputable section
variable {w:Int} (hw:0≤w∧w≤2) {b b':aA} (hL0:(cX b.aM w).length≤24) {s:Sub} (hd:s.cW=false)
include hw hL0 hd
end
end Go.Gv
end
noncomputable section
set_option maxRecDepth 20000
namespace Go.Gv
def T2:Nat→Nat→aB→aB
  | 0,_,s=>s
  | n+1,k,s=>if mZ s then s else T2 n (k+1) (iO s ((k % 3:Nat):Int))
theorem aSC{L:Nat}(hL:L≤100000):∀n k:Nat,k+n=3000→∀s:aB,mY s→s.Log.length≤L+k→loop wD ((k:Int),s)=some (T2 n k s)∧mY (T2 n k s)∧(T2 n k s).Log.length≤L+3000
  | 0, k, hk, s, hs, hl => by
    refine⟨bU ?_,hs,by simp only [T2];omega⟩
    simp only [wD,rD]
    rw [if_neg (by simp;omega)];rfl
  | n + 1, k, hk, s, hs, hl => by
    have hw:0≤(((k % 3:Nat):Int))∧(((k % 3:Nat):Int))≤2:=by omega
    by_cases i:mZ s
    · have e:T2 (n+1) k s=s:=by rw [T2,if_pos i]
      rw [e]
      refine⟨bU ?_,hs,by omega⟩
      simp only [wD,rD]
      rw [if_pos (by simp;omega),aGD hs.lens.1 hs.lens.2,bA i];rfl
    · have e:T2 (n+1) k s=T2 n (k+1) (iO s ((k % 3:Nat):Int)):=by rw [T2,if_neg i]
      obtain⟨f2,o1,o2⟩:=K1 hs (by omega) hw
      rw [e,bV (s':=(((k+1:Nat):Int),iO s ((k % 3:Nat):Int)))]
      · exact aSC hL n (k+1) (by omega) _ o1 (by omega)
      · simp only [wD,rD]
        rw [if_pos (by simp;omega),aGD hs.lens.1 hs.lens.2,bP i]
        simp only [aG,iF,if_true]
        rw [jX (by omega),show(k:Int) % 3=((k % 3:Nat):Int) by omega,f2,aG,aN (by omega) (by omega)];rfl
def yK(s:aB):aB:=T2 3000 0 s
theorem MK{s:aB}(hs:mY s)(hl:s.Log.length≤100000):iP s=some (yK s)∧mY (yK s)∧(yK s).Log.length≤s.Log.length+3000:=by
  obtain⟨e,h1,h2⟩:=aSC hl 3000 0 rfl s hs (by omega)
  have hsm:=CN hs (by omega)
  refine⟨?_,h1,h2⟩
  unfold iP
  rw [GX hsm,aG,YK hsm,aG,bA hs,if_neg (by simp)]
  rw [show((0:Nat):Int)=0 from rfl] at e
  rw [e];rfl
def eF(l:List Ev):List Ev:=l.filter fun e=>e.Kind == 4
theorem T3{s:aB}(hl:s.Log.length≤1000000):vT s=some (eF s.Log):=by
  unfold vT
  have key:loop (zO s) ([],0)=some (eF s.Log):=by
    have:=iQ (f:=zO s) s.Log.length (fun k=>(eF (s.Log.take k),(k:Int))) (eF s.Log) (fun k hk=>by
      have hle:(eF (s.Log.take k)).length≤k:=Nat.le_trans (List.length_filter_le _ _) (by rw [List.length_take];omega)
      have ew:aY ((k:Int)+1)=((k+1:Nat):Int):=by rw [aN (by omega) (by omega)];rfl
      have e:eF (s.Log.take (k+1))=if (s.Log[k].Kind == 4)=true then eF (s.Log.take k) ++ [s.Log[k]] else eF (s.Log.take k):=by
        unfold eF
        rw [List.take_succ_eq_append_getElem hk,List.filter_append]
        cases q:(s.Log[k].Kind == 4) <;> simp [List.filter,q]
      simp only [zO,FX]
      rw [if_pos (by simp;omega),aV hk,aG,ew,e]
      by_cases q:(s.Log[k].Kind == 4)=true
      · rw [if_pos q,aQ (by simp;omega),if_pos q]
      · rw [if_neg q,if_neg q]) (by
        simp only [zO]
        rw [if_neg (by simp),List.take_length])
    exact this
  rw [key];rfl
def rp(n:Int):Int:=if lF n < 0 then 0 else gW (lF n)
theorem aXY(n:Int):lF (rp n)=lF n:=by
  unfold rp
  have hr:=WY n
  by_cases q:lF n < 0
  · rw [if_pos q]
    have:lF n = -1:=by omega
    rw [this];rfl
  · rw [if_neg q]
    have:lF n=0∨lF n=1∨lF n=2:=by omega
    rcases this with e | e | e <;> rw [e] <;> rfl
def no(o:bK):bK:={o with gP:=rp o.gP}
def ns(s:Sub):Sub:=if s.Kind=1 then {s with A:=rp s.A} else s
def nj(j:bD):bD:={j with Op:=no j.Op,Sub:=ns j.Sub}
def nq(q:Queue):Queue:=⟨q.fM.map no⟩
def nS(s:aB):aB:=⟨s.aA,s.Cells,s.aT.map nj,s.aZ.map nq,s.Log,s.aI⟩
theorem aXZ{s:Sub}(h:s.Kind≠1):ns s=s:=if_neg h
theorem aX0{s:Sub}(h:s.Kind=1):ns s={s with A:=rp s.A}:=if_pos h
theorem aX1(s:Sub):(ns s).Kind=s.Kind∧(ns s).Pc=s.Pc∧(ns s).Code=s.Code∧(ns s).Out=s.Out∧(ns s).cW=s.cW:=by
  unfold ns;split <;> exact⟨rfl,rfl,rfl,rfl,rfl⟩
theorem Z1(b:aA){s:Sub}(h:s.Kind=1)(p:Mem×Int):uT b {s with A:=rp s.A} p=((uT b s p).1,ns (uT b s p).2):=by
  unfold uT
  split
  · simp only [ns,pO,h,if_true]
  · split
    · simp only [ns,pO,h,if_true]
    · simp only [ns,h,if_true]
theorem a00(b:aA)(w:Int)(s:Sub):d7 b w (ns s)=((d7 b w s).1,ns (d7 b w s).2):=by
  by_cases h:s.Kind=1
  · have hk:=UY b w s
    rw [aX0 h]
    by_cases hd:s.cW=true
    · have e1:d7 b w s=(b,s):=by unfold d7;rw [if_pos hd]
      have e2:d7 b w {s with A:=rp s.A}=(b,{s with A:=rp s.A}):=by unfold d7;rw [if_pos hd]
      rw [e1,e2,aX0 h]
    · have e1:d7 b w s=FQ b w s:=by unfold d7;rw [if_neg hd,if_pos h]
      have e2:d7 b w {s with A:=rp s.A}=FQ b w {s with A:=rp s.A}:=by unfold d7;rw [if_neg hd,if_pos h]
      rw [e1,e2]
      unfold FQ
      simp only [aXY]
      split
      · simp only [ns,pO,h,if_true]
      · split
        · exact Z1 b h _
        · split
          · exact Z1 b h _
          · split
            · exact Z1 b h _
            · simp only [ns,pO,h,if_true]
  · have hk:=UY b w s
    rw [aXZ h,aXZ (s:=(d7 b w s).2) (by rw [hk];exact h)]
def nR(r:JR):JR:=⟨r.b,r.c,nj r.j,r.l⟩
theorem a01(s:aB)(w:Int)(j:bD):tZ (nS s) w (nj j)=nR (tZ s w j):=by
  have hs:=a00 s.aA w j.Sub
  obtain⟨p1,p2,p3,p4,p5⟩:=aX1 (d7 s.aA w j.Sub).2
  have hb:(nS s).aA=s.aA:=rfl
  have hc:(nS s).Cells=s.Cells:=rfl
  have e1:(nj j).Sub=ns j.Sub:=rfl
  have e2:(nj j).Pc=j.Pc:=rfl
  have e3:(nj j).Op.Kind=j.Op.Kind:=rfl
  have hn:∀(k a:Int),k≠1→ns (vO k a)=vO k a:=fun k a h=>aXZ h
  have e4:(nj j).Op.Cell=j.Op.Cell∧(nj j).Op.dK=j.Op.dK∧(nj j).H=j.H∧(nj j).aI=j.aI∧(nj j).Code=j.Code:=⟨rfl,rfl,rfl,rfl,rfl⟩
  obtain⟨c1,c2,c3,c4,c5⟩:=e4
  unfold tZ
  rw [e3]
  split
  · unfold EW
    simp only [hb,hc,e1,e2,hs,p3,p4,p5,c1,c2,c3,c4]
    repeat' (first | rfl | split)
  · split
    · unfold NR gY y9
      simp only [hb,hc,e1,e2,hs,p3,p4,p5,c1,c2,c3,c4,c5]
      repeat' (first | rfl | split)
    · split
      · unfold R3 y9
        simp only [hb,hc,e1,e2,c1,c2,c3,c4,c5]
        repeat' (first | rfl | split)
      · split
        · unfold IE gY y9
          simp only [hb,hc,e1,e2,c1,c2,c3,c4,c5]
          repeat' (first | rfl | split)
        · unfold uU
          simp only [hb,hc,e1,e2,e3,hs,p3,p4,p5,c5]
          repeat' (first | rfl | split)
theorem aLL:nj kD=kD:=rfl
theorem getD_map{α β:Type}(f:α→β)(l:List α)(k:Nat)(d:α):(l.map f).getD k (f d)=f (l.getD k d):=by
  simp only [List.getD_eq_getElem?_getD,List.getElem?_map]
  cases l[k]? <;> rfl
theorem aNV(s:aB)(w:Int):aK (nS s) w=nj (aK s w):=getD_map nj s.aT w.toNat kD
theorem aX2(s:aB)(w:Int):dN (nS s).aZ w=(dN s.aZ w).map no:=by
  have:=getD_map nq s.aZ w.toNat ⟨[]⟩
  unfold dN
  rw [show(nq ⟨[]⟩)=(⟨[]⟩:Queue) from rfl] at this
  exact congrArg Queue.fM this
theorem aTP(c:aC)(w:Int)(o:bK)(n:Int):iJ c w (no o) n=nj (iJ c w o n):=by
  have e3:(no o).Kind=o.Kind:=rfl
  unfold iJ
  rw [e3]
  split
  · simp only [nj,ns,vO,no,if_true]
  · split
    · split <;> rfl
    · split <;> rfl
theorem aX3(s:aB)(w:Int):iO (nS s) w=nS (iO s w):=by
  have e1:(nj (aK s w)).cY=(aK s w).cY:=rfl
  have e2:(nj (aK s w)).Pc=(aK s w).Pc:=rfl
  unfold iO
  simp only [aNV,e1,e2]
  split
  · unfold NS
    rw [aX2]
    cases dN s.aZ w with
    | nil=>rfl
    | cons o r =>
      simp only [List.map_cons]
      have e3:(nS s).aI=s.aI:=rfl
      rw [e3]
      split
      · rfl
      · simp only [nS,aTP,List.map_set]
        rfl
  · split
    · simp only [nS,List.map_set,aLL]
      rfl
    · simp only [a01]
      unfold kV nR
      simp only [nS,List.map_set]
theorem aLM(s:aB):mZ (nS s)↔mZ s:=by
  unfold mZ nS
  simp only [List.mem_map,forall_exists_index,and_imp,forall_apply_eq_imp_iff₂]
  exact⟨fun h=>⟨fun j hj=>h.1 j hj,fun q hq=>by have:=h.2 q hq;simpa [nq] using this⟩,fun h=>⟨fun j hj=>h.1 j hj,fun q hq=>by have:=h.2 q hq;simp [nq,this]⟩⟩
theorem aSD:∀n k s,T2 n k (nS s)=nS (T2 n k s)
  | 0,_,_=>rfl
  | n + 1, k, s => by
    simp only [T2]
    by_cases h:mZ s
    · rw [if_pos h,if_pos ((aLM s).2 h)]
    · rw [if_neg h,if_neg (fun q=>h ((aLM s).1 q)),aX3,aSD n]
theorem aDK(s:aB):yK (nS s)=nS (yK s):=aSD 3000 0 s
def ldx(v:Int):Int:=ld (EO (List.replicate 4 0) 0 v) 0 4
theorem aP9{v:Int}(h:0≤v∧v≤65535):ldx v=v:=by
  unfold ldx ld EO
  simp [ldF]
  omega
theorem aNW{n:Int}(h:1≤n∧n≤40):rp n=8∨rp n=16∨rp n=40:=by
  unfold rp lF
  by_cases a:1≤n∧n≤8
  · left;rw [if_pos a];rfl
  · rw [if_neg a]
    by_cases b:1≤n∧n≤16
    · right;left;rw [if_pos b];rfl
    · rw [if_neg b,if_pos h];right;right;rfl
theorem O9{n v:Int}(h1:0≤n∧n≤100)(h2:0≤v∧v≤65535):jY ⟨1,0,n,v⟩:=⟨by simp,.inr rfl,by simp,by rw [if_pos rfl];exact⟨h1,h2⟩⟩
end Go.Gv
end
noncomputable section
set_option maxRecDepth 20000
namespace Go.Gv
theorem QH{l:List bB}(h:pM l):nF l=some ((bH l).length:Int):=by
  have h1:=h.1;have h2:=h.2.1
  unfold nF
  rw [EM (by omega) (by simp only [maxLen];omega)];rfl
theorem drain_eq{s:aB}(hs:mY s)(hl:s.Log.length≤90000)(hi:mZ s){n:Nat}(hn:n≤12):KC s (n:Int)=some (yK (U6 s n))∧mY (yK (U6 s n))∧(yK (U6 s n)).Log.length≤s.Log.length+3000:=by
  have hsm:=CN hs (by omega)
  have hc:=a0Z hs hn
  obtain⟨f1,f2,f3⟩:=MK hc (show(U6 s n).Log.length≤100000 by show s.Log.length≤100000;omega)
  refine⟨?_,f2,f3⟩
  unfold KC
  rw [aII hsm,aG,if_pos ⟨hs,hi,by omega,by omega⟩,Int.toNat_natCast,f1];rfl
def AX(s:aB)(w:Nat)(l:List bK):aB:={s with aZ:=s.aZ.set w ⟨l⟩}
theorem aGE{s:aB}(hs:mY s)(w:Nat){l:List bK}(hl:l.length≤12)(ho:∀o∈l,jY o):mY (AX s w l):=by
  obtain⟨h1,h2,h3,⟨h4,h4'⟩,h5⟩:=hs
  exact⟨h1,h2,h3,⟨by simpa [AX] using h4,fun q hq=>(List.mem_or_eq_of_mem_set hq).elim (h4' q) (fun e=>by rw [e];exact⟨hl,ho⟩)⟩,h5⟩
end Go.Gv
end
noncomputable section
set_option maxRecDepth 20000
namespace Go.Gv
def zEv:Ev:=⟨0,0,0,0,0,0,0⟩
theorem aDM{s:aB}(hs:mY s){w:Int}(hw:0≤w∧w≤2):idx s.aZ w=some ⟨dN s.aZ w⟩:=by
  have h3:=hs.2.2.2.1.1
  rw [fL hw.1 (by omega)]
  simp [dN,List.getD_eq_getElem?_getD,List.getElem?_eq_getElem (show w.toNat < s.aZ.length by omega)]
end Go.Gv
end
noncomputable section
set_option maxRecDepth 20000
namespace Go.Gv
def Z2(p:qA)(j:bD):Bool:=if j.cY=false∨j.H=0 then false else if j.Op.Kind=2 then p.On && !p.dJ && (j.Pc == 2 || j.Pc == 3) else if j.Op.Kind=7 then p.On && !p.dJ && (j.Pc == 1 || j.Pc == 2) else if j.Op.Kind=3 then j.Pc == 3 else false
noncomputable section
variable {s:aB} (hs:mY s)
include hs
end
def gF(s:aB)(w:Int):Bool:=Z2 (bS s.aA.aC w) (aK s w)
end Go.Gv
end
noncomputable section
namespace Go.Gv
def aSE(s:Sub):Nat:=if s.Pc=0 then 4 else if s.Pc=1 then 3 else if s.Pc=2 then 2 else 1
def aGF(s:Sub):Nat:=if s.Pc=0 then 5 else if s.Pc=1∧0≤s.B∧s.B≤2 then (4 - s.B).toNat else 1
def V4(n:Nat)(s:Sub):Nat:=if s.Pc=0 then 2+5 * n else if s.Pc=1 then 1+5 * (n - s.Row.toNat) else if s.Pc=2 then max 1 (5 * (n - s.Row.toNat) - s.B.toNat) else if s.Pc=3 then max 1 (5 * (n - s.Row.toNat) - 3) else 1
def YL(e:Int)(s:Sub):Nat:=if s.Pc=0 then 3 else if s.Pc=1 then (if s.E=e then 2 else 5) else if s.Pc=2 then (if s.E=e then 1 else 4) else 1
def fE(b:aA)(w:Int):Nat:=(cX b.aM w).length
def iZ(b:aA)(w:Int)(s:Sub):Nat:=if s.cW then 1 else if s.Kind=1 then aSE s else if s.Kind=2 then (if s.Pc=0 then 2 else 1) else if s.Kind=3 then aGF s+6 else if s.Kind=4 then V4 (fE b w) s else if s.Kind=5 then YL b.aC.aJ s else 1
def rfSub(s:Sub):Nat:=if s.Kind=2∧s.cW=false then 1 else 0
theorem aJX(b:aA)(w:Int)(s:Sub):1≤iZ b w s:=by
  unfold iZ aSE aGF V4 YL
  split <;> repeat' split
  all_goals omega
noncomputable section
variable {b:aA} {w:Int} {s:Sub} (hd:s.cW=false)
include hd
theorem aQA(hk:s.Kind=3):iZ b w s=aGF s+6:=by simp [iZ,hd,hk]
theorem NT(hk:s.Kind=4):iZ b w s=V4 (fE b w) s:=by simp [iZ,hd,hk]
theorem Z3(hk:s.Kind=5):iZ b w s=YL b.aC.aJ s:=by simp [iZ,hd,hk]
end
structure aCA (b:aA) (w:Int) (s:Sub) (r:aA×Sub):Prop where
  low:r.2.cW=true∨iZ r.1 w r.2+1≤iZ b w s
  ep:r.1.aC.aJ=b.aC.aJ∨r.1.aC.aJ=b.aC.aJ+1∧r.2.cW=true∧7≤iZ b w s
  rows:fE r.1 w+rfSub r.2≤fE b w+rfSub s
  oth:∀v,0≤v∧v≤2→v≠w→fE r.1 v=fE b v
theorem aJY{l:List bB}{v w:Int}(hv:0≤v)(hw:0≤w)(h:v≠w)(r:List dO):cX (l.set w.toNat ⟨r⟩) v=cX l v:=by
  unfold cX
  rw [List.getD_eq_getElem?_getD,List.getElem?_set_ne (by omega),←List.getD_eq_getElem?_getD]
theorem YM{b:aA}{w:Int}{s:Sub}(c:Int):aCA b w s (b,pO s c):=⟨.inl rfl,.inl rfl,by simp [rfSub,pO],fun _ _ _=>rfl⟩
theorem a4E{b:aA}{w:Int}{s:Sub}(hd:s.cW=false)(hk:s.Kind=1):aCA b w s (FQ b w s):=by
  have T:∀p:Mem×Int,(s.Pc=0∨s.Pc=1∨s.Pc=2∨s.Pc=3)→aCA b w s (uT b s p):=fun p hp=>by
    unfold uT
    split
    · exact⟨.inl rfl,.inl rfl,by simp [rfSub,pO,fE],fun _ _ _=>rfl⟩
    · split
      · exact⟨.inl rfl,.inl rfl,by simp [rfSub,pO,fE],fun _ _ _=>rfl⟩
      · refine⟨.inr ?_,.inl rfl,by simp [rfSub,hk,fE],fun _ _ _=>rfl⟩
        simp only [iZ,hd,hk,aP,if_false,if_true,aSE]
        rcases hp with p | p | p | p
        · simp [p]
        · simp [p]
        · simp [p]
        · exact absurd p ‹_›
  unfold FQ
  split
  · exact YM 2
  · split
    · exact T _ (by omega)
    · split
      · exact T _ (by omega)
      · split
        · exact T _ (by omega)
        · exact YM 1
theorem a02{b:aA}(hb:mR b){w:Int}(hw:0≤w∧w≤2){s:Sub}(hd:s.cW=false)(hk:s.Kind=2):aCA b w s (GW b w s):=by
  have h3:=hb.1.2.2.1.1
  unfold GW
  split
  · rename_i p
    refine⟨.inr ?_,.inl rfl,by simp [rfSub,hk,hd,fE],fun _ _ _=>rfl⟩
    simp [iZ,hd,hk,p]
  · split
    · split
      · split
        · refine⟨.inl rfl,.inl rfl,?_,fun v hv hn=>?_⟩
          · simp only [fE,rfSub,pO,hk,hd]
            rw [aGC h3 hw];simp
          · simp only [fE]
            rw [aJY hv.1 hw.1 hn]
        · exact YM 4
      · exact YM 1
    · exact YM 1
theorem aX4{b:aA}{w:Int}{s:Sub}(hd:s.cW=false)(hk:s.Kind=3):aCA b w s (lG b s):=by
  have lk:∀c v e,(y8 c v e).1.aJ=c.aJ:=fun c v e=>by unfold y8;split;rfl;split <;> rfl
  unfold lG
  split
  · rename_i p
    refine⟨.inr ?_,.inl rfl,by simp [rfSub,hk,fE],fun _ _ _=>rfl⟩
    simp [iZ,hd,hk,p,aGF]
  · split
    · rename_i p
      split
      · rename_i hB
        split
        · refine⟨.inr ?_,.inl (lk ..),by simp [rfSub,hk,fE],fun _ _ _=>rfl⟩
          rw [aQA hd hk,aQA (by exact hd) (by exact hk)]
          unfold aGF
          simp only
          by_cases q:s.B=2
          · simp [q,p]
          · rw [if_neg q,if_neg (by omega),if_pos (by omega),if_neg (by omega),if_pos (by omega)]
            omega
        · exact⟨.inl rfl,.inl (lk ..),by simp [rfSub,hk,pO,fE],fun _ _ _=>rfl⟩
      · exact YM 1
    · split
      · refine⟨.inl rfl,?_,by simp [rfSub,hk,pO,fE],fun _ _ _=>rfl⟩
        simp only [V3]
        split
        · rename_i q
          right
          refine⟨by simp only;omega,rfl,?_⟩
          rw [aQA hd hk]
          unfold aGF
          split
          · omega
          · split <;> omega
        · exact .inl rfl
      · exact YM 1
theorem a7X{b:aA}{w:Int}{s:Sub}(hd:s.cW=false)(hk:s.Kind=5):aCA b w s (TY b w s):=by
  have pk:∀c v e,(K0 c v e).1.aJ=c.aJ:=fun c v e=>by unfold K0;split <;> rfl
  unfold TY
  split
  · rename_i p
    refine⟨.inr ?_,.inl rfl,by simp [rfSub,hk,fE],fun _ _ _=>rfl⟩
    rw [Z3 hd hk,Z3 (by exact hd) (by exact hk)]
    simp [YL,p]
  · split
    · rename_i p
      split
      · refine⟨.inr ?_,.inl (pk ..),by simp [rfSub,hk,fE],fun _ _ _=>rfl⟩
        rw [Z3 hd hk,Z3 (by exact hd) (by exact hk)]
        unfold YL
        simp only [pk]
        by_cases q:s.E=b.aC.aJ <;> simp [q,p]
      · exact⟨.inl rfl,.inl (pk ..),by simp [rfSub,hk,pO,fE],fun _ _ _=>rfl⟩
    · split
      · rename_i p
        split
        · exact YM 0
        · rename_i q
          refine⟨.inr ?_,.inl rfl,by simp [rfSub,hk,fE],fun _ _ _=>rfl⟩
          rw [Z3 hd hk,Z3 (by exact hd) (by exact hk)]
          unfold YL
          have q':¬s.E=b.aC.aJ:=fun e=>q e.symm
          simp [q',p]
      · exact YM 1
theorem aX5{b:aA}(hb:mR b){w:Int}(hw:0≤w∧w≤2){s:Sub}(hd:s.cW=false)(hk:s.Kind=4):aCA b w s (lH b w s):=by
  have h3:=hb.1.2.2.1.1
  unfold lH
  split
  · rename_i p
    refine⟨.inr ?_,.inl rfl,by simp [rfSub,hk,fE],fun _ _ _=>rfl⟩
    rw [NT hd hk,NT (by exact hd) (by exact hk)]
    simp [V4,p,fE];omega
  · split
    · rename_i p
      split
      · rename_i q
        refine⟨.inr ?_,.inl rfl,by simp [rfSub,hk,fE],fun _ _ _=>rfl⟩
        rw [NT hd hk,NT (by exact hd) (by exact hk)]
        have:=(aF8 q).1
        simp [V4,p,fE];omega
      · exact YM 0
    · split
      · rename_i p
        split
        · rename_i q
          obtain⟨hB,a0,a1,a2⟩:=q
          split
          · refine⟨.inr ?_,.inl rfl,by simp [rfSub,hk,fE],fun _ _ _=>rfl⟩
            rw [NT hd hk,NT (by exact hd) (by exact hk)]
            simp [V4,p,fE];omega
          · refine⟨.inr ?_,.inl rfl,by simp [rfSub,hk,fE],fun _ _ _=>rfl⟩
            rw [NT hd hk,NT (by exact hd) (by exact hk)]
            by_cases z:s.B=2
            · simp [V4,p,fE,z];omega
            · simp [V4,p,fE,z];omega
        · exact YM 1
      · split
        · rename_i p
          split
          · rename_i q
            obtain⟨⟨a0,a1,a2⟩,_⟩:=q
            have e:(cX (b.aM.set w.toNat ⟨(cX b.aM w).eraseIdx s.Row.toNat⟩) w).length=(cX b.aM w).length - 1:=by
              rw [aGC h3 hw,List.length_eraseIdx_of_lt (by omega)]
            refine⟨.inr ?_,.inl rfl,?_,fun v hv hn=>?_⟩
            · rw [NT hd hk,NT (by exact hd) (by exact hk)]
              simp only [V4,p,fE,e];simp;omega
            · simp only [rfSub,hk,fE,e];simp
            · simp only [fE]
              rw [aJY hv.1 hw.1 hn]
          · exact YM 1
        · exact YM 1
theorem a4F{b:aA}(hb:mR b){w:Int}(hw:0≤w∧w≤2)(s:Sub):aCA b w s (d7 b w s):=by
  unfold d7
  cases hd:s.cW
  · rw [if_neg (by simp)]
    by_cases k1:s.Kind=1
    · rw [if_pos k1];exact a4E hd k1
    rw [if_neg k1]
    by_cases k2:s.Kind=2
    · rw [if_pos k2];exact a02 hb hw hd k2
    rw [if_neg k2]
    by_cases k3:s.Kind=3
    · rw [if_pos k3];exact aX4 hd k3
    rw [if_neg k3]
    by_cases k4:s.Kind=4
    · rw [if_pos k4];exact aX5 hb hw hd k4
    rw [if_neg k4]
    by_cases k5:s.Kind=5
    · rw [if_pos k5];exact a7X hd k5
    rw [if_neg k5]
    exact YM 1
  · rw [if_pos rfl]
    exact⟨.inl hd,.inl rfl,Nat.le_refl _,fun _ _ _=>rfl⟩
end Go.Gv
end
noncomputable section
namespace Go.Gv
def cO(b:aA)(c:List Int)(w:Int)(j:bD):Nat:=
  if j.Pc=9 then 1
  else if j.Op.Kind=1 then (if j.Pc=0 then iZ b w j.Sub+11 else if j.Pc=1 then 11 else if j.Pc=2 then 10 else if j.Pc=3 then iZ b w j.Sub+1 else 2)
  else if j.Op.Kind=2 then (if j.Pc=0 then iZ b w j.Sub+5 else if j.Pc=1 then 5 else if j.Pc=2 then 4 else if j.Pc=3 then 3 else 2)
  else if j.Op.Kind=3 then (if j.Pc=0 then 6 else if j.Pc=1 then (if cellAt c j.Op.Cell=j.H then 5 else 8) else if j.Pc=2 then (if cellAt c j.Op.Cell=j.H then 4 else 7) else if j.Pc=3 then 3 else 2)
  else if j.Op.Kind=7 then (if j.Pc=0 then 4 else if j.Pc=1 then 3 else 2)
  else if j.Op.Kind=6 then 2
  else if j.Op.Kind=5 then (if j.Pc=0 then iZ b w j.Sub+1 else 2)
  else if j.Pc=0 then iZ b w j.Sub+3+5 * (fE b w+rfSub j.Sub) else if j.Pc=1 then iZ b w j.Sub+1 else 2
def NU(j:bD):Nat:=rfSub j.Sub+if j.Op.Kind=1∧(j.Pc=0∨j.Pc=1∨j.Pc=2) then 1 else 0
structure aIJ (b:aA) (c:List Int) (w:Int) (j:bD) (r:JR):Prop where
  low:∃d,(d=0∧r.b.aC.aJ=b.aC.aJ∧r.c=c∨d=3)∧cO r.b r.c w r.j+1+2 * d≤cO b c w j
  rows:fE r.b w+NU r.j≤fE b w+NU j
  oth:∀v,0≤v∧v≤2→v≠w→fE r.b v=fE b v
  op:r.j.Op=j.Op∧r.j.cY=j.cY
theorem aCA.d{b:aA}{w:Int}{s:Sub}{r:aA×Sub}(h:aCA b w s r):∃d,(d=0∧r.1.aC.aJ=b.aC.aJ∨d=3)∧1+2 * d≤iZ b w s:=by
  rcases h.ep with e | ⟨_,_,e⟩
  · exact⟨0,.inl ⟨rfl,e⟩,by have:=aJX b w s;omega⟩
  · exact⟨3,.inr rfl,by omega⟩
theorem aCA.nd{b:aA}{w:Int}{s:Sub}{r:aA×Sub}(h:aCA b w s r)(hn:r.2.cW=false):r.1.aC.aJ=b.aC.aJ∧iZ r.1 w r.2+1≤iZ b w s:=by
  refine⟨?_,?_⟩
  · rcases h.ep with e | ⟨_,e,_⟩
    · exact e
    · rw [hn] at e;cases e
  · rcases h.low with e | e
    · rw [hn] at e;cases e
    · exact e
theorem aDN{s:Sub}(h:s.cW=true):rfSub s=0:=by simp [rfSub,h]
theorem aX6(b:aA)(w:Int):iZ b w (vO 4 0)=2+5 * fE b w:=by simp [iZ,vO,V4]
theorem a4G:rfSub (vO 4 0)=0:=by simp [rfSub,vO]
theorem aTQ(b:aA)(c:List Int)(w:Int)(j:bD):1≤cO b c w j:=by
  unfold cO
  repeat' split
  all_goals omega
noncomputable section
variable {s:aB} (hs:mY s) {w:Int} (hw:0≤w∧w≤2) {j:bD} (h9:j.Pc≠9)
include hs hw h9
theorem a7Y(hk:j.Op.Kind=1):aIJ s.aA s.Cells w j (EW s w j):=by
  have L:=a4F hs.1 hw j.Sub
  have Lr:=L.rows
  obtain⟨d,hd1,hd2⟩:=L.d
  have D:d=0∧(d7 s.aA w j.Sub).1.aC.aJ=s.aA.aC.aJ∧s.Cells=s.Cells∨d=3:=by
    rcases hd1 with ⟨a,e⟩ | a
    · exact .inl ⟨a,e,rfl⟩
    · exact .inr a
  unfold EW
  by_cases p0:j.Pc=0
  · rw [if_pos p0]
    have c0:cO s.aA s.Cells w j=iZ s.aA w j.Sub+11:=by simp [cO,p0,hk]
    have f0:NU j=rfSub j.Sub+1:=by simp [NU,p0,hk]
    cases hd:(d7 s.aA w j.Sub).2.cW with
    | true =>
      have z:=aDN hd
      simp only [if_true]
      split
      · refine⟨⟨d,D,?_⟩,?_,L.oth,rfl,rfl⟩
        · rw [c0];simp [cO,cC];omega
        · rw [f0];simp [NU,cC,z,hk];omega
      · split
        · refine⟨⟨d,D,?_⟩,?_,L.oth,rfl,rfl⟩
          · rw [c0];simp [cO,cC,hk];omega
          · rw [f0];simp [NU,cC,z,hk];omega
        · refine⟨⟨d,D,?_⟩,?_,L.oth,rfl,rfl⟩
          · rw [c0];simp [cO,cC];omega
          · rw [f0];simp [NU,cC,z,hk];omega
    | false =>
      obtain⟨e1,e2⟩:=L.nd hd
      simp only [aP,if_false]
      refine⟨⟨0,.inl ⟨rfl,e1,rfl⟩,?_⟩,?_,L.oth,rfl,rfl⟩
      · rw [c0];simp [cO,p0,hk];omega
      · rw [f0];simp [NU,p0,hk];omega
  rw [if_neg p0]
  by_cases p1:j.Pc=1
  · rw [if_pos p1]
    have c0:cO s.aA s.Cells w j=11:=by simp [cO,p1,hk]
    have f0:NU j=rfSub j.Sub+1:=by simp [NU,p1,hk]
    split
    · refine⟨⟨0,.inl ⟨rfl,rfl,rfl⟩,?_⟩,?_,fun _ _ _=>rfl,rfl,rfl⟩
      · rw [c0];simp [cO,cC,hk]
      · rw [f0];simp [NU,cC,hk,fE]
    · refine⟨⟨0,.inl ⟨rfl,rfl,rfl⟩,?_⟩,?_,fun _ _ _=>rfl,rfl,rfl⟩
      · rw [c0];simp [cO,cC,hk]
      · rw [f0];simp [NU,cC,hk,fE]
  rw [if_neg p1]
  by_cases p2:j.Pc=2
  · rw [if_pos p2]
    have c0:cO s.aA s.Cells w j=10:=by simp [cO,p2,hk]
    have f0:NU j=rfSub j.Sub+1:=by simp [NU,p2,hk]
    refine⟨⟨3,.inr rfl,?_⟩,?_,fun _ _ _=>rfl,?_⟩
    · rw [c0]
      simp only
      split
      · simp [cO,cC,hk]
      · simp [cO,cC,hk,iZ,vO]
    · rw [f0]
      simp only
      split
      · simp [NU,cC,hk]
      · simp [NU,cC,hk,rfSub,vO]
    · simp only
      split <;> exact⟨rfl,rfl⟩
  rw [if_neg p2]
  by_cases p3:j.Pc=3
  · rw [if_pos p3]
    have c0:cO s.aA s.Cells w j=iZ s.aA w j.Sub+1:=by simp [cO,p3,hk]
    have f0:NU j=rfSub j.Sub:=by simp [NU,p3,hk]
    cases hd:(d7 s.aA w j.Sub).2.cW with
    | true =>
      have z:=aDN hd
      refine⟨⟨d,D,?_⟩,?_,L.oth,rfl,rfl⟩
      · rw [c0];simp [cO,cC];omega
      · rw [f0];simp [NU,cC,z,hk];omega
    | false =>
      obtain⟨e1,e2⟩:=L.nd hd
      simp only [aP,if_false]
      refine⟨⟨0,.inl ⟨rfl,e1,rfl⟩,?_⟩,?_,L.oth,rfl,rfl⟩
      · rw [c0];simp [cO,p3,hk];omega
      · rw [f0];simp [NU,p3,hk];omega
  rw [if_neg p3]
  refine⟨⟨0,.inl ⟨rfl,rfl,rfl⟩,?_⟩,?_,fun _ _ _=>rfl,rfl,rfl⟩
  · simp [cO,cC,hk,h9,p0,p1,p2,p3]
  · simp [NU,cC,hk,fE,p0,p1,p2]
theorem a7Z(hk:j.Op.Kind=2):aIJ s.aA s.Cells w j (NR s w j):=by
  have L:=a4F hs.1 hw j.Sub
  have Lr:=L.rows
  obtain⟨d,hd1,hd2⟩:=L.d
  have D:d=0∧(d7 s.aA w j.Sub).1.aC.aJ=s.aA.aC.aJ∧s.Cells=s.Cells∨d=3:=by
    rcases hd1 with ⟨a,e⟩ | a
    · exact .inl ⟨a,e,rfl⟩
    · exact .inr a
  have ue:(zH s.aA.aC w).1.aJ=s.aA.aC.aJ:=by unfold zH;split <;> rfl
  have fj:NU j=rfSub j.Sub:=by simp [NU,hk]
  have fin:∀(r:JR),r.b=s.aA→r.c=s.Cells→r.j.Op=j.Op∧r.j.cY=j.cY→r.j.Sub=j.Sub→cO s.aA s.Cells w r.j+1≤cO s.aA s.Cells w j→aIJ s.aA s.Cells w j r:=fun r e1 e2 e3 e4 h=>by
    refine⟨⟨0,.inl ⟨rfl,by rw [e1],e2⟩,by rw [e1,e2];omega⟩,?_,fun _ _ _=>by rw [e1],e3⟩
    rw [e1,fj];simp [NU,e3.1,hk,e4]
  unfold NR
  by_cases p0:j.Pc=0
  · rw [if_pos p0]
    have c0:cO s.aA s.Cells w j=iZ s.aA w j.Sub+5:=by simp [cO,p0,hk]
    cases hd:(d7 s.aA w j.Sub).2.cW with
    | true =>
      have z:=aDN hd
      refine⟨⟨d,D,?_⟩,?_,L.oth,rfl,rfl⟩
      · rw [c0];simp [cO,cC,hk];omega
      · rw [fj];simp [NU,cC,z,hk];omega
    | false =>
      obtain⟨e1,e2⟩:=L.nd hd
      refine⟨⟨0,.inl ⟨rfl,e1,rfl⟩,?_⟩,?_,L.oth,rfl,rfl⟩
      · rw [c0];simp [cO,p0,hk];omega
      · rw [fj];simp [NU,p0,hk];omega
  rw [if_neg p0]
  by_cases p1:j.Pc=1
  · rw [if_pos p1]
    have c0:cO s.aA s.Cells w j=5:=by simp [cO,p1,hk]
    refine fin _ rfl rfl ?_ ?_ ?_
    · simp only;split <;> exact⟨rfl,rfl⟩
    · simp only;split <;> rfl
    · rw [c0];simp only;split <;> simp [cO,cC,hk]
  rw [if_neg p1]
  by_cases p2:j.Pc=2
  · rw [if_pos p2]
    refine fin _ rfl rfl ⟨rfl,rfl⟩ rfl ?_
    simp [cO,cC,hk,p2]
  rw [if_neg p2]
  by_cases p3:j.Pc=3
  · rw [if_pos p3]
    have c0:cO s.aA s.Cells w j=3:=by simp [cO,p3,hk]
    refine fin _ rfl rfl ?_ ?_ ?_
    · simp only [gY];split <;> exact⟨rfl,rfl⟩
    · simp only [gY];split <;> rfl
    · rw [c0];simp only [gY];split <;> simp [cO,cC,hk]
  rw [if_neg p3]
  have c0:cO s.aA s.Cells w j=2:=by simp [cO,hk,h9,p0,p1,p2,p3]
  by_cases p4:j.Pc=4
  · rw [if_pos p4]
    refine⟨⟨0,.inl ⟨rfl,ue,rfl⟩,?_⟩,?_,fun _ _ _=>rfl,rfl,rfl⟩
    · rw [c0];simp [cO,cC]
    · rw [fj];simp [NU,cC,hk,fE]
  rw [if_neg p4]
  refine fin _ rfl rfl ⟨rfl,rfl⟩ rfl ?_
  rw [c0];simp [cO,cC]
theorem a70(hk:j.Op.Kind=3):aIJ s.aA s.Cells w j (R3 s w j):=by
  have fj:NU j=rfSub j.Sub:=by simp [NU,hk]
  have fin:∀(r:JR),r.b.aC=s.aA.aC→r.b.aM=s.aA.aM→r.c=s.Cells→r.j.Op=j.Op∧r.j.cY=j.cY→r.j.Sub=j.Sub→cO r.b s.Cells w r.j+1≤cO s.aA s.Cells w j→aIJ s.aA s.Cells w j r:=fun r e1 e1' e2 e3 e4 h=>by
    refine⟨⟨0,.inl ⟨rfl,by rw [e1],e2⟩,by rw [e2];omega⟩,?_,fun _ _ _=>by unfold fE;rw [e1'],e3⟩
    rw [fj];unfold fE;rw [e1'];simp [NU,e3.1,hk,e4]
  unfold R3
  by_cases p0:j.Pc=0
  · rw [if_pos p0]
    split
    · exact fin _ rfl rfl rfl ⟨rfl,rfl⟩ rfl (by simp [cO,cC,hk,p0])
    · exact fin _ rfl rfl rfl ⟨rfl,rfl⟩ rfl (by simp [cO,cC,hk,p0])
  rw [if_neg p0]
  by_cases p1:j.Pc=1
  · rw [if_pos p1]
    refine fin _ rfl rfl rfl ⟨rfl,rfl⟩ rfl ?_
    by_cases q:cellAt s.Cells j.Op.Cell=j.H <;> simp [cO,cC,hk,p1,q]
  rw [if_neg p1]
  by_cases p2:j.Pc=2
  · rw [if_pos p2]
    split
    · rename_i q
      exact fin _ rfl rfl rfl ⟨rfl,rfl⟩ rfl (by simp [cO,cC,hk,p2,q])
    · rename_i q
      exact fin _ rfl rfl rfl ⟨rfl,rfl⟩ rfl (by simp [cO,cC,hk,p2,q])
  rw [if_neg p2]
  by_cases p3:j.Pc=3
  · rw [if_pos p3]
    exact fin _ rfl rfl rfl ⟨rfl,rfl⟩ rfl (by simp [cO,cC,hk,p3])
  rw [if_neg p3]
  have c0:cO s.aA s.Cells w j=2:=by simp [cO,hk,h9,p0,p1,p2,p3]
  by_cases p4:j.Pc=4
  · rw [if_pos p4]
    exact fin _ rfl rfl rfl ⟨rfl,rfl⟩ rfl (by rw [c0];simp [cO,cC])
  rw [if_neg p4]
  exact fin _ rfl rfl rfl ⟨rfl,rfl⟩ rfl (by rw [c0];simp [cO,cC])
theorem a6M(hk:j.Op.Kind=7):aIJ s.aA s.Cells w j (IE s w j):=by
  have fj:NU j=rfSub j.Sub:=by simp [NU,hk]
  have fin:∀(r:JR),r.b=s.aA→r.c=s.Cells→r.j.Op=j.Op∧r.j.cY=j.cY→r.j.Sub=j.Sub→cO s.aA s.Cells w r.j+1≤cO s.aA s.Cells w j→aIJ s.aA s.Cells w j r:=fun r e1 e2 e3 e4 h=>by
    refine⟨⟨0,.inl ⟨rfl,by rw [e1],e2⟩,by rw [e1,e2];omega⟩,?_,fun _ _ _=>by rw [e1],e3⟩
    rw [e1,fj];simp [NU,e3.1,hk,e4]
  unfold IE
  by_cases p0:j.Pc=0
  · rw [if_pos p0]
    have c0:cO s.aA s.Cells w j=4:=by simp [cO,p0,hk]
    split
    · exact fin _ rfl rfl ⟨rfl,rfl⟩ rfl (by rw [c0];simp [cO,cC])
    · split
      · exact fin _ rfl rfl ⟨rfl,rfl⟩ rfl (by rw [c0];simp [cO,cC])
      · refine fin _ rfl rfl ?_ ?_ ?_
        · simp only;split <;> exact⟨rfl,rfl⟩
        · simp only;split <;> rfl
        · rw [c0];simp only;split <;> simp [cO,cC,hk]
  rw [if_neg p0]
  by_cases p1:j.Pc=1
  · rw [if_pos p1]
    exact fin _ rfl rfl ⟨rfl,rfl⟩ rfl (by simp [cO,cC,hk,p1])
  rw [if_neg p1]
  have c0:cO s.aA s.Cells w j=2:=by simp [cO,hk,h9,p0,p1]
  by_cases p2:j.Pc=2
  · rw [if_pos p2]
    refine fin _ rfl rfl ?_ ?_ ?_
    · simp only [gY];split <;> exact⟨rfl,rfl⟩
    · simp only [gY];split <;> rfl
    · rw [c0];simp only [gY];split <;> simp [cO,cC]
  rw [if_neg p2]
  exact fin _ rfl rfl ⟨rfl,rfl⟩ rfl (by rw [c0];simp [cO,cC])
theorem a4H(k1:j.Op.Kind≠1)(k2:j.Op.Kind≠2)(k3:j.Op.Kind≠3)(k7:j.Op.Kind≠7):aIJ s.aA s.Cells w j (uU s w j):=by
  have L:=a4F hs.1 hw j.Sub
  have Lr:=L.rows
  obtain⟨d,hd1,hd2⟩:=L.d
  have D:d=0∧(d7 s.aA w j.Sub).1.aC.aJ=s.aA.aC.aJ∧s.Cells=s.Cells∨d=3:=by
    rcases hd1 with ⟨a,e⟩ | a
    · exact .inl ⟨a,e,rfl⟩
    · exact .inr a
  have ue:(zH s.aA.aC w).1.aJ=s.aA.aC.aJ:=by unfold zH;split <;> rfl
  have fj:NU j=rfSub j.Sub:=by simp [NU,k1]
  have two:∀c,2≤cO s.aA s.Cells w j→aIJ s.aA s.Cells w j ⟨s.aA,s.Cells,cC j 9 c,[]⟩:=fun c h=>by
    refine⟨⟨0,.inl ⟨rfl,rfl,rfl⟩,by simp [cO,cC] at h ⊢;exact h⟩,?_,fun _ _ _=>rfl,rfl,rfl⟩
    rw [fj];simp [NU,cC,k1]
  have ge2:2≤cO s.aA s.Cells w j:=by
    have:=aJX s.aA w j.Sub
    simp only [cO,if_neg h9,if_neg k1,if_neg k2,if_neg k3,if_neg k7]
    repeat' split
    all_goals omega
  unfold uU
  by_cases k6:j.Op.Kind=6
  · rw [if_pos k6]
    split
    · refine⟨⟨0,.inl ⟨rfl,ue,rfl⟩,by simp only [cO,cC];exact ge2⟩,?_,fun _ _ _=>rfl,rfl,rfl⟩
      rw [fj];simp [NU,cC,k1,fE]
    · exact two 1 ge2
  rw [if_neg k6]
  by_cases p:j.Pc=0∨j.Pc=1∧j.Op.Kind≠5
  · rw [if_pos p]
    cases hd:(d7 s.aA w j.Sub).2.cW with
    | true =>
      have z:=aDN hd
      by_cases k5:j.Op.Kind=5
      · have p0:j.Pc=0:=by rcases p with p | p;exact p;exact absurd k5 p.2
        have c0:cO s.aA s.Cells w j=iZ s.aA w j.Sub+1:=by simp [cO,p0,k5]
        refine⟨⟨d,D,?_⟩,?_,L.oth,?_⟩
        · rw [c0];simp [cO,cC,k5];omega
        · rw [fj];simp [NU,cC,z,k5];omega
        · simp [cC,k5]
      · by_cases p0:j.Pc=0
        · have c0:cO s.aA s.Cells w j=iZ s.aA w j.Sub+3+5 * (fE s.aA w+rfSub j.Sub):=by simp [cO,p0,k1,k2,k3,k5,k6,k7]
          refine⟨⟨d,D,?_⟩,?_,L.oth,?_⟩
          · rw [c0];simp [cO,cC,k1,k2,k3,k5,k6,k7,p0,aX6];omega
          · rw [fj];simp [NU,cC,z,k5,p0,k1,a4G];omega
          · simp [cC,k5,p0]
        · have p1:j.Pc=1:=by rcases p with p | p;exact absurd p p0;exact p.1
          have c0:cO s.aA s.Cells w j=iZ s.aA w j.Sub+1:=by simp [cO,p1,k1,k2,k3,k5,k6,k7]
          refine⟨⟨d,D,?_⟩,?_,L.oth,?_⟩
          · rw [c0];simp [cO,cC,k5,p1];omega
          · rw [fj];simp [NU,cC,z,k5,p1,k1];omega
          · simp [cC,k5,p1]
    | false =>
      obtain⟨e1,e2⟩:=L.nd hd
      simp only [aP,if_false]
      refine⟨⟨0,.inl ⟨rfl,e1,rfl⟩,?_⟩,?_,L.oth,rfl,rfl⟩
      · by_cases k5:j.Op.Kind=5
        · have p0:j.Pc=0:=by rcases p with p | p;exact p;exact absurd k5 p.2
          simp [cO,p0,k5];omega
        · by_cases p0:j.Pc=0
          · simp [cO,p0,k1,k2,k3,k5,k6,k7];omega
          · have p1:j.Pc=1:=by rcases p with p | p;exact absurd p p0;exact p.1
            simp [cO,p1,k1,k2,k3,k5,k6,k7];omega
      · rw [fj];simp [NU,k1];omega
  rw [if_neg p]
  exact two 1 ge2
theorem a4I:aIJ s.aA s.Cells w j (tZ s w j):=by
  unfold tZ
  by_cases k1:j.Op.Kind=1
  · rw [if_pos k1];exact a7Y hs hw h9 k1
  rw [if_neg k1]
  by_cases k2:j.Op.Kind=2
  · rw [if_pos k2];exact a7Z hs hw h9 k2
  rw [if_neg k2]
  by_cases k3:j.Op.Kind=3
  · rw [if_pos k3];exact a70 hs hw h9 k3
  rw [if_neg k3]
  by_cases k7:j.Op.Kind=7
  · rw [if_pos k7];exact a6M hs hw h9 k7
  rw [if_neg k7]
  exact a4H hs hw h9 k1 k2 k3 k7
end
end Go.Gv
end
noncomputable section
namespace Go.Gv
def kq(q:List bK):Nat:=(q.map fun o=>if o.Kind=1 then 1 else 0).sum
def opC(k:Nat)(o:bK):Nat:=if o.Kind=1 then 16 else if o.Kind=2 then 9 else if o.Kind=3 then 7 else if o.Kind=5 then 5 else if o.Kind=6 then 3 else if o.Kind=7 then 5 else 15+5 * k
def qC(k:Nat)(q:List bK):Nat:=(q.map (opC k)).sum
def jK(j:bD):Nat:=if j.cY then NU j else 0
def kW(s:aB)(w:Int):Nat:=kq (dN s.aZ w)+fE s.aA w+jK (aK s w)
def jC(s:aB)(w:Int):Nat:=if (aK s w).cY then cO s.aA s.Cells w (aK s w) else 0
def K4(s:aB)(w:Int):Nat:=jC s w+qC (kW s w) (dN s.aZ w)
def ML(s:aB)(w:Int):Prop:=(aK s w).cY=false∧dN s.aZ w=[]
instance (s:aB) (w:Int):Decidable (ML s w):=by unfold ML;infer_instance
theorem aX8{k k':Nat}(h:k'≤k)(o:bK):opC k' o≤opC k o:=by
  unfold opC
  repeat' split
  all_goals omega
theorem aDO{k k':Nat}(h:k'≤k):∀q:List bK,qC k' q≤qC k q
  | []=>Nat.le_refl _
  | o :: r => by
    have:=aDO h r
    have:=aX8 h o
    simp only [qC,List.map_cons,List.sum_cons] at *
    omega
theorem aTR{b b':aA}{v:Int}(hr:fE b' v=fE b v)(s:Sub):iZ b' v s≤iZ b v s+3:=by
  unfold iZ YL
  rw [hr]
  cases s.cW
  · simp only [aP,if_false]
    repeat' split
    all_goals omega
  · simp
theorem aQB{b b':aA}{v:Int}(hr:fE b' v=fE b v)(he:b'.aC.aJ=b.aC.aJ)(s:Sub):iZ b' v s=iZ b v s:=by
  unfold iZ
  rw [hr,he]
theorem aQC{b b':aA}{v:Int}(hr:fE b' v=fE b v)(he:b'.aC.aJ=b.aC.aJ)(c:List Int)(j:bD):cO b' c v j=cO b c v j:=by
  unfold cO
  rw [aQB hr he,hr]
theorem aTS{b b':aA}{c c':List Int}{v:Int}(hr:fE b' v=fE b v)(j:bD):cO b' c' v j≤cO b c v j+3:=by
  have h:=aTR hr j.Sub
  unfold cO
  rw [hr]
  by_cases p9:j.Pc=9
  · rw [if_pos p9,if_pos p9];omega
  rw [if_neg p9,if_neg p9]
  by_cases k1:j.Op.Kind=1
  · rw [if_pos k1,if_pos k1]
    by_cases p0:j.Pc=0
    · rw [if_pos p0,if_pos p0];omega
    rw [if_neg p0,if_neg p0]
    repeat' split
    all_goals omega
  rw [if_neg k1,if_neg k1]
  by_cases k2:j.Op.Kind=2
  · rw [if_pos k2,if_pos k2]
    by_cases p0:j.Pc=0
    · rw [if_pos p0,if_pos p0];omega
    rw [if_neg p0,if_neg p0];omega
  rw [if_neg k2,if_neg k2]
  by_cases k3:j.Op.Kind=3
  · rw [if_pos k3,if_pos k3]
    repeat' split
    all_goals omega
  rw [if_neg k3,if_neg k3]
  by_cases k7:j.Op.Kind=7
  · rw [if_pos k7,if_pos k7];omega
  rw [if_neg k7,if_neg k7]
  by_cases k6:j.Op.Kind=6
  · rw [if_pos k6,if_pos k6];omega
  rw [if_neg k6,if_neg k6]
  by_cases k5:j.Op.Kind=5
  · rw [if_pos k5,if_pos k5]
    by_cases p0:j.Pc=0
    · rw [if_pos p0,if_pos p0];omega
    rw [if_neg p0,if_neg p0];omega
  rw [if_neg k5,if_neg k5]
  by_cases p0:j.Pc=0
  · rw [if_pos p0,if_pos p0];omega
  rw [if_neg p0,if_neg p0]
  by_cases p1:j.Pc=1
  · rw [if_pos p1,if_pos p1];omega
  rw [if_neg p1,if_neg p1];omega
theorem aQD(b:aA)(c:List Int)(w:Int)(o:bK)(n:Int)(k:Nat)(hk:fE b w≤k):cO b c w (iJ b.aC w o n)+1≤opC k o:=by
  unfold iJ opC
  by_cases k1:o.Kind=1
  · rw [if_pos k1,if_pos k1];simp [cO,k1,iZ,vO,aSE]
  rw [if_neg k1,if_neg k1]
  by_cases k2:o.Kind=2
  · rw [if_pos (.inl k2),if_pos k2]
    split <;> simp [cO,k2,iZ,vO,YL]
  rw [if_neg k2]
  by_cases k5:o.Kind=5
  · rw [if_pos (show o.Kind=2∨o.Kind=5 from .inr k5),if_neg (show ¬o.Kind=3 by omega),if_pos k5]
    split <;> simp [cO,k5,iZ,vO,YL]
  rw [if_neg (show ¬(o.Kind=2∨o.Kind=5) by omega)]
  by_cases k3:o.Kind=3
  · rw [if_neg (show ¬o.Kind=4 by omega),if_pos k3];simp [cO,k3]
  rw [if_neg k3,if_neg k5]
  by_cases k6:o.Kind=6
  · rw [if_neg (show ¬o.Kind=4 by omega),if_pos k6];simp [cO,k6]
  rw [if_neg k6]
  by_cases k7:o.Kind=7
  · rw [if_neg (show ¬o.Kind=4 by omega),if_pos k7];simp [cO,k7]
  rw [if_neg k7]
  split
  · rename_i k4
    simp [cO,k4,iZ,vO,aGF,rfSub];omega
  · simp [cO,k1,k2,k3,k5,k6,k7,iZ,rfSub];omega
theorem a03(c:aC)(w:Int)(o:bK)(n:Int):jK (iJ c w o n)≤if o.Kind=1 then 1 else 0:=by
  unfold iJ jK NU
  by_cases k1:o.Kind=1
  · rw [if_pos k1];simp [k1,rfSub,vO]
  rw [if_neg k1]
  split
  · split <;> simp [k1,rfSub,vO]
  · split <;> simp [k1,rfSub,vO]
end Go.Gv
end
noncomputable section
namespace Go.Gv
theorem Z4{t:List Queue}(h3:t.length=3){w v:Int}(hw:0≤w∧w≤2)(hv:0≤v∧v≤2)(r:List bK):dN (t.set w.toNat ⟨r⟩) v=if v=w then r else dN t v:=by
  unfold dN
  simp only [List.getD_eq_getElem?_getD,List.getElem?_set]
  by_cases q:v=w
  · subst q;simp [show v.toNat < t.length by omega]
  · rw [if_neg q,if_neg (by omega)]
theorem QI(f:Int→bD){w v:Int}(h:v≠w)(j:bD):MJ f w j v=f v:=by simp [MJ,h]
def a6N(s s':aB)(w:Int):Prop:=∃d,K4 s' w+1+2 * d≤K4 s w∧∀v,0≤v∧v≤2→v≠w→K4 s' v≤K4 s v+d
noncomputable section
variable {s:aB} (hs:mY s) {w:Int} (hw:0≤w∧w≤2)
include hs hw
theorem aX9(h:ML s w):iO s w=s:=by
  unfold iO NS
  rw [if_pos h.1,h.2]
theorem aYA(hser:s.aI≠1000000)(h:¬ML s w):a6N s (iO s w) w:=by
  have h3:=hs.2.2.1
  have t3:s.aZ.length=3:=hs.2.2.2.1.1
  unfold iO
  by_cases hb:(aK s w).cY=false
  · rw [if_pos hb]
    unfold NS
    cases ho:dN s.aZ w with
    | nil=>exact absurd ⟨hb,ho⟩ h
    | cons o r =>
      simp only
      rw [if_neg hser]
      have ja:=fun(v:Int) (hv:0≤v∧v≤2)=>m9 h3 hw hv s.aA s.Cells (iJ s.aA.aC w o (s.aI+1)) (s.aZ.set w.toNat ⟨r⟩) (s.Log ++ [⟨1,w,s.aI+1,o.Cell,0,0,0⟩]) (s.aI+1)
      have ta:=fun(v:Int) (hv:0≤v∧v≤2)=>Z4 t3 hw hv r
      refine⟨0,?_,fun v hv hn=>?_⟩
      · have jw:=ja w hw
        rw [dZ] at jw
        have tw:=ta w hw
        rw [if_pos rfl] at tw
        have bz:(iJ s.aA.aC w o (s.aI+1)).cY=true:=by unfold iJ;split;rfl;split;split <;> rfl;split <;> rfl
        have kle:kW ⟨s.aA,s.Cells,s.aT.set w.toNat (iJ s.aA.aC w o (s.aI+1)),s.aZ.set w.toNat ⟨r⟩,s.Log ++ [⟨1,w,s.aI+1,o.Cell,0,0,0⟩],s.aI+1⟩ w≤kW s w:=by
          have:=a03 s.aA.aC w o (s.aI+1)
          unfold kW
          rw [jw,tw,ho]
          simp only [kq,List.map_cons,List.sum_cons]
          omega
        have rk:fE s.aA w≤kW s w:=by unfold kW;omega
        have sc:=aQD s.aA s.Cells w o (s.aI+1) (kW s w) rk
        have qm:=aDO kle r
        unfold K4 jC
        rw [jw,tw,ho,hb,bz]
        have e:qC (kW s w) (o :: r)=opC (kW s w) o+qC (kW s w) r:=by simp [qC]
        rw [e]
        simp only [if_true,aP,if_false]
        omega
      · have jv:=ja v hv
        rw [QI _ hn] at jv
        have tv:=ta v hv
        rw [if_neg hn] at tv
        unfold K4 jC kW
        rw [jv,tv]
        exact Nat.le_refl _
  rw [if_neg hb]
  have hb':(aK s w).cY=true:=by simpa using hb
  by_cases h9:(aK s w).Pc=9
  · rw [if_pos h9]
    have ja:=fun(v:Int) (hv:0≤v∧v≤2)=>m9 h3 hw hv s.aA s.Cells kD s.aZ (s.Log ++ [zA w (aK s w)]) s.aI
    refine⟨0,?_,fun v hv hn=>?_⟩
    · have jw:=ja w hw
      rw [dZ] at jw
      have kle:kW ⟨s.aA,s.Cells,s.aT.set w.toNat kD,s.aZ,s.Log ++ [zA w (aK s w)],s.aI⟩ w≤kW s w:=by
        unfold kW
        rw [jw]
        have:jK kD=0:=rfl
        show kq (dN s.aZ w)+fE s.aA w+jK kD≤_
        omega
      have qm:=aDO kle (dN s.aZ w)
      have:=aTQ s.aA s.Cells w (aK s w)
      unfold K4 jC
      rw [jw,hb']
      have:kD.cY=false:=rfl
      rw [this]
      simp only [if_true,aP,if_false]
      omega
    · have jv:=ja v hv
      rw [QI _ hn] at jv
      unfold K4 jC kW
      rw [jv]
      exact Nat.le_refl _
  rw [if_neg h9]
  have J:=a4I hs hw h9
  unfold kV
  have ja:=fun(v:Int) (hv:0≤v∧v≤2)=>m9 h3 hw hv (tZ s w (aK s w)).b (tZ s w (aK s w)).c (tZ s w (aK s w)).j s.aZ (s.Log++(tZ s w (aK s w)).l) s.aI
  generalize tZ s w (aK s w)=r at J ja
  obtain⟨d,hd,hl⟩:=J.low
  refine⟨d,?_,fun v hv hn=>?_⟩
  · have jw:=ja w hw
    rw [dZ] at jw
    have kle:kW ⟨r.b,r.c,s.aT.set w.toNat r.j,s.aZ,s.Log++r.l,s.aI⟩ w≤kW s w:=by
      have:=J.rows
      unfold kW jK
      rw [jw,J.op.2,hb']
      simp only [if_true]
      omega
    have qm:=aDO kle (dN s.aZ w)
    unfold K4 jC
    rw [jw,J.op.2,hb']
    simp only [if_true]
    omega
  · have jv:=ja v hv
    rw [QI _ hn] at jv
    have ro:=J.oth v hv hn
    unfold K4 jC kW
    rw [jv]
    simp only
    rw [ro]
    by_cases bv:(aK s v).cY=true
    · rw [if_pos bv,if_pos bv]
      rcases hd with ⟨d0,e1,e2⟩ | d3
      · rw [e2,aQC ro e1];omega
      · have:=aTS (c:=s.Cells) (c':=r.c) ro (aK s v);omega
    · rw [if_neg bv,if_neg bv];omega
end
def phi(s:aB):Nat:=K4 s 0+K4 s 1+K4 s 2
theorem aGG{s:aB}(hs:mY s){w:Int}(hw:0≤w∧w≤2)(hser:s.aI≠1000000)(h:¬ML s w):phi (iO s w)+1≤phi s:=by
  obtain⟨d,h1,h2⟩:=aYA hs hw hser h
  unfold phi
  have hc:w=0∨w=1∨w=2:=by omega
  rcases hc with rfl | rfl | rfl
  · have a:=h2 1 (by omega) (by omega)
    have b:=h2 2 (by omega) (by omega)
    omega
  · have a:=h2 0 (by omega) (by omega)
    have b:=h2 2 (by omega) (by omega)
    omega
  · have a:=h2 0 (by omega) (by omega)
    have b:=h2 1 (by omega) (by omega)
    omega
def wait(s:aB)(k:Nat):Nat:=if ML s ((k % 3:Nat):Int) then (if ML s (((k+1) % 3:Nat):Int) then 2 else 1) else 0
theorem aYB{s:aB}(hs:mY s)(h:∀v:Int,0≤v∧v≤2→ML s v):mZ s:=by
  have h3:=hs.2.2.1
  have t3:s.aZ.length=3:=hs.2.2.2.1.1
  refine⟨fun j hj=>?_,fun q hq=>?_⟩
  · obtain⟨i,hi,e⟩:=List.getElem_of_mem hj
    have:=(h (i:Int) (by omega)).1
    unfold aK at this
    rw [Int.toNat_natCast,List.getD_eq_getElem?_getD,List.getElem?_eq_getElem hi] at this
    rw [←e];exact this
  · obtain⟨i,hi,e⟩:=List.getElem_of_mem hq
    have:=(h (i:Int) (by omega)).2
    unfold dN at this
    rw [Int.toNat_natCast,List.getD_eq_getElem?_getD,List.getElem?_eq_getElem hi] at this
    rw [←e];exact this
theorem YN (P : aB → Prop) (hP : ∀ s (w : Int), mY s → (0 ≤ w ∧ w ≤ 2) → P s → mY (iO s w) ∧ P (iO s w)) (hser : ∀ s, P s → s.aI ≠ 1000000) : ∀ n k (s : aB), mY s → P s → 3 * phi s + wait s k < n → mZ (T2 n k s) ∧ P (T2 n k s)
  | 0,_,_,_,_,h=>absurd h (Nat.not_lt_zero _)
  | n + 1, k, s, hs, hp, h => by
    rw [T2]
    by_cases i:mZ s
    · rw [if_pos i];exact⟨i,hp⟩
    rw [if_neg i]
    have hw:0≤(((k % 3:Nat):Int))∧(((k % 3:Nat):Int))≤2:=by omega
    by_cases q:ML s ((k % 3:Nat):Int)
    · rw [aX9 hs hw q]
      refine YN P hP hser n (k+1) s hs hp ?_
      have e:wait s (k+1)+1≤wait s k:=by
        have wk:wait s k=if ML s (((k+1) % 3:Nat):Int) then 2 else 1:=by unfold wait;rw [if_pos q]
        rw [wk]
        by_cases q1:ML s (((k+1) % 3:Nat):Int)
        · rw [if_pos q1]
          unfold wait
          rw [if_pos q1]
          by_cases q2:ML s (((k+1+1) % 3:Nat):Int)
          · exfalso
            refine i (aYB hs fun v hv=>?_)
            have:v=((k % 3:Nat):Int)∨v=(((k+1) % 3:Nat):Int)∨v=(((k+1+1) % 3:Nat):Int):=by omega
            rcases this with e | e | e <;> rw [e] <;> assumption
          · rw [if_neg q2];omega
        · rw [if_neg q1]
          unfold wait
          rw [if_neg q1]
          omega
      omega
    · obtain⟨o1,o2⟩:=hP s _ hs hw hp
      refine YN P hP hser n (k+1) _ o1 o2 ?_
      have:=aGG hs hw (hser s hp) q
      have w2:∀s' k',wait s' k'≤2:=fun s' k'=>by unfold wait;split;split <;> omega;omega
      have:=w2 (iO s ((k % 3:Nat):Int)) (k+1)
      omega
end Go.Gv
end
noncomputable section
namespace Go.Gv
def gT(c:Int):Prop:=0≤c∧c≤8
theorem kL{b:aA}{w:Int}{s:Sub}(h:gT s.Code):gT (d7 b w s).2.Code:=by
  have e:∀(x:Sub) c,gT c→gT (pO x c).Code:=fun _ _ h=>h
  have c0:gT 0:=by unfold gT;omega
  have c1:gT 1:=by unfold gT;omega
  have c2:gT 2:=by unfold gT;omega
  have c3:gT 3:=by unfold gT;omega
  have c4:gT 4:=by unfold gT;omega
  have c8:gT 8:=by unfold gT;omega
  have al:∀p,gT (uT b s p).2.Code:=fun p=>by
    unfold uT;split;exact c0;split;exact c3;exact h
  unfold d7
  split
  · exact h
  split
  · unfold FQ;split;exact c2;split;exact al _;split;exact al _;split;exact al _;exact c1
  split
  · unfold GW;split;exact h;split;split;split;exact c0;exact c4;exact c1;exact c1
  split
  · unfold lG;split;exact h;split;split;split;exact h;exact c8;exact c1;split;exact c0;exact c1
  split
  · unfold lH;split;exact h;split;split;exact h;exact c0;split;split;split;exact h;exact h;exact c1;split;split;exact h;exact c1;exact c1
  split
  · unfold TY;split;exact h;split;split;exact h;exact c1;split;split;exact c0;exact h;exact c1
  exact c1
structure aQE (j:bD) (r:JR):Prop where
  ser:r.j.aI=j.aI
  ev:∀e∈r.l,e.Kind=2∨e.Kind=3
  code:gT j.Code∧gT j.Sub.Code→gT r.j.Code∧gT r.j.Sub.Code
theorem je{j:bD}{b:aA}{c:List Int}{q:bD}{l:List Ev}(h1:q.aI=j.aI)(h2:∀e∈l,e.Kind=2∨e.Kind=3)(h3:gT j.Code∧gT j.Sub.Code→gT q.Code∧gT q.Sub.Code):aQE j ⟨b,c,q,l⟩:=⟨h1,h2,h3⟩
noncomputable section
variable {s:aB} {w:Int} {j:bD}
theorem U7:∀e∈([]:List Ev),e.Kind=2∨e.Kind=3:=fun e h=>by cases h
theorem ev3(h:Int):∀e∈[y9 w j h],e.Kind=2∨e.Kind=3:=fun e he=>by rw [List.mem_singleton.1 he];exact .inr rfl
theorem R5{c:Int}(h:0≤c∧c≤8):gT c:=h
theorem aNX(m:Mem)(h n:Int):gT (xD m h n).2:=by unfold xD;split <;> exact R5 (by simp only;omega)
theorem aNY(c:aC)(pc:Int):(gY c w j pc).aI=j.aI∧(gY c w j pc).Sub=j.Sub∧gT (gY c w j pc).Code:=by
  unfold gY;split <;> exact⟨rfl,rfl,R5 (by simp only [cC];omega)⟩
theorem a71:aQE j (EW s w j):=by
  unfold EW
  split
  · split
    · split
      · exact je rfl U7 fun h=>⟨kL h.2,kL h.2⟩
      · split
        · exact je rfl U7 fun h=>⟨R5 (by simp only [cC];omega),kL h.2⟩
        · exact je rfl U7 fun h=>⟨R5 (by simp only [cC];omega),kL h.2⟩
    · exact je rfl U7 fun h=>⟨h.1,kL h.2⟩
  split
  · split
    · exact je rfl U7 fun h=>⟨R5 (by simp only [cC];omega),h.2⟩
    · exact je rfl U7 fun h=>⟨aNX ..,h.2⟩
  split
  · split
    · exact je rfl (fun e he=>by rw [List.mem_singleton.1 he];exact .inl rfl) fun h=>⟨R5 (by simp only [cC];omega),h.2⟩
    · exact je rfl (fun e he=>by rw [List.mem_singleton.1 he];exact .inl rfl) fun h=>⟨R5 (by simp only [cC];omega),R5 (by simp only [cC,vO];omega)⟩
  split
  · split
    · exact je rfl U7 fun h=>⟨kL h.2,kL h.2⟩
    · exact je rfl U7 fun h=>⟨h.1,kL h.2⟩
  exact je rfl U7 fun h=>⟨R5 (by simp only [cC];omega),h.2⟩
theorem a72:aQE j (NR s w j):=by
  unfold NR
  split
  · split
    · exact je rfl U7 fun h=>⟨R5 (by simp only [cC];omega),kL h.2⟩
    · exact je rfl U7 fun h=>⟨h.1,kL h.2⟩
  split
  · split <;> exact je rfl (ev3 _) fun h=>⟨R5 (by simp only [cC];omega),h.2⟩
  split
  · exact je rfl U7 fun h=>⟨R5 (by simp only [cC];omega),h.2⟩
  split
  · obtain⟨a,b,c⟩:=aNY (j:=j) (w:=w) s.aA.aC 4
    exact je a U7 fun h=>⟨c,by rw [b];exact h.2⟩
  split
  · exact je rfl U7 fun h=>⟨h.1,h.2⟩
  exact je rfl U7 fun h=>⟨R5 (by simp only [cC];omega),h.2⟩
theorem a73:aQE j (R3 s w j):=by
  unfold R3
  split
  · split
    · exact je rfl (ev3 _) fun h=>⟨R5 (by simp only [cC];omega),h.2⟩
    · exact je rfl U7 fun h=>⟨R5 (by simp only [cC];omega),h.2⟩
  split
  · exact je rfl U7 fun h=>⟨R5 (by simp only [cC];omega),h.2⟩
  split
  · split
    · exact je rfl (ev3 _) fun h=>⟨R5 (by simp only [cC];omega),h.2⟩
    · exact je rfl U7 fun h=>⟨R5 (by simp only [cC];omega),h.2⟩
  split
  · exact je rfl U7 fun h=>⟨R5 (by simp only [cC];omega),h.2⟩
  split
  · exact je rfl U7 fun h=>⟨h.1,h.2⟩
  exact je rfl U7 fun h=>⟨R5 (by simp only [cC];omega),h.2⟩
theorem a6O:aQE j (IE s w j):=by
  unfold IE
  split
  · split
    · exact je rfl U7 fun h=>⟨R5 (by simp only [cC];omega),h.2⟩
    · split
      · exact je rfl U7 fun h=>⟨R5 (by simp only [cC];omega),h.2⟩
      · split <;> exact je rfl (ev3 _) fun h=>⟨R5 (by simp only [cC];omega),h.2⟩
  split
  · exact je rfl U7 fun h=>⟨R5 (by simp only [cC];omega),h.2⟩
  split
  · obtain⟨a,b,c⟩:=aNY (j:=j) (w:=w) s.aA.aC 9
    exact je a U7 fun h=>⟨c,by rw [b];exact h.2⟩
  exact je rfl U7 fun h=>⟨R5 (by simp only [cC];omega),h.2⟩
theorem a4J:aQE j (uU s w j):=by
  unfold uU
  split
  · split
    · refine je rfl U7 fun h=>⟨?_,h.2⟩
      simp only [cC]
      split <;> exact R5 (by omega)
    · exact je rfl U7 fun h=>⟨R5 (by simp only [cC];omega),h.2⟩
  split
  · split
    · split
      · exact je rfl U7 fun h=>⟨kL h.2,kL h.2⟩
      · split
        · exact je rfl U7 fun h=>⟨R5 (by simp only [cC];omega),R5 (by simp only [cC,vO];omega)⟩
        · exact je rfl U7 fun h=>⟨kL h.2,kL h.2⟩
    · exact je rfl U7 fun h=>⟨h.1,kL h.2⟩
  exact je rfl U7 fun h=>⟨R5 (by simp only [cC];omega),h.2⟩
theorem a6P:aQE j (tZ s w j):=by
  unfold tZ
  split
  · exact a71
  split
  · exact a72
  split
  · exact a73
  split
  · exact a6O
  exact a4J
end
end Go.Gv
end
noncomputable section
namespace Go.Gv
def JN(f:Int→Nat):Nat:=f 0+f 1+f 2
theorem T4{f g:Int→Nat}{w:Int}(hw:0≤w∧w≤2)(hg:∀v,0≤v∧v≤2→v≠w→g v=f v):JN g+f w=JN f+g w:=by
  have hc:w=0∨w=1∨w=2:=by omega
  unfold JN
  rcases hc with rfl | rfl | rfl
  · have a:=hg 1 (by omega) (by omega)
    have b:=hg 2 (by omega) (by omega)
    omega
  · have a:=hg 0 (by omega) (by omega)
    have b:=hg 2 (by omega) (by omega)
    omega
  · have a:=hg 0 (by omega) (by omega)
    have b:=hg 1 (by omega) (by omega)
    omega
theorem xE{f g:Int→Nat}(hg:∀v,0≤v∧v≤2→g v=f v):JN g=JN f:=by
  unfold JN
  rw [hg 0 (by omega),hg 1 (by omega),hg 2 (by omega)]
def kN(k:Int)(l:List Ev):Nat:=l.countP fun e=>e.Kind == k
def tN(n:Int)(l:List Ev):Nat:=l.countP fun e=>e.Kind == 4 && e.aI == n
def bJ(j:bD):Nat:=if j.cY then 1 else 0
def bN(n:Int)(j:bD):Nat:=if j.cY=true∧j.aI=n then 1 else 0
def one(n m:Int):Nat:=if 1≤n∧n≤m then 1 else 0
structure Tl (N:Nat) (s:aB):Prop where
  tot:s.aI+JN (fun v=>(dN s.aZ v).length)=N
  calls:(kN 1 s.Log:Int)=s.aI
  aNZ:(kN 4 s.Log:Int)+JN (fun v=>bJ (aK s v))=s.aI
  each:∀n,tN n s.Log+JN (fun v=>bN n (aK s v))=one n s.aI
  YP:(∀e∈s.Log,e.Kind=4→gT e.Code)∧∀v,0≤v∧v≤2→gT (aK s v).Code∧gT (aK s v).Sub.Code
theorem aGH(c:aC)(w:Int)(o:bK)(n:Int):(iJ c w o n).cY=true∧(iJ c w o n).aI=n∧gT (iJ c w o n).Code∧gT (iJ c w o n).Sub.Code:=by
  unfold iJ
  have z:gT 0:=R5 (by omega)
  have u:gT 1:=R5 (by omega)
  split
  · exact⟨rfl,rfl,z,z⟩
  split
  · split
    · exact⟨rfl,rfl,u,z⟩
    · exact⟨rfl,rfl,z,z⟩
  split
  · exact⟨rfl,rfl,z,z⟩
  · exact⟨rfl,rfl,z,z⟩
theorem WZ(k:Int)(l m:List Ev):kN k (l++m)=kN k l+kN k m:=List.countP_append ..
theorem aQF(n:Int)(l m:List Ev):tN n (l++m)=tN n l+tN n m:=List.countP_append ..
theorem a2Q{k:Int}{l:List Ev}(hk:k≠2∧k≠3)(h:∀e∈l,e.Kind=2∨e.Kind=3):kN k l=0:=by
  unfold kN
  rw [List.countP_eq_zero]
  intro e he q
  have:=h e he
  have:e.Kind=k:=by simpa using q
  omega
theorem a2R{n:Int}{l:List Ev}(h:∀e∈l,e.Kind≠4):tN n l=0:=by
  unfold tN
  rw [List.countP_eq_zero]
  intro e he q
  have:=h e he
  simp at q
  exact this q.1
theorem aSF{N:Nat}{s:aB}(hs:mY s){w:Int}(hw:0≤w∧w≤2)(hN:N < 1000000)(h:Tl N s):Tl N (iO s w):=by
  have h3:=hs.2.2.1
  have t3:s.aZ.length=3:=hs.2.2.2.1.1
  have s0:=hs.2.2.2.2.1.1
  unfold iO
  by_cases hb:(aK s w).cY=false
  · rw [if_pos hb]
    unfold NS
    cases ho:dN s.aZ w with
    | nil=>exact h
    | cons o r =>
      simp only
      by_cases hm:s.aI=1000000
      · rw [if_pos hm];exact h
      rw [if_neg hm]
      obtain⟨f1,f2,f3,f4⟩:=aGH s.aA.aC w o (s.aI+1)
      generalize iJ s.aA.aC w o (s.aI+1)=j at f1 f2 f3 f4
      have ja:=fun(v:Int) (hv:0≤v∧v≤2)=>m9 h3 hw hv s.aA s.Cells j (s.aZ.set w.toNat ⟨r⟩) (s.Log ++ [⟨1,w,s.aI+1,o.Cell,0,0,0⟩]) (s.aI+1)
      have ta:=fun(v:Int) (hv:0≤v∧v≤2)=>Z4 t3 hw hv r
      generalize hS:(⟨s.aA,s.Cells,s.aT.set w.toNat j,s.aZ.set w.toNat ⟨r⟩,s.Log ++ [⟨1,w,s.aI+1,o.Cell,0,0,0⟩],s.aI+1⟩:aB)=S at ja
      have eT:S.aZ=s.aZ.set w.toNat ⟨r⟩:=by rw [←hS]
      have eL:S.Log=s.Log ++ [⟨1,w,s.aI+1,o.Cell,0,0,0⟩]:=by rw [←hS]
      have eS:S.aI=s.aI+1:=by rw [←hS]
      have jw:aK S w=j:=by rw [ja w hw,dZ]
      have jv:∀v,0≤v∧v≤2→v≠w→aK S v=aK s v:=fun v hv hn=>by rw [ja v hv,QI _ hn]
      refine⟨?_,?_,?_,fun n=>?_,?_,fun v hv=>?_⟩
      · have u:=T4 (f:=fun v=>(dN s.aZ v).length) (g:=fun v=>(dN S.aZ v).length) hw fun v hv hn=>by rw [eT,ta v hv,if_neg hn]
        have tw:dN S.aZ w=r:=by rw [eT,ta w hw,if_pos rfl]
        simp only [tw,ho,List.length_cons] at u
        have:=h.tot
        rw [eS];omega
      · rw [eL,WZ,eS]
        have:=h.calls
        have e:kN 1 [⟨1,w,s.aI+1,o.Cell,0,0,0⟩]=1:=rfl
        rw [e];omega
      · have u:=T4 (f:=fun v=>bJ (aK s v)) (g:=fun v=>bJ (aK S v)) hw fun v hv hn=>by rw [jv v hv hn]
        simp only [jw,bJ,f1,hb,if_true,aP,if_false] at u
        rw [eL,WZ,eS]
        have:=h.aNZ
        have e:kN 4 [⟨1,w,s.aI+1,o.Cell,0,0,0⟩]=0:=rfl
        rw [e]
        simp only [bJ] at this ⊢
        omega
      · have u:=T4 (f:=fun v=>bN n (aK s v)) (g:=fun v=>bN n (aK S v)) hw fun v hv hn=>by rw [jv v hv hn]
        have b1:bN n (aK s w)=0:=by simp [bN,hb]
        have b2:bN n (aK S w)=if s.aI+1=n then 1 else 0:=by rw [jw];simp [bN,f1,f2]
        simp only [b1,b2] at u
        rw [eL,aQF,eS]
        have:=h.each n
        have e:tN n [⟨1,w,s.aI+1,o.Cell,0,0,0⟩]=0:=a2R fun e he=>by rw [List.mem_singleton.1 he];simp
        rw [e]
        have k:one n (s.aI+1)=one n s.aI+if s.aI+1=n then 1 else 0:=by
          unfold one
          by_cases q:s.aI+1=n
          · rw [if_pos q,if_pos (by omega),if_neg (by omega)]
          · rw [if_neg q]
            by_cases q2:1≤n∧n≤s.aI
            · rw [if_pos q2,if_pos (by omega)]
            · rw [if_neg q2,if_neg (by omega)]
        rw [k];omega
      · intro e he
        rw [eL] at he
        rcases List.mem_append.1 he with he | he
        · exact h.YP.1 e he
        · rw [List.mem_singleton.1 he];intro q;simp at q
      · by_cases q:v=w
        · subst q;rw [jw];exact⟨f3,f4⟩
        · rw [jv v hv q];exact h.YP.2 v hv
  rw [if_neg hb]
  have hb':(aK s w).cY=true:=by simpa using hb
  by_cases h9:(aK s w).Pc=9
  · rw [if_pos h9]
    have ja:=fun(v:Int) (hv:0≤v∧v≤2)=>m9 h3 hw hv s.aA s.Cells kD s.aZ (s.Log ++ [zA w (aK s w)]) s.aI
    generalize hS:(⟨s.aA,s.Cells,s.aT.set w.toNat kD,s.aZ,s.Log ++ [zA w (aK s w)],s.aI⟩:aB)=S at ja
    have eT:S.aZ=s.aZ:=by rw [←hS]
    have eL:S.Log=s.Log ++ [zA w (aK s w)]:=by rw [←hS]
    have eS:S.aI=s.aI:=by rw [←hS]
    have jw:aK S w=kD:=by rw [ja w hw,dZ]
    have jv:∀v,0≤v∧v≤2→v≠w→aK S v=aK s v:=fun v hv hn=>by rw [ja v hv,QI _ hn]
    have nB:kD.cY=false:=rfl
    refine⟨?_,?_,?_,fun n=>?_,?_,fun v hv=>?_⟩
    · rw [eT,eS];exact h.tot
    · rw [eL,WZ,eS]
      have:=h.calls
      have e:kN 1 [zA w (aK s w)]=0:=rfl
      rw [e];omega
    · have u:=T4 (f:=fun v=>bJ (aK s v)) (g:=fun v=>bJ (aK S v)) hw fun v hv hn=>by rw [jv v hv hn]
      simp only [jw,bJ,nB,hb',if_true,aP,if_false] at u
      rw [eL,WZ,eS]
      have:=h.aNZ
      have e:kN 4 [zA w (aK s w)]=1:=rfl
      rw [e]
      simp only [bJ] at this ⊢
      omega
    · have u:=T4 (f:=fun v=>bN n (aK s v)) (g:=fun v=>bN n (aK S v)) hw fun v hv hn=>by rw [jv v hv hn]
      have b1:bN n (aK s w)=if (aK s w).aI=n then 1 else 0:=by simp [bN,hb']
      have b2:bN n (aK S w)=0:=by rw [jw];simp [bN,nB]
      simp only [b1,b2] at u
      rw [eL,aQF,eS]
      have:=h.each n
      have e:tN n [zA w (aK s w)]=if (aK s w).aI=n then 1 else 0:=by
        by_cases q:(aK s w).aI=n <;> simp [tN,zA,q]
      rw [e];omega
    · intro e he
      rw [eL] at he
      rcases List.mem_append.1 he with he | he
      · exact h.YP.1 e he
      · rw [List.mem_singleton.1 he];intro _;exact(h.YP.2 w hw).1
    · by_cases q:v=w
      · subst q;rw [jw];exact⟨R5 (by simp [kD]),R5 (by simp [kD])⟩
      · rw [jv v hv q];exact h.YP.2 v hv
  rw [if_neg h9]
  have J:=a4I hs hw h9
  have E:=a6P (s:=s) (w:=w) (j:=aK s w)
  unfold kV
  have ja:=fun(v:Int) (hv:0≤v∧v≤2)=>m9 h3 hw hv (tZ s w (aK s w)).b (tZ s w (aK s w)).c (tZ s w (aK s w)).j s.aZ (s.Log++(tZ s w (aK s w)).l) s.aI
  generalize tZ s w (aK s w)=r at J E ja
  generalize hS:(⟨r.b,r.c,s.aT.set w.toNat r.j,s.aZ,s.Log++r.l,s.aI⟩:aB)=S at ja
  have eT:S.aZ=s.aZ:=by rw [←hS]
  have eL:S.Log=s.Log++r.l:=by rw [←hS]
  have eS:S.aI=s.aI:=by rw [←hS]
  have jw:aK S w=r.j:=by rw [ja w hw,dZ]
  have jv:∀v,0≤v∧v≤2→v≠w→aK S v=aK s v:=fun v hv hn=>by rw [ja v hv,QI _ hn]
  have same:∀(F:bD→Nat),F r.j=F (aK s w)→JN (fun v=>F (aK S v))=JN (fun v=>F (aK s v)):=fun F hF=>xE fun v hv=>by
    by_cases q:v=w
    · subst q;rw [jw,hF]
    · rw [jv v hv q]
  refine⟨?_,?_,?_,fun n=>?_,?_,fun v hv=>?_⟩
  · rw [eT,eS];exact h.tot
  · rw [eL,WZ,eS,a2Q (k:=1) (l:=r.l) (by omega) E.ev];exact h.calls
  · rw [eL,WZ,eS,a2Q (k:=4) (l:=r.l) (by omega) E.ev,same bJ (by simp only [bJ,J.op.2])];exact h.aNZ
  · have z:tN n r.l=0:=a2R fun e he=>by have:=E.ev e he;omega
    rw [eL,aQF,eS,z,same (bN n) (by simp only [bN,J.op.2,E.ser])];exact h.each n
  · intro e he
    rw [eL] at he
    rcases List.mem_append.1 he with he | he
    · exact h.YP.1 e he
    · intro q;have:=E.ev e he;omega
  · by_cases q:v=w
    · subst q;rw [jw];exact E.code (h.YP.2 v hv)
    · rw [jv v hv q];exact h.YP.2 v hv
end Go.Gv
end
noncomputable section
namespace Go.Gv
def T8(l:List Queue):Prop:=(dN l 0).length≤8∧(dN l 2).length≤8
noncomputable section
variable {b:List UInt8} {i h:Int} (hc:Cu b i)
include hc
end
theorem aSG:∀q:List bK,kq q≤q.length
  | []=>Nat.le_refl _
  | o :: r => by
    have:=aSG r
    simp only [kq,List.map_cons,List.sum_cons,List.length_cons] at *
    split <;> omega
theorem aYC(k:Nat):∀q:List bK,qC k q≤16 * kq q+(q.length - kq q) * (15+5 * k)
  | []=>by simp [qC,kq]
  | o :: r => by
    have h1:=aYC k r
    have h2:=aSG r
    by_cases k1:o.Kind=1
    · have e1:kq (o :: r)=kq r+1:=by simp [kq,k1];omega
      have e2:qC k (o :: r)=16+qC k r:=by simp [qC,opC,k1]
      rw [e1,e2,List.length_cons,show r.length+1 - (kq r+1)=r.length - kq r by omega]
      omega
    · have e1:kq (o :: r)=kq r:=by simp [kq,k1]
      have e2:qC k (o :: r)=opC k o+qC k r:=by simp [qC]
      have e3:opC k o≤15+5 * k:=by
        unfold opC
        rw [if_neg k1]
        repeat' split
        all_goals omega
      rw [e1,e2,List.length_cons,show r.length+1 - kq r=(r.length - kq r)+1 by omega,Nat.add_mul,Nat.one_mul]
      omega
theorem q8{q:List bK}(h:q.length≤8):qC (kq q) q≤204:=by
  have h1:=aYC (kq q) q
  have h2:=aSG q
  have h3:(q.length - kq q) * (15+5 * kq q)≤(8 - kq q) * (15+5 * kq q):=Nat.mul_le_mul (by omega) (Nat.le_refl _)
  generalize kq q=k at h1 h2 h3 ⊢
  have hk:k=0∨k=1∨k=2∨k=3∨k=4∨k=5∨k=6∨k=7∨k=8:=by omega
  rcases hk with rfl | rfl | rfl | rfl | rfl | rfl | rfl | rfl | rfl <;> omega
theorem q12{q:List bK}(h:q.length≤12):qC (kq q) q≤366:=by
  have h1:=aYC (kq q) q
  have h2:=aSG q
  have h3:(q.length - kq q) * (15+5 * kq q)≤(12 - kq q) * (15+5 * kq q):=Nat.mul_le_mul (by omega) (Nat.le_refl _)
  generalize kq q=k at h1 h2 h3 ⊢
  have hk:k=0∨k=1∨k=2∨k=3∨k=4∨k=5∨k=6∨k=7∨k=8∨k=9∨k=10∨k=11∨k=12:=by omega
  rcases hk with rfl | rfl | rfl | rfl | rfl | rfl | rfl | rfl | rfl | rfl | rfl | rfl | rfl <;> omega
theorem a6Q{t:List Queue}(ht:ES t)(h8:T8 t):phi (dD t)≤774:=by
  have c:∀v:Int,0≤v∧v≤2→K4 (dD t) v=qC (kq (dN t v)) (dN t v):=fun v hv=>by
    have hc:v=0∨v=1∨v=2:=by omega
    have e1:aK (dD t) v=kD:=by rcases hc with rfl | rfl | rfl <;> rfl
    have e2:fE (dD t).aA v=0:=by rcases hc with rfl | rfl | rfl <;> rfl
    unfold K4 jC kW
    rw [e1,e2]
    simp [jK,kD,dD]
  have h12:(dN t 1).length≤12:=by
    unfold dN
    rw [List.getD_eq_getElem?_getD]
    cases e:t[(1:Int).toNat]? with
    | none=>simp
    | some q=>exact(ht.2 q (List.mem_of_getElem? e)).1
  unfold phi
  rw [c 0 (by omega),c 1 (by omega),c 2 (by omega)]
  have a:=q8 h8.1
  have b:=q12 h12
  have d:=q8 h8.2
  omega
end Go.Gv
end
noncomputable section
namespace Go.Gv
theorem tl0{t:List Queue}(ht:ES t):Tl (JN fun v=>(dN t v).length) (dD t):=by
  have e1:∀v:Int,0≤v∧v≤2→aK (dD t) v=kD:=fun v hv=>by
    have hc:v=0∨v=1∨v=2:=by omega
    rcases hc with rfl | rfl | rfl <;> rfl
  refine⟨by simp [dD],rfl,?_,fun n=>?_,fun e he=>by simp [dD] at he,fun v hv=>?_⟩
  · have:JN (fun v=>bJ (aK (dD t) v))=JN (fun _=>0):=xE fun v hv=>by rw [e1 v hv];rfl
    rw [this];rfl
  · have:JN (fun v=>bN n (aK (dD t) v))=JN (fun _=>0):=xE fun v hv=>by rw [e1 v hv];simp [bN,kD]
    rw [this]
    have:one n (dD t).aI=0:=by
      unfold one
      have:(dD t).aI=0:=rfl
      rw [if_neg (by omega)]
    rw [this];rfl
  · rw [e1 v hv];exact⟨R5 (by simp [kD]),R5 (by simp [kD])⟩
theorem aJZ{s:aB}(hs:mY s){v:Int}(hv:0≤v∧v≤2):aK s v∈s.aT:=by
  have h3:=hs.2.2.1
  unfold aK
  rw [List.getD_eq_getElem?_getD,List.getElem?_eq_getElem (show v.toNat < s.aT.length by omega)]
  exact List.getElem_mem _
end Go.Gv
end
noncomputable section
namespace Go.Gv
def vP(h:aE)(s:Int):Int:=ld h.Bytes ((eJ s (aX h s)).toNat+4) 4
structure a4K (m m':Mem) (x n:Int):Prop where
  state:∀t,eQ m' t=eQ m t
  gen:∀t,0≤aX m.aE t→iI m'.aE t=iI m.aE t
  dat:∀t,0≤aX m.aE t→vP m'.aE t=if t=x then n else vP m.aE t
structure aQG (m m':Mem) (x:Int):Prop where
  was:eQ m x≠3
  now:eQ m' x=3
  gen:1≤iI m'.aE x∧iI m'.aE x≤6
  rest:∀t,t≠x→(eQ m' t=3↔eQ m t=3)
  same:∀t,eQ m t=3→iI m'.aE t=iI m.aE t∧vP m'.aE t=vP m.aE t
structure aYD (b:aA) (r:aA×Sub) (s:Sub):Prop where
  clock:r.1.aC=b.aC
  a87:r.1.aM=b.aM
  haz:r.1.mP=b.mP
  two:r.1.Mem=b.Mem∧(r.2.cW=true∧r.2.Code≠0∨r.2.cW=false∧r.2.Kind=1∧0≤r.2.Pc∧r.2.Pc≤3) ∨
    r.2.cW=true∧r.2.Code=0∧j7 r.2.Out∧g9 r.1.Mem r.2.Out∧aQG b.Mem r.1.Mem (r.2.Out % 32)
end Go.Gv
end
noncomputable section
namespace Go.Gv
def JY(j:bD):Int:=if j.Op.Kind=1 then (if j.Pc=1∨j.Pc=2 then j.H else if j.Pc=3 then j.Old else 0) else 0
def nm(c:List Int)(J:Int→bD)(i:Int):Int:=if i < 2 then cellAt c i else JY (J (i - 2))
structure Ow (b:aA) (N:Int→Int):Prop where
  live:∀i,0≤i∧i≤4→N i≠0→g9 b.Mem (N i)∧¬E5 b.aM (N i % 32)
  once:∀i j,0≤i∧i≤4→0≤j∧j≤4→N i≠0→N i=N j→i=j
  all:∀t,eQ b.Mem t=3→¬E5 b.aM t→∃i,(0≤i∧i≤4)∧N i≠0∧N i % 32=t
theorem aGI{m:Mem}{h g:Int}(a:g9 m h)(b:g9 m g)(e:h % 32=g % 32):h=g:=by
  have h1:=a.2.2
  have h2:=b.2.2
  rw [e] at h1
  omega
theorem Ow.perm{b b':aA}{N N':Int→Int}(h:Ow b N)(hm:b'.Mem=b.Mem)(hl:b'.aM=b.aM)(σ:Int→Int)(hr:∀i,0≤i∧i≤4→0≤σ i∧σ i≤4)(hi:∀i,σ (σ i)=i)(he:∀i,0≤i∧i≤4→N' i=N (σ i)):Ow b' N':=by
  refine⟨fun i hi' hn=>?_,fun i j hi' hj' hn e=>?_,fun t ht hh=>?_⟩
  · rw [he i hi'] at hn ⊢
    rw [hm,hl]
    exact h.live _ (hr i hi') hn
  · rw [he i hi'] at hn
    rw [he i hi',he j hj'] at e
    have:=h.once _ _ (hr i hi') (hr j hj') hn e
    rw [←hi i,this,hi]
  · rw [hm] at ht
    rw [hl] at hh
    obtain⟨i,a,b,c⟩:=h.all t ht hh
    exact⟨σ i,hr i a,by rw [he _ (hr i a),hi];exact b,by rw [he _ (hr i a),hi];exact c⟩
theorem Ow.congr{b b':aA}{N N':Int→Int}(h:Ow b N)(hm:b'.Mem=b.Mem)(hl:b'.aM=b.aM)(he:∀i,0≤i∧i≤4→N' i=N i):Ow b' N':=h.perm hm hl id (fun _ h=>h) (fun _=>rfl) he
noncomputable section
variable {b b':aA} {N N':Int→Int} (h:Ow b N)
include h
end
def R6(L:List Ev)(k:Int):Ev:=L.foldl (fun a e=>if e.Kind=2∧e.Cell=k then e else a) zEv
def rdS(n:Int)(a:(Int→Ev)×Option (Ev×Ev))(e:Ev):(Int→Ev)×Option (Ev×Ev):=(fun k=>if e.Kind=2∧e.Cell=k then e else a.1 k,if e.Kind=3∧e.aI=n then some (e,a.1 e.Cell) else a.2)
def YO(L:List Ev)(n:Int):Option (Ev×Ev):=(L.foldl (rdS n) (fun _=>zEv,none)).2
def Told(o:Option (Ev×Ev))(code val:Int):Prop:=(code=0→∃e x,o=some (e,x)∧x.Handle≠0∧x.Handle=e.Handle∧x.dK=val)∧(code=8→∃e x,o=some (e,x)∧x.Handle=0∧e.Handle=0)
theorem Told.other{o:Option (Ev×Ev)}{code val:Int}(h0:code≠0)(h8:code≠8):Told o code val:=⟨fun q=>absurd q h0,fun q=>absurd q h8⟩
def TrL(L:List Ev):Prop:=∀M e N,L=M++e :: N→e.Kind=4→YO M e.aI≠none→Told (YO M e.aI) e.Code e.dK
def rR(b:aA)(c:List Int)(J:Int→bD)(e H:Int):Prop:=(∃k,(0≤k∧k≤1)∧cellAt c k=H)∨(∃v,(0≤v∧v≤2)∧(J v).Op.Kind=1∧(J v).Pc=3∧(J v).Old=H∧((J v).Sub.Pc=0∨e≤(J v).Sub.E))∨∃r∈bH b.aM,r.Handle=H∧e≤r.aJ
def UnJ(j:bD)(v H:Int):Prop:=j.Op.Kind=4→j.Pc=1→j.Sub.H=H→(j.Sub.Pc=2→j.Sub.B≤v)∧j.Sub.Pc≠3
def QJ(J:Int→bD)(v H:Int):Prop:=∀a,0≤a∧a≤2→UnJ (J a) v H
def a4L(b:aA)(old:Int)(s:Sub):Prop:=s.Kind=2∧s.cW=false∧s.A=old∧(s.Pc=0∨s.Pc=1∧0≤s.E∧s.E≤b.aC.aJ)
def a4M(e:Int)(l:List dO)(s:Sub):Prop:=s.Kind=4∧s.cW=false∧(s.Pc=0∨s.E≤e∧(s.Pc=1∧0≤s.Row∨s.Pc=2∧(0≤s.B∧s.B≤2)∧HM l s∧EU (H6 l s.Row) s.E∨s.Pc=3∧HM l s∧EU (H6 l s.Row) s.E))
def aYE(j:bD):Prop:=j.Op.Kind=2∧(j.Pc=2∨j.Pc=3)∨j.Op.Kind=7∧(j.Pc=1∨j.Pc=2)
def aGJ(j:bD):Prop:=j.Op.Kind=2∧j.Pc=3∨j.Op.Kind=7∧j.Pc=2
def Reads(j:bD):Prop:=j.Op.Kind=2∨j.Op.Kind=3∨j.Op.Kind=7
def Saw(o:Option (Ev×Ev))(H:Int)(x:Ev):Prop:=∃e,o=some (e,x)∧e.Handle=H∧x.Handle=H∧H≠0
def Pinned(c:aC)(v:Int):Prop:=(bS c v).On=true∧(bS c v).dJ=false
structure Jv (b:aA) (c:List Int) (J:Int→bD) (o:Option (Ev×Ev)) (v:Int) (j:bD):Prop where
  idle:j.cY=false→j.Op.Kind=0
  s0:j.Op.Kind=1→j.Pc=0→j.Sub.Kind=1∧j.Sub.cW=false∧0≤j.Sub.Pc∧j.Sub.Pc≤3
  s1:j.Op.Kind=1→j.Pc=1∨j.Pc=2→j.H≠0
  s2:j.Op.Kind=1→j.Pc=2→vP b.Mem.aE (j.H % 32)=j.Op.dK
  s3:j.Op.Kind=1→j.Pc=3→j.Old≠0∧a4L b j.Old j.Sub
  k:j.Op.Kind=4→j.Pc=1→a4M b.aC.aJ (cX b.aM v) j.Sub
  g:aYE j→Pinned b.aC v→rR b c J (bS b.aC v).aJ j.H∧∃x,Saw o j.H x∧(¬aGJ j→vP b.Mem.aE (j.H % 32)=x.dK)∧(aGJ j→j.dK=x.dK)
  z1:j.Op.Kind=3→j.Pc=1∨j.Pc=2∨j.Pc=3→j.H≠0
  z2:j.Op.Kind=3→j.Pc=2∨j.Pc=3→rQ b.mP v=j.H
  z3:j.Op.Kind=3→j.Pc=3→rR b c J 0 j.H∧QJ J v j.H∧∃x,Saw o j.H x∧vP b.Mem.aE (j.H % 32)=x.dK
  t:Reads j→j.Pc=9∨j.Pc=4→Told o j.Code j.dK
  n:j.cY=true→¬Reads j→o=none
structure Frm (b b':aA) (c c':List Int) (J J':Int→bD) (v:Int) (j:bD):Prop where
  ep:b.aC.aJ≤b'.aC.aJ
  rows:cX b'.aM v=cX b.aM v
  pin:Pinned b'.aC v→Pinned b.aC v∧(bS b'.aC v).aJ=(bS b.aC v).aJ
  haz:rQ b'.mP v=rQ b.mP v
  safe:∀e H,H≠0→e≤b.aC.aJ→(b.aC.aJ≤e+1∨∃u,(0≤u∧u≤2)∧QJ J u H)→rR b c J e H→rR b' c' J' e H
  unp:rQ b.mP v=j.H→QJ J v j.H→QJ J' v j.H
  a6T:∀e H,rR b c J e H→H≠0→vP b'.Mem.aE (H % 32)=vP b.Mem.aE (H % 32)
  a77:JY j≠0→vP b'.Mem.aE (JY j % 32)=vP b.Mem.aE (JY j % 32)
theorem Jv.frame{b b':aA}{c c':List Int}{J J':Int→bD}{o o':Option (Ev×Ev)}{v:Int}{j:bD}(hv:0≤v∧v≤2)(h:Jv b c J o v j)(hc:JX b.aC)(he:aYE j→Pinned b.aC v→b.aC.aJ≤(bS b.aC v).aJ+1)
    (f:Frm b b' c c' J J' v j) (ho:j.cY=true→o'=o):Jv b' c' J' o' v j:=by
  have busy:j.Op.Kind≠0→o'=o:=fun q=>ho (by cases hb:j.cY with
    | true=>rfl
    | false=>exact absurd (h.idle hb) q)
  have hpe:=(TX hc hv).1
  refine⟨h.idle,h.s0,h.s1,fun k p=>?_,fun k p=>?_,fun k p=>?_,fun g p=>?_,h.z1,fun k p=>?_,fun k p=>?_,fun r p=>?_,fun bb r=>?_⟩
  · have e:JY j=j.H:=by unfold JY;rw [if_pos k,if_pos (.inr p)]
    have:=f.a77 (by rw [e];exact h.s1 k (.inr p))
    rw [e] at this
    rw [this];exact h.s2 k p
  · obtain⟨a,q1,q2,q3,q4⟩:=h.s3 k p
    exact⟨a,q1,q2,q3,q4.imp id fun z=>⟨z.1,z.2.1,Int.le_trans z.2.2 f.ep⟩⟩
  · obtain⟨q1,q2,q3⟩:=h.k k p
    rw [f.rows]
    exact⟨q1,q2,q3.imp id fun z=>⟨Int.le_trans z.1 f.ep,z.2⟩⟩
  · obtain⟨p1,p2⟩:=f.pin p
    obtain⟨s,x,x1,x2,x3⟩:=h.g g p1
    have hk:j.Op.Kind≠0:=by rcases g with g | g <;> omega
    rw [p2,busy hk]
    have h0:=x1.choose_spec.2.2.2
    refine⟨f.safe _ _ h0 hpe.2 (.inl (he g p1)) s,x,x1,fun l=>?_,x3⟩
    rw [f.a6T _ _ s h0];exact x2 l
  · rw [f.haz];exact h.z2 k p
  · obtain⟨s,u,x,x1,x2⟩:=h.z3 k p
    rw [busy (by omega)]
    have h0:=x1.choose_spec.2.2.2
    refine⟨f.safe _ _ h0 hc.1.1 (.inr ⟨v,hv,u⟩) s,f.unp (h.z2 k (.inr p)) u,x,x1,?_⟩
    rw [f.a6T _ _ s h0];exact x2
  · rw [busy (by unfold Reads at r;omega)];exact h.t r p
  · rw [ho bb];exact h.n bb r
structure Sv (b:aA) (c:List Int) (J:Int→bD) (L:List Ev) (n:Int):Prop where
  ow:Ow b (nm c J)
  cv:∀k,0≤k∧k≤1→(R6 L k).Handle=cellAt c k∧(cellAt c k≠0→vP b.Mem.aE (cellAt c k % 32)=(R6 L k).dK)
  jv:∀v,0≤v∧v≤2→Jv b c J (YO L (J v).aI) v (J v)
  tr:TrL L
  se:(∀e∈L,e.aI≤n)∧(∀v,0≤v∧v≤2→(J v).cY=true→(J v).aI≤n)∧∀v u,0≤v∧v≤2→0≤u∧u≤2→(J v).cY=true→(J u).cY=true→v≠u→(J v).aI≠(J u).aI
theorem mT(c:List Int)(J:Int→bD){k:Int}(hk:0≤k∧k≤1):nm c J k=cellAt c k:=by unfold nm;rw [if_pos (by omega)]
theorem f8(c:List Int)(J:Int→bD){v:Int}(hv:0≤v∧v≤2):nm c J (v+2)=JY (J v):=by unfold nm;rw [if_neg (by omega)];congr 2;omega
theorem aSH{l:List bB}{r:dO}(hr:r∈bH l)(hh:j7 r.Handle):E5 l (r.Handle % 32):=⟨r,hr,hh,rfl⟩
theorem rR.live{b:aA}{c:List Int}{J:Int→bD}(hb:mR b)(ho:Ow b (nm c J)){e H:Int}(h:rR b c J e H)(h0:H≠0):g9 b.Mem H:=by
  rcases h with ⟨k,hk,q⟩ | ⟨v,hv,k1,p3,q,_⟩ | ⟨r,hr,q,_⟩
  · have:=ho.live k (by omega) (by rw [mT c J hk,q];exact h0)
    rw [mT c J hk,q] at this;exact this.1
  · have en:JY (J v)=H:=by unfold JY;rw [if_pos k1,if_neg (by omega),if_pos p3,q]
    have:=ho.live (v+2) (by omega) (by rw [f8 c J hv,en];exact h0)
    rw [f8 c J hv,en] at this;exact this.1
  · rw [←q];exact(hb.2 r hr).1
theorem rR.apart{b:aA}{c:List Int}{J:Int→bD}(hb:mR b)(ho:Ow b (nm c J)){e H:Int}(h:rR b c J e H)(h0:H≠0){w:Int}(hw:0≤w∧w≤2)(hk:(J w).Op.Kind=1)(hp:(J w).Pc=1∨(J w).Pc=2)(hn:(J w).H≠0):H % 32≠(J w).H % 32:=by
  intro z
  have ew:JY (J w)=(J w).H:=by unfold JY;rw [if_pos hk,if_pos hp]
  have lw:=ho.live (w+2) (by omega) (by rw [f8 c J hw,ew];exact hn)
  rw [f8 c J hw,ew] at lw
  have e2:=aGI (h.live hb ho h0) lw.1 z
  rcases h with ⟨k,hk',q⟩ | ⟨v,hv,k1,p3,q,_⟩ | ⟨r,hr,q,_⟩
  · have:=ho.once k (w+2) (by omega) (by omega) (by rw [mT c J hk',q];exact h0) (by rw [mT c J hk',q,f8 c J hw,ew,e2])
    omega
  · have en:JY (J v)=H:=by unfold JY;rw [if_pos k1,if_neg (by omega),if_pos p3,q]
    have:=ho.once (v+2) (w+2) (by omega) (by omega) (by rw [f8 c J hv,en];exact h0) (by rw [f8 c J hv,en,f8 c J hw,ew,e2])
    have:v=w:=by omega
    subst this;omega
  · apply lw.2
    rw [←z,←q]
    exact aSH hr (hb.2 r hr).1.1
end Go.Gv
end
noncomputable section
namespace Go.Gv
noncomputable section
variable {b:aA} {c:List Int} {J:Int→bD} {L:List Ev} {n:Int} (h:Sv b c J L n) (hb:mR b) (hep:Ep b.aC J) {w:Int} (hw:0≤w∧w≤2)
include h hb hep hw
theorem Sv.make{b':aA}{c':List Int}{j':bD}{L':List Ev}{n':Int}(ow':Ow b' (nm c' (MJ J w j')))
    (cv':∀k,0≤k∧k≤1→(R6 L' k).Handle=cellAt c' k∧(cellAt c' k≠0→vP b'.Mem.aE (cellAt c' k % 32)=(R6 L' k).dK))
    (fr:∀v,0≤v∧v≤2→v≠w→Frm b b' c c' J (MJ J w j') v (J v)) (jw:Jv b' c' (MJ J w j') (YO L' j'.aI) w j')
    (rd:∀m,((J w).cY=true→m≠(J w).aI)→YO L' m=YO L m) (tr:TrL L') (se:∀e∈L',e.aI≤n') (hn:n≤n')
    (js:j'.cY=true→j'.aI≤n'∧(j'.aI=(J w).aI∧(J w).cY=true∨n < j'.aI)):Sv b' c' (MJ J w j') L' n':=by
  refine⟨ow',cv',fun v hv=>?_,tr,se,fun v hv hbv=>?_,fun v u hv hu hbv hbu hvu=>?_⟩
  · by_cases q:v=w
    · subst q;rw [dZ];exact jw
    · rw [eN _ _ q]
      refine(h.jv v hv).frame hv hb.1.2.1 (fun g p=>(hep.2 v hv (fun z=>?_) p.1 p.2).1) (fr v hv q) fun bv=>rd _ fun bw=>h.se.2.2 v w hv hw bv bw q
      have:=z.2.2
      rcases g with g | g <;> omega
  · by_cases q:v=w
    · subst q;rw [dZ] at hbv ⊢;exact(js hbv).1
    · rw [eN _ _ q] at hbv ⊢
      exact Int.le_trans (h.se.2.1 v hv hbv) hn
  · have key:∀u,0≤u∧u≤2→(J u).cY=true→u≠w→j'.cY=true→j'.aI≠(J u).aI:=fun u hu bu q bw=>by
      rcases(js bw).2 with ⟨a1,a2⟩ | a
      · rw [a1];exact h.se.2.2 w u hw hu a2 bu (fun z=>q z.symm)
      · have:=h.se.2.1 u hu bu;omega
    by_cases q:v=w
    · subst q
      rw [dZ] at hbv ⊢
      rw [eN _ _ (fun z=>hvu z.symm)] at hbu ⊢
      exact key u hu hbu (fun z=>hvu z.symm) hbv
    · rw [eN _ _ q] at hbv ⊢
      by_cases q2:u=w
      · subst q2
        rw [dZ] at hbu ⊢
        exact fun z=>key v hv hbv q hbu z.symm
      · rw [eN _ _ q2] at hbu ⊢
        exact h.se.2.2 v u hv hu hbv hbu hvu
structure Qt (b b':aA) (J:Int→bD) (w:Int) (j':bD):Prop where
  mem:b'.Mem=b.Mem
  lim:b'.aM=b.aM
  ep:b.aC.aJ≤b'.aC.aJ
  pin:∀v,0≤v∧v≤2→v≠w→Pinned b'.aC v→Pinned b.aC v∧(bS b'.aC v).aJ=(bS b.aC v).aJ
  haz:∀v,0≤v∧v≤2→v≠w→rQ b'.mP v=rQ b.mP v
  name:JY j'=JY (J w)
  old:(J w).Op.Kind=1→(J w).Pc=3→j'.Op.Kind=1∧j'.Pc=3∧j'.Old=(J w).Old∧(j'.Sub.Pc=0∨j'.Sub.E=(J w).Sub.E∧(J w).Sub.Pc≠0∨b.aC.aJ≤j'.Sub.E)
  col:∀v,0≤v∧v≤2→∀H,rQ b.mP v=H→UnJ (J w) v H→UnJ j' v H
omit h hb hep in
theorem Qt.safe{b':aA}{j':bD}(q:Qt b b' J w j'){e H:Int}(he:e≤b.aC.aJ)(s:rR b c J e H):rR b' c (MJ J w j') e H:=by
  rcases s with s | ⟨v,hv,k1,p3,o,s⟩ | s
  · exact .inl s
  · refine .inr (.inl ⟨v,hv,?_⟩)
    by_cases z:v=w
    · subst z
      rw [dZ]
      obtain⟨a1,a2,a3,a4⟩:=q.old k1 p3
      refine⟨a1,a2,by rw [a3];exact o,?_⟩
      rcases a4 with a4 | ⟨a4,a5⟩ | a4
      · exact .inl a4
      · rcases s with s | s
        · exact absurd s a5
        · exact .inr (by omega)
      · exact .inr (by omega)
    · rw [eN _ _ z];exact⟨k1,p3,o,s⟩
  · rw [←q.lim] at s;exact .inr (.inr s)
end
noncomputable section
variable {b:aA} {c:List Int} {J:Int→bD} {o:Option (Ev×Ev)} {v:Int} {j:bD} (hb:j.cY=true)
include hb
end
end Go.Gv
end
noncomputable section
namespace Go.Gv
structure a75 (b:aA) (w:Int) (NL:List bB) (r:dO):Prop where
  mem:r∈bH b.aM
  live:g9 b.Mem r.Handle
  rest:∀x∈bH b.aM,x.Handle≠r.Handle→x∈bH NL
  sub:∀x∈bH NL,x∈bH b.aM∧x.Handle≠r.Handle
  uni:∀x∈bH b.aM,x.Handle=r.Handle→x=r
  other:∀v,0≤v∧v≤2→v≠w→cX NL v=cX b.aM v
noncomputable section
variable {s:aB} (hs:mY s) {n:Int} (h:Sv s.aA s.Cells (aK s) s.Log n) (hep:Ep s.aA.aC (aK s)) {w:Int} (hw:0≤w∧w≤2) {j:bD} (hj:aK s w=j) (hb:j.cY=true) (hjk:jY j.Op∧dC j.H∧dC j.Old)
include hs h hep hw hj hb
include hjk
end
end Go.Gv
end
noncomputable section
namespace Go.Gv
def V5(L:List Ev):Int:=L.foldl (fun a e=>if e.Kind=4∧e.LI=1∧e.Code=0 then e.dK else a) 0
def okEv(a:Int)(e:Ev):Prop:=e.Kind=4→e.LI=1→e.Code=6∨(e.Code=8∧a=0)∨(e.Code=0∧(100≤e.dK∧e.dK≤105)∧a≤e.dK)
def Good(L:List Ev):Prop:=∀M e N,L=M++e :: N→okEv (V5 M) e
def w1N(L:List Ev):Nat:=L.countP fun e=>e.Kind == 4 && e.LI == 1
structure Rg (T:Int→List bK) (J:Int→bD) (L:List Ev) (on:Bool):Prop where
  q0:∀o∈T 0,o.Kind=1∧o.Cell=0∧100≤o.dK∧o.dK≤105
  p0:(T 0).Pairwise fun a b=>a.dK < b.dK
  j0:(J 0).cY=true→(J 0).Op.Kind=1∧(J 0).Op.Cell=0∧(100≤(J 0).Op.dK∧(J 0).Op.dK≤105)∧∀o∈T 0,(J 0).Op.dK < o.dK
  sw:∀e∈L,e.Kind=2→e.Cell=0∧(100≤e.dK∧e.dK≤105)∧(∀o∈T 0,e.dK < o.dK)∧((J 0).cY=true→(J 0).Pc=0∨(J 0).Pc=1∨(J 0).Pc=2→e.dK < (J 0).Op.dK)
  q1:∀o∈T 1,(o.Kind=2∨o.Kind=3)∧o.Cell=0
  j1:(J 1).cY=true→((J 1).Op.Kind=2∨(J 1).Op.Kind=3)∧(J 1).Op.Cell=0∧((J 1).Code=0∨(J 1).Code=6∨(J 1).Code=8)∧(0≤(J 1).Pc∧(J 1).Pc≤4∨(J 1).Pc=9)
  q2:∀o∈T 2,o.Kind=4
  j2:(J 2).cY=true→(J 2).Op.Kind=4
  pin:on=true→(J 1).cY=true∧(J 1).Op.Kind=2∧(J 1).Pc≠9
  cnt:w1N L+(if (J 1).cY=true then 1 else 0)+(T 1).length=6
  m1:V5 L≤(R6 L 0).dK∧(V5 L≠0→(R6 L 0).Handle≠0)
  m2:(J 1).cY=true→∀e x,YO L (J 1).aI=some (e,x)→x.dK≤(R6 L 0).dK∧V5 L≤x.dK∧(x.Handle≠0→(R6 L 0).Handle≠0∧100≤x.dK∧x.dK≤105)∧(x.Handle=0→V5 L=0)
  aGK:Good L
noncomputable section
variable (s:aB) (w:Int) (j:bD)
end
structure aYF (s:aB) (w:Int) (j:bD) (r:JR):Prop where
  ev:r.l=[]∨∃x,r.l=[y9 w j x]
  code:r.j.Code=0∨r.j.Code=6∨r.j.Code=8
  pc:0≤r.j.Pc∧r.j.Pc≤4∨r.j.Pc=9
  on:(bS r.b.aC w).On=true→j.Op.Kind=2∧r.j.Pc≠9
noncomputable section
variable {T:Int→List bK} {J:Int→bD} {L:List Ev} {on:Bool} (h:Rg T J L on)
include h
theorem Rg.congr{T':Int→List bK}{J':Int→bD}{on':Bool}(t0:T' 0=T 0)(t1:T' 1=T 1)(j0:J' 0=J 0)(j1:J' 1=J 1)(t2:∀o∈T' 2,o.Kind=4)(j2:(J' 2).cY=true→(J' 2).Op.Kind=4)(o:on'=true→on=true):Rg T' J' L on':=by
  refine⟨by rw [t0];exact h.q0,by rw [t0];exact h.p0,by rw [t0,j0];exact h.j0,by rw [t0,j0];exact h.sw,by rw [t1];exact h.q1,by rw [j1];exact h.j1,t2,j2,by rw [j1];exact fun q=>h.pin (o q),by rw [t1,j1];exact h.cnt,h.m1,by rw [j1];exact h.m2,h.aGK⟩
end
noncomputable section
variable {s:aB} (hs:mY s) (hv:Sv s.aA s.Cells (aK s) s.Log s.aI) (hep:Ep s.aA.aC (aK s)) (h:Rg (dN s.aZ) (aK s) s.Log (bS s.aA.aC 1).On)
include hs hv hep h
end
end Go.Gv
end
noncomputable section
namespace Go.Gv
def aYG(n:Int):Prop:=0≤n∧n≤562949953421311
def aSI(s:aR):Prop:=s.aS.length≤1048576∧∀x∈s.aS,aYG x
theorem T5:∀(n:Nat) (l:List Nat),l.Nodup→(∀x∈l,x < n)→l.length≤n
  | 0, l, _, h => by
    cases l with
    | nil=>simp
    | cons x r=>exact absurd (h x List.mem_cons_self) (by omega)
  | n + 1, l, hn, h => by
    by_cases hm:n∈l
    · have h1:=T5 n (l.erase n) (hn.erase n) fun x hx=>by
        have:=h x (List.mem_of_mem_erase hx)
        have hne:x≠n:=fun e=>by subst e;exact(hn.not_mem_erase) hx
        omega
      have:=List.length_erase_of_mem hm
      have:=List.length_pos_of_mem hm
      omega
    · have:=T5 n l hn fun x hx=>by
        have:=h x hx
        have hne:x≠n:=fun e=>hm (e ▸ hx)
        omega
      omega
theorem mW.VW{m:Mem}(h:mW m):(dM m.aD).length≤24∧(∀s∈m.aD.Global,aSI s∧s.aS.length≤24)∧∀s∈m.aD.cT,aSI s∧s.aS.length≤24:=by
  have hr:∀x∈dM m.aD,0≤x∧x≤23:=h.1.2.2.2.2.1
  have hn:(dM m.aD).Nodup:=h.1.2.2.2.2.2
  have h24:(dM m.aD).length≤24:=by
    have h1:((dM m.aD).map Int.toNat).Nodup:=by
      rw [List.nodup_iff_pairwise_ne] at hn ⊢
      rw [List.pairwise_map]
      exact hn.imp_of_mem fun{a b} ha hb hab e=>hab (by have:=hr a ha;have:=hr b hb;omega)
    have h2:∀y∈(dM m.aD).map Int.toNat,y < 24:=by
      intro y hy
      obtain⟨x,hx,rfl⟩:=List.mem_map.1 hy
      have:=hr x hx
      omega
    have:=T5 24 _ h1 h2
    simpa using this
  have hal:=pL m.aD
  have hm1:∀s∈m.aD.Global,∀x∈s.aS,x∈dM m.aD:=fun s hs x hx=>List.mem_append_left _ (List.mem_flatMap.2 ⟨s,hs,hx⟩)
  have hm2:∀s∈m.aD.cT,∀x∈s.aS,x∈dM m.aD:=fun s hs x hx=>List.mem_append_right _ (List.mem_flatMap.2 ⟨s,hs,hx⟩)
  refine⟨h24,fun s hs=>?_,fun s hs=>?_⟩
  · have:=AR hs
    exact⟨⟨by omega,fun x hx=>by have:=hr x (hm1 s hs x hx);unfold aYG;omega⟩,by omega⟩
  · have:=AR hs
    exact⟨⟨by omega,fun x hx=>by have:=hr x (hm2 s hs x hx);unfold aYG;omega⟩,by omega⟩
end Go.Gv
end
noncomputable section
namespace Go.Gv
theorem mW.small{m:Mem}(h:mW m):sY m:=by
  have h1:=h.1.1.1.1;have h2:=h.1.1.1.2.1;have h3:=h.1.2.1;have h4:=h.1.2.2.1;have h5:=h.VW.1
  unfold sY;omega
end Go.Gv
end
