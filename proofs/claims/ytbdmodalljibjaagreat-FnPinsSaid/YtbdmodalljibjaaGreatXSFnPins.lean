import Derived.Test.YtbdmodalljibjaaGreatXLF
set_option linter.unusedVariables false
set_option linter.unusedSimpArgs false
set_option linter.unusedSectionVars false
set_option linter.constructorNameAsVariable false
set_option linter.unnecessarySimpa false
noncomputable section
set_option linter.unusedVariables false
namespace Go.Gv
noncomputable section
def j6(c:aC)(w_:Int)(x1:Bool):Option (Int×Bool):=
  (if x1 then some (0,false) else (idx c.aN w_).bind fun x2=>some (x2.aE,true))
def pI(c:aC)(w_:Int):Option (Int×Bool):=
  (hQ c).bind fun x3=>(if !x3 then j6 c w_ true else (dJ w_).bind fun x4=>(if !x4 then j6 c w_ true else (idx c.aN w_).bind fun x5=>(kD x5).bind fun x6=>j6 c w_ (!x6)))
def gI(x8:Bool):Option Bool:=
  some x8
def D5(x3:Int)(x4 x5:aI)(x6:Sub):Option Bool:=
  (pI x5.aC (Int.tmod x3 3)).bind fun x7=>(iF x4).bind fun x9=>(if !x9 then gI true else (if x6.cQ then (if x6.Code == 0 then (if x7.2 then (if x7.1 == x4.aC.aE then (r9 x5.Mem x4.Mem).bind fun x10=>gI x10 else gI false) else gI false) else gI false) else gI false))
def LJ(code:List UInt8):Option Bool:=
  (w7 code).bind fun x1=>(if x1 then some true else (qZ code).bind fun x2=>(L4 code 0).bind fun x3=>(lN 5 0).bind fun x11=>(vW x2 (Int.tmod x3 3) x11).bind fun x12=>D5 x3 x2 x12.1 x12.2)
end
end Go.Gv
end
noncomputable section
set_option linter.unusedVariables false
set_option maxHeartbeats 4000000
set_option maxRecDepth 100000
namespace Go.Proofs.YtbdmodalljibjaaGreat
open Go.Gv
noncomputable section
variable {κ:Ctx}
theorem TP{c:aC}{w_:Int}{s1:AC}(h1:bE κ s1 c.aN):V0 Tryz.prog κ 51 (pI c w_) [.g [I c.aE,.h s1 c.aN.length],I w_] (fun r=>.t [I r.1,.b r.2]):=
 cE tok Tryz.call51 Tryz.func51 Tryz.results51 Q Q<|cW 0 1 (j6 c w_) [1,2] 22 [0] Q (c0 Q (fun h=>m8 (h.a h1)) fun x3=>dR [8,9] Q Q (bU [0] Q Q)<|c0 Q (fun _=>eO) fun x4=>dR [12,13,14] Q Q (bU [0] Q Q)<|E8 NX Q h1 Q fun x5 _ _=>c0 Q (fun _=>AR) fun x6=>bU [0] Q Q) fun x1=>bD [22] Q Q (cB Q Q)<|E8 NX Q h1 Q fun x2 _ _=>cB Q Q
theorem ZB{code:List UInt8}{s1:AC}(h1:bE κ s1 code):V0 Tryz.prog κ 9 (LJ code) [.h s1 code.length] .b:=
 cE tok Tryz.call9 Tryz.func9 Tryz.results9 Q Q<|c0 Q (fun h=>HV (h.a h1)) fun x1=>bD [10] Q Q (cB Q Q)<|c1 Q (fun h=>GU (h.a h1)) fun x2 s2=>c0 Q (fun h=>Q2 (h.a h1)) fun x3=>dL 0 3 (fun(p:aI×aI×Sub)=>D5 x3 p.1 p.2.1 p.2.2) [3,4] (fun(p:aI×aI×Sub) (u:AC×AC×AC×AC×AC×AC×AC)=>[(5,.p 1 0),(6,.p 2 0)]) [] (fun p u=>[ow s2.1 (p.1.Mem.aB.Bytes:List Int),ow s2.2.1 (p.1.Mem.aB.Class:List Int),ow s2.2.2.1 (p.1.Mem.aA.Global:List aD),ow s2.2.2.2.1 (p.1.Mem.aA.aR:List aD),ow s2.2.2.2.2.1 (p.1.aC.aN:List dS),ow s2.2.2.2.2.2.1 (p.1.aJ:List aK),ow s2.2.2.2.2.2.2 (p.1.cA:List Int),.box 0 [.h s2.1 p.1.Mem.aB.Bytes.length,.h s2.2.1 p.1.Mem.aB.Class.length,.h s2.2.2.1 p.1.Mem.aA.Global.length,.h s2.2.2.2.1 p.1.Mem.aA.aR.length,I p.1.aC.aE,.h s2.2.2.2.2.1 p.1.aC.aN.length,.h s2.2.2.2.2.2.1 p.1.aJ.length,.h s2.2.2.2.2.2.2 p.1.cA.length],ow u.1 (p.2.1.Mem.aB.Bytes:List Int),ow u.2.1 (p.2.1.Mem.aB.Class:List Int),ow u.2.2.1 (p.2.1.Mem.aA.Global:List aD),ow u.2.2.2.1 (p.2.1.Mem.aA.aR:List aD),ow u.2.2.2.2.1 (p.2.1.aC.aN:List dS),ow u.2.2.2.2.2.1 (p.2.1.aJ:List aK),ow u.2.2.2.2.2.2 (p.2.1.cA:List Int),.box 1 [.h u.1 p.2.1.Mem.aB.Bytes.length,.h u.2.1 p.2.1.Mem.aB.Class.length,.h u.2.2.1 p.2.1.Mem.aA.Global.length,.h u.2.2.2.1 p.2.1.Mem.aA.aR.length,I p.2.1.aC.aE,.h u.2.2.2.2.1 p.2.1.aC.aN.length,.h u.2.2.2.2.2.1 p.2.1.aJ.length,.h u.2.2.2.2.2.2 p.2.1.cA.length],.box 2 [I p.2.2.Kind,I p.2.2.A,I p.2.2.Pc,I p.2.2.E,I p.2.2.Row,I p.2.2.B,I p.2.2.H,I p.2.2.Out,I p.2.2.Code,.b p.2.2.cQ]]) Q (eM aG [7] Q<|fun hF=>bd hF fun x11 hA1 hF=>bd hF fun x12 hA2 hF=>X0 Q Q (have hq1:=rb hA1;wi hq1<|c0 Q (fun _=>dK) fun u1=>fun hq1=>match u1,hq1 with | _,rfl=>X0 Q Q (have hq2:=rb hA2;wi hq2<|c1 Q (fun h=>bC (h.o 0 Q) (h.o 1 Q) (h.o 2 Q) (h.o 3 Q) (h.o 4 Q) (h.o 5 Q) (h.o 6 Q)) fun u2 s11=>fun hq2=>match u2,hq2 with | _,rfl=>cT Q Q (wi hF<|e7 (p:=(x2,x12.1,x12.2)) (s11.1,s11.2.1,s11.2.2.1,s11.2.2.2.1,s11.2.2.2.2.1,s11.2.2.2.2.2.1,s11.2.2.2.2.2.2) [0,1,2,3,4,5,6,7,8,9,10,11,12,13,14,15,16] Q Q) (sF Q<|N8 2 1 Q<|fD Q Q<|gP (p:=(x2,x12.1,x12.2)) (s11.1,s11.2.1,s11.2.2.1,s11.2.2.2.1,s11.2.2.2.2.1,s11.2.2.2.2.2.1,s11.2.2.2.2.2.2) [0,1,2,3,4,5,6,7,8,9,10,11,12,13,14,16,15] hF Q)) (cT Q Q (have hq3:=rb hA2;wi hq3<|c1 Q (fun h=>bC (h.o 0 Q) (h.o 1 Q) (h.o 2 Q) (h.o 3 Q) (h.o 4 Q) (h.o 5 Q) (h.o 6 Q)) fun u3 s12=>fun hq3=>match u3,hq3 with | _,rfl=>wi hF<|e7 (p:=(x2,x12.1,x12.2)) (s12.1,s12.2.1,s12.2.2.1,s12.2.2.2.1,s12.2.2.2.2.1,s12.2.2.2.2.2.1,s12.2.2.2.2.2.2) [0,1,2,3,4,5,6,7,9,10,11,12,13,14,15,8,16] Q Q) (have hq4:=rb hA2;wi hq4<|c1 Q (fun h=>bC (h.o 0 Q) (h.o 1 Q) (h.o 2 Q) (h.o 3 Q) (h.o 4 Q) (h.o 5 Q) (h.o 6 Q)) fun u4 s13=>fun hq4=>match u4,hq4 with | _,rfl=>wi hF<|e7 (p:=(x2,x12.1,x12.2)) (s13.1,s13.2.1,s13.2.2.1,s13.2.2.2.1,s13.2.2.2.2.1,s13.2.2.2.2.2.1,s13.2.2.2.2.2.2) [0,1,2,3,4,5,6,7,10,11,12,13,14,15,16,8,9] Q Q)) (cT Q Q (have hq5:=rb hA2;wi hq5<|c1 Q (fun h=>bC (h.o 0 Q) (h.o 1 Q) (h.o 2 Q) (h.o 3 Q) (h.o 4 Q) (h.o 5 Q) (h.o 6 Q)) fun u5 s14=>fun hq5=>match u5,hq5 with | _,rfl=>sF Q<|N8 2 1 Q<|fD Q Q<|gP (p:=(x2,x12.1,x12.2)) (s14.1,s14.2.1,s14.2.2.1,s14.2.2.2.1,s14.2.2.2.2.1,s14.2.2.2.2.2.1,s14.2.2.2.2.2.2) [0,1,2,3,4,5,6,7,9,10,11,12,13,14,15,16,8] hF Q) (have hq6:=rb hA2;wi hq6<|c1 Q (fun h=>bC (h.o 0 Q) (h.o 1 Q) (h.o 2 Q) (h.o 3 Q) (h.o 4 Q) (h.o 5 Q) (h.o 6 Q)) fun u6 s15=>fun hq6=>match u6,hq6 with | _,rfl=>sF Q<|N8 2 1 Q<|fD Q Q<|gP (p:=(x2,x12.1,x12.2)) (s15.1,s15.2.1,s15.2.2.1,s15.2.2.2.1,s15.2.2.2.2.1,s15.2.2.2.2.2.1,s15.2.2.2.2.2.2) [0,1,2,3,4,5,6,7,10,11,12,13,14,15,16,9,8] hF Q))) (cT Q Q (have hq7:=rb hA1;wi hq7<|c0 Q (fun _=>dK) fun u7=>fun hq7=>match u7,hq7 with | _,rfl=>cT Q Q (have hq8:=rb hA2;wi hq8<|c1 Q (fun h=>bC (h.o 0 Q) (h.o 1 Q) (h.o 2 Q) (h.o 3 Q) (h.o 4 Q) (h.o 5 Q) (h.o 6 Q)) fun u8 s16=>fun hq8=>match u8,hq8 with | _,rfl=>wi hF<|e7 (p:=(x2,x12.1,x12.2)) (s16.1,s16.2.1,s16.2.2.1,s16.2.2.2.1,s16.2.2.2.2.1,s16.2.2.2.2.2.1,s16.2.2.2.2.2.2) [0,1,2,3,4,5,6,7,9,10,11,12,13,14,15,8,16] Q Q) (have hq9:=rb hA2;wi hq9<|c1 Q (fun h=>bC (h.o 0 Q) (h.o 1 Q) (h.o 2 Q) (h.o 3 Q) (h.o 4 Q) (h.o 5 Q) (h.o 6 Q)) fun u9 s17=>fun hq9=>match u9,hq9 with | _,rfl=>wi hF<|e7 (p:=(x2,x12.1,x12.2)) (s17.1,s17.2.1,s17.2.2.1,s17.2.2.2.1,s17.2.2.2.2.1,s17.2.2.2.2.2.1,s17.2.2.2.2.2.2) [0,1,2,3,4,5,6,7,10,11,12,13,14,15,16,8,9] Q Q)) (have hq10:=rb hA1;wi hq10<|c0 Q (fun _=>dK) fun u10=>fun hq10=>match u10,hq10 with | _,rfl=>have hq11:=rb hA2;wi hq11<|c1 Q (fun h=>bC (h.o 0 Q) (h.o 1 Q) (h.o 2 Q) (h.o 3 Q) (h.o 4 Q) (h.o 5 Q) (h.o 6 Q)) fun u11 s18=>fun hq11=>match u11,hq11 with | _,rfl=>wi hF<|e7 (p:=(x2,x12.1,x12.2)) (s18.1,s18.2.1,s18.2.2.1,s18.2.2.2.1,s18.2.2.2.2.1,s18.2.2.2.2.2.1,s18.2.2.2.2.2.2) [0,1,2,3,4,5,6,7,10,11,12,13,14,15,16,8,9] Q Q)) (cT Q Q (have hq12:=rb hA1;wi hq12<|c0 Q (fun _=>dK) fun u12=>fun hq12=>match u12,hq12 with | _,rfl=>cT Q Q (have hq13:=rb hA2;wi hq13<|c1 Q (fun h=>bC (h.o 0 Q) (h.o 1 Q) (h.o 2 Q) (h.o 3 Q) (h.o 4 Q) (h.o 5 Q) (h.o 6 Q)) fun u13 s19=>fun hq13=>match u13,hq13 with | _,rfl=>sF Q<|N8 2 1 Q<|fD Q Q<|gP (p:=(x2,x12.1,x12.2)) (s19.1,s19.2.1,s19.2.2.1,s19.2.2.2.1,s19.2.2.2.2.1,s19.2.2.2.2.2.1,s19.2.2.2.2.2.2) [0,1,2,3,4,5,6,7,9,10,11,12,13,14,15,16,8] hF Q) (have hq14:=rb hA2;wi hq14<|c1 Q (fun h=>bC (h.o 0 Q) (h.o 1 Q) (h.o 2 Q) (h.o 3 Q) (h.o 4 Q) (h.o 5 Q) (h.o 6 Q)) fun u14 s20=>fun hq14=>match u14,hq14 with | _,rfl=>sF Q<|N8 2 1 Q<|fD Q Q<|gP (p:=(x2,x12.1,x12.2)) (s20.1,s20.2.1,s20.2.2.1,s20.2.2.2.1,s20.2.2.2.2.1,s20.2.2.2.2.2.1,s20.2.2.2.2.2.2) [0,1,2,3,4,5,6,7,10,11,12,13,14,15,16,9,8] hF Q)) (have hq15:=rb hA1;wi hq15<|c0 Q (fun _=>dK) fun u15=>fun hq15=>match u15,hq15 with | _,rfl=>have hq16:=rb hA2;wi hq16<|c1 Q (fun h=>bC (h.o 0 Q) (h.o 1 Q) (h.o 2 Q) (h.o 3 Q) (h.o 4 Q) (h.o 5 Q) (h.o 6 Q)) fun u16 s21=>fun hq16=>match u16,hq16 with | _,rfl=>sF Q<|N8 2 1 Q<|fD Q Q<|gP (p:=(x2,x12.1,x12.2)) (s21.1,s21.2.1,s21.2.2.1,s21.2.2.2.1,s21.2.2.2.2.1,s21.2.2.2.2.2.1,s21.2.2.2.2.2.2) [0,1,2,3,4,5,6,7,10,11,12,13,14,15,16,9,8] hF Q))) fun⟨x4,x5,x6⟩ ⟨s3,s4,s5,s6,s7,s8,s9⟩=>c0 Q (fun h=>TP (h.o 12 Q)) fun x7=>cW 0 3 gI [] 2 [] Q (c0 Q (fun h=>jR (h.o 0 Q) (h.o 1 Q) (h.o 2 Q) (h.o 3 Q) (h.o 4 Q) (h.o 5 Q) (h.o 6 Q)) fun x9=>dR [32,33] Q Q (bU [] Q Q)<|dR [35,36] Q Q (dR [39,40,41] Q Q (dR [8,29,42,43,44] Q Q (dR [49,50,51] Q Q (c0 Q (fun h=>DP (h.o 8 Q) (h.o 9 Q) (h.o 10 Q) (h.o 11 Q) (h.o 0 Q) (h.o 1 Q) (h.o 2 Q) (h.o 3 Q)) fun x10=>bU [] Q Q)<|bU [] Q Q)<|bU [] Q Q)<|bU [] Q Q)<|bU [] Q Q) fun x8=>cB Q Q
end
end Go.Proofs.YtbdmodalljibjaaGreat
end
noncomputable section
set_option linter.unusedVariables false
set_option linter.unusedSimpArgs false
set_option linter.unusedSectionVars false
namespace Go.Gv
theorem aIW{c:aC}(hc:AX c){w v:Int}(hw:0≤w∧w≤2)(hv:0≤v∧v≤2)(e:Int)(x:dS):eC ⟨e,c.aN.set w.toNat x⟩ v=if v=w then x else eC c v:=by
  have h3:=hc.2.1
  unfold eC
  simp only [List.getD_eq_getElem?_getD,List.getElem?_set]
  by_cases q:v=w
  · subst q;simp [show v.toNat < c.aN.length by omega]
  · rw [if_neg q,if_neg (by omega)]
noncomputable section
variable {c:aC} {J:Int→MG} (h:Ep c J)
include h
variable {w:Int} (hw:0≤w∧w≤2) {j:MG}
include hw
end
end Go.Gv
end
noncomputable section
set_option linter.unusedVariables false
set_option linter.unusedSimpArgs false
set_option linter.unusedSectionVars false
namespace Go.Gv
noncomputable section
variable (s:pZ) (w:Int) (j:MG)
end
noncomputable section
variable {s:pZ} (hs:SOk s) {w:Int} (hw:0≤w∧w≤2) (h:Ep s.aI.aC (aHU s))
include hs hw h
end
theorem RU{c:aC}(hc:AX c){w:Int}(hw:0≤w∧w≤2):pI c w=some (if (eC c w).On=true∧(eC c w).d5=false then ((eC c w).aE,true) else (0,false)):=by
  unfold pI j6
  rw [gO hc.small.2,decide_eq_true hc,fU,decide_eq_true hw,CV hc hw]
  simp only [Option.bind_some,Bool.not_true,Bool.false_eq_true,if_false,kD,gU]
  cases (eC c w).On <;> cases (eC c w).d5 <;> simp
end Go.Gv
end
noncomputable section
set_option linter.unusedVariables false
set_option linter.unusedSimpArgs false
set_option linter.unusedSectionVars false
namespace Go.Gv
def z9(b:aI)(w:Int):aI:={b with aC:=⟨b.aC.aE,b.aC.aN.set w.toNat ⟨true,b.aC.aE,false,0⟩⟩}
theorem aOR{b:aI}(hc:AX b.aC)(w:Int)(n:Nat):MJ w (n+3) b (aDR 5 0)=(z9 b w,⟨5,0,2,b.aC.aE,0,0,0,0,0,true⟩):=by
  rw [nE rfl]
  have e1:l7 b w (aDR 5 0)=(b,⟨5,0,1,b.aC.aE,0,0,0,0,0,false⟩):=rfl
  rw [e1]
  simp only
  rw [nE rfl]
  have hp:F8 b.aC w b.aC.aE=(⟨b.aC.aE,b.aC.aN.set w.toNat ⟨true,b.aC.aE,false,0⟩⟩,true):=by
    unfold F8;rw [if_pos ⟨hc.1.1,Int.le_refl _⟩]
  have e2:l7 b w ⟨5,0,1,b.aC.aE,0,0,0,0,0,false⟩=(z9 b w,⟨5,0,2,b.aC.aE,0,0,0,0,0,false⟩):=by
    unfold l7 aFM z9
    simp [hp]
  rw [e2]
  simp only
  rw [nE rfl]
  have e3:l7 (z9 b w) w ⟨5,0,2,b.aC.aE,0,0,0,0,0,false⟩=(z9 b w,⟨5,0,2,b.aC.aE,0,0,0,0,0,true⟩):=by
    unfold l7 aFM z9 AV
    simp
  rw [e3]
  exact yY rfl _ _
theorem aEB{c:aC}(h:c.aN.length≤1048576){w:Int}(hw:0≤w∧w≤2):fB (pI c w) (fun _=>True):=by
  by_cases hc:AX c
  · exact⟨_,RU hc hw,trivial⟩
  · unfold pI j6
    rw [gO (by simp only [maxLen];omega),decide_eq_false hc,Option.bind_some,if_pos (by simp)]
    exact .ret trivial
theorem aGA{code:List UInt8}(_:fit code):LJ code=some true:=by
  unfold LJ w7
  rw [Option.bind_some]
  by_cases hcl:1048576 < (code.length:Int)
  · rw [if_pos (by simpa using hcl)]
  rw [if_neg (by simpa using hcl)]
  obtain⟨b,eb,hs⟩:=aMI (code:=code) (by omega)
  obtain⟨a,ea,ha⟩:=aMJ (code:=code) (by omega) (i:=0) (by omega)
  have hw:=aAF ha
  rw [eb,Option.bind_some,ea,Option.bind_some]
  unfold lN
  rw [Option.bind_some,N6 hs,Option.bind_some]
  simp only [D5]
  by_cases hb:eQ b
  · have e:mG b (Int.tmod a 3) ⟨5,0,0,0,0,0,0,0,0,false⟩=(z9 b (Int.tmod a 3),⟨5,0,2,b.aC.aE,0,0,0,0,0,true⟩):=by
      unfold mG;rw [if_pos ⟨hb,hw⟩];exact aOR hb.1.2.1 _ 197
    have hx:=N5 hb (Int.tmod a 3) ⟨5,0,0,0,0,0,0,0,0,false⟩
    rw [e] at hx ⊢
    have hp:eC (z9 b (Int.tmod a 3)).aC (Int.tmod a 3)=⟨true,b.aC.aE,false,0⟩:=by
      unfold z9;simp only;rw [aIW hb.1.2.1 hw hw,if_pos rfl]
    simp only [RU hx.1.2.1 hw,hp,Option.bind_some,gE hs.fits,decide_eq_true hb]
    simp only [z9,H5 hs.1]
    simp [gI]
  · have e:mG b (Int.tmod a 3) ⟨5,0,0,0,0,0,0,0,0,false⟩=(b,⟨5,0,0,0,0,0,0,0,0,false⟩):=by
      unfold mG;rw [if_neg (fun q=>hb q.1)]
    rw [e]
    obtain⟨p,ep,_⟩:=aEB hs.2.1 hw
    simp only [ep,Option.bind_some,gE hs.fits,decide_eq_false hb,Bool.not_false,if_true,gI]
end Go.Gv
end
