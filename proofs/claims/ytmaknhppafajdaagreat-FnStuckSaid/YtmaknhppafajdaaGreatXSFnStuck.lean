import Derived.Test.YtmaknhppafajdaaGreatXLF
set_option linter.unusedVariables false
set_option linter.unusedSimpArgs false
set_option linter.unusedSectionVars false
set_option linter.constructorNameAsVariable false
set_option linter.unnecessarySimpa false
noncomputable section
namespace Go.Gv
noncomputable section
def aIX(x6:List Int):Option (List Int):=
  some x6
def GY(x5:Int)(x7:List Int):Option (Step ((List Int)×Int) (List Int)):=
  some (.next (x7,aY (x5+1)))
def GZ(x4:List Int)(x5:Int)(x9:Bool):Option (Step ((List Int)×Int) (List Int)):=
  (if x9 then need (x4.length+([x5]).length≤1073741824) (GY x5 (x4++([x5]))) else GY x5 x4)
def AY(s:aB):((List Int)×Int)→Option (Step ((List Int)×Int) (List Int))
  | (x4,x5)=>(if decide (x5 < (s.aT.length:Int)) then (idx s.aT x5).bind fun x8=>(idx s.aA.aC.cK x5).bind fun x10=>(if x10.On then GZ x4 x5 (!x8.cY) else GZ x4 x5 false) else some (.stop (x4)))
def aIY:(List Int)→Option (List Int)
  | x6=>aIX x6
def QQ(s:aB):Option (List Int):=
  (pC s).bind fun x1=>(if !x1 then some ([]:List Int) else (loop (AY s) (([]:List Int),0)).bind (aIY))
def jB(x18:Bool):Option Bool:=
  some x18
def oW(code:List UInt8)(x2:Int)(x13:Bool)(x14:aB):Option Bool:=
  (if x13 then some false else (idx x14.aZ (Int.tmod x2 3)).bind fun x15=>(iP ({x14 with aZ:=x14.aZ.set ((Int.tmod x2 3).toNat) (⟨([(⟨7,0,0,0⟩:bK),(⟨6,0,0,0⟩:bK),(⟨5,0,0,0⟩:bK),(⟨7,0,0,0⟩:bK)]:List bK)⟩:Queue)}:aB)).bind fun x16=>(vT x16).bind fun x17=>(if decide (4 < (x17.length:Int)) then (idx x17 (aY ((x17.length:Int) - 4))).bind fun x19=>(if x19.Code == 6 then (if x19.dK == 0 then (idx x17 (aY ((x17.length:Int) - 3))).bind fun x20=>(if x20.Code == 0 then (idx x17 (aY ((x17.length:Int) - 2))).bind fun x21=>(if x21.Code == 0 then (idx x17 (aY ((x17.length:Int) - 1))).bind fun x22=>(if x22.Code == 0 then (nN code 3).bind fun x23=>jB (x22.dK == x23) else jB false) else jB false) else jB false) else jB false) else jB false) else jB false))
def uA(code:List UInt8)(x2:Int)(x10:Bool)(x11:aB):Option Bool:=
  (if x10 then some false else (KC x11 8).bind fun x12=>(if (x12.aZ.length:Int) != 3 then oW code x2 true x12 else (if (x12.aA.aC.cK.length:Int) != 3 then oW code x2 true x12 else (nF x12.aA.aM).bind fun x24=>(if x24 != 0 then oW code x2 true x12 else (idx x12.aA.aC.cK (Int.tmod x2 3)).bind fun x25=>oW code x2 (!x25.dJ) x12))))
def QT(code:List UInt8):Option Bool:=
  (vS code).bind fun x1=>(if x1 then some true else (nN code 0).bind fun x2=>need (0≤(3:Int)∧(3:Int)≤4294967296) ((idx (List.replicate ((3:Int).toNat) (⟨[]⟩:Queue)) (Int.tmod x2 3)).bind fun x3=>(nN code 1).bind fun x4=>(nN code 2).bind fun x5=>(nN code 3).bind fun x6=>(idx ((List.replicate ((3:Int).toNat) (⟨[]⟩:Queue)).set ((Int.tmod x2 3).toNat) (⟨[(⟨5,0,0,0⟩:bK)]⟩:Queue)) (Int.tmod (aY ((Int.tmod x2 3)+1)) 3)).bind fun x7=>(pW (((List.replicate ((3:Int).toNat) (⟨[]⟩:Queue)).set ((Int.tmod x2 3).toNat) (⟨[(⟨5,0,0,0⟩:bK)]⟩:Queue)).set ((Int.tmod (aY ((Int.tmod x2 3)+1)) 3).toNat) (⟨([(⟨1,0,aY (1+(Int.tmod x4 40)),x5⟩:bK),(⟨1,0,9,x6⟩:bK)]:List bK)⟩:Queue))).bind fun x8=>(iP x8).bind fun x9=>(if (x9.aT.length:Int) != 3 then uA code x2 true x9 else (QQ x9).bind fun x26=>(J9 x26 (Int.tmod x2 3)).bind fun x27=>(if !x27 then uA code x2 true x9 else (nF x9.aA.aM).bind fun x28=>uA code x2 (x28 != 1) x9))))
def aIZ(x6:List Int):Option (List Int):=
  some x6
def NX(x5:Int)(x8:List Int):Option (Step ((List Int)×Int) (List Int)):=
  some (.next (x8,aY (x5+1)))
def NY(x4:List Int)(x5:Int)(x9:Bool):Option (Step ((List Int)×Int) (List Int)):=
  (if x9 then need (x4.length+([x5]).length≤1073741824) (NX x5 (x4++([x5]))) else NX x5 x4)
def G0(s:aB)(x4:List Int)(x5:Int)(x7:Bool):Option (Step ((List Int)×Int) (List Int)):=
  (if x7 then (idx s.aA.aC.cK x5).bind fun x10=>(if x10.On then (idx s.aT x5).bind fun x11=>NY x4 x5 (!x11.cY) else NY x4 x5 false) else some (.stop (x4)))
def AZ(s:aB)(x1:Bool):((List Int)×Int)→Option (Step ((List Int)×Int) (List Int))
  | (x4,x5)=>(if decide (x5 < 3) then G0 s x4 x5 x1 else G0 s x4 x5 false)
def aI0:(List Int)→Option (List Int)
  | x6=>aIZ x6
def aHG(s:aB):Option (List Int):=
  (sL s).bind fun x1=>(loop (AZ s x1) (([]:List Int),0)).bind (aI0)
end
end Go.Gv
end
noncomputable section
set_option maxHeartbeats 4000000
set_option maxRecDepth 100000
namespace Go.Proofs.YtmaknhppafajdaaGreat
open Go.Gv
noncomputable section
variable {κ:Ctx}
theorem aL7{s:aB}{s1 s2 s3 s4 s5 s6 s7 s8 s9 s10 s11:AC}(h1:bL κ s1 s.aA.Mem.aE.Bytes)(h2:bL κ s2 s.aA.Mem.aE.Class)(h3:bL κ s3 s.aA.Mem.aD.Global)(h4:bL κ s4 s.aA.Mem.aD.cT)(h5:bL κ s5 s.aA.aC.cK)(h6:bL κ s6 s.aA.aM)(h7:bL κ s7 s.aA.mP)(h8:bL κ s8 s.Cells)(h9:bL κ s9 s.aT)(h10:bL κ s10 s.aZ)(h11:bL κ s11 s.Log):VS Tryz.prog κ 16 (QQ s) [.g (gS s s1 s2 s3 s4 s5 s6 s7 s8 s9 s10 s11)] [] [] (fun r (y:AC)=>.h y r.length) (fun r y=>[ow y r]):=
 dW tok Tryz.call16 Tryz.func16 Tryz.results16 Q Q<|fun hF=>WJ (α:=Int) aW Q Q Q Q fun s12=>wi hF<|c0 Q (fun h=>ED (h.a h1) (h.a h2) (h.a h3) (h.a h4) (h.a h5) (h.a h6) (h.a h7) (h.a h8) (h.a h9) (h.a h10) (h.a h11)) fun x1=>b8 [9] Q Q (nP s12 [1] Q Q)<|QX s12 [1,12,13] (fun(p:(List Int)×Int) (s14:AC)=>[(3,.h s14 p.1.length),(14,I p.2)]) [1,0] [0] (fun p s14=>[ow s14 (p.1:List Int)]) id [] (fun(x6:(List Int)) (s15:AC)=>[(3,.h s15 x6.length)]) [] (fun x6 s15=>[ow s15 (x6:List Int)]) Q Q (fun hF1 ⟨x4,x5⟩ s14 hr1=>b8 [15] Q Q (iT 2 1 (GY x5) [1,12,13,14] (fun(x7:(List Int)) (s16:AC)=>[(3,.h s16 x7.length)]) [1] (fun x7 s16=>[ow s16 (x7:List Int)]) Q (OG aKV Q h9 Q fun x8 _ _=>d5 0 3 (GZ x4 x5) [1,3,4,12,13,14] 31 [0,1] Q (OG aND Q h5 Q fun x10 _ _=>eP [26,27] Q Q (cQ [0,1] Q Q)<|cQ [0,1] Q Q) fun x9=>b8 [31] Q Q (fun hG1=>lt1 Q aW Q Q Q Q fun s17=>ap 0 aW Q Q Q Q Q Q Q (fun h=>(h.o 2 Q)) Q Q hG1 fun hG1 s18=>wi hG1<|pR s18 [0,1] Q Q)<|pR s14 [0,1] Q Q) fun x7 s16=>nxW s16 [0,1] Q)<|bkW s14 [0] Q) fun x6 s15=>nP s15 [0] Q Q
theorem aHH{code:List UInt8}{s1:AC}(h1:bL κ s1 code):V0 Tryz.prog κ 4 (QT code) [.h s1 code.length] .b:=
 dW tok Tryz.call4 Tryz.func4 Tryz.results4 Q Q<|c0 Q (fun h=>KM (h.a h1)) fun x1=>b8 [11] Q Q (dE Q Q)<|c0 Q (fun h=>g8 (h.a h1)) fun x2=>fun hF=>xI ((⟨[]⟩:Queue):Queue) fI (fun _=>(kE (qS (⟨[]⟩:Queue)) (yV LG))) Q Q Q Q Q Q Q hF fun hF s2=>RY D8 [] ((⟨5,0,0,0⟩:bK)) () bG Q Q Q Q Q Q Q Q Q Q Q Q Q fun s3=>wi hF<|nQ dS 0 Q Q Q fun x3 h2 s4 h3=>fun hF=>iS 0 h3 h2 Q Q Q Q Q<|wi hF<|c0 Q (fun h=>g8 (h.a h1)) fun x4=>c0 Q (fun h=>g8 (h.a h1)) fun x5=>c0 Q (fun h=>g8 (h.a h1)) fun x6=>fun hF=>ltK D8 () ([(⟨1,0,aY (1+(Int.tmod x4 40)),x5⟩:bK),(⟨1,0,9,x6⟩:bK)]:List bK) bG Q Q Q Q Q Q Q Q Q Q (fun _=>Q) fun s5=>ceS dS 2 [1] [5,18,19,25] (⟨[(⟨5,0,0,0⟩:bK)]⟩:Queue) s3 Q Q Q Q Q Q Q Q Q Q<|wi hF<|nQ dS 7 Q Q Q fun x7 h4 s6 h5=>fun hF=>iS 1 h5 h4 Q Q Q Q Q<|ceS dS 8 [6] [5,18,19,25,40] (⟨([(⟨1,0,aY (1+(Int.tmod x4 40)),x5⟩:bK),(⟨1,0,9,x6⟩:bK)]:List bK)⟩:Queue) s5 Q Q Q Q Q Q Q Q Q Q<|wi hF<|c1 Q (fun h=>BO (h.o 12 Q)) fun x8 s7=>c1 Q (fun h=>kU (h.o 13 Q) (h.o 14 Q) (h.o 15 Q) (h.o 16 Q) (h.o 17 Q) (h.o 18 Q) (h.o 19 Q) (h.o 20 Q) (h.o 21 Q) (h.o 22 Q) (h.o 23 Q)) fun x9 s8=>iT 0 3 (fun(p:Bool×aB)=>uA code x2 p.1 p.2) [0,3,6] (fun(p:Bool×aB) (_:Unit)=>[(60,.b p.1)]) [] (fun p _=>(zS p.2 s8 [.box 2 (yS p.2 s8)])) Q (eP [46,47] Q Q (cQ (p:=(true,x9)) [24,25,26,27,28,29,30,31,32,33,34,35] Q Q)<|c1 Q (fun h=>aL7 (h.o 24 Q) (h.o 25 Q) (h.o 26 Q) (h.o 27 Q) (h.o 28 Q) (h.o 29 Q) (h.o 30 Q) (h.o 31 Q) (h.o 32 Q) (h.o 33 Q) (h.o 34 Q)) fun x26 s14=>c0 Q (fun h=>aFL (h.o 36 Q)) fun x27=>eP [52,53,54] Q Q (cQ (p:=(true,x9)) [24,25,26,27,28,29,30,31,32,33,34,35] Q Q)<|c0 Q (fun h=>rO (h.o 29 Q)) fun x28=>cQ (p:=(x28 != 1,x9)) [24,25,26,27,28,29,30,31,32,33,34,35] Q Q) fun⟨x10,x11⟩ _=>b8 [60] Q Q (dE Q Q)<|c1 Q (fun h=>QA (h.o 0 Q) (h.o 1 Q) (h.o 2 Q) (h.o 3 Q) (h.o 4 Q) (h.o 5 Q) (h.o 6 Q) (h.o 7 Q) (h.o 8 Q) (h.o 9 Q) (h.o 10 Q)) fun x12 s9=>iT 0 4 (fun(p:Bool×aB)=>oW code x2 p.1 p.2) [0,3,7] (fun(p:Bool×aB) (_:Unit)=>[(92,.b p.1)]) [] (fun p _=>(zS p.2 s9 [.box 3 (yS p.2 s9)])) Q (eP [66,67] Q Q (cQ (p:=(true,x12)) [12,13,14,15,16,17,18,19,20,21,22,23] Q Q)<|eP [73,74,75] Q Q (cQ (p:=(true,x12)) [12,13,14,15,16,17,18,19,20,21,22,23] Q Q)<|c0 Q (fun h=>rO (h.o 17 Q)) fun x24=>eP [80,81,82] Q Q (cQ (p:=(true,x12)) [12,13,14,15,16,17,18,19,20,21,22,23] Q Q)<|nQ LJ 16 Q Q Q fun x25 h16 _ h17=>fun hF=>iS 4 h17 h16 Q Q Q Q Q<|sF Q<|jR LJ 24 [] h16 () Q Q Q Q Q Q Q<|kK (p:=(!x25.dJ,x12)) () [12,13,14,15,27,17,18,19,20,21,22,23] hF Q) fun⟨x13,x14⟩ _=>b8 [92] Q Q (dE Q Q)<|fun hF=>ltK D8 () ([(⟨7,0,0,0⟩:bK),(⟨6,0,0,0⟩:bK),(⟨5,0,0,0⟩:bK),(⟨7,0,0,0⟩:bK)]:List bK) bG Q Q Q Q Q Q Q Q Q Q (fun _=>Q) fun s10=>wi hF<|nQ dS 9 Q Q Q fun x15 h6 s11 h7=>fun hF=>iS 4 h7 h6 Q Q Q Q Q<|ceS dS 13 [12] [94] (⟨([(⟨7,0,0,0⟩:bK),(⟨6,0,0,0⟩:bK),(⟨5,0,0,0⟩:bK),(⟨7,0,0,0⟩:bK)]:List bK)⟩:Queue) s10 Q Q Q Q Q Q Q Q Q Q<|rh s9.2.2.2.2.2.2.2.2.2.1 List.length_set.symm [(103,10)] [(11,10)] Q Q Q<|wi hF<|c1 Q (fun h=>kU (s:=({x14 with aZ:=x14.aZ.set ((Int.tmod x2 3).toNat) (⟨([(⟨7,0,0,0⟩:bK),(⟨6,0,0,0⟩:bK),(⟨5,0,0,0⟩:bK),(⟨7,0,0,0⟩:bK)]:List bK)⟩:Queue)}:aB)) (h.o 0 Q) (h.o 1 Q) (h.o 2 Q) (h.o 3 Q) (h.o 4 Q) (h.o 5 Q) (h.o 6 Q) (h.o 7 Q) (h.o 8 Q) (h.o 17 Q) (h.o 10 Q)) fun x16 s12=>c1 Q (fun h=>D9 (h.o 18 Q) (h.o 19 Q) (h.o 20 Q) (h.o 21 Q) (h.o 22 Q) (h.o 23 Q) (h.o 24 Q) (h.o 25 Q) (h.o 26 Q) (h.o 27 Q) (h.o 28 Q)) fun x17 s13=>d5 0 5 jB [] 2 [] Q (nZ aO [11,15] Q<|eP [109,110] Q Q (nQ GP 29 Q Q Q fun x19 h8 _ h9=>fun hF=>iS 5 h9 h8 Q Q Q Q Q<|wi hF<|eP [117,118,119] Q Q (fun hF=>iS 5 h9 h8 Q Q Q Q Q<|wi hF<|eP [126,127,128] Q Q (fun hF=>U1 GP 30 [] h8 () Q Q Q Q Q Q Q Q Q<|wi hF<|nQ GP 33 Q Q Q fun x20 h10 _ h11=>fun hF=>iS 6 h11 h10 Q Q Q Q Q<|wi hF<|eP [135,136,137] Q Q (fun hF=>U1 GP 34 [] h10 () Q Q Q Q Q Q Q Q Q<|wi hF<|nQ GP 37 Q Q Q fun x21 h12 _ h13=>fun hF=>iS 7 h13 h12 Q Q Q Q Q<|wi hF<|eP [144,145,146] Q Q (fun hF=>U1 GP 38 [] h12 () Q Q Q Q Q Q Q Q Q<|wi hF<|nQ GP 41 Q Q Q fun x22 h14 _ h15=>fun hF=>iS 8 h15 h14 Q Q Q Q Q<|wi hF<|eP [153,154,155] Q Q (fun hF=>iS 8 h15 h14 Q Q Q Q Q<|bd hF fun x23 hA1 hF=>hC Q Q (have hq1:=rb hA1;wi hq1<|c0 Q (fun h=>g8 (h.a h1)) fun u1=>fun hq1=>match u1,hq1 with | _,rfl=>sF Q<|jR GP 42 [] h14 () Q Q Q Q Q Q Q<|kK (p:=(x22.dK == x23)) () [] hF Q) (have hq2:=rb hA1;wi hq2<|c0 Q (fun h=>g8 (h.a h1)) fun u2=>fun hq2=>match u2,hq2 with | _,rfl=>sF Q<|jR GP 42 [] h14 () Q Q Q Q Q Q Q<|kK (p:=(x22.dK == x23)) () [] hF Q))<|fun hF=>sF Q<|jR GP 42 [] h14 () Q Q Q Q Q Q Q<|kK (p:=(false)) () [] hF Q)<|fun hF=>sF Q<|jR GP 38 [] h12 () Q Q Q Q Q Q Q<|kK (p:=(false)) () [] hF Q)<|fun hF=>sF Q<|jR GP 34 [] h10 () Q Q Q Q Q Q Q<|kK (p:=(false)) () [] hF Q)<|fun hF=>sF Q<|jR GP 30 [] h8 () Q Q Q Q Q Q Q<|kK (p:=(false)) () [] hF Q)<|fun hF=>sF Q<|jR GP 30 [] h8 () Q Q Q Q Q Q Q<|kK (p:=(false)) () [] hF Q)<|cQ (p:=(false)) [] Q Q) fun x18=>dE Q Q
end
end Go.Proofs.YtmaknhppafajdaaGreat
end
noncomputable section
namespace Go.Gv
noncomputable section
variable (s:aB) (w:Int) (j:bD)
end
noncomputable section
variable {s:aB} (hs:mY s) {w:Int} (hw:0≤w∧w≤2) (h:Ep s.aA.aC (aK s))
include hs hw h
end
def tD(s:aB):Nat→List Int
  | 0=>[]
  | k+1=>if K3 s k then tD s k ++ [(k:Int)] else tD s k
theorem aQX(s:aB)(k:Nat):(tD s k).length≤k:=by
  induction k with
  | zero=>simp [tD]
  | succ k ih=>unfold tD;split <;> (try simp) <;> omega
theorem aYT{s:aB}(hs:mY s)(hl:s.Log.length≤1000000):QQ s=some (tD s 3)∧aHG s=some (tD s 3):=by
  have hsm:=CN hs hl
  have hjx:∀k:Nat,k < 3→idx s.aT (k:Int)=some (aK s k):=fun k hk=>uN hs (by omega)
  have hpx:∀k:Nat,k < 3→idx s.aA.aC.cK (k:Int)=some (bS s.aA.aC k):=fun k hk=>uM hs.1.1.2.1 (by omega)
  have hcond:∀k:Nat,K3 s k↔((bS s.aA.aC k).On=true∧(!(aK s k).cY)=true):=fun k=>by unfold K3;simp
  have hlen:=aQX s
  have ew:∀k:Nat,k < 3→aY ((k:Int)+1)=((k+1:Nat):Int):=fun k hk=>by rw [aN (by omega) (by omega)];rfl
  have hj3:=hs.2.2.1
  constructor
  · unfold QQ
    rw [YK hsm,bA hs,aG,if_neg (by simp)]
    have key:loop (AY s) ([],0)=some (tD s 3):=iQ (f:=AY s) 3 (fun k=>(tD s k,(k:Int))) _ (fun k hk=>by
      have hk3:=hlen k
      simp only [AY,GZ,GY]
      rw [if_pos (by simp;omega),hjx k hk,hpx k hk]
      simp only [aG,ew k hk]
      by_cases q:K3 s k
      · obtain⟨q1,q2⟩:=(hcond k).1 q
        rw [if_pos q1,if_pos q2,aQ (by simp;omega)]
        simp only [tD,if_pos q]
      · simp only [tD,if_neg q]
        rw [hcond] at q
        by_cases q1:(bS s.aA.aC k).On=true
        · rw [if_pos q1,if_neg (fun q2=>q ⟨q1,q2⟩)]
        · rw [if_neg q1];rfl) (by simp [AY,hj3])
    rw [key];rfl
  · unfold aHG
    rw [aLJ hsm,bA hs,aG]
    have key:loop (AZ s true) ([],0)=some (tD s 3):=iQ (f:=AZ s true) 3 (fun k=>(tD s k,(k:Int))) _ (fun k hk=>by
      have hk3:=hlen k
      simp only [AZ,G0,NY,NX]
      rw [if_pos (by simp;omega),if_pos trivial,hpx k hk]
      simp only [aG,ew k hk]
      by_cases q:K3 s k
      · obtain⟨q1,q2⟩:=(hcond k).1 q
        rw [if_pos q1,hjx k hk,aG,if_pos q2,aQ (by simp;omega)]
        simp only [tD,if_pos q]
      · simp only [tD,if_neg q]
        rw [hcond] at q
        by_cases q1:(bS s.aA.aC k).On=true
        · rw [if_pos q1,hjx k hk,aG,if_neg (fun q2=>q ⟨q1,q2⟩)]
        · rw [if_neg q1];rfl) (by simp [AZ,G0])
    rw [key];rfl
end Go.Gv
end
noncomputable section
set_option maxRecDepth 20000
namespace Go.Gv
theorem a1N(s:aB)(n:Nat):nS (U6 s n)=U6 (nS s) n:=by
  have e:(T1 n 3).map nq=T1 n 3:=by
    have:nq ⟨List.replicate n AW⟩=⟨List.replicate n AW⟩:=by
      unfold nq
      rw [List.map_replicate];rfl
    unfold T1
    rw [List.map_append,List.map_replicate,this,List.map_replicate];rfl
  unfold nS U6
  simp only [e]
theorem aJ3(s:aB):∀n,tD (nS s) n=tD s n
  | 0=>rfl
  | n + 1 => by
    have e:K3 (nS s) n↔K3 s n:=by
      unfold K3
      rw [aNV];exact Iff.rfl
    simp only [tD,aJ3 s n]
    by_cases h:K3 s n
    · rw [if_pos h,if_pos (e.2 h)]
    · rw [if_neg h,if_neg (fun q=>h (e.1 q))]
theorem aYU(s:aB)(w:Nat)(l:List bK):nS (AX s w l)=AX (nS s) w (l.map no):=by
  unfold nS AX
  simp only [List.map_set];rfl
end Go.Gv
end
noncomputable section
set_option maxRecDepth 20000
namespace Go.Gv
def stT(w o:Nat)(m v k u:Int):List Queue:=((List.replicate 3 ⟨[]⟩).set w ⟨[⟨5,0,0,0⟩]⟩).set o ⟨[⟨1,0,m,v⟩,⟨1,0,k,u⟩]⟩
def YY:List bK:=[⟨7,0,0,0⟩,⟨6,0,0,0⟩,⟨5,0,0,0⟩,⟨7,0,0,0⟩]
def stA(w o:Nat)(m v k u:Int):aB:=yK (dD (stT w o m v k u))
def stB(w o:Nat)(m v k u:Int):aB:=yK (U6 (stA w o m v k u) 8)
def stC(w o:Nat)(m v k u:Int):aB:=yK (AX (stB w o m v k u) w YY)
def a1O(s:aB)(w:Nat):Prop:=mZ s∧tD s 3=[(w:Int)]∧(bH s.aA.aM).length=1
def a1P(s:aB)(w:Nat):Prop:=(bH s.aA.aM).length=0∧(bS s.aA.aC w).dJ=true
def a1Q(s:aB)(u:Int):Prop:=(eF s.Log).length=31∧(((eF s.Log).getD 27 zEv).Code,((eF s.Log).getD 27 zEv).dK,((eF s.Log).getD 28 zEv).Code,((eF s.Log).getD 29 zEv).Code,((eF s.Log).getD 30 zEv).Code,((eF s.Log).getD 30 zEv).dK)=(6,0,0,0,0,ldx u)
def NZ(w o:Nat)(m v u:Int):Prop:=a1O (stA w o m v 16 u) w∧a1P (stB w o m v 16 u) w∧a1Q (stC w o m v 16 u) u
theorem a8I(v u:Int):NZ 0 1 8 v u:=⟨⟨of_decide_eq_true (by kernel_rfl),by kernel_rfl,by kernel_rfl⟩,⟨by kernel_rfl,by kernel_rfl⟩,by kernel_rfl,by kernel_rfl⟩
theorem a8J(v u:Int):NZ 0 1 16 v u:=⟨⟨of_decide_eq_true (by kernel_rfl),by kernel_rfl,by kernel_rfl⟩,⟨by kernel_rfl,by kernel_rfl⟩,by kernel_rfl,by kernel_rfl⟩
theorem a8K(v u:Int):NZ 0 1 40 v u:=⟨⟨of_decide_eq_true (by kernel_rfl),by kernel_rfl,by kernel_rfl⟩,⟨by kernel_rfl,by kernel_rfl⟩,by kernel_rfl,by kernel_rfl⟩
theorem a8L(v u:Int):NZ 1 2 8 v u:=⟨⟨of_decide_eq_true (by kernel_rfl),by kernel_rfl,by kernel_rfl⟩,⟨by kernel_rfl,by kernel_rfl⟩,by kernel_rfl,by kernel_rfl⟩
theorem a8M(v u:Int):NZ 1 2 16 v u:=⟨⟨of_decide_eq_true (by kernel_rfl),by kernel_rfl,by kernel_rfl⟩,⟨by kernel_rfl,by kernel_rfl⟩,by kernel_rfl,by kernel_rfl⟩
theorem a8N(v u:Int):NZ 1 2 40 v u:=⟨⟨of_decide_eq_true (by kernel_rfl),by kernel_rfl,by kernel_rfl⟩,⟨by kernel_rfl,by kernel_rfl⟩,by kernel_rfl,by kernel_rfl⟩
theorem a8O(v u:Int):NZ 2 0 8 v u:=⟨⟨of_decide_eq_true (by kernel_rfl),by kernel_rfl,by kernel_rfl⟩,⟨by kernel_rfl,by kernel_rfl⟩,by kernel_rfl,by kernel_rfl⟩
theorem a8P(v u:Int):NZ 2 0 16 v u:=⟨⟨of_decide_eq_true (by kernel_rfl),by kernel_rfl,by kernel_rfl⟩,⟨by kernel_rfl,by kernel_rfl⟩,by kernel_rfl,by kernel_rfl⟩
theorem a8Q(v u:Int):NZ 2 0 40 v u:=⟨⟨of_decide_eq_true (by kernel_rfl),by kernel_rfl,by kernel_rfl⟩,⟨by kernel_rfl,by kernel_rfl⟩,by kernel_rfl,by kernel_rfl⟩
theorem a4X{w o:Nat}(hw:w < 3)(ho:o=(w+1) % 3){m:Int}(hm:m=8∨m=16∨m=40)(v u:Int):NZ w o m v u:=by
  subst ho
  rcases(by omega:w=0∨w=1∨w=2) with rfl | rfl | rfl <;> rcases hm with rfl | rfl | rfl
  · exact a8I v u
  · exact a8J v u
  · exact a8K v u
  · exact a8L v u
  · exact a8M v u
  · exact a8N v u
  · exact a8O v u
  · exact a8P v u
  · exact a8Q v u
theorem a4Y{w o:Nat}{m v k u:Int}(hm:0≤m∧m≤100)(hv:0≤v∧v≤65535)(hk:0≤k∧k≤100)(hu:0≤u∧u≤65535):ES (stT w o m v k u):=by
  refine⟨by simp [stT],fun q hq=>?_⟩
  unfold stT at hq
  rcases List.mem_or_eq_of_mem_set hq with hq | hq
  · rcases List.mem_or_eq_of_mem_set hq with hq | hq
    · rw [List.eq_of_mem_replicate hq];exact⟨by simp,fun o ho=>by simp at ho⟩
    · rw [hq];exact⟨by simp,fun o ho=>by simp at ho;rw [ho];decide⟩
  · rw [hq]
    refine⟨by simp,fun o ho=>?_⟩
    simp only [List.mem_cons,List.not_mem_nil,or_false] at ho
    rcases ho with rfl | rfl
    · exact O9 hm hv
    · exact O9 hk hu
theorem a61(w o:Nat)(m v u:Int):nS (dD (stT w o m v 9 u))=dD (stT w o (rp m) v 16 u):=by
  unfold nS dD stT
  simp only [List.map_set,List.map_replicate,aLL]
  rfl
theorem a1R(x:Int):J9 [x] x=some true:=by
  unfold J9
  rw [bU (r:=Out.ret true)]
  · rfl
  · simp only [CI]
    rw [if_pos (by simp)]
    simp [idx]
theorem aOS{code:List UInt8}(_:fit code):QT code=some true:=by
  unfold QT vS
  rw [aG]
  by_cases hcl:1048576 < (code.length:Int)
  · rw [if_pos (by simpa using hcl)]
  rw [if_neg (by simpa using hcl)]
  obtain⟨a0,e0,h0⟩:=RM (code:=code) (by omega) (i:=0) (by omega)
  obtain⟨a1,e1,h1⟩:=RM (code:=code) (by omega) (i:=1) (by omega)
  obtain⟨a2,e2,h2⟩:=RM (code:=code) (by omega) (i:=2) (by omega)
  obtain⟨a3,e3,h3⟩:=RM (code:=code) (by omega) (i:=3) (by omega)
  have hw:=aJW h0
  obtain⟨w,ew⟩:=Int.eq_ofNat_of_zero_le hw.1
  have hw3:w < 3:=by omega
  have t1:Int.tmod a1 40=a1 % 40:=jX h1.1
  have hn:1≤1+a1 % 40∧1+a1 % 40≤40:=by omega
  have eo:Int.tmod (aY (Int.tmod a0 3+1)) 3=(((w+1) % 3:Nat):Int):=by
    rw [ew,aN (by omega) (by omega),jX (by omega)];omega
  have hidx:idx (List.replicate ((3:Int).toNat) (⟨[]⟩:Queue)) (Int.tmod a0 3)=some ⟨[]⟩:=by
    rw [ew,aV (by simpa using hw3),List.getElem_replicate]
  have hidx2:∃q,idx ((List.replicate ((3:Int).toNat) (⟨[]⟩:Queue)).set ((Int.tmod a0 3).toNat) (⟨[(⟨5,0,0,0⟩:bK)]⟩:Queue)) (Int.tmod (aY (Int.tmod a0 3+1)) 3)=some q:=by
    rw [eo]
    exact⟨_,aV (by simp;omega)⟩
  obtain⟨q2,hq2⟩:=hidx2
  rw [e0,aG,aQ (by omega),hidx,aG,e1,aG,e2,aG,e3,aG,hq2,aG,t1,aN (x:=1+a1 % 40) (by omega) (by omega)]
  generalize 1+a1 % 40=n at *
  have hok:ES (stT w ((w+1) % 3) n a2 9 a3):=a4Y (by omega) (by omega) (by omega) (by omega)
  have eT:((List.replicate ((3:Int).toNat) (⟨[]⟩:Queue)).set ((Int.tmod a0 3).toNat) (⟨[(⟨5,0,0,0⟩:bK)]⟩:Queue)).set ((Int.tmod (aY (Int.tmod a0 3+1)) 3).toNat) (⟨([(⟨1,0,n,a2⟩:bK),(⟨1,0,9,a3⟩:bK)]:List bK)⟩:Queue)=stT w ((w+1) % 3) n a2 9 a3:=by rw [eo,ew];rfl
  obtain⟨⟨g1,g2,g3⟩,⟨g4,g5⟩,g6,g7⟩:=a4X hw3 rfl (aNW hn) a2 a3
  obtain⟨f1,f2,f3⟩:=MK (UW hok) (by simp [dD])
  have n1:nS (yK (dD (stT w ((w+1) % 3) n a2 9 a3)))=stA w ((w+1) % 3) (rp n) a2 16 a3:=by rw [←aDK,a61];rfl
  rw [show(dD (stT w ((w+1) % 3) n a2 9 a3)).Log.length=0 from rfl] at f3
  rw [eT,(CM (t:=stT w ((w+1) % 3) n a2 9 a3) (by have:=hok.1;omega) (fun q hq=>by have:=(hok.2 q hq).1;omega)).2,aG,if_pos hok,f1,aG]
  generalize yK (dD (stT w ((w+1) % 3) n a2 9 a3))=s at *
  unfold stB at g4 g5
  unfold stC stB at g6 g7
  rw [←n1] at g1 g2 g3 g4 g5 g6 g7
  rw [aLM] at g1
  rw [aJ3] at g2
  have hstuck:=(aYT f2 (by omega)).1
  have hj3:(((s.aT.length:Int)) != 3)=false:=by rw [f2.2.2.1];rfl
  rw [hj3,if_neg (by simp),hstuck,aG,g2,ew,a1R,aG,if_neg (by simp),QH f2.1.1.2.2.1,aG]
  have g3':(bH s.aA.aM).length=1:=g3
  rw [g3']
  simp only [uA]
  rw [if_neg (by simp)]
  obtain⟨d1,d2,d3⟩:=drain_eq f2 (by omega) g1 (n:=8) (by omega)
  rw [show((8:Nat):Int)=8 from rfl] at d1
  rw [←a1N,aDK] at g4 g5 g6 g7
  rw [d1,aG]
  generalize yK (U6 s 8)=d at *
  have ht3:(((d.aZ.length:Int)) != 3)=false:=by rw [d2.2.2.2.1.1];rfl
  have hp3:(((d.aA.aC.cK.length:Int)) != 3)=false:=by rw [d2.1.1.2.1.2.1];rfl
  have g4':(bH d.aA.aM).length=0:=g4
  have g5':(bS d.aA.aC w).dJ=true:=g5
  have hwr:0≤(w:Int)∧(w:Int)≤2:=by omega
  rw [ht3,if_neg (by simp),hp3,if_neg (by simp),QH d2.1.1.2.2.1,aG,g4',if_neg (by simp),ew,uM d2.1.1.2.1 hwr,aG,g5']
  simp only [oW,dT,aP,if_false,ew]
  have hops:∀o∈YY,jY o:=by unfold YY;decide
  have he:=aGE d2 w (l:=YY) (by decide) hops
  have hel:(AX d w YY).Log.length≤6000:=by show d.Log.length≤6000;omega
  obtain⟨k1,k2,k3⟩:=MK he (by omega)
  have eg:AX (nS d) w YY=nS (AX d w YY):=by rw [aYU];rfl
  rw [eg,aDK] at g6 g7
  have eT2:({d with aZ:=d.aZ.set (((w:Nat):Int).toNat) (⟨([(⟨7,0,0,0⟩:bK),(⟨6,0,0,0⟩:bK),(⟨5,0,0,0⟩:bK),(⟨7,0,0,0⟩:bK)]:List bK)⟩:Queue)}:aB)=AX d w YY:=rfl
  rw [aDM d2 hwr,aG,eT2,k1,aG,T3 (by omega),aG]
  generalize yK (AX d w YY)=e at *
  have g6':(eF e.Log).length=31:=g6
  have g7':(((eF e.Log).getD 27 zEv).Code,((eF e.Log).getD 27 zEv).dK,((eF e.Log).getD 28 zEv).Code,((eF e.Log).getD 29 zEv).Code,((eF e.Log).getD 30 zEv).Code,((eF e.Log).getD 30 zEv).dK)=(6,0,0,0,0,ldx a3):=g7
  generalize eF e.Log=L at *
  simp only [Prod.mk.injEq] at g7'
  obtain⟨c1,c2,c3,c4,c5,c6⟩:=g7'
  have hx:∀k:Nat,k < 31→idx L (k:Int)=some (L.getD k zEv):=fun k hk=>by rw [aV (by omega),List.getD_eq_getElem?_getD,List.getElem?_eq_getElem (by omega)];rfl
  have x27:=hx 27 (by omega);have x28:=hx 28 (by omega);have x29:=hx 29 (by omega);have x30:=hx 30 (by omega)
  have w4:aY (((31:Nat):Int) - 4)=((27:Nat):Int):=by decide
  have w3:aY (((31:Nat):Int) - 3)=((28:Nat):Int):=by decide
  have w2:aY (((31:Nat):Int) - 2)=((29:Nat):Int):=by decide
  have w1:aY (((31:Nat):Int) - 1)=((30:Nat):Int):=by decide
  rw [g6',if_pos (by decide),w4,w3,w2,w1,x27,aG,c1,c2,x28,aG,c3,x29,aG,c4,x30,aG,c5,c6,e3,aG,aP9 (by omega)]
  simp [jB]
end Go.Gv
end
