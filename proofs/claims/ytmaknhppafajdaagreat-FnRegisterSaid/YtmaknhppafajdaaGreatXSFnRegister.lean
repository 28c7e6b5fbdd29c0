import Derived.Test.YtmaknhppafajdaaGreatXLF
set_option linter.unusedVariables false
set_option linter.unusedSimpArgs false
set_option linter.unusedSectionVars false
set_option linter.constructorNameAsVariable false
set_option linter.unnecessarySimpa false
noncomputable section
namespace Go.Gv
noncomputable section
variable {P:Program} {o:Oper} {e:Env} {w w':World} {c:Ctx} {L:List Chunk} {R:List Fact} {x:Operand} {v:Value} {k:IntKind} {i:Int} {t:TypeId}
end
def a08(P:Program)(ops:Array Oper)(Q:Exit→Act→World→Prop)(S:World→Prop)(fuel:Nat)(nY:Array Bool)(n:Nat)(e:Env)(w:World):Prop:=∀a,lS n e a→wpAnyH P .any ops Q S fuel nY a w
abbrev aYJ(c:Ctx)(L:List Chunk)(R:List Fact):World→Prop:=fun w=>∃L',St c w (L++L') R
noncomputable section
variable {P:Program} {ops:Array Oper} {N:Act→World→Prop} {X:Nat→Act→World→Prop} {T:Act→World→Prop} {S:World→Prop} {fuel n d i:Nat} {nY:Array Bool} {e:Env} {w w':World} {o:Oper} {v:Value}
theorem a6V(i:Nat)(hs:Region.noSelect ops=true)(hi:ops[i]?=some o)(hf:Region.free .any ops nY i=true)(hr:(Region.ready .any ops nY).contains i=true)(hS:S w)(hv:∀w',S w'→eI P o e w' v w')(hw:Want ops o e true)(hd:o.dst=some d)(hn:Nat.blt d n=true)
    (k:a08 P ops (mkQ N X T) S fuel (nY.setIfInBounds i true) n ((d,v) :: e) w):a08 P ops (mkQ N X T) S (fuel+1) nY n e w:=fun a hA=>by
  refine wpAnyH_take (v:=v) hi hs hf hr (fun _ _ _ h=>h.elim) (.inl ⟨hw n a hA,fun w' hS'=>hv w' hS' n a hA⟩) hS ?_
  rw [hd]
  exact k _ (hA.put (by simpa [Nat.blt_eq] using hn) v)
end
end Go.Gv
end
noncomputable section
namespace Go.Gv
noncomputable section
variable {P:Program} {op:Op} {ty:TypeId} {ps:String} {af:Array Edge} {ops:Array Oper} {rest:List Oper} {Q:Exit→Act→World→Prop} {n d:Nat} {e:Env} {v:Value} {w w':World} {c:Ctx} {L:List Chunk} {R:List Fact}
theorem ey{N:Act→World→Prop}{X:Nat→Act→World→Prop}{T:Act→World→Prop}{fuel:Nat}{nY:Array Bool}(i:Nat)(hi:ops[i]?=some ⟨some d,op,ty,ps,af,none⟩)
    (hc:(Region.noSelect ops && (Region.free .any ops nY i && (Region.ready .any ops nY).contains i))=true) (hK:aYJ c L R w) (hv:∀(L':List Chunk) (w':World),St c w' (L++L') R→eI P ⟨some d,op,ty,ps,af,none⟩ e w' v w') (hn:Nat.blt d n=true)
    (k:a08 P ops (mkQ N X T) (aYJ c L R) fuel (nY.setIfInBounds i true) n ((d,v) :: e) w):a08 P ops (mkQ N X T) (aYJ c L R) (fuel+1) nY n e w:=by
  rw [Bool.and_eq_true,Bool.and_eq_true] at hc
  exact a6V i hc.1 hi hc.2.1 hc.2.2 hK (fun w' ⟨L',h⟩=>hv L' w' h) (cA rfl) rfl hn k
end
end Go.Gv
end
noncomputable section
namespace Go.Gv
noncomputable section
def sZ(x18:Bool):Option Bool:=
  some x18
def K9(x10:(List Ev))(x17:Int):Option Bool:=
  (if (x10.length:Int) == 18 then sZ (x17 == 6) else sZ false)
def nL(x16 x19 x20:Int):Option (Step (Int×Int×Int) (Out Int Bool)):=
  some (.next (x19,x20,aY (x16+1)))
def kM(x10:(List Ev))(x16 x21:Int)(x24:Bool):Option (Step (Int×Int×Int) (Out Int Bool)):=
  (if x24 then some (.stop (Out.ret false)) else (idx x10 x16).bind fun x25=>nL x16 x25.dK x21)
def tA(x10:(List Ev))(x14 x16 x21:Int)(x23:Bool):Option (Step (Int×Int×Int) (Out Int Bool)):=
  (if x23 then nL x16 x14 x21 else (idx x10 x16).bind fun x26=>(if x26.Code != 0 then kM x10 x16 x21 true else (if decide (x26.dK < 100) then kM x10 x16 x21 true else (if decide (105 < x26.dK) then kM x10 x16 x21 true else kM x10 x16 x21 (decide (x26.dK < x14))))))
def tB(x10:(List Ev))(x14 x16 x21:Int)(x22:Bool):Option (Step (Int×Int×Int) (Out Int Bool)):=
  (if x22 then nL x16 x14 x21 else (idx x10 x16).bind fun x27=>(if x27.Code == 8 then tA x10 x14 x16 x21 (x14 == 0) else tA x10 x14 x16 x21 false))
def tC(x10:(List Ev))(x14 x16 x21:Int):Option (Step (Int×Int×Int) (Out Int Bool)):=
  (idx x10 x16).bind fun x28=>(if x28.LI != 1 then tB x10 x14 x16 x21 true else tB x10 x14 x16 x21 (x28.Code == 6))
def nM(x10:(List Ev)):(Int×Int×Int)→Option (Step (Int×Int×Int) (Out Int Bool))
  | (x14,x15,x16)=>(if decide (x16 < (x10.length:Int)) then (idx x10 x16).bind fun x29=>(if x29.LI == 1 then tC x10 x14 x16 (aY (x15+1)) else tC x10 x14 x16 x15) else some (.stop (Out.brk x15)))
def LA(x10:(List Ev)):(Out Int Bool)→Option Bool
  | .brk x17=>K9 x10 x17
  | .ret r=>some r
def LB(x2:List Int)(x7:List Queue):Option Bool:=
  (lD (⟨x7,x2⟩:zD)).bind fun x8=>(iP x8).bind fun x9=>(vT x9).bind fun x10=>(loop (nM x10) (0,0,0)).bind (LA x10)
def zI(x5:Int)(x32:List Queue):Option (Step (Int×(List Queue)) (List Queue)):=
  some (.next (aY (x5+1),x32))
def zJ(x5:Int)(x31:List Queue):Option (Step (Int×(List Queue)) (List Queue)):=
  (idx x31 2).bind fun x33=>need (x33.fM.length+([(⟨4,0,0,0⟩:bK)]).length≤1073741824)<|zI x5 (x31.set ((2:Int).toNat) (⟨x33.fM++([(⟨4,0,0,0⟩:bK)])⟩:Queue))
def zK(code:List UInt8)(x5:Int)(x30:List Queue):Option (Step (Int×(List Queue)) (List Queue)):=
  (idx x30 1).bind fun x34=>(nN code (aY (x5+6))).bind fun x35=>(idx ([2,3]:List Int) (Int.tmod x35 2)).bind fun x36=>need (x34.fM.length+([(⟨x36,0,0,0⟩:bK)]).length≤1073741824)<|zJ x5 (x30.set ((1:Int).toNat) (⟨x34.fM++([(⟨x36,0,0,0⟩:bK)])⟩:Queue))
def B8(code:List UInt8):(Int×(List Queue))→Option (Step (Int×(List Queue)) (List Queue))
  | (x5,x6)=>(if decide (x5 < 6) then (idx x6 0).bind fun x37=>(nN code x5).bind fun x38=>need (x37.fM.length+([(⟨1,0,aY (1+(Int.tmod x38 40)),aY (100+x5)⟩:bK)]).length≤1073741824)<|zK code x5 (x6.set ((0:Int).toNat) (⟨x37.fM++([(⟨1,0,aY (1+(Int.tmod x38 40)),aY (100+x5)⟩:bK)])⟩:Queue)) else some (.stop (x6)))
def LC(x2:List Int):(List Queue)→Option Bool
  | x7=>LB x2 x7
def B9(code:List UInt8)(x2:List Int):Option Bool:=
  (loop (B8 code) (0,List.replicate ((3:Int).toNat) (⟨[]⟩:Queue))).bind (LC x2)
def H8(code:List UInt8):Option Bool:=
  (vS code).bind fun x1=>(if x1 then some true else (jE code).bind fun x39=>need (0≤(3:Int)∧(3:Int)≤4294967296)<|B9 code x39.jL)
end
end Go.Gv
end
noncomputable section
set_option maxHeartbeats 4000000
set_option maxRecDepth 100000
namespace Go.Proofs.YtmaknhppafajdaaGreat
open Go.Gv
noncomputable section
variable {κ:Ctx}
theorem YV{code:List UInt8}{s1:AC}(h1:bL κ s1 code):V0 Tryz.prog κ 9 (H8 code) [.h s1 code.length] .b:=
 dW tok Tryz.call9 Tryz.func9 Tryz.results9 Q Q<|c0 Q (fun h=>KM (h.a h1)) fun x1=>b8 [12] Q Q (dE Q Q)<|iT 0 1 (B9 code) [0] (fun(x2:(List Int)) (u:AC×AC)=>[(3,.p 0 0)]) [] (fun x2 u=>[ow u.1 (List.replicate ((3:Int).toNat) (⟨[]⟩:Queue):List Queue),ow u.2 (x2:List Int),.box 0 [.h u.1 (List.replicate ((3:Int).toNat) (⟨[]⟩:Queue)).length,.h u.2 x2.length]]) Q (nZ aO [] Q<|fun hF=>bd hF fun x39 hA7 hF=>nd hF fun hA8 hF=>aPJ Q Q (have hq16:=rb hA7;wi hq16<|c1 Q (fun h=>jN (h.a h1)) fun u7 s37=>fun hq16=>match u7,hq16 with | _,rfl=>aPJ Q Q (wi hF<|SG Tryz.underlying82 Q Q Q Q Q Q Q<|fun hF=>hC Q Q (have hq17:=rn hA8;xI ((⟨[]⟩:Queue):Queue) fI (fun _=>(kE (qS (⟨[]⟩:Queue)) (yV LG))) Q Q Q Q Q Q Q hq17 fun hq17 s38=>wi hF<|pR (p:=(x39.jL)) (s38,s37.2) [2,1,3] Q Q) (have hq18:=rn hA8;xI ((⟨[]⟩:Queue):Queue) fI (fun _=>(kE (qS (⟨[]⟩:Queue)) (yV LG))) Q Q Q Q Q Q Q hq18 fun hq18 s39=>wi hF<|pR (p:=(x39.jL)) (s39,s37.2) [3,1,2] Q Q)) (have hq19:=rn hA8;xI ((⟨[]⟩:Queue):Queue) fI (fun _=>(kE (qS (⟨[]⟩:Queue)) (yV LG))) Q Q Q Q Q Q Q hq19 fun hq19 s40=>hC Q Q (wi hF<|SG Tryz.underlying82 Q Q Q Q Q Q Q<|pR (p:=(x39.jL)) (s40,s37.2) [2,1,3] Q Q) (wi hF<|SG Tryz.underlying82 Q Q Q Q Q Q Q<|pR (p:=(x39.jL)) (s40,s37.2) [2,1,3] Q Q)) (hC Q Q (wi hF<|SG Tryz.underlying82 Q Q Q Q Q Q Q<|fun hF=>have hq20:=rn hA8;xI ((⟨[]⟩:Queue):Queue) fI (fun _=>(kE (qS (⟨[]⟩:Queue)) (yV LG))) Q Q Q Q Q Q Q hq20 fun hq20 s41=>wi hF<|pR (p:=(x39.jL)) (s41,s37.2) [3,1,2] Q Q) (have hq21:=rn hA8;xI ((⟨[]⟩:Queue):Queue) fI (fun _=>(kE (qS (⟨[]⟩:Queue)) (yV LG))) Q Q Q Q Q Q Q hq21 fun hq21 s42=>wi hF<|SG Tryz.underlying82 Q Q Q Q Q Q Q<|pR (p:=(x39.jL)) (s42,s37.2) [3,1,2] Q Q))) (have hq22:=rn hA8;xI ((⟨[]⟩:Queue):Queue) fI (fun _=>(kE (qS (⟨[]⟩:Queue)) (yV LG))) Q Q Q Q Q Q Q hq22 fun hq22 s43=>hC Q Q (have hq23:=rb hA7;wi hq23<|c1 Q (fun h=>jN (h.a h1)) fun u8 s44=>fun hq23=>match u8,hq23 with | _,rfl=>hC Q Q (wi hF<|SG Tryz.underlying82 Q Q Q Q Q Q Q<|pR (p:=(x39.jL)) (s43,s44.2) [0,2,3] Q Q) (wi hF<|SG Tryz.underlying82 Q Q Q Q Q Q Q<|pR (p:=(x39.jL)) (s43,s44.2) [0,2,3] Q Q)) (have hq24:=rb hA7;wi hq24<|c1 Q (fun h=>jN (h.a h1)) fun u9 s45=>fun hq24=>match u9,hq24 with | _,rfl=>wi hF<|SG Tryz.underlying82 Q Q Q Q Q Q Q<|pR (p:=(x39.jL)) (s43,s45.2) [0,3,1] Q Q)) (hC Q Q (have hq25:=rb hA7;wi hq25<|c1 Q (fun h=>jN (h.a h1)) fun u10 s46=>fun hq25=>match u10,hq25 with | _,rfl=>hC Q Q (wi hF<|SG Tryz.underlying82 Q Q Q Q Q Q Q<|fun hF=>have hq26:=rn hA8;xI ((⟨[]⟩:Queue):Queue) fI (fun _=>(kE (qS (⟨[]⟩:Queue)) (yV LG))) Q Q Q Q Q Q Q hq26 fun hq26 s47=>wi hF<|pR (p:=(x39.jL)) (s47,s46.2) [3,2,0] Q Q) (have hq27:=rn hA8;xI ((⟨[]⟩:Queue):Queue) fI (fun _=>(kE (qS (⟨[]⟩:Queue)) (yV LG))) Q Q Q Q Q Q Q hq27 fun hq27 s48=>wi hF<|SG Tryz.underlying82 Q Q Q Q Q Q Q<|pR (p:=(x39.jL)) (s48,s46.2) [3,2,0] Q Q)) (have hq28:=rn hA8;xI ((⟨[]⟩:Queue):Queue) fI (fun _=>(kE (qS (⟨[]⟩:Queue)) (yV LG))) Q Q Q Q Q Q Q hq28 fun hq28 s49=>have hq29:=rb hA7;wi hq29<|c1 Q (fun h=>jN (h.a h1)) fun u11 s50=>fun hq29=>match u11,hq29 with | _,rfl=>wi hF<|SG Tryz.underlying82 Q Q Q Q Q Q Q<|pR (p:=(x39.jL)) (s49,s50.2) [1,3,0] Q Q))) fun x2 ⟨s2,s3⟩=>fun hF=>ltK oI () ([2,3]:List Int) aW Q Q Q Q Q Q Q Q Q Q (fun _=>Q) fun s4=>wi hF<|QX () [0,3,4] (fun(p:Int×(List Queue)) (_:Unit)=>[(5,I p.1)]) [0,2,3,1] [3,1] (fun p _=>[ow s2 (p.2:List Queue),.box 0 [.h s2 p.2.length,.h s3 x2.length]]) id [3] (fun(x7:(List Queue)) (_:Unit)=>[]) [1] (fun x7 _=>[ow s2 (x7:List Queue),.box 0 [.h s2 x7.length,.h s3 x2.length]]) Q Q (fun hF2 ⟨x5,x6⟩ _ hr2=>b8 [20] Q Q (iT 0 1 (zK code x5) [0,3,4,5] (fun(x30:(List Queue)) (_:Unit)=>[]) [2,3] (fun x30 _=>[ow s2 (x30:List Queue),.box 0 [.h s2 x30.length,.h s3 x2.length]]) Q (nZ aO [1] Q<|nQ dS 0 Q Q Q fun x37 h22 s26 h23=>fun hG2=>iS 1 h23 h22 Q Q Q Q Q<|bd hG2 fun x38 hA5 hG2=>nd hG2 fun hA6 hG2=>hC Q Q (have hq11:=rb hA5;wi hq11<|c0 Q (fun h=>g8 (h.a h1)) fun u5=>fun hq11=>match u5,hq11 with | _,rfl=>RY D8 [] ((⟨1,0,aY (1+(Int.tmod x38 40)),aY (100+x5)⟩:bK)) () bG Q Q Q Q Q Q Q Q Q Q Q Q Q fun s29=>have hq12:=rn hA6;ap 7 bG Q Q Q Q Q Q Q (fun h=>(h.o 8 Q)) Q Q hq12 fun hq12 s30=>iS 1 h23 h22 Q Q Q Q Q<|sF Q<|pY dS 4 [7] [24,26] (⟨x37.fM++([(⟨1,0,aY (1+(Int.tmod x38 40)),aY (100+x5)⟩:bK)])⟩:Queue) s30 Q Q Q Q Q Q Q Q<|vA s2 List.length_set.symm [] [(1,0)] Q Q Q<|fR Q Q<|kK (p:=(x6.set ((0:Int).toNat) (⟨x37.fM++([(⟨1,0,aY (1+(Int.tmod x38 40)),aY (100+x5)⟩:bK)])⟩:Queue))) () [9,1,2,3] hG2 Q) (have hq13:=rb hA5;wi hq13<|c0 Q (fun h=>g8 (h.a h1)) fun u6=>fun hq13=>match u6,hq13 with | _,rfl=>hC Q Q (RY D8 [] ((⟨1,0,aY (1+(Int.tmod x38 40)),aY (100+x5)⟩:bK)) () bG Q Q Q Q Q Q Q Q Q Q Q Q Q fun s31=>have hq14:=rn hA6;ap 7 bG Q Q Q Q Q Q Q (fun h=>(h.o 8 Q)) Q Q hq14 fun hq14 s32=>iS 1 h23 h22 Q Q Q Q Q<|sF Q<|pY dS 4 [7] [24,26] (⟨x37.fM++([(⟨1,0,aY (1+(Int.tmod x38 40)),aY (100+x5)⟩:bK)])⟩:Queue) s32 Q Q Q Q Q Q Q Q<|vA s2 List.length_set.symm [] [(1,0)] Q Q Q<|fR Q Q<|kK (p:=(x6.set ((0:Int).toNat) (⟨x37.fM++([(⟨1,0,aY (1+(Int.tmod x38 40)),aY (100+x5)⟩:bK)])⟩:Queue))) () [9,1,2,3] hG2 Q) (RY D8 [] ((⟨1,0,aY (1+(Int.tmod x38 40)),aY (100+x5)⟩:bK)) () bG Q Q Q Q Q Q Q Q Q Q Q Q Q fun s33=>have hq15:=rn hA6;ap 7 bG Q Q Q Q Q Q Q (fun h=>(h.o 8 Q)) Q Q hq15 fun hq15 s34=>iS 1 h23 h22 Q Q Q Q Q<|sF Q<|pY dS 4 [7] [24,26] (⟨x37.fM++([(⟨1,0,aY (1+(Int.tmod x38 40)),aY (100+x5)⟩:bK)])⟩:Queue) s34 Q Q Q Q Q Q Q Q<|vA s2 List.length_set.symm [] [(1,0)] Q Q Q<|fR Q Q<|kK (p:=(x6.set ((0:Int).toNat) (⟨x37.fM++([(⟨1,0,aY (1+(Int.tmod x38 40)),aY (100+x5)⟩:bK)])⟩:Queue))) () [9,1,2,3] hG2 Q))) fun x30 _=>iT 0 1 (zJ x5) [0,3,4,5] (fun(x31:(List Queue)) (_:Unit)=>[]) [2,3] (fun x31 _=>[ow s2 (x31:List Queue),.box 0 [.h s2 x31.length,.h s3 x2.length]]) Q (nZ aO [1] Q<|nQ dS 0 Q Q Q fun x34 h14 s15 h15=>fun hG2=>iS 1 h15 h14 Q Q Q Q Q<|bd hG2 fun x35 hA2 hG2=>bd hG2 fun x36 hA3 hG2=>nd hG2 fun hA4 hG2=>hC Q Q (have hq3:=rb hA2;wi hq3<|c0 Q (fun h=>g8 (h.a h1)) fun u1=>fun hq3=>match u1,hq3 with | _,rfl=>have hq4:=rb hA3;wi hq4<|nQ oI 2 Q Q Q fun u2 h18 _ h19=>fun hq4=>iS 2 h19 h18 Q Q Q Q Q<|match u2,hq4 with | _,rfl=>RY D8 [] ((⟨x36,0,0,0⟩:bK)) () bG Q Q Q Q Q Q Q Q Q Q Q Q Q fun s18=>have hq5:=rn hA4;ap 7 bG Q Q Q Q Q Q Q (fun h=>(h.o 11 Q)) Q Q hq5 fun hq5 s19=>iS 1 h15 h14 Q Q Q Q Q<|sF Q<|jR oI 8 [] h18 () Q Q Q Q Q Q Q<|pY dS 4 [7] [43,45] (⟨x34.fM++([(⟨x36,0,0,0⟩:bK)])⟩:Queue) s19 Q Q Q Q Q Q Q Q<|vA s2 List.length_set.symm [] [(1,0)] Q Q Q<|fR Q Q<|kK (p:=(x30.set ((1:Int).toNat) (⟨x34.fM++([(⟨x36,0,0,0⟩:bK)])⟩:Queue))) () [13,1,12,3] hG2 Q) (have hq6:=rb hA2;wi hq6<|c0 Q (fun h=>g8 (h.a h1)) fun u3=>fun hq6=>match u3,hq6 with | _,rfl=>have hq7:=rb hA3;wi hq7<|nQ oI 2 Q Q Q fun u4 h20 _ h21=>fun hq7=>iS 2 h21 h20 Q Q Q Q Q<|match u4,hq7 with | _,rfl=>hC Q Q (RY D8 [] ((⟨x36,0,0,0⟩:bK)) () bG Q Q Q Q Q Q Q Q Q Q Q Q Q fun s20=>have hq8:=rn hA4;ap 7 bG Q Q Q Q Q Q Q (fun h=>(h.o 11 Q)) Q Q hq8 fun hq8 s21=>iS 1 h15 h14 Q Q Q Q Q<|sF Q<|jR oI 8 [] h20 () Q Q Q Q Q Q Q<|pY dS 4 [7] [43,45] (⟨x34.fM++([(⟨x36,0,0,0⟩:bK)])⟩:Queue) s21 Q Q Q Q Q Q Q Q<|vA s2 List.length_set.symm [] [(1,0)] Q Q Q<|fR Q Q<|kK (p:=(x30.set ((1:Int).toNat) (⟨x34.fM++([(⟨x36,0,0,0⟩:bK)])⟩:Queue))) () [13,1,12,3] hG2 Q) (hC Q Q (RY D8 [] ((⟨x36,0,0,0⟩:bK)) () bG Q Q Q Q Q Q Q Q Q Q Q Q Q fun s22=>have hq9:=rn hA4;ap 7 bG Q Q Q Q Q Q Q (fun h=>(h.o 11 Q)) Q Q hq9 fun hq9 s23=>iS 1 h15 h14 Q Q Q Q Q<|sF Q<|jR oI 8 [] h20 () Q Q Q Q Q Q Q<|pY dS 4 [7] [43,45] (⟨x34.fM++([(⟨x36,0,0,0⟩:bK)])⟩:Queue) s23 Q Q Q Q Q Q Q Q<|vA s2 List.length_set.symm [] [(1,0)] Q Q Q<|fR Q Q<|kK (p:=(x30.set ((1:Int).toNat) (⟨x34.fM++([(⟨x36,0,0,0⟩:bK)])⟩:Queue))) () [13,1,12,3] hG2 Q) (RY D8 [] ((⟨x36,0,0,0⟩:bK)) () bG Q Q Q Q Q Q Q Q Q Q Q Q Q fun s24=>have hq10:=rn hA4;ap 7 bG Q Q Q Q Q Q Q (fun h=>(h.o 11 Q)) Q Q hq10 fun hq10 s25=>iS 1 h15 h14 Q Q Q Q Q<|sF Q<|jR oI 8 [] h20 () Q Q Q Q Q Q Q<|pY dS 4 [7] [43,45] (⟨x34.fM++([(⟨x36,0,0,0⟩:bK)])⟩:Queue) s25 Q Q Q Q Q Q Q Q<|vA s2 List.length_set.symm [] [(1,0)] Q Q Q<|fR Q Q<|kK (p:=(x30.set ((1:Int).toNat) (⟨x34.fM++([(⟨x36,0,0,0⟩:bK)])⟩:Queue))) () [13,1,12,3] hG2 Q)))) fun x31 _=>iT 0 1 (zI x5) [0,3,4,5] (fun(x32:(List Queue)) (_:Unit)=>[]) [2,3] (fun x32 _=>[ow s2 (x32:List Queue),.box 0 [.h s2 x32.length,.h s3 x2.length]]) Q (nZ aO [1] Q<|nQ dS 0 Q Q Q fun x33 h12 s8 h13=>fun hG2=>iS 1 h13 h12 Q Q Q Q Q<|nd hG2 fun hA1 hG2=>hC Q Q (RY D8 [] ((⟨4,0,0,0⟩:bK)) () bG Q Q Q Q Q Q Q Q Q Q Q Q Q fun s11=>have hq1:=rn hA1;ap 7 bG Q Q Q Q Q Q Q (fun h=>(h.o 8 Q)) Q Q hq1 fun hq1 s12=>iS 1 h13 h12 Q Q Q Q Q<|sF Q<|pY dS 4 [7] [63,65] (⟨x33.fM++([(⟨4,0,0,0⟩:bK)])⟩:Queue) s12 Q Q Q Q Q Q Q Q<|vA s2 List.length_set.symm [] [(1,0)] Q Q Q<|fR Q Q<|kK (p:=(x31.set ((2:Int).toNat) (⟨x33.fM++([(⟨4,0,0,0⟩:bK)])⟩:Queue))) () [9,1,2,3] hG2 Q) (RY D8 [] ((⟨4,0,0,0⟩:bK)) () bG Q Q Q Q Q Q Q Q Q Q Q Q Q fun s13=>have hq2:=rn hA1;ap 7 bG Q Q Q Q Q Q Q (fun h=>(h.o 8 Q)) Q Q hq2 fun hq2 s14=>iS 1 h13 h12 Q Q Q Q Q<|sF Q<|pY dS 4 [7] [63,65] (⟨x33.fM++([(⟨4,0,0,0⟩:bK)])⟩:Queue) s14 Q Q Q Q Q Q Q Q<|vA s2 List.length_set.symm [] [(1,0)] Q Q Q<|fR Q Q<|kK (p:=(x31.set ((2:Int).toNat) (⟨x33.fM++([(⟨4,0,0,0⟩:bK)])⟩:Queue))) () [9,1,2,3] hG2 Q)) fun x32 _=>J4 [0,1,2,3] Q)<|FW [0,1,3] Q) fun x7 _=>c1 Q (fun h=>FM (x:=(⟨x7,x2⟩:zD)) (h.o 0 Q) (h.o 2 Q)) fun x8 s5=>c1 Q (fun h=>kU (h.o 3 Q) (h.o 4 Q) (h.o 5 Q) (h.o 6 Q) (h.o 7 Q) (h.o 8 Q) (h.o 9 Q) (h.o 10 Q) (h.o 11 Q) (h.o 12 Q) (h.o 13 Q)) fun x9 s6=>c1 Q (fun h=>D9 (h.o 14 Q) (h.o 15 Q) (h.o 16 Q) (h.o 17 Q) (h.o 18 Q) (h.o 19 Q) (h.o 20 Q) (h.o 21 Q) (h.o 22 Q) (h.o 23 Q) (h.o 24 Q)) fun x10 s7=>QX () [7] (fun(p:Int×Int×Int) (_:Unit)=>[(8,I p.1),(9,I p.2.1),(10,I p.2.2)]) [26] [26] (fun p _=>[]) Out.brk [7] (fun(x17:Int) (_:Unit)=>[(9,I x17)]) [26] (fun x17 _=>[]) Q Q (fun hF3 ⟨x14,x15,x16⟩ _ hr3=>b8 [82] Q Q (iT 3 2 (fun(p:Int×Int)=>nL x16 p.1 p.2) [7,10] (fun(p:Int×Int) (_:Unit)=>[(8,I p.1),(9,I p.2)]) [0] (fun p _=>[]) Q (iT 1 2 (tC x10 x14 x16) [7,8,10] (fun(x21:Int) (_:Unit)=>[(9,I x21)]) [0] (fun x21 _=>[]) Q (nQ GP 0 Q Q Q fun x29 h10 _ h11=>fun hG3=>iS 2 h11 h10 Q Q Q Q Q<|wi hG3<|b8 [90] Q Q (fun hG3=>sF Q<|jR GP 1 [] h10 () Q Q Q Q Q Q Q<|kK () [4] hG3 Q)<|fun hG3=>sF Q<|jR GP 1 [] h10 () Q Q Q Q Q Q Q<|kK () [4] hG3 Q) fun x21 _=>d5 0 2 (tB x10 x14 x16 x21) [7,8,9,10] 106 [0] Q (nQ GP 0 Q Q Q fun x28 h8 _ h9=>fun hG3=>iS 2 h9 h8 Q Q Q Q Q<|wi hG3<|eP [98,99] Q Q (fun hG3=>sF Q<|jR GP 1 [] h8 () Q Q Q Q Q Q Q<|kK () [4] hG3 Q)<|fun hG3=>iS 2 h9 h8 Q Q Q Q Q<|sF Q<|jR GP 1 [] h8 () Q Q Q Q Q Q Q<|kK () [4] hG3 Q) fun x22=>b8 [106] Q Q (cQ (p:=(x14,x21)) [0] Q Q)<|d5 0 2 (tA x10 x14 x16 x21) [7,8,9,10] 116 [0] Q (nQ GP 0 Q Q Q fun x27 h6 _ h7=>fun hG3=>iS 2 h7 h6 Q Q Q Q Q<|wi hG3<|eP [112,113] Q Q (fun hG3=>sF Q<|jR GP 1 [] h6 () Q Q Q Q Q Q Q<|kK () [4] hG3 Q)<|fun hG3=>sF Q<|jR GP 1 [] h6 () Q Q Q Q Q Q Q<|kK () [4] hG3 Q) fun x23=>b8 [116] Q Q (cQ (p:=(x14,x21)) [0] Q Q)<|d5 0 2 (kM x10 x16 x21) [7,9,10] 147 [0] Q (nQ GP 0 Q Q Q fun x26 h4 _ h5=>fun hG3=>iS 2 h5 h4 Q Q Q Q Q<|wi hG3<|eP [122,123] Q Q (fun hG3=>sF Q<|jR GP 1 [] h4 () Q Q Q Q Q Q Q<|kK () [4] hG3 Q)<|fun hG3=>iS 2 h5 h4 Q Q Q Q Q<|wi hG3<|eP [129,130,131] Q Q (fun hG3=>sF Q<|jR GP 1 [] h4 () Q Q Q Q Q Q Q<|kK () [4] hG3 Q)<|fun hG3=>iS 2 h5 h4 Q Q Q Q Q<|wi hG3<|eP [137,138,139] Q Q (fun hG3=>sF Q<|jR GP 1 [] h4 () Q Q Q Q Q Q Q<|kK () [4] hG3 Q)<|fun hG3=>iS 2 h5 h4 Q Q Q Q Q<|sF Q<|jR GP 1 [] h4 () Q Q Q Q Q Q Q<|kK () [4] hG3 Q) fun x24=>b8 [147] Q Q (MT hr3 hF3<|dE Q Q)<|nQ GP 0 Q Q Q fun x25 h2 _ h3=>fun hG3=>iS 2 h3 h2 Q Q Q Q Q<|sF Q<|jR GP 1 [] h2 () Q Q Q Q Q Q Q<|kK (p:=(x25.dK,x21)) () [4] hG3 Q) fun⟨x19,x20⟩ _=>J4 [0] Q)<|FW [0] Q) fun x17 _=>d5 0 2 sZ [] 2 [] Q (eP [155,156] Q Q (cQ [] Q Q)<|cQ [] Q Q) fun x18=>dE Q Q
end
end Go.Proofs.YtmaknhppafajdaaGreat
end
noncomputable section
namespace Go.Gv
theorem YW{m m':Mem}{s:Int}(h1:aX m'.aE s=aX m.aE s)(h2:iI m'.aE s=iI m.aE s)(h3:s∈dM m'.aD↔s∈dM m.aD):eQ m' s=eQ m s:=by
  unfold eQ
  rw [h1,h2]
  by_cases q:s∈dM m.aD
  · rw [if_pos q,if_pos (h3.2 q)]
  · rw [if_neg q,if_neg (fun z=>q (h3.1 z))]
noncomputable section
variable {m:Mem} (hm:mW m)
include hm
end
end Go.Gv
end
noncomputable section
namespace Go.Gv
noncomputable section
variable {b:List UInt8} {i h:Int} (hc:Cu b i)
include hc
theorem aYK:uV (oP ⟨b,i,h⟩) (fun x=>K2 x.1∧Cu b x.2.1):=by
  unfold oP
  refine .bind (aDI hc (by omega)) fun x1 ⟨⟨l3,hq⟩,h1⟩=>.bind (below h1 (by omega)) fun x5 ⟨_,h5⟩=>?_
  have hT:K2 x1.1:=⟨by omega,fun q hq'=>by have:=(hq q hq').1;omega⟩
  simp only [jD,sS]
  refine .ite (fun _=>?_) fun _=>.ite (fun _=>?_) fun _=>.ite (fun _=>?_) fun _=>.ite (fun _=>?_) fun _=>?_
  · exact .need (by omega) (.ret ⟨⟨by simp;omega,fun q hq'=>hT.2 q (List.mem_of_mem_take (by simpa using hq'))⟩,h5⟩)
  · refine .bind (.idx (by omega)) fun x9 h9=>.bind (aNU h5 (by decide) (by decide)) fun x10 ⟨_,h10⟩=>?_
    have:=hT.2 _ h9
    have:=(hq _ h9).1
    exact .need (by simp;omega) (.ret ⟨UX hT _ (by simp;omega),h10⟩)
  · refine .bind (P:=fun x=>K2 x.1∧Cu b x.2.1) (.loop (fun s=>20 - ((s.1.getD 1 ⟨[]⟩).fM.length)) (fun s=>(s.1.length=3∧∀q∈s.1,q.fM.length≤13)∧Cu b s.2.1) ⟨⟨l3,fun q hq'=>by have:=(hq q hq').1;omega⟩,h5⟩ ?_) ?_
    · rintro⟨l,i1,h1⟩ ⟨⟨l3,hq⟩,hi1⟩
      simp only at l3 hq hi1
      simp only [B5,sT]
      have hx:idx l 1=some l[1]:=aV (k:=1) (by omega)
      have hm:=hq _ (List.getElem_mem (show 1 < l.length by omega))
      rw [hx]
      simp only [aG]
      refine .bind (below hi1 (by omega)) fun x ⟨hx2,hi2⟩=>.ite (fun q=>?_) (fun q=>?_)
      · have q':=of_decide_eq_true q
        rw [aN (by omega) (by omega)] at q'
        refine .need (by simp;omega) (.ret ?_)
        refine⟨⟨⟨by simp [l3],fun x hx=>?_⟩,hi2⟩,?_⟩
        · rcases List.mem_or_eq_of_mem_set hx with hx | hx
          · exact hq x hx
          · rw [hx];simp;omega
        · have e1:l.getD 1 ⟨[]⟩=l[1]:=by rw [List.getD_eq_getElem?_getD,List.getElem?_eq_getElem (by omega)];rfl
          have e2:(l.set (1:Int).toNat ⟨l[1].fM ++ [⟨4,0,0,0⟩]⟩).getD 1 ⟨[]⟩=⟨l[1].fM ++ [⟨4,0,0,0⟩]⟩:=by rw [List.getD_eq_getElem?_getD,show(1:Int).toNat=1 from rfl,List.getElem?_set_self (by omega)];rfl
          simp only [e1,e2]
          simp;omega
      · exact .ret ⟨⟨by (try simp only);omega,fun q hq'=>by have:=hq q hq';omega⟩,hi2⟩
    · rintro⟨l,i1,h1⟩ hx
      exact .ret hx
  · refine .bind (.idx (by omega)) fun x9 h9=>?_
    have:=(hq _ h9).1
    exact .need (by simp;omega) (.ret ⟨UX hT _ (by simp;omega),h5⟩)
  · exact .ret ⟨hT,h5⟩
end
theorem aQQ{code:List UInt8}(hl:code.length≤1048576):uV (jE code) (fun x=>K2 x.aZ∧x.jL.length≤5000):=by
  unfold jE
  refine .bind (a6I hl) fun x1 h1=>.bind (aDI h1 (by omega)) fun x2 ⟨⟨l3,hq⟩,h2⟩=>.bind (aXR h2 (by omega)) fun x3 ⟨p,h3⟩=>.bind (below h3 (by omega)) fun x6 ⟨_,h6⟩=>?_
  have hT:K2 x2.1:=⟨by omega,fun q hq'=>by have:=(hq q hq').1;omega⟩
  simp only [iV]
  refine .ite (fun _=>.bind (aYK h6) fun x7 ⟨h7,_⟩=>.ret ⟨h7,by (try simp only);omega⟩) fun _=>.ite (fun _=>.need (by simp;omega) (.ret ⟨hT,by simp;omega⟩)) fun _=>.ret ⟨hT,by (try simp only);omega⟩
end Go.Gv
end
noncomputable section
namespace Go.Gv
theorem LD{b:aA}{w:Int}{s:Sub}(h:s.Kind=1∨s.Kind=2∨s.Kind=4):(d7 b w s).1.aC=b.aC:=by
  unfold d7
  rcases h with k | k | k
  · simp only [k,if_true]
    unfold FQ uT
    simp only [apply_ite Prod.fst,apply_ite aA.aC,ite_self]
  · simp only [k]
    unfold GW
    simp [apply_ite Prod.fst,apply_ite aA.aC]
  · simp only [k]
    unfold lH
    simp [apply_ite Prod.fst,apply_ite aA.aC]
theorem j5{j:bD}(h1:j.Op.Kind≠1)(h2:j.Op.Kind≠2∧j.Op.Kind≠5∨j.Pc≠0)(h4:j.Op.Kind≠4∨j.Pc≠0∧(j.Pc=1→j.Sub.Kind=4)):Calm j:=
  ⟨fun q=>by have:=q.2;omega,fun q=>by have:=q.2;omega,fun q=>absurd q h1,fun q p=>by rcases h4 with h | h;exact absurd q h;exact h.2 p⟩
theorem aOM{j:bD}(h1:j.Op.Kind=1)(h2:j.Sub.Kind=1∨j.Sub.Kind=2):Calm j:=⟨fun q=>by have:=q.2.1;omega,fun q=>by have:=q.2.1;omega,fun _=>h2,fun q=>by omega⟩
noncomputable section
variable {c:aC} {J:Int→bD} (h:Ep c J)
include h
variable {w:Int} (hw:0≤w∧w≤2) {j:bD}
include hw
theorem Ep.still(hn:¬mS (J w))(hj:Calm j):Ep c (MJ J w j):=
  h.step hw rfl (fun _ _ _=>rfl) (hj.ji _ _) (fun _ o1 o2=>by
    obtain⟨a1,a2⟩:=h.2 w hw hn o1 o2
    exact⟨a1,fun e a har _=>a2 e a har⟩) (fun q=>absurd q hj.2.1)
theorem Ep.a2S(hc:JX c)(hn:¬mS (J w))(hj:Calm j):Ep (zH c w).1 (MJ J w j):=by
  unfold zH
  by_cases q:(bS c w).On
  · rw [if_pos q]
    refine h.step hw rfl (fun v hv hvw=>by rw [uO hc hw hv,if_neg hvw]) (hj.ji _ _) (fun _ o1=>?_) (fun q=>absurd q hj.2.1)
    rw [uO hc hw hw,if_pos rfl] at o1
    cases o1
  · rw [if_neg q];exact h.still hw hn hj
omit h hw in
theorem aG9(hc:JX c){q:Int}(hq:0≤q∧q≤2)(e:Int):(y8 c q e).1.aJ=c.aJ∧(∀v,0≤v∧v≤2→(bS (y8 c q e).1 v).On=(bS c v).On∧(bS (y8 c q e).1 v).aJ=(bS c v).aJ∧((bS (y8 c q e).1 v).dJ=false→(bS c v).dJ=false)) ∧
    ((y8 c q e).2=true→(bS (y8 c q e).1 q).On=true→(bS (y8 c q e).1 q).dJ=false→(bS c q).aJ=e):=by
  unfold y8
  by_cases k1:(bS c q).On=false∨(bS c q).dJ=true∨(bS c q).aJ=e
  · rw [if_pos k1]
    refine⟨rfl,fun v hv=>⟨rfl,rfl,id⟩,fun _ o1 o2=>?_⟩
    rcases k1 with k | k | k
    · rw [k] at o1;cases o1
    · rw [k] at o2;cases o2
    · exact k
  · rw [if_neg k1]
    by_cases k2:(bS c q).Seen=2
    · rw [if_pos k2]
      refine⟨rfl,fun v hv=>?_,fun _ _ o2=>?_⟩
      · rw [uO hc hq hv]
        by_cases z:v=q
        · subst z;rw [if_pos rfl];exact⟨rfl,rfl,fun x=>by cases x⟩
        · rw [if_neg z];exact⟨rfl,rfl,id⟩
      · rw [uO hc hq hq,if_pos rfl] at o2;cases o2
    · rw [if_neg k2]
      refine⟨rfl,fun v hv=>?_,fun x=>by cases x⟩
      rw [uO hc hq hv]
      by_cases z:v=q
      · subst z;rw [if_pos rfl];exact⟨rfl,rfl,id⟩
      · rw [if_neg z];exact⟨rfl,rfl,id⟩
theorem Ep.advance{b:aA}(hb:b.aC=c)(hc:JX c)(hj:J w=j)(hA:Adv j){fin:bD}(hf:Calm fin) :
    Ep (lG b j.Sub).1.aC (MJ J w (if (lG b j.Sub).2.cW then fin else {j with Sub:=(lG b j.Sub).2})):=by
  have hji:=h.1 w hw
  rw [hj] at hji
  have hk4:=hA.2.1
  obtain⟨k,d,hpc⟩:=(hji hA.1).2.2.1 hA
  have nopin:∀s:Sub,¬mS {j with Sub:=s}:=fun s q=>by have:=q.2.1;simp only at this;omega
  have nopw:¬mS (J w):=by rw [hj];exact nopin j.Sub
  have mk:∀(s:Sub) (p:qA) (e:Int),(s.Kind=3∧s.cW=false∧(s.Pc=0∨s.E≤e∧(s.Pc=1∧(0≤s.B∧s.B≤2)∨s.Pc=2∧s.B=3)))→JI e p {j with Sub:=s}:=fun s p e hs _=>⟨fun q=>by simp only at q;omega,fun _ q=>by simp only at q;have:=hA.2.2;omega,fun _=>hs,fun q=>absurd q (nopin s)⟩
  unfold lG
  rw [hb]
  rcases hpc with p0 | ⟨el,⟨p1,B0,B2⟩ | ⟨p2,B3⟩⟩
  · simp only [if_pos p0,d,aP,if_false,hb]
    refine h.step hw rfl (fun _ _ _=>rfl) (mk _ _ _ ⟨k,rfl,.inr ⟨Int.le_refl _,.inl ⟨rfl,by simp,by simp⟩⟩⟩) (fun _ o1 o2=>?_) (fun _=>.inr rfl)
    obtain⟨a1,a2⟩:=h.2 w hw nopw o1 o2
    exact⟨a1,fun e a har _=>a2 e a har⟩
  · obtain ⟨le, lv, lq⟩ := aG9 hc (q := j.Sub.B) ⟨B0, B2⟩ j.Sub.E
    simp only [if_neg (show ¬j.Sub.Pc=0 by omega),if_pos p1,if_pos (show 0≤j.Sub.B∧j.Sub.B≤2 from ⟨B0,B2⟩)]
    have others:∀v,0≤v∧v≤2→JI (y8 c j.Sub.B j.Sub.E).1.aJ (bS (y8 c j.Sub.B j.Sub.E).1 v) (J v):=fun v hv=>by
      have:=h.1 v hv
      rw [le]
      intro hbv
      obtain⟨x1,x2,x3,x4⟩:=this hbv
      exact⟨x1,x2,x3,fun q=>by rw [(lv v hv).2.1];exact x4 q⟩
    cases hl:(y8 c j.Sub.B j.Sub.E).2
    · simp only [aP,if_false,pO,if_true]
      refine⟨fun v hv=>?_,fun p hp hn o1 o2=>?_⟩
      · by_cases q:v=w
        · subst q;rw [dZ];exact hf.ji _ _
        · rw [eN _ _ q];exact others v hv
      · have hn':¬mS (J p):=by
          by_cases q:p=w
          · rw [q];exact nopw
          · rw [eN _ _ q] at hn;exact hn
        obtain⟨y1,y2,y3⟩:=lv p hp
        rw [y1] at o1
        obtain⟨a1,a2⟩:=h.2 p hp hn' o1 (y3 o2)
        rw [le,y2]
        refine⟨a1,fun e a har=>?_⟩
        by_cases q:a=w
        · subst q;rw [dZ];exact fun q=>absurd q hf.2.1
        · rw [eN _ _ q];exact a2 e a har
    · simp only [if_true,d,aP,if_false]
      refine⟨fun v hv=>?_,fun p hp hn o1 o2=>?_⟩
      · by_cases q:v=w
        · subst q
          rw [dZ,le]
          refine mk _ _ _ ⟨k,rfl,.inr ⟨el,?_⟩⟩
          by_cases z:j.Sub.B=2
          · exact .inr ⟨by simp only [if_pos z],by simp only;omega⟩
          · exact .inl ⟨by simp only [if_neg z],by simp only;omega,by simp only;omega⟩
        · rw [eN _ _ q];exact others v hv
      · have hn':¬mS (J p):=by
          by_cases q:p=w
          · rw [q];exact nopw
          · rw [eN _ _ q] at hn;exact hn
        obtain⟨y1,y2,y3⟩:=lv p hp
        have o1':=o1
        rw [y1] at o1'
        obtain⟨a1,a2⟩:=h.2 p hp hn' o1' (y3 o2)
        rw [le,y2]
        refine⟨a1,fun e a har=>?_⟩
        by_cases q:a=w
        · subst q
          rw [dZ]
          intro _ _ hE
          simp only at hE ⊢
          have hB:=a2 e a har (by rw [hj];exact hA) (by rw [hj];omega) (by rw [hj];exact hE)
          rw [hj] at hB
          by_cases z:j.Sub.B=p
          · rw [←z] at o1 o2
            have:=lq hl o1 o2
            rw [z] at this
            omega
          · omega
        · rw [eN _ _ q];exact a2 e a har
  · simp only [if_neg (show ¬j.Sub.Pc=0 by omega),if_neg (show ¬j.Sub.Pc=1 by omega),if_pos p2,pO,if_true]
    unfold V3
    by_cases q:c.aJ=j.Sub.E∧j.Sub.E≠100000
    · simp only [if_pos q]
      refine⟨fun v hv=>?_,fun p hp hn o1 o2=>?_⟩
      · by_cases z:v=w
        · subst z;rw [dZ];exact hf.ji _ _
        · rw [eN _ _ z]
          intro hbv
          obtain⟨x1,x2,x3,x4⟩:=h.1 v hv hbv
          refine⟨x1,x2,fun q=>?_,fun q=>?_⟩
          · obtain⟨z1,z2,z3⟩:=x3 q
            exact⟨z1,z2,z3.imp id fun z4=>⟨by simp only;omega,z4.2⟩⟩
          · obtain⟨z1,z2,z3⟩:=x4 q
            exact⟨z1,z2,z3.imp id fun z4=>z4.imp (fun z5=>⟨z5.1,z5.2.1,by simp only;omega⟩) id⟩
      · have hn':¬mS (J p):=by
          by_cases z:p=w
          · rw [z];exact nopw
          · rw [eN _ _ z] at hn;exact hn
        have o1':(bS c p).On=true:=o1
        have o2':(bS c p).dJ=false:=o2
        obtain⟨a1,a2⟩:=h.2 p hp hn' o1' o2'
        have hpk:=(TX hc hp).1.2
        have hne:c.aJ≠(bS c p).aJ+1:=fun e=>by
          have:=a2 e w hw (by rw [hj];exact hA) (by rw [hj];omega) (by rw [hj];exact q.1.symm)
          rw [hj] at this;omega
        have hep:bS ⟨j.Sub.E+1,c.cK⟩ p=bS c p:=rfl
        rw [hep]
        refine⟨by simp only;omega,fun e a har hA' hp' hE'=>?_⟩
        exfalso
        by_cases z:a=w
        · subst z;rw [dZ] at hA';exact hf.2.1 hA'
        · rw [eN _ _ z] at hA' hp' hE'
          obtain⟨_,_,z3⟩:=(h.1 a har hA'.1).2.2.1 hA'
          rcases z3 with z3 | z3
          · exact hp' z3
          · simp only at hE';omega
    · simp only [if_neg q]
      exact h.still hw nopw hf
end
end Go.Gv
end
noncomputable section
namespace Go.Gv
noncomputable section
variable (s:aB) (w:Int) (j:bD)
theorem a6W{c:Prop}[Decidable c]{x y:Int}(hx:x=1∨x=2)(hy:y=1∨y=2):(if c then x else y)=1∨(if c then x else y)=2:=by split <;> assumption
theorem aTV(h:j.Sub.Kind=1∨j.Sub.Kind=2):(EW s w j).b.aC=s.aA.aC∧(EW s w j).j.Op=j.Op∧((EW s w j).j.Sub.Kind=1∨(EW s w j).j.Sub.Kind=2):=by
  have hc:=LD (b:=s.aA) (w:=w) (s:=j.Sub) (by omega)
  have hk:=UY s.aA w j.Sub
  unfold EW cC vO
  refine⟨?_,?_,?_⟩
  · simp only [apply_ite JR.b,apply_ite aA.aC,hc,ite_self]
  · simp only [apply_ite JR.j,apply_ite bD.Op,ite_self]
  · simp only [apply_ite JR.j,apply_ite bD.Sub,apply_ite Sub.Kind,hk]
    repeat' (first | exact h | exact .inr rfl | apply a6W)
theorem a4P{c:Prop}[Decidable c]{x y:Int}(hx:x≠0)(hy:y≠0):(if c then x else y)≠0:=by split <;> assumption
theorem aTW(h0:j.Pc≠0)(h4:j.Pc≠4):(NR s w j).b.aC=s.aA.aC∧(NR s w j).j.Op=j.Op∧(NR s w j).j.Pc≠0:=by
  unfold NR gY cC
  rw [if_neg h0]
  simp only [if_neg h4]
  refine⟨?_,?_,?_⟩
  · simp only [apply_ite JR.b,apply_ite aA.aC,ite_self]
  · simp only [apply_ite JR.j,apply_ite bD.Op,ite_self]
  · simp only [apply_ite JR.j,apply_ite bD.Pc]
    repeat' (first | decide | apply a4P)
theorem aTX:(R3 s w j).b.aC=s.aA.aC∧(R3 s w j).j.Op=j.Op:=by
  unfold R3 cC
  exact⟨by simp only [apply_ite JR.b,apply_ite aA.aC,ite_self],by simp only [apply_ite JR.j,apply_ite bD.Op,ite_self]⟩
theorem aQR:(IE s w j).b.aC=s.aA.aC∧(IE s w j).j.Op=j.Op:=by
  unfold IE gY cC
  exact⟨by simp only [apply_ite JR.b,apply_ite aA.aC,ite_self],by simp only [apply_ite JR.j,apply_ite bD.Op,ite_self]⟩
end
noncomputable section
variable {s:aB} (hs:mY s) {w:Int} (hw:0≤w∧w≤2) (h:Ep s.aA.aC (aK s))
include hs hw h
theorem a4Q{j:bD}(hj:aK s w=j)(hb:j.cY=true)(hk:1≤j.Op.Kind∧j.Op.Kind≤7)(hp9:j.Pc≠9):Ep (tZ s w j).b.aC (MJ (aK s) w (tZ s w j).j):=by
  have hc:=hs.1.1.2.1
  have hji:=h.1 w hw
  rw [hj] at hji
  obtain⟨i1,i2,i3,i4⟩:=hji hb
  have npw:¬mS j→¬mS (aK s w):=fun q=>by rw [hj];exact q
  unfold tZ
  by_cases k1:j.Op.Kind=1
  · rw [if_pos k1]
    obtain⟨e1,e2,e3⟩:=aTV s w j (i1 k1)
    rw [e1]
    exact h.still hw (npw fun q=>by have:=q.2.1;omega) (aOM (by rw [e2];exact k1) e3)
  rw [if_neg k1]
  by_cases k2:j.Op.Kind=2
  · rw [if_pos k2]
    by_cases p0:j.Pc=0
    · have hP:mS j:=⟨hb,.inl k2,p0⟩
      obtain⟨k,d,_⟩:=i4 hP
      have es:d7 s.aA w j.Sub=TY s.aA w j.Sub:=by unfold d7;simp [k,d]
      have:=h.pin hw (b:=s.aA) rfl hc hj hP (fin:=cC {j with Sub:=(d7 s.aA w j.Sub).2} 1 0) (j5 (by simp only [cC];omega) (.inr (by simp [cC])) (.inl (by simp only [cC];omega)))
      unfold NR
      rw [if_pos p0]
      simp only [es] at this ⊢
      exact this
    · by_cases p4:j.Pc=4
      · unfold NR
        simp only [if_neg p0,if_neg (show ¬j.Pc=1 by omega),if_neg (show ¬j.Pc=2 by omega),if_neg (show ¬j.Pc=3 by omega),if_pos p4]
        exact h.a2S hw hc (npw fun q=>p0 q.2.2) (j5 (by simp only [cC];omega) (.inr (by simp [cC])) (.inl (by simp only [cC];omega)))
      · obtain⟨e1,e2,e3⟩:=aTW s w j p0 p4
        rw [e1]
        exact h.still hw (npw fun q=>p0 q.2.2) (j5 (by rw [e2];omega) (.inr e3) (.inl (by rw [e2];omega)))
  rw [if_neg k2]
  by_cases k3:j.Op.Kind=3
  · rw [if_pos k3]
    obtain⟨e1,e2⟩:=aTX s w j
    rw [e1]
    exact h.still hw (npw fun q=>by have:=q.2.1;omega) (j5 (by rw [e2];omega) (.inl (by rw [e2];omega)) (.inl (by rw [e2];omega)))
  rw [if_neg k3]
  by_cases k7:j.Op.Kind=7
  · rw [if_pos k7]
    obtain⟨e1,e2⟩:=aQR s w j
    rw [e1]
    exact h.still hw (npw fun q=>by have:=q.2.1;omega) (j5 (by rw [e2];omega) (.inl (by rw [e2];omega)) (.inl (by rw [e2];omega)))
  rw [if_neg k7]
  unfold uU
  by_cases k6:j.Op.Kind=6
  · rw [if_pos k6]
    by_cases p0:j.Pc=0
    · rw [if_pos p0]
      exact h.a2S hw hc (npw fun q=>by have:=q.2.1;omega) (j5 (by simp only [cC];omega) (.inr (by simp [cC])) (.inl (by simp only [cC];omega)))
    · rw [if_neg p0]
      exact h.still hw (npw fun q=>p0 q.2.2) (j5 (by simp only [cC];omega) (.inr (by simp [cC])) (.inl (by simp only [cC];omega)))
  rw [if_neg k6]
  by_cases k5:j.Op.Kind=5
  · by_cases p0:j.Pc=0
    · have hP:mS j:=⟨hb,.inr k5,p0⟩
      obtain⟨k,d,_⟩:=i4 hP
      have es:d7 s.aA w j.Sub=TY s.aA w j.Sub:=by unfold d7;simp [k,d]
      have:=h.pin hw (b:=s.aA) rfl hc hj hP (fin:=cC {j with Sub:=(d7 s.aA w j.Sub).2} 9 (d7 s.aA w j.Sub).2.Code) (j5 (by simp only [cC];omega) (.inr (by simp [cC])) (.inl (by simp only [cC];omega)))
      rw [if_pos (.inl p0)]
      simp only [es,if_pos k5] at this ⊢
      exact this
    · rw [if_neg (fun q=>q.elim p0 fun q=>q.2 k5)]
      exact h.still hw (npw fun q=>p0 q.2.2) (j5 (by simp only [cC];omega) (.inr (by simp [cC])) (.inl (by simp only [cC];omega)))
  have k4:j.Op.Kind=4:=by omega
  have np:¬mS (aK s w):=npw fun q=>by have:=q.2.1;omega
  by_cases p0:j.Pc=0
  · have hA:Adv j:=⟨hb,k4,p0⟩
    obtain⟨k,d,_⟩:=i3 hA
    have es:d7 s.aA w j.Sub=lG s.aA j.Sub:=by unfold d7;simp [k,d]
    have:=h.advance hw (b:=s.aA) rfl hc hj hA (fin:=cC {j with Sub:=vO 4 0} 1 0) (j5 (by simp only [cC];omega) (.inr (by simp [cC])) (.inr ⟨by simp [cC],fun _=>rfl⟩))
    rw [if_pos (.inl p0)]
    simp only [es,if_neg k5,if_pos p0] at this ⊢
    exact this
  by_cases p1:j.Pc=1
  · rw [if_pos (.inr ⟨p1,k5⟩)]
    have hk:=i2 k4 p1
    have hcl:=LD (b:=s.aA) (w:=w) (s:=j.Sub) (by omega)
    have hkk:=UY s.aA w j.Sub
    simp only [hcl,if_neg k5,if_neg p0]
    refine h.still hw np ?_
    split
    · exact j5 (by simp only [cC];omega) (.inr (by simp [cC])) (.inr ⟨by simp [cC],fun q=>by simp [cC] at q⟩)
    · exact j5 (by simp only;omega) (.inr p0) (.inr ⟨p0,fun _=>by simp only [hkk];exact hk⟩)
  · rw [if_neg (fun q=>q.elim p0 fun q=>p1 q.1)]
    exact h.still hw np (j5 (by simp only [cC];omega) (.inr (by simp [cC])) (.inr ⟨by simp [cC],fun q=>by simp [cC] at q⟩))
theorem a09:Ep (iO s w).aA.aC (aK (iO s w)):=by
  have h3:=hs.2.2.1
  have hjk:JOk (aK s w):=by
    have h:=uN hs hw
    rw [fL hw.1 (by omega)] at h
    injection h with h
    rw [←h];exact hs.2.2.2.2.2.2 _ (List.getElem_mem _)
  unfold iO
  cases hb:(aK s w).cY with
  | false =>
    rw [if_pos rfl]
    have np:¬mS (aK s w):=fun q=>by have:=q.1;rw [hb] at this;cases this
    unfold NS
    cases ho:dN s.aZ w with
    | nil=>exact h
    | cons o r =>
      simp only
      by_cases s0:s.aI=1000000
      · rw [if_pos s0];exact h
      rw [if_neg s0]
      refine Ep.congr ?_ (fun v hv=>m9 h3 hw hv _ _ _ _ _ _)
      simp only
      unfold iJ
      by_cases k1:o.Kind=1
      · rw [if_pos k1]
        exact h.still hw np (aOM k1 (.inl rfl))
      rw [if_neg k1]
      by_cases k2:o.Kind=2∨o.Kind=5
      · rw [if_pos k2]
        cases hon:(bS s.aA.aC w).On
        · simp only [aP,if_false]
          refine h.step hw rfl (fun _ _ _=>rfl) (fun _=>⟨fun q=>absurd q k1,fun q=>by simp only at q;omega,fun q=>by have:=q.2.1;simp only at this;omega,fun _=>⟨rfl,rfl,.inl rfl⟩⟩) (fun _ o1=>?_) (fun q=>by have:=q.2.1;simp only at this;omega)
          rw [hon] at o1;cases o1
        · simp only [if_true]
          exact h.still hw np (j5 k1 (.inr (by simp)) (.inl (by simp only;omega)))
      rw [if_neg k2]
      by_cases k4:o.Kind=4
      · rw [if_pos k4]
        refine h.step hw rfl (fun _ _ _=>rfl) (fun _=>⟨fun q=>absurd q k1,fun _ q=>by simp at q,fun _=>⟨rfl,rfl,.inl rfl⟩,fun q=>by have:=q.2.1;simp only at this;omega⟩) (fun _ o1 o2=>?_) (fun _=>.inl rfl)
        obtain⟨a1,a2⟩:=h.2 w hw np o1 o2
        exact⟨a1,fun e a har _=>a2 e a har⟩
      · rw [if_neg k4]
        exact h.still hw np (j5 k1 (.inl (by simp only;omega)) (.inl k4))
  | true =>
    rw [if_neg (by simp)]
    by_cases p9:(aK s w).Pc=9
    · rw [if_pos p9]
      refine Ep.congr ?_ (fun v hv=>m9 h3 hw hv _ _ _ _ _ _)
      exact h.still hw (fun q=>by have:=q.2.2;omega) (j5 (by decide) (.inl (by decide)) (.inl (by decide)))
    · rw [if_neg p9]
      refine Ep.congr ?_ (fun v hv=>m9 h3 hw hv _ _ _ _ _ _)
      exact a4Q hs hw h rfl hb ((AV hb).1 hjk).1.1 p9
end
theorem ep0(t:List Queue):Ep (dD t).aA.aC (aK (dD t)):=by
  have hj:∀w:Int,aK (dD t) w=kD:=fun w=>by
    unfold aK dD
    simp only [List.getD_eq_getElem?_getD,List.getElem?_replicate]
    split <;> rfl
  have hp:∀w:Int,bS (dD t).aA.aC w=⟨false,0,false,0⟩:=fun w=>by
    unfold bS dD aGA
    simp only [List.getD_eq_getElem?_getD,List.getElem?_replicate]
    split <;> rfl
  exact⟨fun w _ hb=>by rw [hj] at hb;simp [kD] at hb,fun p _ _ o1=>by rw [hp] at o1;simp at o1⟩
end Go.Gv
end
noncomputable section
namespace Go.Gv
theorem aHA{m:Mem}(hm:mW m){w h:Int}(hw:0≤w∧w≤2)(hv:g9 m h):(∀t,aX (EV m w h).aE t=aX m.aE t)∧(∀t,0≤aX m.aE t→iI (EV m w h).aE t=if t=h % 32 then h / 32+1 else iI m.aE t) ∧
    (∀t,t≠h % 32→(t∈dM (EV m w h).aD↔t∈dM m.aD))∧eQ (EV m w h) (h % 32)≠3:=by
  obtain⟨hcnt,h3,h9,h1,h2,hsm,hcp,hlo,hsG,hsO⟩:=mW.facts hm
  have hcl:=iA hv.2.1
  have hc2:0≤aX m.aE (h % 32)∧aX m.aE (h % 32)≤2:=by
    obtain⟨_,q,e⟩:=qO hcl
    rw [e];exact hY.1 (by omega)
  have hg6:1≤h / 32∧h / 32≤6:=by have:=hv.1;unfold j7 at this;omega
  obtain⟨_,hg⟩:=VU.aW6 hm.1.1 hcl (g:=h / 32+1) (by omega)
  have hh:(EV m w h).aE=⟨ZV m.aE.Bytes (eJ (h % 32) (aX m.aE (h % 32))).toNat (h / 32+1),m.aE.Class⟩:=by
    unfold EV;simp only [apply_ite Mem.aE,ite_self]
  have kx:(w * 3+aX m.aE (h % 32)).toNat < m.aD.cT.length:=by omega
  have ky:(aX m.aE (h % 32)).toNat < m.aD.Global.length:=by omega
  have hl:∀t,t∈dM (EV m w h).aD↔t∈dM m.aD∨(h / 32+1≤6∧t=h % 32):=fun t=>by
    unfold EV dM
    by_cases q:h / 32+1≤6
    · rw [if_pos q]
      split
      · rw [←dV kx]
        simp only [List.mem_append,EP kx,List.mem_singleton,q,true_and]
        constructor
        · rintro(a | a | a)
          · exact .inl (.inl a)
          · exact .inl (.inr a)
          · exact .inr a
        · rintro((a | a) | a)
          · exact .inl a
          · exact .inr (.inl a)
          · exact .inr (.inr a)
      · rw [←dV ky]
        simp only [List.mem_append,EP ky,List.mem_singleton,q,true_and]
        constructor
        · rintro((a | a) | a)
          · exact .inl (.inl a)
          · exact .inr a
          · exact .inl (.inr a)
        · rintro((a | a) | a)
          · exact .inl (.inl a)
          · exact .inr a
          · exact .inl (.inr a)
    · rw [if_neg q]
      simp only [List.mem_append,q,false_and,or_false]
  refine⟨fun t=>by rw [hh];rfl,fun t ht=>by rw [hh];exact hg t ht,fun t ht=>by rw [hl];exact⟨fun x=>x.elim id fun y=>absurd y.2 ht,.inl⟩,fun hu=>?_⟩
  have hu':=gX.1 hu
  have e1:iI (EV m w h).aE (h % 32)=h / 32+1:=by rw [hh,hg _ hcl,if_pos rfl]
  rw [e1] at hu'
  exact hu'.2.1 ((hl _).2 (.inr ⟨hu'.2.2,rfl⟩))
theorem aQS{m:Mem}(hm:mW m){w h:Int}(hw:0≤w∧w≤2)(hv:g9 m h){t:Int}(ht:t≠h % 32):eQ (EV m w h) t=eQ m t:=by
  obtain⟨a,b,c,_⟩:=aHA hm hw hv
  by_cases q:0≤aX m.aE t
  · exact YW (a t) (by rw [b t q,if_neg ht]) (c t ht)
  · have e:aX (EV m w h).aE t=aX m.aE t:=a t
    unfold eQ
    rw [e,if_pos (by omega),if_pos (by omega)]
theorem aON{l:List dO}{j:Nat}(h:j < l.length):H6 l (j:Int)=l[j]:=by
  have:=TZ (l:=l) (k:=(j:Int)) (by omega)
  rw [aV h] at this
  injection this with this
  exact this.symm
noncomputable section
variable {w:Int} (hw:0≤w∧w≤2) {b b':aA} (hL0:(cX b.aM w).length≤24) {s:Sub} (hd:s.cW=false)
include hw hL0 hd
end
end Go.Gv
end
noncomputable section
namespace Go.Gv
theorem aYL{h:aE}{x:Int}(hh:j7 x)(hc:0≤aX h (x % 32)):ZZ h x=vP h (x % 32):=by unfold ZZ vP;rw [if_pos ⟨hh,hc⟩]
theorem a1A{b:List Int}{a:Nat}{n:Int}(h:a+4≤b.length)(hn:0≤n∧n≤4294967295):ld (EO b a n) a 4=n:=by
  have e:∀j,bt (EO b a n) j=if j=a+3 then n % 256 else if j=a+2 then n / 256 % 256 else if j=a+1 then n / 65536 % 256 else if j=a then n / 16777216 else bt b j:=fun j=>by
    unfold EO
    rw [B7 (by simp;omega),B7 (by simp;omega),B7 (by simp;omega),B7 (by omega)]
  rw [ld4 (by rw [O5];exact h),e,e,e,e,if_neg (by omega),if_neg (by omega),if_neg (by omega),if_pos rfl,if_neg (by omega),if_neg (by omega),if_pos rfl,if_neg (by omega),if_pos rfl,if_pos rfl]
  omega
theorem aAP{h:aE}{s t:Int}(hc:0≤aX h s)(ht:0≤aX h t)(hn:s≠t):(eJ s (aX h s)).toNat+12≤(eJ t (aX h t)).toNat∨(eJ t (aX h t)).toNat+12≤(eJ s (aX h s)).toNat:=by
  obtain⟨p,i,p6,hi,es,ec,eo,ep⟩:=tY hc
  obtain⟨q,j,q6,hj,fs,fc,fo,fp⟩:=tY ht
  have room:∀c (i:Nat),i < (b9 c).toNat→8+i * (aU c).toNat+12≤64:=fun c i h=>by
    have hcl:0≤c∧c≤2:=hY.1 (by omega)
    rcases fY hcl with rfl | rfl | rfl
    · rw [show(b9 0).toNat=4 from rfl] at h;rw [show(aU 0).toNat=12 from rfl];omega
    · rw [show(b9 1).toNat=2 from rfl] at h;rw [show(aU 1).toNat=20 from rfl];omega
    · rw [show(b9 2).toNat=1 from rfl] at h;rw [show(aU 2).toNat=44 from rfl];omega
  have r1:=room _ _ hi
  have r2:=room _ _ hj
  rw [eo,fo]
  by_cases e:p=q
  · subst e
    have hij:i≠j:=fun e=>hn (by omega)
    have hcl:0≤bZ h p∧bZ h p≤2:=hY.1 (by omega)
    generalize bZ h p=c at hi hj hcl
    rcases fY hcl with rfl | rfl | rfl
    · rw [show(aU 0).toNat=12 from rfl];omega
    · rw [show(aU 1).toNat=20 from rfl];omega
    · rw [show(b9 2).toNat=1 from rfl] at hi hj;omega
  · have:p < q∨q < p:=by omega
    omega
theorem UD{h:aE}{s:Int}(hc:0≤aX h s):(eJ s (aX h s)).toNat+8≤384:=(aXM hc).1
theorem a1B{h:aE}(h384:h.Bytes.length=384){s t n:Int}(hc:0≤aX h s)(ht:0≤aX h t):vP ⟨ZV h.Bytes (eJ s (aX h s)).toNat n,h.Class⟩ t=vP h t:=by
  have e1:=UD hc
  have e2:=UD ht
  show ld (ZV h.Bytes (eJ s (aX h s)).toNat n) ((eJ t (aX h t)).toNat+4) 4=ld h.Bytes ((eJ t (aX h t)).toNat+4) 4
  refine JK (by omega) (EN ..) fun j j1 j2=>?_
  by_cases e:s=t
  · subst e
    rw [xB (by omega),if_neg (by omega),if_neg (by omega)]
  · have:=aAP hc ht e
    rw [xB (by omega),if_neg (by omega),if_neg (by omega)]
theorem aYM{h:aE}(h384:h.Bytes.length=384){s t n:Int}(hn:0≤n∧n≤4294967295)(hc:0≤aX h s)(ht:0≤aX h t):vP ⟨EO h.Bytes ((eJ s (aX h s)).toNat+4) n,h.Class⟩ t=if t=s then n else vP h t:=by
  have e1:=UD hc
  have e2:=UD ht
  show ld (EO h.Bytes ((eJ s (aX h s)).toNat+4) n) ((eJ t (aX h t)).toNat+4) 4=if t=s then n else ld h.Bytes ((eJ t (aX h t)).toNat+4) 4
  by_cases e:t=s
  · subst e
    rw [if_pos rfl,a1A (by omega) hn]
  · rw [if_neg e]
    have:=aAP hc ht (fun q=>e q.symm)
    exact JK (by omega) (O5 ..) fun j j1 j2=>YC (by omega) (by omega)
theorem a1C{h:aE}(hh:VU h){s:Int}(hc:0≤aX h s):1≤iI h s∧iI h s≤7:=by
  obtain⟨p,i,p6,hi,es,ec,eo,ep⟩:=tY hc
  have hold:=(KX hh.1 p6).1 (hh.2 p p6)
  have hcl:0≤bZ h p∧bZ h p≤2:=hY.1 (by omega)
  unfold ZX at hold
  rw [if_neg (by omega)] at hold
  unfold iI
  rw [eo]
  exact hold.2.2 i hi
theorem aYN{m:Mem}(hm:mW m){w h:Int}(hv:g9 m h){t:Int}(ht:0≤aX m.aE t):vP (EV m w h).aE t=vP m.aE t:=by
  have hcl:=iA hv.2.1
  have hh:(EV m w h).aE=⟨ZV m.aE.Bytes (eJ (h % 32) (aX m.aE (h % 32))).toNat (h / 32+1),m.aE.Class⟩:=by
    unfold EV;simp only [apply_ite Mem.aE,ite_self]
  rw [hh]
  exact a1B hm.1.1.1.1 hcl ht
theorem aOO{m:Mem}(hm:mW m){h n:Int}(hv:g9 m h)(hn:0≤n∧n≤65535):(xD m h n).2=0∧a4K m (xD m h n).1 (h % 32) n:=by
  have hcl:=iA hv.2.1
  unfold xD
  rw [if_pos hv]
  obtain⟨_,hg⟩:=VU.put hm.1.1 hcl (n:=n) ⟨hn.1,by omega⟩
  refine⟨rfl,fun t=>?_,hg,fun t ht=>aYM hm.1.1.1.1 ⟨hn.1,by omega⟩ hcl ht⟩
  by_cases q:0≤aX m.aE t
  · exact YW rfl (hg t q) Iff.rfl
  · unfold eQ
    have c:aX m.aE t < 0:=by omega
    exact(if_pos (show aX _ t < 0 from c)).trans (if_pos c).symm
theorem aJ1{m:Mem}(hm:mW m){ls:aD}{x:Int}(h1:∀t,t∈dM m.aD↔t∈dM ls∨t=x)(h2:x∉dM ls):aQG m ⟨m.aE,ls⟩ x:=by
  have hx:x∈dM m.aD:=(h1 x).2 (.inr rfl)
  obtain⟨a,b⟩:=mW.nY hm hx
  refine⟨fun q=>(gX.1 q).2.1 hx,gX.2 ⟨a,h2,b⟩,⟨(a1C hm.1.1 a).1,b⟩,fun t ht=>?_,fun t _=>⟨rfl,rfl⟩⟩
  rw [gX,gX]
  have:t∈dM m.aD↔t∈dM ls:=by rw [h1];exact⟨fun q=>q.elim id fun q=>absurd q ht,.inl⟩
  simp only [this]
theorem aTY{l:List Int}(h:l≠[]):l=(KZ l).1 ++ [(KZ l).2]:=by
  unfold KZ
  rcases List.eq_nil_or_concat l with rfl | ⟨L,b,rfl⟩
  · exact absurd rfl h
  · simp
theorem aOP{l:List aR}{k:Nat}(hk:k < l.length)(h:d4 l k≠[]):∃A B,dA l=A++((KZ (d4 l k)).2 :: B)∧dA (l.set k ⟨(KZ (d4 l k)).1⟩)=A++B:=by
  have e:=aTY h
  refine⟨dA (l.take k)++(KZ (d4 l k)).1,dA (l.drop (k+1)),?_,?_⟩
  · rw [CL hk,dV hk]
    conv=>lhs;rw [e]
    simp
  · rw [FP hk];simp
theorem aOQ{l:List aR}{k:Nat}(hk:k < l.length)(h:d4 l k=[]):l.set k ⟨(KZ (d4 l k)).1⟩=l∧(KZ (d4 l k)).2 = -1:=by
  rw [h]
  refine⟨?_,rfl⟩
  have e:(⟨(KZ []).1⟩:aR)=l[k]:=by
    have:=dV hk
    rw [h] at this
    cases hl:l[k] with
    | mk s=>rw [hl] at this;simp only at this;subst this;rfl
  rw [e,List.set_getElem_self]
theorem aL3{m:Mem}(hm:mW m){w c:Int}(hw:0≤w∧w≤2)(hc:0≤c∧c≤2):(ET m w c=(m,-1))∨0≤(ET m w c).2∧aQG m (ET m w c).1 (ET m w c).2:=by
  obtain⟨hcnt,h3,h9,_⟩:=mW.facts hm
  have hk:(w * 3+c).toNat < m.aD.cT.length:=by omega
  unfold ET
  by_cases q:d4 m.aD.cT (w * 3+c).toNat=[]
  · left
    obtain⟨a,b⟩:=aOQ hk q
    rw [a,b]
  · right
    obtain⟨A,B,e1,e2⟩:=aOP hk q
    have nd:=hm.1.2.2.2.2.2
    have rg:=hm.1.2.2.2.2.1
    unfold dM at nd rg
    rw [e1] at nd rg
    refine⟨(rg _ (by simp)).1,aJ1 hm (fun t=>?_) ?_⟩
    · unfold dM;simp only;rw [e1,e2];simp only [List.mem_append,List.mem_cons]
      constructor
      · rintro(h | h | h | h)
        · exact .inl (.inl h)
        · exact .inl (.inr (.inl h))
        · exact .inr h
        · exact .inl (.inr (.inr h))
      · rintro((h | h | h) | h)
        · exact .inl h
        · exact .inr (.inl h)
        · exact .inr (.inr (.inr h))
        · exact .inr (.inr (.inl h))
    · unfold dM;simp only;rw [e2]
      have:(dA m.aD.Global++(A++(KZ (d4 m.aD.cT (w * 3+c).toNat)).2 :: B)).Perm ((KZ (d4 m.aD.cT (w * 3+c).toNat)).2 :: (dA m.aD.Global++(A++B))):=by
        rw [←List.append_assoc,←List.append_assoc];exact List.perm_middle
      exact(List.nodup_cons.1 (this.nodup_iff.1 nd)).1
theorem aIW{m:Mem}(hm:mW m){c:Int}(hc:0≤c∧c≤2):(uL m c=(m,-1))∨0≤(uL m c).2∧aQG m (uL m c).1 (uL m c).2:=by
  obtain⟨hcnt,h3,h9,_⟩:=mW.facts hm
  have hk:c.toNat < m.aD.Global.length:=by omega
  unfold uL
  by_cases q:d4 m.aD.Global c.toNat=[]
  · left
    obtain⟨a,b⟩:=aOQ hk q
    rw [a,b]
  · right
    obtain⟨A,B,e1,e2⟩:=aOP hk q
    have nd:=hm.1.2.2.2.2.2
    have rg:=hm.1.2.2.2.2.1
    unfold dM at nd rg
    rw [e1] at nd rg
    refine⟨(rg _ (by simp)).1,aJ1 hm (fun t=>?_) ?_⟩
    · unfold dM;simp only;rw [e1,e2];simp only [List.mem_append,List.mem_cons]
      constructor
      · rintro((h | h | h) | h)
        · exact .inl (.inl (.inl h))
        · exact .inr h
        · exact .inl (.inl (.inr h))
        · exact .inl (.inr h)
      · rintro(((h | h) | h) | h)
        · exact .inl (.inl h)
        · exact .inl (.inr (.inr h))
        · exact .inr h
        · exact .inl (.inr (.inl h))
    · unfold dM;simp only;rw [e2]
      have:(A++(KZ (d4 m.aD.Global c.toNat)).2 :: B++dA m.aD.cT).Perm ((KZ (d4 m.aD.Global c.toNat)).2 :: (A++B++dA m.aD.cT)):=by
        rw [List.append_assoc,List.append_assoc,List.cons_append];exact List.perm_middle
      exact(List.nodup_cons.1 (this.nodup_iff.1 nd)).1
theorem aQT{m:Mem}(hm:mW m){c:Int}(hc:0≤c∧c≤2):(H5 m c=(m,-1))∨0≤(H5 m c).2∧aQG m (H5 m c).1 (H5 m c).2:=by
  obtain⟨hcnt,h3,h9,h1,_⟩:=mW.facts hm
  have hs:=hm.1.1.1
  unfold H5
  by_cases q:YJ m.aE=6
  · left;rw [if_pos q]
  right
  rw [if_neg q]
  obtain⟨hp,hun⟩:=aXF hs q
  generalize YJ m.aE=p at hp hun
  obtain⟨a,b,d,e⟩:=VU.a2N hm.1.1 hp (by omega) hc
  have hpp:0 < b9 c:=hY.2 hc
  have hp4:=mQ c
  have hk:c.toNat < m.aD.Global.length:=by omega
  have hcons:gS p (b9 c).toNat=(p:Int) * 4 :: (gS p (b9 c).toNat).drop 1:=by
    have:0 < (gS p (b9 c).toNat).length:=by rw [KW];omega
    have h0:=List.drop_eq_getElem_cons this
    rw [List.drop_zero] at h0
    have e0:(gS p (b9 c).toNat)[0]=(p:Int) * 4:=by simp [gS]
    rw [e0] at h0;exact h0
  have hnd:=aNJ p (b9 c).toNat
  rw [hcons,List.nodup_cons] at hnd
  have hxs:∀t,t∈(gS p (b9 c).toNat).drop 1↔∃i,i < (b9 c).toNat∧t=(p:Int) * 4+(i:Nat)∧i≠0:=fun t=>by
    constructor
    · intro h
      obtain⟨i,hi,rfl⟩:=aW9 (List.mem_of_mem_drop h)
      refine⟨i,hi,rfl,fun z=>hnd.1 ?_⟩
      subst z;simpa using h
    · rintro⟨i,hi,rfl,i0⟩
      have hmem:(p:Int) * 4+(i:Nat)∈gS p (b9 c).toNat:=by simp only [gS,List.mem_map,List.mem_range];exact⟨i,hi,rfl⟩
      rw [hcons] at hmem
      rcases List.mem_cons.1 hmem with h | h
      · omega
      · exact h
  generalize (gS p (b9 c).toNat).drop 1=xs at hnd hxs
  have hmem:∀t,t∈dM ⟨m.aD.Global.set c.toNat ⟨d4 m.aD.Global c.toNat++xs⟩,m.aD.cT⟩↔t∈dM m.aD∨t∈xs:=fun t=>by
    unfold dM;rw [←dV hk];simp only [List.mem_append,EP hk];rw [or_right_comm]
  have hno:∀i,i < (b9 c).toNat→¬0≤aX m.aE ((p:Int) * 4+(i:Nat)):=fun i hi z=>(d _ z).1 (by omega)
  have e0:=e 0 (by omega)
  rw [show(p:Int) * 4+((0:Nat):Int)=(p:Int) * 4 by omega] at e0
  have hno0:=hno 0 (by omega)
  rw [show(p:Int) * 4+((0:Nat):Int)=(p:Int) * 4 by omega] at hno0
  have bts:=fun j=>(aW7 hm.1.1.1.1 hp hc (b9 c).toNat (by omega) j).1
  have hbl:=KV m.aE.Bytes p c (b9 c).toNat
  refine⟨by simp only;omega,fun z=>hno0 (gX.1 z).1,gX.2 ⟨by simp only [e0.1];exact hc.1,fun z=>?_,by simp only [e0.2];omega⟩,by simp only [e0.2];omega,fun t ht=>?_,fun t ht=>?_⟩
  · rcases(hmem _).1 z with y | y
    · exact hno0 (mW.nY hm y).1
    · exact hnd.1 y
  · rw [gX,gX]
    simp only at ht
    by_cases z:0≤aX m.aE t
    · obtain⟨z1,z2⟩:=d t z
      have zx:t∉xs:=fun y=>by obtain⟨i,hi,rfl,_⟩:=(hxs t).1 y;exact hno i hi z
      have:t∈dM (⟨m.aD.Global.set c.toNat ⟨d4 m.aD.Global c.toNat++xs⟩,m.aD.cT⟩:aD)↔t∈dM m.aD:=by rw [hmem];exact⟨fun y=>y.elim id fun y=>absurd y zx,.inl⟩
      simp only [this,b t z1,z2]
    · refine⟨fun y=>?_,fun y=>absurd y.1 z⟩
      exfalso
      obtain⟨y1,y2,y3⟩:=y
      by_cases zp:(t / 4).toNat=p
      · obtain⟨r1,r2,r3⟩:=qO y1
        rw [zp,TS hs hp,if_pos rfl] at r2
        exact y2 ((hmem t).2 (.inr ((hxs t).2 ⟨(t % 4).toNat,by omega,by omega,by omega⟩)))
      · simp only at y1
        rw [b t zp] at y1;exact z y1
  · have ht':=gX.1 ht
    obtain⟨z1,z2⟩:=d t ht'.1
    refine⟨z2,?_⟩
    obtain⟨p',i',p6',hi',es',ec',eo',ep'⟩:=tY ht'.1
    have hend:=UD ht'.1
    have hz':=uK hs p6' rfl hi'
    have room:8+i' * (aU (bZ m.aE p')).toNat+8≤64:=by
      have hcl:0≤bZ m.aE p'∧bZ m.aE p'≤2:=hY.1 (by omega)
      generalize bZ m.aE p'=c' at hi' hcl
      rcases fY hcl with rfl | rfl | rfl
      · rw [show(b9 0).toNat=4 from rfl] at hi';rw [show(aU 0).toNat=12 from rfl];omega
      · rw [show(b9 1).toNat=2 from rfl] at hi';rw [show(aU 1).toNat=20 from rfl];omega
      · rw [show(b9 2).toNat=1 from rfl] at hi';rw [show(aU 2).toNat=44 from rfl];omega
    unfold vP
    simp only
    rw [b t z1]
    exact JK (by omega) hbl fun j j1 j2=>bts j (by omega)
theorem a1D{b:aA}(hm:mW b.Mem){w:Int}(hw:0≤w∧w≤2){s:Sub}(hk:s.Kind=1)(hd:s.cW=false)(hp:0≤s.Pc∧s.Pc≤3):aYD b (d7 b w s) s:=by
  have hr:=WY s.A
  have e:d7 b w s=FQ b w s:=by unfold d7;simp [hk,hd]
  rw [e]
  have fin:∀p:Mem×Int,(p=(b.Mem,-1)∨0≤p.2∧aQG b.Mem p.1 p.2)→aYD b (uT b s p) s:=fun p h=>by
    unfold uT
    rcases h with rfl | ⟨h0,h1⟩
    · rw [if_neg (by simp)]
      split
      · exact⟨rfl,rfl,rfl,.inl ⟨rfl,.inl ⟨rfl,by simp [pO]⟩⟩⟩
      · exact⟨rfl,rfl,rfl,.inl ⟨rfl,.inr ⟨hd,hk,by simp only;omega,by simp only;omega⟩⟩⟩
    · rw [if_pos h0]
      have h23:=(qO (gX.1 h1.now).1).1
      have eh:aP7 p.1 p.2=iI p.1.aE p.2 * 32+p.2:=if_pos h1.gen
      have hg:=h1.gen
      have e1:aP7 p.1 p.2 % 32=p.2:=by omega
      have e2:aP7 p.1 p.2 / 32=iI p.1.aE p.2:=by omega
      have hn:j7 (aP7 p.1 p.2):=by unfold j7;omega
      refine⟨rfl,rfl,rfl,.inr ⟨rfl,rfl,hn,⟨hn,?_,?_⟩,?_⟩⟩
      · simp only [pO];rw [e1];exact h1.now
      · simp only [pO];rw [e1,e2]
      · simp only [pO];rw [e1];exact h1
  unfold FQ
  by_cases c0:lF s.A < 0
  · rw [if_pos c0]
    exact⟨rfl,rfl,rfl,.inl ⟨rfl,.inl ⟨rfl,by simp [pO]⟩⟩⟩
  rw [if_neg c0]
  have hc:0≤lF s.A∧lF s.A≤2:=by omega
  split
  · exact fin _ (aL3 hm hw hc)
  split
  · exact fin _ (aIW hm hc)
  split
  · exact fin _ (aQT hm hc)
  · omega
end Go.Gv
end
noncomputable section
namespace Go.Gv
noncomputable section
variable {b b':aA} {N N':Int→Int} (h:Ow b N)
include h
theorem Ow.a8D(hb:mR b)(hl:b'.aM=b.aM){H:Int}(ht:aQG b.Mem b'.Mem (H % 32))(hv:g9 b'.Mem H){i:Int}(hi:0≤i∧i≤4)(h0:N i=0)(hN:N' i=H)(ho:∀j,0≤j∧j≤4→j≠i→N' j=N j):Ow b' N':=by
  have nh:¬E5 b.aM (H % 32):=fun⟨r,r1,r2,r3⟩=>ht.was (by rw [←r3];exact(hb.2 r r1).1.2.1)
  have ne:∀j,0≤j∧j≤4→N j≠0→N j % 32≠H % 32:=fun j hj hn e=>ht.was (by rw [←e];exact(h.live j hj hn).1.2.1)
  have iW:∀g,g9 b.Mem g→g9 b'.Mem g:=fun g hg=>by
    have e:g % 32≠H % 32:=fun e=>ht.was (by rw [←e];exact hg.2.1)
    exact⟨hg.1,(ht.rest _ e).2 hg.2.1,by rw [(ht.same _ hg.2.1).1];exact hg.2.2⟩
  refine⟨fun j hj hn=>?_,fun j k hj hk hn e=>?_,fun t hs hh=>?_⟩
  · by_cases q:j=i
    · subst q;rw [hN,hl];exact⟨hv,nh⟩
    · rw [ho j hj q] at hn ⊢
      rw [hl]
      exact⟨iW _ (h.live j hj hn).1,(h.live j hj hn).2⟩
  · by_cases q:j=i
    · by_cases q2:k=i
      · rw [q,q2]
      · rw [q,hN,ho k hk q2] at e
        exact absurd (by rw [e]) (ne k hk (by rw [←e];intro z;rw [q,hN] at hn;exact hn z))
    · by_cases q2:k=i
      · rw [q2,hN,ho j hj q] at e
        rw [ho j hj q] at hn
        exact absurd (by rw [e]) (ne j hj hn)
      · rw [ho j hj q] at hn
        rw [ho j hj q,ho k hk q2] at e
        exact h.once j k hj hk hn e
  · by_cases q:t=H % 32
    · exact⟨i,hi,by rw [hN];have:=hv.1;unfold j7 at this;omega,by rw [hN,q]⟩
    · rw [hl] at hh
      obtain⟨j,j1,j2,j3⟩:=h.all t ((ht.rest t q).1 hs) hh
      have:j≠i:=fun e=>by rw [e,h0] at j2;exact j2 rfl
      exact⟨j,j1,by rw [ho j j1 this];exact j2,by rw [ho j j1 this];exact j3⟩
theorem Ow.retired(hm:b'.Mem=b.Mem){i:Int}(hi:0≤i∧i≤4)(hn:N i≠0)(hl:∀t,E5 b'.aM t↔E5 b.aM t∨t=N i % 32)(hN:N' i=0)(ho:∀j,0≤j∧j≤4→j≠i→N' j=N j):Ow b' N':=by
  have hiL:=(h.live i hi hn).1
  refine⟨fun j hj hjn=>?_,fun j k hj hk hjn e=>?_,fun t hs hh=>?_⟩
  · have q:j≠i:=fun e=>hjn (by rw [e,hN])
    rw [ho j hj q] at hjn ⊢
    rw [hm,hl]
    obtain⟨a,b⟩:=h.live j hj hjn
    refine⟨a,fun z=>z.elim b fun z=>q (h.once j i hj hi hjn (aGI a hiL z))⟩
  · have q:j≠i:=fun e=>hjn (by rw [e,hN])
    have q2:k≠i:=fun e'=>by rw [e',hN] at e;exact hjn e
    rw [ho j hj q] at hjn
    rw [ho j hj q,ho k hk q2] at e
    exact h.once j k hj hk hjn e
  · rw [hm] at hs
    rw [hl] at hh
    obtain⟨j,j1,j2,j3⟩:=h.all t hs (fun z=>hh (.inl z))
    have:j≠i:=fun e=>hh (.inr (by rw [←j3,e]))
    exact⟨j,j1,by rw [ho j j1 this];exact j2,by rw [ho j j1 this];exact j3⟩
theorem Ow.a6X{x:Int}(hx:E5 b.aM x)(h3:eQ b'.Mem x≠3)(hs:∀t,t≠x→eQ b'.Mem t=eQ b.Mem t)(hg:∀t,t≠x→eQ b.Mem t=3→iI b'.Mem.aE t=iI b.Mem.aE t)(hl:∀t,t≠x→(E5 b'.aM t↔E5 b.aM t))(he:∀i,0≤i∧i≤4→N' i=N i):Ow b' N':=by
  refine⟨fun i hi hn=>?_,fun i j hi hj hn e=>?_,fun t ht hh=>?_⟩
  · rw [he i hi] at hn ⊢
    obtain⟨a,c⟩:=h.live i hi hn
    have q:N i % 32≠x:=fun e=>c (by rw [e];exact hx)
    exact⟨⟨a.1,by rw [hs _ q];exact a.2.1,by rw [hg _ q a.2.1];exact a.2.2⟩,by rw [hl _ q];exact c⟩
  · rw [he i hi] at hn
    rw [he i hi,he j hj] at e
    exact h.once i j hi hj hn e
  · have q:t≠x:=fun e=>h3 (by rw [←e];exact ht)
    rw [hs t q] at ht
    rw [hl t q] at hh
    obtain⟨i,a,c,d⟩:=h.all t ht hh
    exact⟨i,a,by rw [he i a];exact c,by rw [he i a];exact d⟩
end
theorem MN(L:List Ev)(e:Ev)(k:Int):R6 (L ++ [e]) k=if e.Kind=2∧e.Cell=k then e else R6 L k:=by
  unfold R6;rw [List.foldl_append];rfl
theorem a4R(L:List Ev)(n:Int)(k:Int):(L.foldl (rdS n) (fun _=>zEv,none)).1 k=R6 L k:=by
  have:∀(L:List Ev) a,(L.foldl (rdS n) a).1 k=L.foldl (fun a e=>if e.Kind=2∧e.Cell=k then e else a) (a.1 k):=by
    intro L
    induction L with
    | nil=>intro a;rfl
    | cons e L ih=>intro a;rw [List.foldl_cons,List.foldl_cons,ih];rfl
  exact this L _
theorem MO(L:List Ev)(e:Ev)(n:Int):YO (L ++ [e]) n=if e.Kind=3∧e.aI=n then some (e,R6 L e.Cell) else YO L n:=by
  unfold YO
  rw [List.foldl_append,List.foldl_cons,List.foldl_nil]
  show(if e.Kind=3∧e.aI=n then some (e,(L.foldl (rdS n) (fun _=>zEv,none)).1 e.Cell) else _)=_
  rw [a4R]
theorem aSL{L:List Ev}{n:Int}(h:∀e∈L,e.aI≠n):YO L n=none:=by
  have:∀(L:List Ev) a,(∀e∈L,e.aI≠n)→(L.foldl (rdS n) a).2=a.2:=by
    intro L
    induction L with
    | nil=>intro a _;rfl
    | cons e L ih =>
      intro a h
      rw [List.foldl_cons,ih _ fun x hx=>h x (List.mem_cons_of_mem _ hx)]
      exact if_neg fun q=>h e (List.mem_cons_self ..) q.2
  exact this L _ h
theorem TrL.snoc{L:List Ev}(h:TrL L){e:Ev}(he:e.Kind=4→YO L e.aI≠none→Told (YO L e.aI) e.Code e.dK):TrL (L ++ [e]):=by
  intro M x N hx hk hr
  rcases List.eq_nil_or_concat N with rfl | ⟨N',y,rfl⟩
  · have:=List.append_inj' hx (by rfl)
    obtain⟨rfl,q⟩:=this
    injection q with q
    subst q
    exact he hk hr
  · have e1:M++x :: (N'.concat y)=(M++x :: N') ++ [y]:=by simp
    rw [e1] at hx
    have:=List.append_inj' hx (by rfl)
    exact h M x N' this.1 hk hr
theorem aHB{i:Int}(hi:0≤i∧i≤4):(0≤i∧i≤1)∨∃v,(0≤v∧v≤2)∧i=v+2:=by
  by_cases h:i≤1
  · exact .inl ⟨hi.1,h⟩
  · exact .inr ⟨i - 2,by omega,by omega⟩
end Go.Gv
end
noncomputable section
namespace Go.Gv
noncomputable section
variable {b:aA} {c:List Int} {J:Int→bD} {L:List Ev} {n:Int} (h:Sv b c J L n) (hb:mR b) (hep:Ep b.aC J) {w:Int} (hw:0≤w∧w≤2)
include h hb hep hw
omit h hb hep in
theorem HN{c':List Int}{j':bD}{i:Int}(hi:0≤i∧i≤4)(q:i≠w+2)(hc:∀k,0≤k∧k≤1→i=k→cellAt c' k=cellAt c k):nm c' (MJ J w j') i=nm c J i:=by
  rcases aHB hi with hk | ⟨v,hv,rfl⟩
  · rw [mT _ _ hk,mT _ _ hk];exact hc i hk rfl
  · rw [f8 _ _ hv,f8 _ _ hv,eN _ _ (by omega)]
omit h hb hep in
theorem Qt.frm{b':aA}{j':bD}(q:Qt b b' J w j'){v:Int}(hv:0≤v∧v≤2)(hn:v≠w):Frm b b' c c J (MJ J w j') v (J v):=by
  refine⟨q.ep,by rw [q.lim],q.pin v hv hn,q.haz v hv hn,fun e H _ he _ s=>q.safe hw he s,fun hz u a ha=>?_,fun e H _ _=>by rw [q.mem],fun _=>by rw [q.mem]⟩
  by_cases z:a=w
  · subst z;rw [dZ];exact q.col v hv _ hz (u _ hw)
  · rw [eN _ _ z];exact u a ha
theorem Sv.quiet{b':aA}{j':bD}(q:Qt b b' J w j')(hB:(J w).cY=true)(hser:j'.aI=(J w).aI){l:List Ev}(hl:l=[]∨∃x,l=[y9 w (J w) x])
    (jw:Jv b' c (MJ J w j') (YO (L++l) j'.aI) w j'):Sv b' c (MJ J w j') (L++l) n:=by
  have ow':Ow b' (nm c (MJ J w j')):=h.ow.congr q.mem q.lim fun i hi=>by
    by_cases z:i=w+2
    · subst z;rw [f8 _ _ hw,f8 _ _ hw,dZ,q.name]
    · exact HN hw hi z fun _ _ _=>rfl
  have fr:=fun v (hv:0≤v∧v≤2) hn=>q.frm (c:=c) hw hv hn
  have sn:=h.se.2.1 w hw hB
  rcases hl with rfl | ⟨x,rfl⟩
  · rw [List.append_nil] at jw ⊢
    exact h.make hb hep hw ow' (fun k hk=>by rw [q.mem];exact h.cv k hk) fr jw (fun _ _=>rfl) h.tr h.se.1 (Int.le_refl _) fun _=>⟨by omega,.inl ⟨hser,hB⟩⟩
  · have e2:∀k,R6 (L ++ [y9 w (J w) x]) k=R6 L k:=fun k=>by rw [MN,if_neg (fun z=>by have:=z.1;simp [y9] at this)]
    refine h.make hb hep hw ow' (fun k hk=>by rw [q.mem,e2];exact h.cv k hk) fr jw (fun m hm=>?_) (h.tr.snoc fun z=>by simp [y9] at z) (fun e he=>?_) (Int.le_refl _) fun _=>⟨by omega,.inl ⟨hser,hB⟩⟩
    · rw [MO,if_neg (fun z=>hm hB z.2.symm)]
    · rcases List.mem_append.1 he with z | z
      · exact h.se.1 e z
      · rw [List.mem_singleton.1 z];exact sn
omit h hb hep hw in
theorem QM(j:bD)(x:Int):YO (L ++ [y9 w j x]) j.aI=some (y9 w j x,R6 L j.Op.Cell):=by
  rw [MO,if_pos ⟨rfl,rfl⟩];rfl
end
noncomputable section
variable {b:aA} {c:List Int} {J:Int→bD} {o:Option (Ev×Ev)} {v:Int} {j:bD} (hb:j.cY=true)
include hb
theorem H9(k:j.Op.Kind=2∨j.Op.Kind=7)(g:aYE j→Pinned b.aC v→rR b c J (bS b.aC v).aJ j.H∧∃x,Saw o j.H x∧(¬aGJ j→vP b.Mem.aE (j.H % 32)=x.dK)∧(aGJ j→j.dK=x.dK))(t:j.Pc=9∨j.Pc=4→Told o j.Code j.dK):Jv b c J o v j:=
  ⟨fun q=>absurd (hb.symm.trans q) (by decide),fun q=>by omega,fun q=>by omega,fun q=>by omega,fun q=>by omega,fun q=>by omega,g,fun q=>by omega,fun q=>by omega,fun q=>by omega,fun _=>t,fun _ r=>absurd (by unfold Reads;omega) r⟩
theorem UE(k:j.Op.Kind=3)(z1:j.Pc=1∨j.Pc=2∨j.Pc=3→j.H≠0)(z2:j.Pc=2∨j.Pc=3→rQ b.mP v=j.H)(z3:j.Pc=3→rR b c J 0 j.H∧QJ J v j.H∧∃x,Saw o j.H x∧vP b.Mem.aE (j.H % 32)=x.dK)(t:j.Pc=9∨j.Pc=4→Told o j.Code j.dK):Jv b c J o v j:=
  ⟨fun q=>absurd (hb.symm.trans q) (by decide),fun q=>by omega,fun q=>by omega,fun q=>by omega,fun q=>by omega,fun q=>by omega,fun q=>by rcases q with q | q <;> omega,fun _=>z1,fun _=>z2,fun _=>z3,fun _=>t,fun _ r=>absurd (by unfold Reads;omega) r⟩
theorem UF(k:j.Op.Kind=1)(s0:j.Pc=0→j.Sub.Kind=1∧j.Sub.cW=false∧0≤j.Sub.Pc∧j.Sub.Pc≤3)(s1:j.Pc=1∨j.Pc=2→j.H≠0)(s2:j.Pc=2→vP b.Mem.aE (j.H % 32)=j.Op.dK)(s3:j.Pc=3→j.Old≠0∧a4L b j.Old j.Sub)(n:o=none):Jv b c J o v j:=
  ⟨fun q=>absurd (hb.symm.trans q) (by decide),fun _=>s0,fun _=>s1,fun _=>s2,fun _=>s3,fun q=>by omega,fun q=>by rcases q with q | q <;> omega,fun q=>by omega,fun q=>by omega,fun q=>by omega,fun r=>by unfold Reads at r;omega,fun _ _=>n⟩
theorem UG(k:j.Op.Kind=4∨j.Op.Kind=5∨j.Op.Kind=6)(kk:j.Op.Kind=4→j.Pc=1→a4M b.aC.aJ (cX b.aM v) j.Sub)(n:o=none):Jv b c J o v j:=
  ⟨fun q=>absurd (hb.symm.trans q) (by decide),fun q=>by omega,fun q=>by omega,fun q=>by omega,fun q=>by omega,kk,fun q=>by rcases q with q | q <;> omega,fun q=>by omega,fun q=>by omega,fun q=>by omega,fun r=>by unfold Reads at r;omega,fun _ _=>n⟩
end
theorem JQ{j:bD}(h:j.Pc=0∨j.Pc=1∧j.Op.Kind=2∨j.Pc=4∨j.Pc=9):¬aYE j:=fun g=>by rcases g with g | g <;> omega
theorem QN{j:bD}{v H:Int}(h:j.Op.Kind≠4):UnJ j v H:=fun q=>absurd q h
theorem yQ{j:bD}(h:j.Op.Kind≠1):JY j=0:=if_neg h
theorem aAQ{j:bD}(h1:j.Pc≠1)(h2:j.Pc≠2)(h3:j.Pc≠3):JY j=0:=by
  unfold JY
  split
  · rw [if_neg (show ¬(j.Pc=1∨j.Pc=2) by omega)]
  · rfl
theorem a1E{j:bD}(k:j.Op.Kind=1)(p:j.Pc=1∨j.Pc=2):JY j=j.H:=by unfold JY;rw [if_pos k,if_pos p]
theorem nm3{j:bD}(k:j.Op.Kind=1)(p:j.Pc=3):JY j=j.Old:=by unfold JY;rw [if_pos k,if_neg (by omega),if_pos p]
theorem UH{b:aA}{J:Int→bD}{w:Int}{j':bD}(name:JY j'=JY (J w))(old:(J w).Op.Kind≠1∨(J w).Pc≠3)(col:j'.Op.Kind≠4∨j'.Pc≠1):Qt b b J w j':=
  ⟨rfl,rfl,Int.le_refl _,fun _ _ _ p=>⟨p,rfl⟩,fun _ _ _=>rfl,name,fun k p=>by omega,fun _ _ _ _ _=>by rcases col with q | q;exact QN q;exact fun _ p=>absurd p q⟩
theorem UI{b:aA}{cl:aC}{J:Int→bD}{w:Int}{j':bD}(ep:b.aC.aJ≤cl.aJ)(pin:∀v,0≤v∧v≤2→v≠w→Pinned cl v→Pinned b.aC v∧(bS cl v).aJ=(bS b.aC v).aJ)(name:JY j'=JY (J w))(old:(J w).Op.Kind≠1∨(J w).Pc≠3)(col:j'.Op.Kind≠4∨j'.Pc≠1∨j'.Sub.Pc=0):Qt b ⟨b.Mem,cl,b.aM,b.mP⟩ J w j':=
  ⟨rfl,rfl,ep,pin,fun _ _ _=>rfl,name,fun k p=>by omega,fun _ _ _ _ _=>by
    rcases col with q | q | q
    · exact QN q
    · exact fun _ p=>absurd p q
    · exact fun _ _ _=>by omega⟩
theorem aYO{b:aA}(hc:JX b.aC){w:Int}(hw:0≤w∧w≤2)(s:Sub):∃cl:aC,(TY b w s).1=⟨b.Mem,cl,b.aM,b.mP⟩∧cl.aJ=b.aC.aJ∧∀v,0≤v∧v≤2→v≠w→bS cl v=bS b.aC v:=by
  unfold TY K0
  split
  · exact⟨_,rfl,rfl,fun _ _ _=>rfl⟩
  split
  · split
    · refine⟨⟨b.aC.aJ,b.aC.cK.set w.toNat ⟨true,s.E,false,0⟩⟩,rfl,rfl,fun v hv hn=>by rw [uO hc hw hv,if_neg hn]⟩
    · exact⟨_,rfl,rfl,fun _ _ _=>rfl⟩
  split
  · split
    · exact⟨_,rfl,rfl,fun _ _ _=>rfl⟩
    · exact⟨_,rfl,rfl,fun _ _ _=>rfl⟩
  · exact⟨_,rfl,rfl,fun _ _ _=>rfl⟩
theorem aSM{c:aC}(hc:JX c){w:Int}(hw:0≤w∧w≤2):(zH c w).1.aJ=c.aJ∧∀v,0≤v∧v≤2→v≠w→bS (zH c w).1 v=bS c v:=by
  unfold zH
  split
  · exact⟨rfl,fun v hv hn=>by rw [uO hc hw hv,if_neg hn]⟩
  · exact⟨rfl,fun _ _ _=>rfl⟩
theorem YX{c c':aC}{v:Int}(h:bS c' v=bS c v)(p:Pinned c' v):Pinned c v∧(bS c' v).aJ=(bS c v).aJ:=by
  unfold Pinned at *;rw [h] at p;exact⟨p,by rw [h]⟩
theorem aQU{b:aA}(hc:JX b.aC)(s:Sub):∃cl:aC,(lG b s).1=⟨b.Mem,cl,b.aM,b.mP⟩∧b.aC.aJ≤cl.aJ∧∀v,0≤v∧v≤2→Pinned cl v→Pinned b.aC v∧(bS cl v).aJ=(bS b.aC v).aJ:=by
  unfold lG
  split
  · exact⟨_,rfl,Int.le_refl _,fun _ _ p=>⟨p,rfl⟩⟩
  split
  · split
    · rename_i hB
      obtain⟨l1,l2,_⟩:=aG9 hc hB s.E
      have key:b.aC.aJ≤(y8 b.aC s.B s.E).1.aJ∧∀v,0≤v∧v≤2→Pinned (y8 b.aC s.B s.E).1 v→Pinned b.aC v∧(bS (y8 b.aC s.B s.E).1 v).aJ=(bS b.aC v).aJ:=⟨by omega,fun v hv p=>by
        obtain⟨a1,a2,a3⟩:=l2 v hv
        exact⟨⟨by rw [←a1];exact p.1,a3 p.2⟩,a2⟩⟩
      split <;> exact⟨_,rfl,key.1,key.2⟩
    · exact⟨_,rfl,Int.le_refl _,fun _ _ p=>⟨p,rfl⟩⟩
  split
  · refine⟨_,rfl,?_,?_⟩
    · unfold V3;split
      · rename_i q;simp only;omega
      · exact Int.le_refl _
    · intro v hv p
      unfold V3 at p ⊢
      split
      · rename_i q
        rw [if_pos q] at p
        exact⟨p,rfl⟩
      · rename_i q
        rw [if_neg q] at p
        exact⟨p,rfl⟩
  · exact⟨_,rfl,Int.le_refl _,fun _ _ p=>⟨p,rfl⟩⟩
theorem aJ2{z:List Int}(hz:JJ z){w v:Int}(hw:0≤w∧w≤2)(hv:0≤v∧v≤2){H:Int}(hh:j7 H):rQ (O8 z w H) v=if v=w then H else rQ z v:=by
  have:=hz.1
  unfold O8 rQ
  rw [if_pos hh]
  simp only [List.getD_eq_getElem?_getD,List.getElem?_set]
  by_cases q:v=w
  · subst q;simp [show v.toNat < z.length by omega]
  · rw [if_neg q,if_neg (by omega)]
theorem a1F{z:List Int}(hz:JJ z){w v:Int}(hw:0≤w∧w≤2)(hv:0≤v∧v≤2)(hn:v≠w):rQ (Z0 z w) v=rQ z v:=by
  unfold Z0
  split
  · rfl
  · unfold rQ
    simp only [List.getD_eq_getElem?_getD,List.getElem?_set]
    rw [if_neg (by omega)]
theorem aQV{c:List Int}(h2:c.length=2){k i:Int}(hk:0≤k∧k≤1)(hi:0≤i∧i≤1)(x:Int):cellAt (c.set k.toNat x) i=if i=k then x else cellAt c i:=by
  unfold cellAt
  simp only [List.getD_eq_getElem?_getD,List.getElem?_set]
  by_cases q:i=k
  · subst q;simp [show i.toNat < c.length by omega]
  · rw [if_neg q,if_neg (by omega)]
end Go.Gv
end
noncomputable section
namespace Go.Gv
noncomputable section
variable {s:aB} (hs:mY s) {n:Int} (h:Sv s.aA s.Cells (aK s) s.Log n) (hep:Ep s.aA.aC (aK s)) {w:Int} (hw:0≤w∧w≤2) {j:bD} (hj:aK s w=j) (hb:j.cY=true) (hjk:jY j.Op∧dC j.H∧dC j.Old)
include hs h hep hw hj hb
theorem aHC{pc:Int}(g:aYE j)(l:aGJ j):Told (YO s.Log j.aI) (gY s.aA.aC w j pc).Code (gY s.aA.aC w j pc).dK:=by
  unfold gY
  by_cases q:(bS s.aA.aC w).On=true∧(bS s.aA.aC w).dJ=false
  · rw [if_pos q]
    have:=h.jv w hw
    rw [hj] at this
    obtain⟨_,x,⟨e,x1,x2,x3,x4⟩,_,x5⟩:=this.g g q
    refine⟨fun _=>⟨e,x,x1,by rw [x3];exact x4,by rw [x2,x3],(x5 l).symm⟩,fun q=>by simp [cC] at q⟩
  · rw [if_neg q];exact Told.other (by simp [cC]) (by simp [cC])
theorem aL4{e H:Int}(sa:rR s.aA s.Cells (aK s) e H)(h0:H≠0):ZZ s.aA.Mem.aE H=vP s.aA.Mem.aE (H % 32):=by
  have l:=sa.live hs.1 h.ow h0
  exact aYL l.1 (iA l.2.1)
include hjk
theorem a4S(k2:j.Op.Kind=2):Sv (NR s w j).b (NR s w j).c (MJ (aK s) w (NR s w j).j) (s.Log++(NR s w j).l) n:=by
  have hB:(aK s w).cY=true:=by rw [hj];exact hb
  have hc:=hs.1.1.2.1
  have own:=h.jv w hw
  have nk:(aK s w).Op.Kind≠1∨(aK s w).Pc≠3:=.inl (by rw [hj];omega)
  have nm0:∀j':bD,j'.Op.Kind=j.Op.Kind→JY j'=JY (aK s w):=fun j' q=>by rw [yQ (by omega),yQ (by rw [hj];omega)]
  have nc:∀j':bD,j'.Op.Kind=j.Op.Kind→j'.Op.Kind≠4∨j'.Pc≠1:=fun j' q=>.inl (by omega)
  have q0:=fun(j':bD) (q:j'.Op.Kind=j.Op.Kind)=>UH (b:=s.aA) (J:=aK s) (w:=w) (nm0 j' q) nk (nc j' q)
  have cell:=hjk.1.2.2.1
  have hcv:=h.cv j.Op.Cell cell
  rw [hj] at own
  unfold NR
  by_cases p0:j.Pc=0
  · rw [if_pos p0]
    obtain⟨_,_,_,i4⟩:=hep.1 w hw hB
    rw [hj] at i4
    obtain⟨sk,sd,_⟩:=i4 ⟨hb,.inl k2,p0⟩
    have es:d7 s.aA w j.Sub=TY s.aA w j.Sub:=by unfold d7;simp [sk,sd]
    rw [es]
    obtain⟨cl,e1,e2,e3⟩:=aYO hc hw j.Sub
    simp only [e1]
    refine h.quiet hs.1 hep hw (UI (by omega) (fun v hv hn p=>YX (e3 v hv hn) p) (nm0 _ (by split <;> rfl)) nk (.inl (by split <;> (simp only [cC];omega)))) hB (by rw [hj];split <;> rfl) (.inl rfl) ?_
    split
    · exact H9 hb (.inl k2) (fun g=>absurd g (JQ (.inr (.inl ⟨rfl,k2⟩)))) (fun q=>by simp [cC] at q)
    · exact H9 hb (.inl k2) (fun g=>absurd g (JQ (.inl p0))) (fun q=>by simp only at q;omega)
  rw [if_neg p0]
  by_cases p1:j.Pc=1
  · rw [if_pos p1]
    by_cases c0:cellAt s.Cells j.Op.Cell=0
    · rw [if_pos c0,c0]
      refine h.quiet hs.1 hep hw (by exact q0 _ rfl) hB (by exact(congrArg bD.aI hj).symm) (.inr ⟨0,by rw [hj]⟩) ?_
      have rs:=QM (L:=s.Log) (w:=w) j 0
      refine H9 hb (.inl k2) (fun g=>absurd g (JQ (.inr (.inr (.inl rfl))))) fun _=>⟨fun q=>by simp [cC] at q,fun _=>⟨_,_,rs,by rw [hcv.1,c0],rfl⟩⟩
    · rw [if_neg c0]
      refine h.quiet hs.1 hep hw (by exact q0 _ rfl) hB (by exact(congrArg bD.aI hj).symm) (.inr ⟨_,by rw [hj]⟩) ?_
      have rs:=QM (L:=s.Log) (w:=w) j (cellAt s.Cells j.Op.Cell)
      refine H9 hb (.inl k2) (fun _ _=>⟨.inl ⟨_,cell,rfl⟩,_,⟨_,rs,rfl,hcv.1,c0⟩,fun _=>hcv.2 c0,fun l=>?_⟩) (fun q=>by simp [cC] at q)
      rcases l with ⟨_,l⟩ | ⟨l,_⟩
      · simp [cC] at l
      · simp only [cC] at l;omega
  rw [if_neg p1]
  by_cases p2:j.Pc=2
  · rw [if_pos p2]
    have q:=q0 (cC {j with dK:=ZZ s.aA.Mem.aE j.H} 3 0) rfl
    refine h.quiet hs.1 hep hw q hB (by exact(congrArg bD.aI hj).symm) (.inl rfl) ?_
    rw [List.append_nil]
    refine H9 hb (.inl k2) (fun _ p=>?_) (fun q=>by simp [cC] at q)
    obtain⟨sa,x,x1,x2,_⟩:=own.g (.inl ⟨k2,.inl p2⟩) p
    have x2:=x2 fun l=>by rcases l with l | l <;> omega
    have h0:=x1.choose_spec.2.2.2
    refine⟨q.safe hw ((TX hc hw).1.2) sa,x,x1,fun nl=>absurd (.inl ⟨k2,rfl⟩) nl,fun _=>?_⟩
    show ZZ s.aA.Mem.aE j.H=x.dK
    rw [aL4 hs h hep hw hj hb sa h0,x2]
  rw [if_neg p2]
  by_cases p3:j.Pc=3
  · rw [if_pos p3]
    have ct:=aHC hs h hep hw hj hb (pc:=4) (.inl ⟨k2,.inr p3⟩) (.inl ⟨k2,p3⟩)
    have ce:(gY s.aA.aC w j 4).Op=j.Op∧(gY s.aA.aC w j 4).aI=j.aI∧(gY s.aA.aC w j 4).cY=true∧(gY s.aA.aC w j 4).Pc=4:=by unfold gY;split <;> exact⟨rfl,rfl,hb,rfl⟩
    generalize gY s.aA.aC w j 4=j' at ct ce
    refine h.quiet hs.1 hep hw (by exact q0 _ (by rw [ce.1])) hB (by rw [hj];exact ce.2.1) (.inl rfl) ?_
    rw [List.append_nil]
    exact H9 ce.2.2.1 (.inl (by rw [ce.1];exact k2)) (fun g=>absurd g (JQ (.inr (.inr (.inl ce.2.2.2))))) fun _=>by rw [ce.2.1];exact ct
  rw [if_neg p3]
  by_cases p4:j.Pc=4
  · rw [if_pos p4]
    obtain⟨u1,u2⟩:=aSM hc hw
    refine h.quiet hs.1 hep hw (UI (by omega) (fun v hv hn p=>YX (u2 v hv hn) p) (nm0 (cC j 9 j.Code) rfl) nk (.inl (by simp only [cC];omega))) hB (by exact(congrArg bD.aI hj).symm) (.inl rfl) ?_
    rw [List.append_nil]
    exact H9 hb (.inl k2) (fun g=>absurd g (JQ (.inr (.inr (.inr rfl))))) fun _=>own.t (.inl k2) (.inr p4)
  rw [if_neg p4]
  refine h.quiet hs.1 hep hw (by exact q0 _ rfl) hB (by exact(congrArg bD.aI hj).symm) (.inl rfl) ?_
  exact H9 hb (.inl k2) (fun g=>absurd g (JQ (.inr (.inr (.inr rfl))))) fun _=>Told.other (by simp [cC]) (by simp [cC])
theorem a1G(k7:j.Op.Kind=7):Sv (IE s w j).b (IE s w j).c (MJ (aK s) w (IE s w j).j) (s.Log++(IE s w j).l) n:=by
  have hB:(aK s w).cY=true:=by rw [hj];exact hb
  have hc:=hs.1.1.2.1
  have own:=h.jv w hw
  have nk:(aK s w).Op.Kind≠1∨(aK s w).Pc≠3:=.inl (by rw [hj];omega)
  have nm0:∀j':bD,j'.Op.Kind=j.Op.Kind→JY j'=JY (aK s w):=fun j' q=>by rw [yQ (by omega),yQ (by rw [hj];omega)]
  have nc:∀j':bD,j'.Op.Kind=j.Op.Kind→j'.Op.Kind≠4∨j'.Pc≠1:=fun j' q=>.inl (by omega)
  have q0:=fun(j':bD) (q:j'.Op.Kind=j.Op.Kind)=>UH (b:=s.aA) (J:=aK s) (w:=w) (nm0 j' q) nk (nc j' q)
  have cell:=hjk.1.2.2.1
  have hcv:=h.cv j.Op.Cell cell
  rw [hj] at own
  have fin:∀{j':bD},j'.Op=j.Op→j'.aI=j.aI→j'.cY=true→j'.Pc=9→Told (YO s.Log j.aI) j'.Code j'.dK→Sv s.aA s.Cells (MJ (aK s) w j') (s.Log ++ []) n:=fun e1 e2 e3 e4 e5=>by
    refine h.quiet hs.1 hep hw (by exact q0 _ (by rw [e1])) hB (by rw [hj];exact e2) (.inl rfl) ?_
    rw [List.append_nil]
    exact H9 e3 (.inr (by rw [e1];exact k7)) (fun g=>absurd g (JQ (.inr (.inr (.inr e4))))) fun _=>by rw [e2];exact e5
  unfold IE
  by_cases p0:j.Pc=0
  · rw [if_pos p0]
    split
    · exact fin rfl rfl hb rfl (Told.other (by simp [cC]) (by simp [cC]))
    split
    · exact fin rfl rfl hb rfl (Told.other (by simp [cC]) (by simp [cC]))
    by_cases c0:cellAt s.Cells j.Op.Cell=0
    · rw [if_pos c0,c0]
      refine h.quiet hs.1 hep hw (by exact q0 _ rfl) hB (by exact(congrArg bD.aI hj).symm) (.inr ⟨0,by rw [hj]⟩) ?_
      have rs:=QM (L:=s.Log) (w:=w) j 0
      refine H9 hb (.inr k7) (fun g=>absurd g (JQ (.inr (.inr (.inr rfl))))) fun _=>⟨fun q=>by simp [cC] at q,fun _=>⟨_,_,rs,by rw [hcv.1,c0],rfl⟩⟩
    · rw [if_neg c0]
      refine h.quiet hs.1 hep hw (by exact q0 _ rfl) hB (by exact(congrArg bD.aI hj).symm) (.inr ⟨_,by rw [hj]⟩) ?_
      have rs:=QM (L:=s.Log) (w:=w) j (cellAt s.Cells j.Op.Cell)
      refine H9 hb (.inr k7) (fun _ _=>⟨.inl ⟨_,cell,rfl⟩,_,⟨_,rs,rfl,hcv.1,c0⟩,fun _=>hcv.2 c0,fun l=>?_⟩) (fun q=>by simp [cC] at q)
      rcases l with ⟨l,_⟩ | ⟨_,l⟩
      · simp only [cC] at l;omega
      · simp [cC] at l
  rw [if_neg p0]
  by_cases p1:j.Pc=1
  · rw [if_pos p1]
    have q:=q0 (cC {j with dK:=ZZ s.aA.Mem.aE j.H} 2 0) rfl
    refine h.quiet hs.1 hep hw q hB (by exact(congrArg bD.aI hj).symm) (.inl rfl) ?_
    rw [List.append_nil]
    refine H9 hb (.inr k7) (fun _ p=>?_) (fun q=>by simp [cC] at q)
    obtain⟨sa,x,x1,x2,_⟩:=own.g (.inr ⟨k7,.inl p1⟩) p
    have x2:=x2 fun l=>by rcases l with l | l <;> omega
    have h0:=x1.choose_spec.2.2.2
    refine⟨q.safe hw ((TX hc hw).1.2) sa,x,x1,fun nl=>absurd (.inr ⟨k7,rfl⟩) nl,fun _=>?_⟩
    show ZZ s.aA.Mem.aE j.H=x.dK
    rw [aL4 hs h hep hw hj hb sa h0,x2]
  rw [if_neg p1]
  by_cases p2:j.Pc=2
  · rw [if_pos p2]
    have ct:=aHC hs h hep hw hj hb (pc:=9) (.inr ⟨k7,.inr p2⟩) (.inr ⟨k7,p2⟩)
    have ce:(gY s.aA.aC w j 9).Op=j.Op∧(gY s.aA.aC w j 9).aI=j.aI∧(gY s.aA.aC w j 9).cY=true∧(gY s.aA.aC w j 9).Pc=9:=by unfold gY;split <;> exact⟨rfl,rfl,hb,rfl⟩
    exact fin ce.1 ce.2.1 ce.2.2.1 ce.2.2.2 ct
  rw [if_neg p2]
  exact fin rfl rfl hb rfl (Told.other (by simp [cC]) (by simp [cC]))
theorem a4T(k3:j.Op.Kind=3):Sv (R3 s w j).b (R3 s w j).c (MJ (aK s) w (R3 s w j).j) (s.Log++(R3 s w j).l) n:=by
  have hB:(aK s w).cY=true:=by rw [hj];exact hb
  have hc:=hs.1.1.2.1
  have hz:=hs.1.1.2.2.2
  have own:=h.jv w hw
  have nk:(aK s w).Op.Kind≠1∨(aK s w).Pc≠3:=.inl (by rw [hj];omega)
  have nm0:∀j':bD,j'.Op.Kind=j.Op.Kind→JY j'=JY (aK s w):=fun j' q=>by rw [yQ (by omega),yQ (by rw [hj];omega)]
  have nc:∀j':bD,j'.Op.Kind=j.Op.Kind→j'.Op.Kind≠4∨j'.Pc≠1:=fun j' q=>.inl (by omega)
  have q0:=fun(j':bD) (q:j'.Op.Kind=j.Op.Kind)=>UH (b:=s.aA) (J:=aK s) (w:=w) (nm0 j' q) nk (nc j' q)
  have cell:=hjk.1.2.2.1
  have hcv:=h.cv j.Op.Cell cell
  rw [hj] at own
  unfold R3
  by_cases p0:j.Pc=0
  · rw [if_pos p0]
    by_cases c0:cellAt s.Cells j.Op.Cell=0
    · rw [if_pos c0]
      refine h.quiet hs.1 hep hw (by exact q0 _ rfl) hB (by exact(congrArg bD.aI hj).symm) (.inr ⟨0,by rw [hj]⟩) ?_
      have rs:=QM (L:=s.Log) (w:=w) j 0
      exact UE hb k3 (fun q=>by simp [cC] at q) (fun q=>by simp [cC] at q) (fun q=>by simp [cC] at q) fun _=>⟨fun q=>by simp [cC] at q,fun _=>⟨_,_,rs,by rw [hcv.1,c0],rfl⟩⟩
    · rw [if_neg c0]
      refine h.quiet hs.1 hep hw (by exact q0 _ rfl) hB (by exact(congrArg bD.aI hj).symm) (.inl rfl) ?_
      exact UE hb k3 (fun _=>c0) (fun q=>by simp [cC] at q) (fun q=>by simp [cC] at q) (fun q=>by simp [cC] at q)
  rw [if_neg p0]
  by_cases p1:j.Pc=1
  · rw [if_pos p1]
    have h0:=own.z1 k3 (.inl p1)
    have hh:j7 j.H:=hjk.2.1.resolve_left h0
    have q:Qt s.aA ⟨s.aA.Mem,s.aA.aC,s.aA.aM,O8 s.aA.mP w j.H⟩ (aK s) w (cC j 2 0):=⟨rfl,rfl,Int.le_refl _,fun _ _ _ p=>⟨p,rfl⟩,fun v hv hn=>by rw [aJ2 hz hw hv hh,if_neg hn],nm0 _ rfl,fun k p=>by omega,fun _ _ _ _ _=>QN (by simp only [cC];omega)⟩
    refine h.quiet hs.1 hep hw q hB (by exact(congrArg bD.aI hj).symm) (.inl rfl) ?_
    exact UE hb k3 (fun _=>h0) (fun _=>by rw [aJ2 hz hw hw hh,if_pos rfl];rfl) (fun q=>by simp [cC] at q) (fun q=>by simp [cC] at q)
  rw [if_neg p1]
  by_cases p2:j.Pc=2
  · rw [if_pos p2]
    by_cases ce:cellAt s.Cells j.Op.Cell=j.H
    · rw [if_pos ce]
      have h0:=own.z1 k3 (.inr (.inl p2))
      refine h.quiet hs.1 hep hw (by exact q0 _ rfl) hB (by exact(congrArg bD.aI hj).symm) (.inr ⟨j.H,by rw [hj]⟩) ?_
      have rs:=QM (L:=s.Log) (w:=w) j j.H
      refine UE hb k3 (fun _=>h0) (fun _=>own.z2 k3 (.inl p2)) (fun _=>⟨.inl ⟨_,cell,ce⟩,fun a ha=>?_,_,⟨_,rs,rfl,by rw [hcv.1,ce];rfl,h0⟩,?_⟩) (fun q=>by simp [cC] at q)
      · by_cases z:a=w
        · subst z;rw [dZ];exact QN (by simp only [cC];omega)
        · rw [eN _ _ z]
          intro k4 a1 aH
          simp only [cC] at aH
          obtain⟨_,_,ck⟩:=(h.jv a ha).k k4 a1
          have hl:=(h.ow.live j.Op.Cell (by omega) (by rw [mT _ _ cell,ce];exact h0)).2
          rw [mT _ _ cell,ce] at hl
          have no:∀{l},HM (cX s.aA.aM a) l→l.H=j.H→False:=fun{l} at_ e=>by
            obtain⟨b1,b2,b3⟩:=at_
            have hm:=T0 hs.1.1.2.2.1 ha (aF9 (l:=cX s.aA.aM a) (k:=l.Row) ⟨b1,b2⟩)
            apply hl
            rw [←e,←b3]
            exact aSH hm (hs.1.2 _ hm).1.1
          rcases ck with ck | ⟨_,ck | ck | ck⟩
          · exact⟨fun z=>by omega,by omega⟩
          · exact⟨fun z=>by omega,by omega⟩
          · exact absurd (no ck.2.2.1 aH) id
          · exact absurd (no ck.2.1 aH) id
      · show vP s.aA.Mem.aE (j.H % 32)=_
        rw [←ce];exact hcv.2 (by rw [ce];exact h0)
    · rw [if_neg ce]
      refine h.quiet hs.1 hep hw (by exact q0 _ rfl) hB (by exact(congrArg bD.aI hj).symm) (.inl rfl) ?_
      exact UE hb k3 (fun q=>by simp [cC] at q) (fun q=>by simp [cC] at q) (fun q=>by simp [cC] at q) (fun q=>by simp [cC] at q)
  rw [if_neg p2]
  by_cases p3:j.Pc=3
  · rw [if_pos p3]
    refine h.quiet hs.1 hep hw (by exact q0 _ rfl) hB (by exact(congrArg bD.aI hj).symm) (.inl rfl) ?_
    rw [List.append_nil]
    obtain⟨sa,u,x,x1,x2⟩:=own.z3 k3 p3
    obtain⟨e,y1,y2,y3,h0⟩:=x1
    refine UE hb k3 (fun q=>by simp [cC] at q) (fun q=>by simp [cC] at q) (fun q=>by simp [cC] at q) fun _=>⟨fun _=>⟨e,x,y1,by rw [y3];exact h0,by rw [y2,y3],?_⟩,fun q=>by simp [cC] at q⟩
    show x.dK=ZZ s.aA.Mem.aE j.H
    rw [aL4 hs h hep hw hj hb sa h0,x2]
  rw [if_neg p3]
  by_cases p4:j.Pc=4
  · rw [if_pos p4]
    have q:Qt s.aA ⟨s.aA.Mem,s.aA.aC,s.aA.aM,Z0 s.aA.mP w⟩ (aK s) w (cC j 9 j.Code):=⟨rfl,rfl,Int.le_refl _,fun _ _ _ p=>⟨p,rfl⟩,fun v hv hn=>a1F hz hw hv hn,nm0 _ rfl,fun k p=>by omega,fun _ _ _ _ _=>QN (by simp only [cC];omega)⟩
    refine h.quiet hs.1 hep hw q hB (by exact(congrArg bD.aI hj).symm) (.inl rfl) ?_
    rw [List.append_nil]
    exact UE hb k3 (fun q=>by simp [cC] at q) (fun q=>by simp [cC] at q) (fun q=>by simp [cC] at q) fun _=>own.t (.inr (.inl k3)) (.inr p4)
  rw [if_neg p4]
  refine h.quiet hs.1 hep hw (by exact q0 _ rfl) hB (by exact(congrArg bD.aI hj).symm) (.inl rfl) ?_
  exact UE hb k3 (fun q=>by simp [cC] at q) (fun q=>by simp [cC] at q) (fun q=>by simp [cC] at q) fun _=>Told.other (by simp [cC]) (by simp [cC])
end
end Go.Gv
end
noncomputable section
namespace Go.Gv
theorem map_inj{α:Type}{f:α→Int}:∀{l:List α},(l.map f).Nodup→∀x∈l,∀y∈l,f x=f y→x=y
  | [],_,x,hx,_,_,_=>by cases hx
  | a :: t, h, x, hx, y, hy, e => by
    rw [List.map_cons,List.nodup_cons] at h
    rcases List.mem_cons.1 hx with ex | hx
    · rcases List.mem_cons.1 hy with ey | hy
      · rw [ex,ey]
      · exact absurd (List.mem_map.2 ⟨y,hy,by rw [←e,ex]⟩) h.1
    · rcases List.mem_cons.1 hy with ey | hy
      · exact absurd (List.mem_map.2 ⟨x,hx,by rw [e,ey]⟩) h.1
      · exact map_inj h.2 x hx y hy e
theorem aHD{l:List bB}(h3:l.length=3){w v:Int}(hw:0≤w∧w≤2)(hv:0≤v∧v≤2)(hn:v≠w)(x:bB):cX (l.set w.toNat x) v=cX l v:=by
  unfold cX
  simp only [List.getD_eq_getElem?_getD,List.getElem?_set]
  rw [if_neg (by omega)]
theorem aYP{l:List bB}(hl:pM l){w:Int}(hw:0≤w∧w≤2){x r:dO}:r∈bH (l.set w.toNat ⟨cX l w ++ [x]⟩)↔r∈bH l∨r=x:=by
  have h3:=hl.1
  have kx:w.toNat < l.length:=by omega
  have hrow:l[w.toNat].Rows=cX l w:=by
    have:=FR hl hw
    rw [fL hw.1 (by omega)] at this
    injection this with this
    rw [this]
  rw [FO kx,CK kx,hrow]
  simp only [List.mem_append,List.mem_singleton]
  constructor
  · rintro(a | (a | a) | a)
    · exact .inl (.inl a)
    · exact .inl (.inr (.inl a))
    · exact .inr a
    · exact .inl (.inr (.inr a))
  · rintro((a | a | a) | a)
    · exact .inl a
    · exact .inr (.inl (.inl a))
    · exact .inr (.inr a)
    · exact .inr (.inl (.inr a))
noncomputable section
variable {s:aB} (hs:mY s) {n:Int} (h:Sv s.aA s.Cells (aK s) s.Log n) (hep:Ep s.aA.aC (aK s)) {w:Int} (hw:0≤w∧w≤2) {j:bD} (hj:aK s w=j) (hb:j.cY=true) (hjk:jY j.Op∧dC j.H∧dC j.Old)
include hs h hep hw hj hb
theorem aOR{b':aA}(hl:b'.aM=s.aA.aM){j':bD}(h3:(aK s w).Pc≠3∨(aK s w).Op.Kind≠1){e H:Int}(sa:rR s.aA s.Cells (aK s) e H):rR b' s.Cells (MJ (aK s) w j') e H:=by
  rcases sa with sa | ⟨v,hv,k1,p3,o⟩ | sa
  · exact .inl sa
  · have z:v≠w:=fun z=>by subst z;omega
    exact .inr (.inl ⟨v,hv,by rw [eN _ _ z];exact⟨k1,p3,o⟩⟩)
  · rw [←hl] at sa;exact .inr (.inr sa)
theorem aL5{j':bD}(hk:j'.Op.Kind≠4){v H:Int}(u:QJ (aK s) v H):QJ (MJ (aK s) w j') v H:=fun a ha=>by
  by_cases z:a=w
  · subst z;rw [dZ];exact QN hk
  · rw [eN _ _ z];exact u a ha
include hjk
theorem a4U(k1:j.Op.Kind=1):Sv (EW s w j).b (EW s w j).c (MJ (aK s) w (EW s w j).j) (s.Log++(EW s w j).l) n:=by
  have hB:(aK s w).cY=true:=by rw [hj];exact hb
  have hc:=hs.1.1.2.1
  have hm:=hs.1.1.1
  have own:=h.jv w hw
  have cell:=hjk.1.2.2.1
  have hcv:=h.cv j.Op.Cell cell
  have hval:0≤j.Op.dK∧j.Op.dK≤65535:=by have:=hjk.1.2.2.2;rw [if_pos k1] at this;exact this.2
  have sn:=h.se.2.1 w hw hB
  rw [hj] at own sn
  have rn:=own.n hb (by unfold Reads;omega)
  have i4:(w+2:Int) ≥ 0∧w+2≤4:=by omega
  unfold EW
  by_cases p0:j.Pc=0
  · rw [if_pos p0]
    obtain⟨sk,sd,sp⟩:=own.s0 k1 p0
    obtain⟨e1,e2,e3,e4⟩:=a1D hm hw sk sd sp
    have eb:(d7 s.aA w j.Sub).1=⟨(d7 s.aA w j.Sub).1.Mem,s.aA.aC,s.aA.aM,s.aA.mP⟩:=by rw [←e1,←e2,←e3]
    have n0:JY (aK s w)=0:=by rw [hj];exact aAQ (by omega) (by omega) (by omega)
    have nk:(aK s w).Op.Kind≠1∨(aK s w).Pc≠3:=.inr (by rw [hj];omega)
    generalize hr:d7 s.aA w j.Sub=r at e1 e2 e3 e4 eb
    rcases e4 with ⟨m0,m1⟩ | ⟨d,c0,hn,lv,tk⟩
    · rw [m0] at eb
      have eb':r.1=s.aA:=by rw [eb]
      have q:=fun(j':bD) (hk:j'.Op.Kind=j.Op.Kind) (hp:j'.Pc=0∨j'.Pc=9)=>UH (b:=s.aA) (J:=aK s) (w:=w) (j':=j') (by rw [n0,aAQ (by omega) (by omega) (by omega)]) nk (.inl (by omega))
      rcases m1 with ⟨d,c0⟩ | ⟨d,m1⟩
      · rw [if_pos d,if_pos c0,eb']
        refine h.quiet hs.1 hep hw (by exact q _ rfl (.inr rfl)) hB (by exact(congrArg bD.aI hj).symm) (.inl rfl) ?_
        rw [List.append_nil]
        exact UF hb k1 (fun q=>by simp [cC] at q) (fun q=>by simp [cC] at q) (fun q=>by simp [cC] at q) (fun q=>by simp [cC] at q) rn
      · rw [d,if_neg (by simp),eb']
        refine h.quiet hs.1 hep hw (by exact q _ rfl (.inl p0)) hB (by rw [hj]) (.inl rfl) ?_
        rw [List.append_nil]
        exact UF hb k1 (fun _=>⟨m1.1,d,m1.2⟩) (fun q=>by simp only at q;omega) (fun q=>by simp only at q;omega) (fun q=>by simp only at q;omega) rn
    · rw [if_pos d,if_neg (by omega),if_pos hn,List.append_nil]
      have h0:r.2.Out≠0:=by unfold j7 at hn;omega
      have nj:JY (cC {j with Sub:=r.2,H:=r.2.Out} 1 0)=r.2.Out:=a1E k1 (.inl rfl)
      have dat:∀H,g9 s.aA.Mem H→vP r.1.Mem.aE (H % 32)=vP s.aA.Mem.aE (H % 32):=fun H hl=>(tk.same _ hl.2.1).2
      refine h.make hs.1 hep hw ?_ (fun k hk=>?_) (fun v hv hn=>⟨by rw [e1];exact Int.le_refl _,by rw [e2],fun p=>by rw [e1] at p ⊢;exact⟨p,rfl⟩,by rw [e3],fun e H _ _ _ sa=>aOR hs h hep hw hj hb e2 nk.symm sa,fun _ u=>aL5 hs h hep hw hj hb (by simp only [cC];omega) u,fun e H sa hH=>dat H (sa.live hs.1 h.ow hH),fun hH=>?_⟩) ?_ (fun _ _=>rfl) h.tr h.se.1 (Int.le_refl _) fun _=>⟨sn,.inl ⟨by rw [hj];rfl,hB⟩⟩
      · refine h.ow.a8D hs.1 e2 tk lv (i:=w+2) ⟨by omega,by omega⟩ (by rw [f8 _ _ hw,n0]) (by rw [f8 _ _ hw,dZ,nj]) fun i hi q=>HN hw hi q fun _ _ _=>rfl
      · refine⟨(h.cv k hk).1,fun q=>?_⟩
        have l:=(h.ow.live k (by omega) (by rw [mT _ _ hk];exact q)).1
        rw [mT _ _ hk] at l
        rw [dat _ l];exact(h.cv k hk).2 q
      · have l:=(h.ow.live (v+2) (by omega) (by rw [f8 _ _ hv];exact hH)).1
        rw [f8 _ _ hv] at l
        exact dat _ l
      · exact UF hb k1 (fun q=>by simp [cC] at q) (fun _=>h0) (fun q=>by simp [cC] at q) (fun q=>by simp [cC] at q) rn
  rw [if_neg p0]
  by_cases p1:j.Pc=1
  · rw [if_pos p1]
    have nk:(aK s w).Op.Kind≠1∨(aK s w).Pc≠3:=.inr (by rw [hj];omega)
    have hH:=own.s1 k1 (.inl p1)
    have nw:JY (aK s w)=j.H:=by rw [hj];exact a1E k1 (.inl p1)
    have lv:=(h.ow.live (w+2) (by omega) (by rw [f8 _ _ hw,nw];exact hH)).1
    rw [f8 _ _ hw,nw] at lv
    obtain⟨c0,st⟩:=aOO hm lv hval
    rw [c0,if_pos rfl,List.append_nil]
    have nj:JY (cC j 2 0)=j.H:=a1E (j:=cC j 2 0) k1 (.inr rfl)
    have dat:∀H,g9 s.aA.Mem H→H % 32≠j.H % 32→vP (xD s.aA.Mem j.H j.Op.dK).1.aE (H % 32)=vP s.aA.Mem.aE (H % 32):=fun H hl q=>by rw [st.dat _ (iA hl.2.1),if_neg q]
    have gen:∀H,g9 s.aA.Mem H→iI (xD s.aA.Mem j.H j.Op.dK).1.aE (H % 32)=iI s.aA.Mem.aE (H % 32):=fun H hl=>st.gen _ (iA hl.2.1)
    have ap:∀i,0≤i∧i≤4→i≠w+2→nm s.Cells (aK s) i≠0→nm s.Cells (aK s) i % 32≠j.H % 32:=fun i hi q hn e=>by
      have l:=(h.ow.live i hi hn).1
      have:=aGI l lv e
      exact q (h.ow.once i (w+2) hi (by omega) hn (by rw [f8 _ _ hw,nw];exact this))
    refine h.make hs.1 hep hw ?_ (fun k hk=>?_) (fun v hv hn=>⟨Int.le_refl _,rfl,fun p=>⟨p,rfl⟩,rfl,fun e H _ _ _ sa=>aOR hs h hep hw hj hb rfl nk.symm sa,fun _ u=>aL5 hs h hep hw hj hb (by simp only [cC];omega) u,fun e H sa hH'=>?_,fun hH'=>?_⟩) ?_ (fun _ _=>rfl) h.tr h.se.1 (Int.le_refl _) fun _=>⟨sn,.inl ⟨by rw [hj];rfl,hB⟩⟩
    · have he:∀i,0≤i∧i≤4→nm s.Cells (MJ (aK s) w (cC j 2 0)) i=nm s.Cells (aK s) i:=fun i hi=>by
        by_cases z:i=w+2
        · subst z;rw [f8 _ _ hw,f8 _ _ hw,dZ,nj,nw]
        · exact HN hw hi z fun _ _ _=>rfl
      refine⟨fun i hi hn=>?_,fun i k hi hk hn e=>?_,fun t ht hh=>?_⟩
      · rw [he i hi] at hn ⊢
        obtain⟨a,b⟩:=h.ow.live i hi hn
        exact⟨⟨a.1,by rw [st.state];exact a.2.1,by rw [gen _ a];exact a.2.2⟩,b⟩
      · rw [he i hi] at hn
        rw [he i hi,he k hk] at e
        exact h.ow.once i k hi hk hn e
      · rw [st.state] at ht
        obtain⟨i,a,b,c⟩:=h.ow.all t ht hh
        exact⟨i,a,by rw [he i a];exact b,by rw [he i a];exact c⟩
    · refine⟨(h.cv k hk).1,fun q=>?_⟩
      have hn:nm s.Cells (aK s) k≠0:=by rw [mT _ _ hk];exact q
      have l:=(h.ow.live k (by omega) hn).1
      have a:=ap k (by omega) (by omega) hn
      rw [mT _ _ hk] at l a
      show vP (xD s.aA.Mem j.H j.Op.dK).1.aE _=_
      rw [dat _ l a];exact(h.cv k hk).2 q
    · have l:=sa.live hs.1 h.ow hH'
      have a:=sa.apart hs.1 h.ow hH' hw (by rw [hj];exact k1) (by rw [hj];exact .inl p1) (by rw [hj];exact hH)
      rw [hj] at a
      exact dat _ l a
    · have hn':nm s.Cells (aK s) (v+2)≠0:=by rw [f8 _ _ hv];exact hH'
      have l:=(h.ow.live (v+2) (by omega) hn').1
      have a:=ap (v+2) (by omega) (by omega) hn'
      rw [f8 _ _ hv] at l a
      exact dat _ l a
    · refine UF hb k1 (fun q=>by simp [cC] at q) (fun _=>hH) (fun _=>?_) (fun q=>by simp [cC] at q) rn
      show vP (xD s.aA.Mem j.H j.Op.dK).1.aE (j.H % 32)=j.Op.dK
      rw [st.dat _ (iA lv.2.1),if_pos rfl]
  rw [if_neg p1]
  by_cases p2:j.Pc=2
  · rw [if_pos p2]
    have hH:=own.s1 k1 (.inr p2)
    have nw:JY (aK s w)=j.H:=by rw [hj];exact a1E k1 (.inr p2)
    have c2:=hs.2.1
    have cs:=fun i (hi:0≤i∧i≤1)=>aQV (c:=s.Cells) c2 cell hi j.H
    have je:∃j',(if cellAt s.Cells j.Op.Cell=0 then cC {j with Old:=0} 9 0 else cC {j with Sub:=vO 2 (cellAt s.Cells j.Op.Cell),Old:=cellAt s.Cells j.Op.Cell} 3 0)=j'∧JY j'=cellAt s.Cells j.Op.Cell∧j'.Op=j.Op∧j'.aI=j.aI∧j'.cY=true∧(cellAt s.Cells j.Op.Cell≠0→j'.Pc=3∧j'.Old=cellAt s.Cells j.Op.Cell∧j'.Sub.Pc=0) ∧
        ((cellAt s.Cells j.Op.Cell=0∧j'.Pc=9)∨j'.Pc=3∧j'.Old≠0∧a4L s.aA j'.Old j'.Sub):=by
      by_cases c0:cellAt s.Cells j.Op.Cell=0
      · exact⟨cC {j with Old:=0} 9 0,by rw [if_pos c0],by rw [c0];exact aAQ (by simp [cC]) (by simp [cC]) (by simp [cC]),rfl,rfl,hb,fun z=>absurd c0 z,.inl ⟨c0,rfl⟩⟩
      · exact⟨cC {j with Sub:=vO 2 (cellAt s.Cells j.Op.Cell),Old:=cellAt s.Cells j.Op.Cell} 3 0,by rw [if_neg c0],nm3 k1 rfl,rfl,rfl,hb,fun _=>⟨rfl,rfl,rfl⟩,.inr ⟨rfl,c0,rfl,rfl,rfl,.inl rfl⟩⟩
    obtain⟨j',ej,nj,jo,jse,jb,j3,jc⟩:=je
    rw [ej]
    generalize hE:(⟨2,w,j.aI,j.Op.Cell,j.H,j.Op.dK,0⟩:Ev)=E
    have eK:E.Kind=2:=by rw [←hE]
    have eC:E.Cell=j.Op.Cell:=by rw [←hE]
    have eH:E.Handle=j.H:=by rw [←hE]
    have eV:E.dK=j.Op.dK:=by rw [←hE]
    have eS:E.aI=j.aI:=by rw [←hE]
    have sE:∀k,R6 (s.Log ++ [E]) k=if k=j.Op.Cell then E else R6 s.Log k:=fun k=>by
      rw [MN,eK,eC]
      by_cases z:k=j.Op.Cell
      · rw [if_pos ⟨rfl,z.symm⟩,if_pos z]
      · rw [if_neg (fun q=>z q.2.symm),if_neg z]
    have rE:∀m,YO (s.Log ++ [E]) m=YO s.Log m:=fun m=>by rw [MO,if_neg (fun z=>by have:=z.1;omega)]
    have safe:∀e H,H≠0→rR s.aA s.Cells (aK s) e H→rR s.aA (s.Cells.set j.Op.Cell.toNat j.H) (MJ (aK s) w j') e H:=fun e H h0 sa=>by
      rcases sa with ⟨k,hk,q⟩ | ⟨v,hv,v1,v2,v3⟩ | sa
      · by_cases z:k=j.Op.Cell
        · subst z
          obtain⟨a1,a2,a3⟩:=j3 (by rw [q];exact h0)
          exact .inr (.inl ⟨w,hw,by rw [dZ,jo];exact⟨k1,a1,by rw [a2,q],.inl a3⟩⟩)
        · exact .inl ⟨k,hk,by rw [cs k hk,if_neg z];exact q⟩
      · have z:v≠w:=fun z=>by subst z;rw [hj] at v2;omega
        exact .inr (.inl ⟨v,hv,by rw [eN _ _ z];exact⟨v1,v2,v3⟩⟩)
      · exact .inr (.inr sa)
    show Sv s.aA (s.Cells.set j.Op.Cell.toNat j.H) (MJ (aK s) w j') (s.Log ++ [E]) n
    refine h.make hs.1 hep hw ?_ (fun k hk=>?_) (fun v hv hn=>⟨Int.le_refl _,rfl,fun p=>⟨p,rfl⟩,rfl,fun e H h0 _ _ sa=>safe e H h0 sa,fun _ u=>aL5 hs h hep hw hj hb (by rw [jo];omega) u,fun _ _ _ _=>rfl,fun _=>rfl⟩) ?_ (fun m _=>rE m) (h.tr.snoc fun z=>by omega) (fun e he=>?_) (Int.le_refl _) fun _=>⟨by rw [jse];exact sn,.inl ⟨by rw [hj];exact jse,hB⟩⟩
    · refine h.ow.perm rfl rfl (fun i=>if i=j.Op.Cell then w+2 else if i=w+2 then j.Op.Cell else i) (fun i hi=>?_) (fun i=>?_) (fun i hi=>?_)
      · (try simp only);split <;> (try split) <;> omega
      · by_cases a:i=j.Op.Cell
        · simp only [if_pos a,if_neg (show ¬w+2=j.Op.Cell by omega),if_true];omega
        · by_cases b:i=w+2
          · simp only [if_neg a,if_pos b,if_true];omega
          · simp only [if_neg a,if_neg b]
      · (try simp only)
        by_cases a:i=j.Op.Cell
        · rw [if_pos a,a,mT _ _ cell,cs _ cell,if_pos rfl,f8 _ _ hw,nw]
        · rw [if_neg a]
          by_cases b:i=w+2
          · rw [if_pos b,b,f8 _ _ hw,dZ,nj,mT _ _ cell]
          · rw [if_neg b]
            exact HN hw hi b fun k hk e=>by rw [cs k hk,if_neg (by omega)]
    · rw [sE k,cs k hk]
      by_cases z:k=j.Op.Cell
      · simp only [if_pos z]
        exact⟨eH,fun _=>by rw [eV];exact own.s2 k1 p2⟩
      · simp only [if_neg z];exact h.cv k hk
    · rw [rE,jse]
      have p93:j'.Pc=9∨j'.Pc=3:=jc.imp And.right And.left
      refine UF jb (by rw [jo];exact k1) (fun q=>by omega) (fun q=>by omega) (fun q=>by omega) (fun q=>?_) rn
      rcases jc with ⟨_,z⟩ | ⟨_,z⟩
      · omega
      · exact z
    · rcases List.mem_append.1 he with z | z
      · exact h.se.1 e z
      · rw [List.mem_singleton.1 z,eS];exact sn
  rw [if_neg p2]
  by_cases p3:j.Pc=3
  · rw [if_pos p3]
    obtain⟨o0,sk,sd,sa,sp⟩:=own.s3 k1 p3
    have es:d7 s.aA w j.Sub=GW s.aA w j.Sub:=by unfold d7;simp [sk,sd]
    have nw:JY (aK s w)=j.Old:=by rw [hj];exact nm3 k1 p3
    have lo:=h.ow.live (w+2) (by omega) (by rw [f8 _ _ hw,nw];exact o0)
    rw [f8 _ _ hw,nw] at lo
    rw [es]
    unfold GW
    rcases sp with sp | ⟨sp,se0,se1⟩
    · simp only [if_pos sp,sd,aP,if_false]
      have q:Qt s.aA s.aA (aK s) w {j with Sub:={j.Sub with Pc:=1,E:=s.aA.aC.aJ,cW:=false}}:=⟨rfl,rfl,Int.le_refl _,fun _ _ _ p=>⟨p,rfl⟩,fun _ _ _=>rfl,(by rw [nw];exact nm3 (j:={j with Sub:={j.Sub with Pc:=1,E:=s.aA.aC.aJ,cW:=false}}) k1 p3),fun _ _=>⟨k1,p3,by rw [hj],.inr (.inr (Int.le_refl _))⟩,fun _ _ _ _ _=>QN (by simp only;omega)⟩
      refine h.quiet hs.1 hep hw q hB (by rw [hj]) (.inl rfl) ?_
      rw [List.append_nil]
      exact UF hb k1 (fun q=>by simp only at q;omega) (fun q=>by simp only at q;omega) (fun q=>by simp only at q;omega) (fun _=>⟨o0,sk,rfl,sa,.inr ⟨rfl,hc.1.1,Int.le_refl _⟩⟩) rn
    · have hcond:g9 s.aA.Mem j.Sub.A∧¬E5 s.aA.aM (j.Sub.A % 32):=by rw [sa];exact lo
      simp only [if_neg (show ¬j.Sub.Pc=0 by omega),if_pos sp,if_pos (show 0≤j.Sub.E∧j.Sub.E≤s.aA.aC.aJ from ⟨se0,se1⟩),if_pos hcond,pO,if_true,List.append_nil]
      have hL:=hs.1.1.2.2.1
      have fa:=fun r=>aYP (l:=s.aA.aM) hL hw (x:=⟨j.Sub.A,j.Sub.E⟩) (r:=r)
      have n9:∀sub,JY (cC {j with Sub:=sub} 9 0)=0:=fun sub=>aAQ (by simp [cC]) (by simp [cC]) (by simp [cC])
      have ro:=fun v (hv:0≤v∧v≤2) hn=>aHD hL.1 hw hv hn ⟨cX s.aA.aM w ++ [⟨j.Sub.A,j.Sub.E⟩]⟩
      generalize hN:s.aA.aM.set w.toNat ⟨cX s.aA.aM w ++ [⟨j.Sub.A,j.Sub.E⟩]⟩=NL at fa ro
      refine h.make hs.1 hep hw ?_ (fun k hk=>h.cv k hk) (fun v hv hn=>⟨Int.le_refl _,ro v hv hn,fun p=>⟨p,rfl⟩,rfl,fun e H h0 _ _ x=>?_,fun _ u=>aL5 hs h hep hw hj hb (by simp only [cC];omega) u,fun _ _ _ _=>rfl,fun _=>rfl⟩) ?_ (fun _ _=>rfl) h.tr h.se.1 (Int.le_refl _) fun _=>⟨sn,.inl ⟨by rw [hj];rfl,hB⟩⟩
      · refine h.ow.retired rfl (i:=w+2) ⟨by omega,by omega⟩ (by rw [f8 _ _ hw,nw];exact o0) (fun t=>?_) (by rw [f8 _ _ hw,dZ,n9]) fun i hi q=>HN hw hi q fun _ _ _=>rfl
        rw [f8 _ _ hw,nw]
        unfold E5
        constructor
        · rintro⟨r,r1,r2,r3⟩
          rcases(fa r).1 r1 with z | z
          · exact .inl ⟨r,z,r2,r3⟩
          · right;rw [←r3,z,sa]
        · rintro(⟨r,r1,r2,r3⟩ | z)
          · exact⟨r,(fa r).2 (.inl r1),r2,r3⟩
          · exact⟨_,(fa _).2 (.inr rfl),by simp only;rw [sa];exact lo.1.1,by simp only;rw [sa,z]⟩
      · rcases x with x | ⟨u,hu,u1,u2,u3,u4⟩ | ⟨r,r1,r2⟩
        · exact .inl x
        · by_cases z:u=w
          · subst z
            rw [hj] at u3 u4
            exact .inr (.inr ⟨_,(fa _).2 (.inr rfl),by simp only;rw [sa];exact u3,by simp only;omega⟩)
          · exact .inr (.inl ⟨u,hu,by rw [eN _ _ z];exact⟨u1,u2,u3,u4⟩⟩)
        · exact .inr (.inr ⟨r,(fa r).2 (.inl r1),r2⟩)
      · exact UF hb k1 (fun q=>by simp [cC] at q) (fun q=>by simp [cC] at q) (fun q=>by simp [cC] at q) (fun q=>by simp [cC] at q) rn
  rw [if_neg p3]
  refine h.quiet hs.1 hep hw (UH (by rw [hj,aAQ p1 p2 p3,aAQ (by simp [cC]) (by simp [cC]) (by simp [cC])]) (.inr (by rw [hj];exact p3)) (.inl (by simp only [cC];omega))) hB (by exact(congrArg bD.aI hj).symm) (.inl rfl) ?_
  rw [List.append_nil]
  exact UF hb k1 (fun q=>by simp [cC] at q) (fun q=>by simp [cC] at q) (fun q=>by simp [cC] at q) (fun q=>by simp [cC] at q) rn
end
end Go.Gv
end
noncomputable section
namespace Go.Gv
theorem a1H{b:aA}(hb:mR b){w:Int}(hw:0≤w∧w≤2){k:Int}(hk:0≤k∧k < (cX b.aM w).length):a75 b w (b.aM.set w.toNat ⟨(cX b.aM w).eraseIdx k.toNat⟩) (H6 (cX b.aM w) k):=by
  have hL:=hb.1.2.2.1
  have h3:=hL.1
  have kx:w.toNat < b.aM.length:=by omega
  have hm:=aF9 (l:=cX b.aM w) hk
  have hf:=T0 hL hw hm
  have hjl:k.toNat < (cX b.aM w).length:=by omega
  have er:H6 (cX b.aM w) k=(cX b.aM w)[k.toNat]:=by
    have:=aON (l:=cX b.aM w) hjl
    rw [show((k.toNat:Nat):Int)=k by omega] at this
    exact this
  have hrow:b.aM[w.toNat].Rows=cX b.aM w:=by
    have:=FR hL hw
    rw [fL hw.1 (by omega)] at this
    injection this with this
    rw [this]
  have hperm:=aF4 hjl
  have hset:bH (b.aM.set w.toNat ⟨(cX b.aM w).eraseIdx k.toNat⟩)=bH (b.aM.take w.toNat)++((cX b.aM w).eraseIdx k.toNat++bH (b.aM.drop (w.toNat+1))):=FO kx _
  have hspl:bH b.aM=bH (b.aM.take w.toNat)++(cX b.aM w++bH (b.aM.drop (w.toNat+1))):=by rw [CK kx,hrow]
  have hp:(bH b.aM).Perm (H6 (cX b.aM w) k :: bH (b.aM.set w.toNat ⟨(cX b.aM w).eraseIdx k.toNat⟩)):=by
    rw [hspl,hset,er]
    have e1:=(hperm.append_right (bH (b.aM.drop (w.toNat+1)))).append_left (bH (b.aM.take w.toNat))
    refine e1.trans ?_
    rw [List.cons_append]
    exact List.perm_middle
  have nd:=hL.2.2.2
  have nd2:=(hp.map lQ).nodup_iff.1 nd
  rw [List.map_cons,List.nodup_cons] at nd2
  refine⟨hf,(hb.2 _ hf).1,fun x hx hn=>?_,fun x hx=>⟨hp.mem_iff.2 (List.mem_cons_of_mem _ hx),fun e=>?_⟩,fun x hx e=>?_,fun v hv hn=>aHD h3 hw hv hn _⟩
  · rcases List.mem_cons.1 (hp.mem_iff.1 hx) with z | z
    · exact absurd (by rw [z]) hn
    · exact z
  · exact nd2.1 (List.mem_map.2 ⟨x,hx,by unfold lQ;rw [e]⟩)
  · exact map_inj nd x hx _ hf (by unfold lQ;rw [e])
noncomputable section
variable {s:aB} (hs:mY s) {n:Int} (h:Sv s.aA s.Cells (aK s) s.Log n) (hep:Ep s.aA.aC (aK s)) {w:Int} (hw:0≤w∧w≤2) {j:bD} (hj:aK s w=j) (hb:j.cY=true) (hjk:jY j.Op∧dC j.H∧dC j.Old)
include hs h hep hw hj hb
theorem aHE(k4:j.Op.Kind=4)(p1:j.Pc=1){j':bD}(jo:j'.Op=j.Op)(jse:j'.aI=j.aI)(jb:j'.cY=true)(jp:(lH s.aA w j.Sub).2.cW=true∧j'.Pc=9∨(lH s.aA w j.Sub).2.cW=false∧j'.Pc=1∧j'.Sub=(lH s.aA w j.Sub).2) :
    Sv (lH s.aA w j.Sub).1 s.Cells (MJ (aK s) w j') (s.Log ++ []) n:=by
  have hB:(aK s w).cY=true:=by rw [hj];exact hb
  have hL:=hs.1.1.2.2.1
  have own:=h.jv w hw
  rw [hj] at own
  have rn:=own.n hb (by unfold Reads;omega)
  obtain⟨sk,sd,ck⟩:=own.k k4 p1
  have nk:(aK s w).Op.Kind≠1∨(aK s w).Pc≠3:=.inl (by rw [hj];omega)
  have n0:JY (aK s w)=0:=yQ (by rw [hj];omega)
  have nj:JY j'=0:=yQ (by rw [jo];omega)
  have quiet:(lH s.aA w j.Sub).1=s.aA→(∀v,0≤v∧v≤2→∀H,rQ s.aA.mP v=H→UnJ j v H→j'.Pc=1→UnJ j' v H)→(j'.Pc=1→a4M s.aA.aC.aJ (cX s.aA.aM w) j'.Sub)→Sv (lH s.aA w j.Sub).1 s.Cells (MJ (aK s) w j') (s.Log ++ []) n:=fun eb hu hk=>by
    rw [eb]
    have q:Qt s.aA s.aA (aK s) w j':=⟨rfl,rfl,Int.le_refl _,fun _ _ _ p=>⟨p,rfl⟩,fun _ _ _=>rfl,by rw [nj,n0],fun k _=>by rw [hj] at k;omega,fun v hv H hz u=>by
      rw [hj] at u
      by_cases z:j'.Pc=1
      · exact hu v hv H hz u z
      · exact fun _ p=>absurd p z⟩
    refine h.quiet hs.1 hep hw q hB (by rw [hj];exact jse) (.inl rfl) ?_
    rw [List.append_nil,jse]
    exact UG jb (.inl (by rw [jo];exact k4)) (fun _ p=>hk p) rn
  have e0:=hep
  unfold lH at jp quiet ⊢
  rcases ck with q0 | ⟨eE,⟨q1,r0⟩ | ⟨q2,hB2,ha,hr⟩ | ⟨q3,ha,hr⟩⟩
  · simp only [if_pos q0] at jp quiet ⊢
    rcases jp with jp | ⟨jd,jp,js⟩
    · rw [sd] at jp;cases jp.1
    refine quiet trivial (fun v hv H hz u _ _ _ _=>?_) fun _=>?_
    · rw [js];exact⟨fun z=>by simp at z,by simp⟩
    · rw [js];exact⟨sk,sd,.inr ⟨Int.le_refl _,.inl ⟨rfl,by simp⟩⟩⟩
  · simp only [if_neg (show ¬j.Sub.Pc=0 by omega),if_pos q1] at jp quiet ⊢
    by_cases q:xC (cX s.aA.aM w) j.Sub.E j.Sub.Row.toNat < (cX s.aA.aM w).length
    · simp only [if_pos q] at jp quiet ⊢
      rcases jp with jp | ⟨jd,jp,js⟩
      · rw [sd] at jp;cases jp.1
      obtain⟨f1,f2⟩:=aF8 q
      refine quiet trivial (fun v hv H hz u _ _ _ _=>?_) fun _=>?_
      · rw [js];exact⟨fun _=>hv.1,by simp⟩
      · rw [js]
        refine⟨sk,sd,.inr ⟨eE,.inr (.inl ⟨rfl,by simp,⟨by simp only;omega,by simp only;omega,rfl⟩,?_⟩)⟩⟩
        simp only
        rw [aON q];exact f2
    · simp only [if_neg q] at jp quiet ⊢
      rcases jp with ⟨jd,jp⟩ | ⟨jd,jp,js⟩
      · exact quiet trivial (fun v hv H hz u p=>by omega) fun p=>by omega
      · cases jd
  · simp only [if_neg (show ¬j.Sub.Pc=0 by omega),if_neg (show ¬j.Sub.Pc=1 by omega),if_pos q2,if_pos (show(0≤j.Sub.B∧j.Sub.B≤2)∧HM (cX s.aA.aM w) j.Sub from ⟨hB2,ha⟩)] at jp quiet ⊢
    by_cases q:rQ s.aA.mP j.Sub.B=j.Sub.H
    · simp only [if_pos q] at jp quiet ⊢
      rcases jp with jp | ⟨jd,jp,js⟩
      · rw [sd] at jp;cases jp.1
      refine quiet trivial (fun v hv H hz u _ _ _ _=>?_) fun _=>?_
      · rw [js];exact⟨fun z=>by simp at z,by simp⟩
      · rw [js];exact⟨sk,sd,.inr ⟨eE,.inl ⟨rfl,by have:=ha.1;simp only;omega⟩⟩⟩
    · simp only [if_neg q] at jp quiet ⊢
      rcases jp with jp | ⟨jd,jp,js⟩
      · rw [sd] at jp;cases jp.1
      refine quiet trivial (fun v hv H hz u _ _ _ hH=>?_) fun _=>?_
      · rw [js] at hH ⊢
        simp only at hH ⊢
        obtain⟨u1,u2⟩:=u k4 p1 hH
        have u1:=u1 q2
        have ne:j.Sub.B≠v:=fun z=>q (by rw [z,hz,hH])
        refine⟨fun _=>by omega,?_⟩
        rw [if_neg (by omega)];omega
      · rw [js]
        refine⟨sk,sd,.inr ⟨eE,.inr ?_⟩⟩
        by_cases z:j.Sub.B=2
        · exact .inr ⟨by simp only [if_pos z],ha,hr⟩
        · exact .inl ⟨by simp only [if_neg z],by simp only;omega,ha,hr⟩
  · simp only [if_neg (show ¬j.Sub.Pc=0 by omega),if_neg (show ¬j.Sub.Pc=1 by omega),if_neg (show ¬j.Sub.Pc=2 by omega),if_pos q3,if_pos (show HM (cX s.aA.aM w) j.Sub∧EU (H6 (cX s.aA.aM w) j.Sub.Row) j.Sub.E from ⟨ha,hr⟩)] at jp ⊢
    rcases jp with jp | ⟨jd,jp,js⟩
    · rw [sd] at jp;cases jp.1
    obtain⟨a0,a1,a2⟩:=ha
    obtain⟨o1,o2,o3,o4,o5,o6⟩:=a1H hs.1 hw (k:=j.Sub.Row) ⟨a0,a1⟩
    rw [a2] at o2 o3 o4 o5
    generalize s.aA.aM.set w.toNat ⟨(cX s.aA.aM w).eraseIdx j.Sub.Row.toNat⟩=NL at o3 o4 o6
    obtain⟨f1,f2,f3,f4⟩:=aHA hs.1.1.1 hw o2
    have fs:=fun{t:Int} (ht:t≠j.Sub.H % 32)=>aQS hs.1.1.1 hw o2 ht
    have dat:∀H,g9 s.aA.Mem H→vP (EV s.aA.Mem w j.Sub.H).aE (H % 32)=vP s.aA.Mem.aE (H % 32):=fun H hl=>aYN hs.1.1.1 o2 (iA hl.2.1)
    have hheld:E5 s.aA.aM (j.Sub.H % 32):=⟨_,o1,by rw [a2];exact o2.1,by rw [a2]⟩
    have hrl:=fun(H:Int)=>(h.ow.live H)
    have ripe:(H6 (cX s.aA.aM w) j.Sub.Row).aJ≤j.Sub.E - 2:=by
      have:=hr.2
      have ec:=hs.1.1.2.1.1
      rw [aN (by have:=hr.1;omega) (by omega)] at this
      exact this
    have hln:∀t,t≠j.Sub.H % 32→(E5 NL t↔E5 s.aA.aM t):=fun t ht=>by
      constructor
      · rintro⟨r,r1,r2,r3⟩
        exact⟨r,(o4 r r1).1,r2,r3⟩
      · rintro⟨r,r1,r2,r3⟩
        exact⟨r,o3 r r1 (fun z=>ht (by rw [←r3,z])),r2,r3⟩
    rw [List.append_nil]
    have un':∀v,0≤v∧v≤2→∀H,QJ (aK s) v H→QJ (MJ (aK s) w j') v H:=fun v hv H u a ha'=>by
      by_cases z:a=w
      · subst z;rw [dZ]
        intro _ _ _
        rw [js];exact⟨fun z=>by simp at z,by simp⟩
      · rw [eN _ _ z];exact u a ha'
    refine h.make hs.1 hep hw ?_ (fun k hk=>?_) (fun v hv hn=>⟨Int.le_refl _,o6 v hv hn,fun p=>⟨p,rfl⟩,rfl,fun e H h0 _ hbl sa=>?_,fun _ u=>un' v hv _ u,fun e H sa hH'=>dat H (sa.live hs.1 h.ow hH'),fun hH'=>?_⟩) ?_ (fun _ _=>rfl) h.tr h.se.1 (Int.le_refl _) fun _=>⟨by rw [jse,←hj];exact h.se.2.1 w hw hB,.inl ⟨by rw [hj];exact jse,hB⟩⟩
    · refine h.ow.a6X (x:=j.Sub.H % 32) hheld f4 (fun t ht=>fs ht) (fun t ht h3=>by rw [f2 t (iA h3),if_neg ht]) hln fun i hi=>?_
      by_cases z:i=w+2
      · subst z;rw [f8 _ _ hw,f8 _ _ hw,dZ,nj,n0]
      · exact HN hw hi z fun _ _ _=>rfl
    · refine⟨(h.cv k hk).1,fun q=>?_⟩
      have l:=(h.ow.live k (by omega) (by rw [mT _ _ hk];exact q)).1
      rw [mT _ _ hk] at l
      show vP (EV s.aA.Mem w j.Sub.H).aE _=_
      rw [dat _ l];exact(h.cv k hk).2 q
    · rcases sa with sa | ⟨u,hu,u1,u2,u3⟩ | ⟨r,r1,r2,r3⟩
      · exact .inl sa
      · have z:u≠w:=fun z=>by subst z;rw [hj] at u1;omega
        exact .inr (.inl ⟨u,hu,by rw [eN _ _ z];exact⟨u1,u2,u3⟩⟩)
      · refine .inr (.inr ⟨r,o3 r r1 fun z=>?_,r2,r3⟩)
        rcases hbl with hbl | ⟨u,hu,un⟩
        · have er:=o5 r r1 z
          rw [er] at r3
          omega
        · have:=un w hw
          rw [hj] at this
          exact(this k4 p1 (by rw [←z];exact r2)).2 q3
    · have l:=(h.ow.live (v+2) (by omega) (by rw [f8 _ _ hv];exact hH')).1
      rw [f8 _ _ hv] at l
      exact dat _ l
    · rw [jse]
      refine UG jb (.inl (by rw [jo];exact k4)) (fun _ _=>?_) rn
      rw [js]
      exact⟨sk,sd,.inr ⟨eE,.inl ⟨rfl,a0⟩⟩⟩
include hjk
theorem aYQ(k:j.Op.Kind=4∨j.Op.Kind=5∨j.Op.Kind=6):Sv (uU s w j).b (uU s w j).c (MJ (aK s) w (uU s w j).j) (s.Log++(uU s w j).l) n:=by
  have hB:(aK s w).cY=true:=by rw [hj];exact hb
  have hc:=hs.1.1.2.1
  have own:=h.jv w hw
  have nk:(aK s w).Op.Kind≠1∨(aK s w).Pc≠3:=.inl (by rw [hj];omega)
  have nm0:∀j':bD,j'.Op.Kind=j.Op.Kind→JY j'=JY (aK s w):=fun j' q=>by rw [yQ (by omega),yQ (by rw [hj];omega)]
  rw [hj] at own
  have rn:=own.n hb (by unfold Reads;omega)
  have bad:Sv s.aA s.Cells (MJ (aK s) w (cC j 9 1)) (s.Log ++ []) n:=by
    refine h.quiet hs.1 hep hw (UH (j':=cC j 9 1) (nm0 _ rfl) nk (.inr (by simp [cC]))) hB (by exact(congrArg bD.aI hj).symm) (.inl rfl) ?_
    rw [List.append_nil]
    exact UG hb k (fun _ q=>by simp [cC] at q) rn
  unfold uU
  by_cases k6:j.Op.Kind=6
  · rw [if_pos k6]
    by_cases p0:j.Pc=0
    · rw [if_pos p0]
      obtain⟨u1,u2⟩:=aSM hc hw
      refine h.quiet hs.1 hep hw (UI (by omega) (fun v hv hn p=>YX (u2 v hv hn) p) (nm0 (cC j 9 _) rfl) nk (.inr (.inl (by simp [cC])))) hB (by exact(congrArg bD.aI hj).symm) (.inl rfl) ?_
      rw [List.append_nil]
      exact UG hb k (fun _ q=>by simp [cC] at q) rn
    · rw [if_neg p0];exact bad
  rw [if_neg k6]
  by_cases k5:j.Op.Kind=5
  · by_cases p0:j.Pc=0
    · rw [if_pos (.inl p0)]
      obtain⟨_,_,_,i4⟩:=hep.1 w hw hB
      rw [hj] at i4
      obtain⟨sk,sd,_⟩:=i4 ⟨hb,.inr k5,p0⟩
      have es:d7 s.aA w j.Sub=TY s.aA w j.Sub:=by unfold d7;simp [sk,sd]
      rw [es]
      obtain⟨cl,e1,e2,e3⟩:=aYO hc hw j.Sub
      simp only [e1,if_pos k5]
      refine h.quiet hs.1 hep hw (UI (by omega) (fun v hv hn p=>YX (e3 v hv hn) p) (nm0 _ (by split <;> rfl)) nk (.inl (by split <;> (simp only [cC];omega)))) hB (by rw [hj];split <;> rfl) (.inl rfl) ?_
      rw [List.append_nil]
      split
      · exact UG hb k (fun _ q=>by simp [cC] at q) rn
      · exact UG hb k (fun _ q=>by simp only at q;omega) rn
    · rw [if_neg (fun q=>q.elim p0 fun q=>q.2 k5)];exact bad
  have k4:j.Op.Kind=4:=by omega
  by_cases p0:j.Pc=0
  · rw [if_pos (.inl p0)]
    obtain⟨_,_,i3,_⟩:=hep.1 w hw hB
    rw [hj] at i3
    obtain⟨sk,sd,_⟩:=i3 ⟨hb,k4,p0⟩
    have es:d7 s.aA w j.Sub=lG s.aA j.Sub:=by unfold d7;simp [sk,sd]
    rw [es]
    obtain⟨cl,e1,e2,e3⟩:=aQU hc j.Sub
    simp only [e1,if_neg k5,if_pos p0]
    refine h.quiet hs.1 hep hw (UI e2 (fun v hv hn p=>e3 v hv p) (nm0 _ (by split <;> rfl)) nk ?_) hB (by rw [hj];split <;> rfl) (.inl rfl) ?_
    · split
      · exact .inr (.inr rfl)
      · exact .inr (.inl (by simp only;omega))
    rw [List.append_nil]
    split
    · exact UG hb k (fun _ _=>⟨rfl,rfl,.inl rfl⟩) rn
    · exact UG hb k (fun _ q=>by simp only at q;omega) rn
  by_cases p1:j.Pc=1
  · rw [if_pos (.inr ⟨p1,k5⟩)]
    obtain⟨sk,sd,_⟩:=own.k k4 p1
    have es:d7 s.aA w j.Sub=lH s.aA w j.Sub:=by unfold d7;simp [sk,sd]
    rw [es]
    simp only [if_neg k5,if_neg p0]
    cases hd:(lH s.aA w j.Sub).2.cW with
    | true=>rw [if_pos rfl];exact aHE hs h hep hw hj hb k4 p1 rfl rfl hb (.inl ⟨hd,rfl⟩)
    | false=>rw [if_neg (by simp)];exact aHE hs h hep hw hj hb k4 p1 rfl rfl hb (.inr ⟨hd,p1,rfl⟩)
  · rw [if_neg (fun q=>q.elim p0 fun q=>p1 q.1)];exact bad
end
theorem a2T{b:aA}{c:List Int}{J:Int→bD}{o:Option (Ev×Ev)}{v:Int}:Jv b c J o v kD:=by
  have k:kD.Op.Kind=0:=rfl
  have bb:kD.cY=false:=rfl
  refine⟨fun _=>k,?_,?_,?_,?_,?_,?_,?_,?_,?_,?_,?_⟩
  · intro q;omega
  · intro q;omega
  · intro q;omega
  · intro q;omega
  · intro q;omega
  · intro q;rcases q with q | q <;> omega
  · intro q;omega
  · intro q;omega
  · intro q;omega
  · intro q;unfold Reads at q;omega
  · intro q;rw [bb] at q;cases q
theorem a1I{s:aB}(hs:mY s){w:Int}(hw:0≤w∧w≤2)(hep:Ep s.aA.aC (aK s))(h:Sv s.aA s.Cells (aK s) s.Log s.aI):Sv (iO s w).aA (iO s w).Cells (aK (iO s w)) (iO s w).Log (iO s w).aI:=by
  have h3:=hs.2.2.1
  have hjk:JOk (aK s w):=by
    have h:=uN hs hw
    rw [fL hw.1 (by omega)] at h
    injection h with h
    rw [←h];exact hs.2.2.2.2.2.2 _ (List.getElem_mem _)
  have close:∀{b:aA} {c:List Int} {j':bD} {t:List Queue} {L:List Ev} {m:Int},Sv b c (MJ (aK s) w j') L m→Sv b c (aK ⟨b,c,s.aT.set w.toNat j',t,L,m⟩) L m:=fun{b c j' t L m} x=>by
    have e:∀v,0≤v∧v≤2→aK ⟨b,c,s.aT.set w.toNat j',t,L,m⟩ v=MJ (aK s) w j' v:=fun v hv=>m9 h3 hw hv b c j' t L m
    have es:∀{e H},rR b c (MJ (aK s) w j') e H→rR b c (aK ⟨b,c,s.aT.set w.toNat j',t,L,m⟩) e H:=fun{e' H} q=>by
      rcases q with q | ⟨v,hv,q⟩ | q
      · exact .inl q
      · exact .inr (.inl ⟨v,hv,by rw [e v hv];exact q⟩)
      · exact .inr (.inr q)
    refine⟨x.ow.congr rfl rfl fun i hi=>?_,x.cv,fun v hv=>?_,x.tr,x.se.1,fun v hv=>by rw [e v hv];exact x.se.2.1 v hv,fun v u hv hu=>by rw [e v hv,e u hu];exact x.se.2.2 v u hv hu⟩
    · rcases aHB hi with hk | ⟨v,hv,rfl⟩
      · rw [mT _ _ hk,mT _ _ hk]
      · rw [f8 _ _ hv,f8 _ _ hv,e v hv]
    · rw [e v hv]
      obtain⟨a1,a2,a3,a4,a5,a6,a7,a8,a9,a10,a11,a12⟩:=x.jv v hv
      refine⟨a1,a2,a3,a4,a5,a6,fun g p=>?_,a8,a9,fun k p=>?_,a11,a12⟩
      · obtain⟨q,r⟩:=a7 g p
        exact⟨es q,r⟩
      · obtain⟨q,u,r⟩:=a10 k p
        exact⟨es q,fun a ha=>by rw [e a ha];exact u a ha,r⟩
  unfold iO
  by_cases hb:(aK s w).cY=false
  · rw [if_pos hb]
    unfold NS
    cases ho:dN s.aZ w with
    | nil=>exact h
    | cons o r =>
      simp only
      by_cases hm:s.aI=1000000
      · rw [if_pos hm];exact h
      rw [if_neg hm]
      refine close ?_
      obtain⟨f1,f2,_,_⟩:=aGH s.aA.aC w o (s.aI+1)
      have n0:JY (aK s w)=0:=yQ (by have:=(h.jv w hw).idle hb;omega)
      have k0:=(h.jv w hw).idle hb
      have st:(iJ s.aA.aC w o (s.aI+1)).Op=o∧((iJ s.aA.aC w o (s.aI+1)).Pc=0∨(iJ s.aA.aC w o (s.aI+1)).Pc=9∧(iJ s.aA.aC w o (s.aI+1)).Code=1)∧(o.Kind=1→(iJ s.aA.aC w o (s.aI+1)).Sub=vO 1 o.gP):=by
        unfold iJ
        split
        · exact⟨rfl,.inl rfl,fun _=>rfl⟩
        split
        · rename_i q1 q2
          split
          · exact⟨rfl,.inr ⟨rfl,rfl⟩,fun q=>absurd q q1⟩
          · exact⟨rfl,.inl rfl,fun q=>absurd q q1⟩
        split
        · rename_i q1 q2 q3
          exact⟨rfl,.inl rfl,fun q=>absurd q q1⟩
        · rename_i q1 q2 q3
          exact⟨rfl,.inl rfl,fun q=>absurd q q1⟩
      obtain⟨so,sp,ss⟩:=st
      generalize iJ s.aA.aC w o (s.aI+1)=j at f1 f2 so sp ss
      generalize hE:(⟨1,w,s.aI+1,o.Cell,0,0,0⟩:Ev)=E
      have eK:E.Kind=1:=by rw [←hE]
      have eS:E.aI=s.aI+1:=by rw [←hE]
      have rE:∀m,YO (s.Log ++ [E]) m=YO s.Log m:=fun m=>by rw [MO,if_neg (fun z=>by have:=z.1;omega)]
      have sE:∀k,R6 (s.Log ++ [E]) k=R6 s.Log k:=fun k=>by rw [MN,if_neg (fun z=>by have:=z.1;omega)]
      have nj:JY j=0:=aAQ (by omega) (by omega) (by omega)
      have q:Qt s.aA s.aA (aK s) w j:=UH (by rw [n0,nj]) (.inl (by omega)) (.inr (by omega))
      refine h.make hs.1 hep hw ?_ (fun k hk=>by rw [sE];exact h.cv k hk) (fun v hv hn=>q.frm hw hv hn) ?_ (fun m _=>rE m) (h.tr.snoc fun z=>by omega) (fun e he=>?_) (by omega) fun _=>⟨by omega,.inr (by omega)⟩
      · refine h.ow.congr rfl rfl fun i hi=>?_
        by_cases z:i=w+2
        · subst z;rw [f8 _ _ hw,f8 _ _ hw,dZ,nj,n0]
        · exact HN hw hi z fun _ _ _=>rfl
      · have rn:YO (s.Log ++ [E]) j.aI=none:=by rw [rE];exact aSL fun e he=>by have:=h.se.1 e he;omega
        refine⟨fun q=>(by rw [f1] at q;cases q),fun k p=>?_,fun k p=>by omega,fun k p=>by omega,fun k p=>by omega,fun k p=>by omega,fun g=>?_,fun k p=>by omega,fun k p=>by omega,fun k p=>by omega,fun k p=>?_,fun _ _=>rn⟩
        · rw [ss (by rw [←so];exact k)];exact⟨rfl,rfl,by simp [vO],by simp [vO]⟩
        · exact absurd g (JQ (by omega))
        · exact Told.other (by omega) (by omega)
      · rcases List.mem_append.1 he with z | z
        · have:=h.se.1 e z;omega
        · rw [List.mem_singleton.1 z,eS];omega
  rw [if_neg hb]
  have hb':(aK s w).cY=true:=by simpa using hb
  by_cases h9:(aK s w).Pc=9
  · rw [if_pos h9]
    refine close ?_
    have own:=h.jv w hw
    have n0:JY (aK s w)=0:=aAQ (by omega) (by omega) (by omega)
    have nj:JY kD=0:=yQ (by decide)
    generalize hE:zA w (aK s w)=E
    have eK:E.Kind=4:=by rw [←hE];rfl
    have eS:E.aI=(aK s w).aI:=by rw [←hE];rfl
    have eC:E.Code=(aK s w).Code:=by rw [←hE];rfl
    have eV:E.dK=(aK s w).dK:=by rw [←hE];rfl
    have rE:∀m,YO (s.Log ++ [E]) m=YO s.Log m:=fun m=>by rw [MO,if_neg (fun z=>by have:=z.1;omega)]
    have sE:∀k,R6 (s.Log ++ [E]) k=R6 s.Log k:=fun k=>by rw [MN,if_neg (fun z=>by have:=z.1;omega)]
    have q:Qt s.aA s.aA (aK s) w kD:=UH (by rw [n0,nj]) (.inr (by omega)) (.inl (by decide))
    refine h.make hs.1 hep hw ?_ (fun k hk=>by rw [sE];exact h.cv k hk) (fun v hv hn=>q.frm hw hv hn) a2T (fun m _=>rE m) (h.tr.snoc fun _ hr=>?_) (fun e he=>?_) (Int.le_refl _) fun q=>by cases q
    · refine h.ow.congr rfl rfl fun i hi=>?_
      by_cases z:i=w+2
      · subst z;rw [f8 _ _ hw,f8 _ _ hw,dZ,nj,n0]
      · exact HN hw hi z fun _ _ _=>rfl
    · rw [eS] at hr ⊢
      rw [eC,eV]
      by_cases rr:Reads (aK s w)
      · exact own.t rr (.inl h9)
      · exact absurd (own.n hb' rr) hr
    · rcases List.mem_append.1 he with z | z
      · exact h.se.1 e z
      · rw [List.mem_singleton.1 z,eS];exact h.se.2.1 w hw hb'
  rw [if_neg h9]
  have hjo:=(AV hb').1 hjk
  have hk:=hjo.1.1
  unfold kV
  refine close ?_
  unfold tZ
  by_cases k1:(aK s w).Op.Kind=1
  · rw [if_pos k1];exact a4U hs h hep hw rfl hb' hjo k1
  rw [if_neg k1]
  by_cases k2:(aK s w).Op.Kind=2
  · rw [if_pos k2];exact a4S hs h hep hw rfl hb' hjo k2
  rw [if_neg k2]
  by_cases k3:(aK s w).Op.Kind=3
  · rw [if_pos k3];exact a4T hs h hep hw rfl hb' hjo k3
  rw [if_neg k3]
  by_cases k7:(aK s w).Op.Kind=7
  · rw [if_pos k7];exact a1G hs h hep hw rfl hb' hjo k7
  rw [if_neg k7]
  exact aYQ hs h hep hw rfl hb' hjo (by omega)
end Go.Gv
end
noncomputable section
namespace Go.Gv
theorem QO(L:List Ev)(e:Ev):V5 (L ++ [e])=if e.Kind=4∧e.LI=1∧e.Code=0 then e.dK else V5 L:=by
  unfold V5;rw [List.foldl_append];rfl
theorem Good.snoc{L:List Ev}(h:Good L){e:Ev}(he:okEv (V5 L) e):Good (L ++ [e]):=by
  intro M x N hx
  rcases List.eq_nil_or_concat N with rfl | ⟨N',y,rfl⟩
  · obtain⟨rfl,q⟩:=List.append_inj' hx (by rfl)
    injection q with q
    subst q
    exact he
  · have e1:M++x :: (N'.concat y)=(M++x :: N') ++ [y]:=by simp
    rw [e1] at hx
    exact h M x N' (List.append_inj' hx (by rfl)).1
theorem aL6(L:List Ev)(e:Ev):w1N (L ++ [e])=w1N L+if e.Kind=4∧e.LI=1 then 1 else 0:=by
  unfold w1N
  rw [List.countP_append,List.countP_singleton]
  congr 1
  by_cases q:e.Kind=4∧e.LI=1
  · rw [if_pos q,if_pos (by simp [q.1,q.2])]
  · rw [if_neg q,if_neg (by simpa using q)]
theorem aSN(L:List Ev)(k:Int):R6 L k=zEv∨(R6 L k∈L∧(R6 L k).Kind=2∧(R6 L k).Cell=k):=by
  have:∀(L:List Ev) (a:Ev),L.foldl (fun a e=>if e.Kind=2∧e.Cell=k then e else a) a=a∨(L.foldl (fun a e=>if e.Kind=2∧e.Cell=k then e else a) a∈L∧(L.foldl (fun a e=>if e.Kind=2∧e.Cell=k then e else a) a).Kind=2∧(L.foldl (fun a e=>if e.Kind=2∧e.Cell=k then e else a) a).Cell=k):=by
    intro L
    induction L with
    | nil=>intro a;exact .inl rfl
    | cons e L ih =>
      intro a
      rw [List.foldl_cons]
      rcases ih (if e.Kind=2∧e.Cell=k then e else a) with q | ⟨q1,q2⟩
      · rw [q]
        by_cases z:e.Kind=2∧e.Cell=k
        · rw [if_pos z];exact .inr ⟨List.mem_cons_self ..,z⟩
        · rw [if_neg z];exact .inl rfl
      · exact .inr ⟨List.mem_cons_of_mem _ q1,q2⟩
  exact this L zEv
noncomputable section
variable (s:aB) (w:Int) (j:bD)
theorem a6Y(hk:j.Pc=0→j.Sub.Kind=1)(h3:j.Pc=3→j.Sub.Kind=2):(EW s w j).b.aC=s.aA.aC∧((EW s w j).l=[]∧((EW s w j).j.Pc=0∨(EW s w j).j.Pc=1∨(EW s w j).j.Pc=2→j.Pc=0∨j.Pc=1∨j.Pc=2) ∨
    j.Pc=2∧(EW s w j).l=[⟨2,w,j.aI,j.Op.Cell,j.H,j.Op.dK,0⟩]∧((EW s w j).j.Pc=3∨(EW s w j).j.Pc=9)):=by
  unfold EW
  by_cases p0:j.Pc=0
  · rw [if_pos p0]
    have hc:=LD (b:=s.aA) (w:=w) (s:=j.Sub) (.inl (hk p0))
    split
    · split
      · exact⟨hc,.inl ⟨rfl,fun _=>.inl p0⟩⟩
      split
      · exact⟨hc,.inl ⟨rfl,fun _=>.inl p0⟩⟩
      · exact⟨hc,.inl ⟨rfl,fun _=>.inl p0⟩⟩
    · exact⟨hc,.inl ⟨rfl,fun _=>.inl p0⟩⟩
  rw [if_neg p0]
  by_cases p1:j.Pc=1
  · rw [if_pos p1];exact⟨rfl,.inl ⟨rfl,fun _=>.inr (.inl p1)⟩⟩
  rw [if_neg p1]
  by_cases p2:j.Pc=2
  · rw [if_pos p2]
    refine⟨rfl,.inr ⟨p2,rfl,?_⟩⟩
    simp only
    split
    · exact .inr rfl
    · exact .inl rfl
  rw [if_neg p2]
  by_cases p3:j.Pc=3
  · rw [if_pos p3]
    have hc:=LD (b:=s.aA) (w:=w) (s:=j.Sub) (.inr (.inl (h3 p3)))
    refine⟨hc,.inl ⟨rfl,fun q=>?_⟩⟩
    simp only at q
    split at q
    · simp [cC] at q
    · simp only at q;omega
  · rw [if_neg p3]
    exact⟨rfl,.inl ⟨rfl,fun q=>by simp [cC] at q⟩⟩
theorem a1J:(uU s w j).l=[]:=by
  unfold uU
  split
  · split <;> rfl
  split <;> rfl
end
theorem a6Z{s:aB}(hc:JX s.aA.aC){w:Int}(hw:0≤w∧w≤2){j:bD}(k:j.Op.Kind=2)(hcode:j.Code=0∨j.Code=6∨j.Code=8)(hp:0≤j.Pc∧j.Pc≤4):aYF s w j (NR s w j):=by
  unfold NR
  by_cases p0:j.Pc=0
  · rw [if_pos p0]
    split
    · exact⟨.inl rfl,.inl rfl,.inl (by simp [cC]),fun _=>⟨k,by simp [cC]⟩⟩
    · exact⟨.inl rfl,hcode,.inl (by simp only;omega),fun _=>⟨k,by simp only;omega⟩⟩
  rw [if_neg p0]
  by_cases p1:j.Pc=1
  · rw [if_pos p1]
    split
    · exact⟨.inr ⟨_,rfl⟩,.inr (.inr rfl),.inl (by simp [cC]),fun _=>⟨k,by simp [cC]⟩⟩
    · exact⟨.inr ⟨_,rfl⟩,.inl rfl,.inl (by simp [cC]),fun _=>⟨k,by simp [cC]⟩⟩
  rw [if_neg p1]
  by_cases p2:j.Pc=2
  · rw [if_pos p2]
    exact⟨.inl rfl,.inl rfl,.inl (by simp [cC]),fun _=>⟨k,by simp [cC]⟩⟩
  rw [if_neg p2]
  by_cases p3:j.Pc=3
  · rw [if_pos p3]
    have ce:(gY s.aA.aC w j 4).Pc=4∧((gY s.aA.aC w j 4).Code=0∨(gY s.aA.aC w j 4).Code=6):=by unfold gY;split;exact⟨rfl,.inl rfl⟩;exact⟨rfl,.inr rfl⟩
    exact⟨.inl rfl,by rcases ce.2 with q | q;exact .inl q;exact .inr (.inl q),.inl (by simp only;omega),fun _=>⟨k,by simp only;omega⟩⟩
  rw [if_neg p3,if_pos (show j.Pc=4 by omega)]
  refine⟨.inl rfl,hcode,.inr rfl,fun q=>?_⟩
  exfalso
  simp only at q
  unfold zH at q
  by_cases z:(bS s.aA.aC w).On
  · rw [if_pos z,uO hc hw hw,if_pos rfl] at q;cases q
  · rw [if_neg z] at q;exact z q
theorem a60{s:aB}{w:Int}{j:bD}(hcode:j.Code=0∨j.Code=6∨j.Code=8)(hp:0≤j.Pc∧j.Pc≤4)(hoff:(bS s.aA.aC w).On=false):aYF s w j (R3 s w j):=by
  have off:∀{p:Prop},(bS s.aA.aC w).On=true→p:=fun q=>by rw [hoff] at q;cases q
  unfold R3
  by_cases p0:j.Pc=0
  · rw [if_pos p0]
    split
    · exact⟨.inr ⟨_,rfl⟩,.inr (.inr rfl),.inl (by simp [cC]),off⟩
    · exact⟨.inl rfl,.inl rfl,.inl (by simp [cC]),off⟩
  rw [if_neg p0]
  by_cases p1:j.Pc=1
  · rw [if_pos p1]
    exact⟨.inl rfl,.inl rfl,.inl (by simp [cC]),off⟩
  rw [if_neg p1]
  by_cases p2:j.Pc=2
  · rw [if_pos p2]
    split
    · exact⟨.inr ⟨_,rfl⟩,.inl rfl,.inl (by simp [cC]),off⟩
    · exact⟨.inl rfl,.inl rfl,.inl (by simp [cC]),off⟩
  rw [if_neg p2]
  by_cases p3:j.Pc=3
  · rw [if_pos p3]
    exact⟨.inl rfl,.inl rfl,.inl (by simp [cC]),off⟩
  rw [if_neg p3,if_pos (show j.Pc=4 by omega)]
  exact⟨.inl rfl,hcode,.inr rfl,off⟩
noncomputable section
variable {T:Int→List bK} {J:Int→bD} {L:List Ev} {on:Bool} (h:Rg T J L on)
include h
theorem Rg.log{E:Ev}(h2:E.Kind≠2)(h3:E.Kind≠3)(h4:E.Kind=4→E.LI≠1):Rg T J (L ++ [E]) on:=by
  have e1:R6 (L ++ [E]) 0=R6 L 0:=by rw [MN,if_neg (fun q=>h2 q.1)]
  have e2:∀n,YO (L ++ [E]) n=YO L n:=fun n=>by rw [MO,if_neg (fun q=>h3 q.1)]
  have e3:V5 (L ++ [E])=V5 L:=by rw [QO,if_neg (fun q=>h4 q.1 q.2.1)]
  have e4:w1N (L ++ [E])=w1N L:=by rw [aL6,if_neg (fun q=>h4 q.1 q.2)];rfl
  refine⟨h.q0,h.p0,h.j0,fun e he k=>?_,h.q1,h.j1,h.q2,h.j2,h.pin,by rw [e4];exact h.cnt,by rw [e1,e3];exact h.m1,fun b e x q=>?_,h.aGK.snoc fun k w=>absurd w (h4 k)⟩
  · rcases List.mem_append.1 he with z | z
    · exact h.sw e z k
    · rw [List.mem_singleton.1 z] at k;exact absurd k h2
  · rw [e1,e3];rw [e2] at q;exact h.m2 b e x q
end
noncomputable section
variable {s:aB} (hs:mY s) (hv:Sv s.aA s.Cells (aK s) s.Log s.aI) (hep:Ep s.aA.aC (aK s)) (h:Rg (dN s.aZ) (aK s) s.Log (bS s.aA.aC 1).On)
include hs hv hep h
theorem aYR{w:Int}(hw:0≤w∧w≤2){o:bK}{r:List bK}(hb:(aK s w).cY=false)(ho:dN s.aZ w=o :: r){j:bD}(hj:iJ s.aA.aC w o (s.aI+1)=j){T':Int→List bK}{J':Int→bD}
    (tw:T' w=r) (tv:∀v,0≤v∧v≤2→v≠w→T' v=dN s.aZ v) (jw:J' w=j) (jv:∀v,0≤v∧v≤2→v≠w→J' v=aK s v):Rg T' J' (s.Log ++ [⟨1,w,s.aI+1,o.Cell,0,0,0⟩]) (bS s.aA.aC 1).On:=by
  have h':=h.log (E:=⟨1,w,s.aI+1,o.Cell,0,0,0⟩) (by simp) (by simp) (by simp)
  obtain⟨f1,f2,_,_⟩:=aGH s.aA.aC w o (s.aI+1)
  have so:(iJ s.aA.aC w o (s.aI+1)).Op=o:=by unfold iJ;split;rfl;split;split <;> rfl;split <;> rfl
  have hw3:w=0∨w=1∨w=2:=by omega
  rcases hw3 with rfl | rfl | rfl
  · have t1:=tv 1 (by omega) (by omega)
    have t2:=tv 2 (by omega) (by omega)
    have j1:=jv 1 (by omega) (by omega)
    have j2:=jv 2 (by omega) (by omega)
    rw [hj] at f1 f2 so
    have p0:=h.p0
    rw [ho,List.pairwise_cons] at p0
    have q0:=h.q0
    rw [ho] at q0
    obtain⟨a1,a2,a3⟩:=q0 o (List.mem_cons_self ..)
    refine⟨by rw [tw];exact fun x hx=>q0 x (List.mem_cons_of_mem _ hx),by rw [tw];exact p0.2,fun _=>?_,fun e he k=>?_,by rw [t1];exact h'.q1,by rw [j1];exact h'.j1,by rw [t2];exact h'.q2,by rw [j2];exact h'.j2,by rw [j1];exact h'.pin,by rw [t1,j1];exact h'.cnt,h'.m1,by rw [j1];exact h'.m2,h'.aGK⟩
    · rw [jw,so,tw];exact⟨a1,a2,a3,p0.1⟩
    · obtain⟨b1,b2,b3,_⟩:=h'.sw e he k
      rw [ho] at b3
      rw [jw,so,tw]
      exact⟨b1,b2,fun x hx=>b3 x (List.mem_cons_of_mem _ hx),fun _ _=>b3 o (List.mem_cons_self ..)⟩
  · have t0:=tv 0 (by omega) (by omega)
    have t2:=tv 2 (by omega) (by omega)
    have j0:=jv 0 (by omega) (by omega)
    have j2:=jv 2 (by omega) (by omega)
    have q1:=h.q1
    rw [ho] at q1
    obtain⟨a1,a2⟩:=q1 o (List.mem_cons_self ..)
    have off:(bS s.aA.aC 1).On=false:=by
      cases q:(bS s.aA.aC 1).On with
      | false=>rfl
      | true=>have:=(h.pin q).1;rw [hb] at this;cases this
    have sj:(iJ s.aA.aC 1 o (s.aI+1)).Pc=0∧(iJ s.aA.aC 1 o (s.aI+1)).Code=0:=by
      unfold iJ
      rw [off]
      split
      · exact⟨rfl,rfl⟩
      split
      · exact⟨rfl,rfl⟩
      split
      · exact⟨rfl,rfl⟩
      · exact⟨rfl,rfl⟩
    rw [hj] at f1 f2 so sj
    have rn:YO (s.Log ++ [⟨1,1,s.aI+1,o.Cell,0,0,0⟩]) (s.aI+1)=none:=by
      rw [MO,if_neg (fun q=>by have:=q.1;simp at this)]
      exact aSL fun e he=>by have:=hv.se.1 e he;omega
    refine⟨by rw [t0];exact h'.q0,by rw [t0];exact h'.p0,by rw [t0,j0];exact h'.j0,by rw [t0,j0];exact h'.sw,by rw [tw];exact fun x hx=>q1 x (List.mem_cons_of_mem _ hx),fun _=>?_,by rw [t2];exact h'.q2,by rw [j2];exact h'.j2,fun q=>(by rw [off] at q;cases q),?_,h'.m1,fun _ e x q=>?_,h'.aGK⟩
    · rw [jw,so];exact⟨a1,a2,.inl sj.2,.inl (by omega)⟩
    · have:=h'.cnt
      rw [ho,hb] at this
      rw [tw,jw,f1]
      simp only [List.length_cons,if_true,aP,if_false] at this ⊢
      omega
    · rw [jw,f2,rn] at q;cases q
  · have t0:=tv 0 (by omega) (by omega)
    have t1:=tv 1 (by omega) (by omega)
    have j0:=jv 0 (by omega) (by omega)
    have j1:=jv 1 (by omega) (by omega)
    rw [hj] at so
    have q2:=h.q2
    rw [ho] at q2
    exact h'.congr t0 t1 j0 j1 (by rw [tw];exact fun x hx=>q2 x (List.mem_cons_of_mem _ hx)) (fun _=>by rw [jw,so];exact q2 o (List.mem_cons_self ..)) id
theorem a1K{w:Int}(hw:0≤w∧w≤2)(hb:(aK s w).cY=true)(h9:(aK s w).Pc=9){J':Int→bD}(jw:J' w=kD)(jv:∀v,0≤v∧v≤2→v≠w→J' v=aK s v):Rg (dN s.aZ) J' (s.Log ++ [zA w (aK s w)]) (bS s.aA.aC 1).On:=by
  have nb:kD.cY=false:=rfl
  have hw3:w=0∨w=1∨w=2:=by omega
  rcases hw3 with rfl | rfl | rfl
  · have h':=h.log (E:=zA 0 (aK s 0)) (by simp [zA]) (by simp [zA]) (by simp [zA])
    have j1:=jv 1 (by omega) (by omega)
    have j2:=jv 2 (by omega) (by omega)
    refine⟨h'.q0,h'.p0,fun q=>(by rw [jw,nb] at q;cases q),fun e he k=>?_,h'.q1,by rw [j1];exact h'.j1,h'.q2,by rw [j2];exact h'.j2,by rw [j1];exact h'.pin,by rw [j1];exact h'.cnt,h'.m1,by rw [j1];exact h'.m2,h'.aGK⟩
    obtain⟨b1,b2,b3,_⟩:=h'.sw e he k
    exact⟨b1,b2,b3,fun q=>by rw [jw,nb] at q;cases q⟩
  · have j0:=jv 0 (by omega) (by omega)
    have j2:=jv 2 (by omega) (by omega)
    obtain⟨k,c0,cd,_⟩:=h.j1 hb
    have td:=(hv.jv 1 (by omega)).t (by unfold Reads;omega) (.inl h9)
    have m2:=h.m2 hb
    have off:(bS s.aA.aC 1).On=false:=by
      cases q:(bS s.aA.aC 1).On with
      | false=>rfl
      | true=>exact absurd h9 (h.pin q).2.2
    generalize hE:zA 1 (aK s 1)=E
    have eK:E.Kind=4:=by rw [←hE];rfl
    have eW:E.LI=1:=by rw [←hE];rfl
    have eC:E.Code=(aK s 1).Code:=by rw [←hE];rfl
    have eV:E.dK=(aK s 1).dK:=by rw [←hE];rfl
    have e1:R6 (s.Log ++ [E]) 0=R6 s.Log 0:=by rw [MN,if_neg (fun q=>by have:=q.1;omega)]
    have ok:okEv (V5 s.Log) E∧V5 (s.Log ++ [E])≤(R6 s.Log 0).dK∧(V5 (s.Log ++ [E])≠0→(R6 s.Log 0).Handle≠0):=by
      rcases cd with cd | cd | cd
      · obtain⟨e,x,x1,x2,x3,x4⟩:=td.1 cd
        obtain⟨y1,y2,y3,_⟩:=m2 e x x1
        obtain⟨y4,y5⟩:=y3 x2
        have el:V5 (s.Log ++ [E])=x.dK:=by rw [QO,if_pos ⟨eK,eW,by rw [eC];exact cd⟩,eV,x4]
        refine⟨fun _ _=>.inr (.inr ⟨by rw [eC];exact cd,by rw [eV,←x4];exact y5,by rw [eV,←x4];exact y2⟩),by rw [el];exact y1,fun _=>y4⟩
      · have el:V5 (s.Log ++ [E])=V5 s.Log:=by rw [QO,if_neg (fun q=>by have:=q.2.2;omega)]
        rw [el]
        exact⟨fun _ _=>.inl (by rw [eC];exact cd),h.m1⟩
      · have el:V5 (s.Log ++ [E])=V5 s.Log:=by rw [QO,if_neg (fun q=>by have:=q.2.2;omega)]
        rw [el]
        obtain⟨e,x,x1,x2,_⟩:=td.2 cd
        exact⟨fun _ _=>.inr (.inl ⟨by rw [eC];exact cd,(m2 e x x1).2.2.2 x2⟩),h.m1⟩
    refine⟨h.q0,h.p0,by rw [j0];exact h.j0,fun e he kk=>?_,h.q1,fun q=>(by rw [jw,nb] at q;cases q),h.q2,by rw [j2];exact h.j2,fun q=>(by rw [off] at q;cases q),?_,by rw [e1];exact ok.2,fun q=>(by rw [jw,nb] at q;cases q),h.aGK.snoc ok.1⟩
    · rw [j0]
      rcases List.mem_append.1 he with z | z
      · exact h.sw e z kk
      · rw [List.mem_singleton.1 z] at kk;omega
    · have:=h.cnt
      rw [hb] at this
      rw [aL6,if_pos ⟨eK,eW⟩,jw,nb]
      simp only [if_true,aP,if_false] at this ⊢
      omega
  · have h':=h.log (E:=zA 2 (aK s 2)) (by simp [zA]) (by simp [zA]) (by simp [zA])
    exact h'.congr rfl rfl (jv 0 (by omega) (by omega)) (jv 1 (by omega) (by omega)) h'.q2 (fun q=>by rw [jw,nb] at q;cases q) id
theorem a4V{w:Int}(hw:0≤w∧w≤2)(hb:(aK s w).cY=true)(h9:(aK s w).Pc≠9){J':Int→bD}(jw:J' w=(tZ s w (aK s w)).j)(jv:∀v,0≤v∧v≤2→v≠w→J' v=aK s v) :
    Rg (dN s.aZ) J' (s.Log++(tZ s w (aK s w)).l) (bS (tZ s w (aK s w)).b.aC 1).On:=by
  have hc:=hs.1.1.2.1
  have JL:=a4I hs hw h9
  have JE:=a6P (s:=s) (w:=w) (j:=aK s w)
  have op:=JL.op.1
  have bz:=JL.op.2
  have ser:=JE.ser
  have own:=hv.jv w hw
  have hw3:w=0∨w=1∨w=2:=by omega
  rcases hw3 with rfl | rfl | rfl
  · obtain⟨k,c0,va,qa⟩:=h.j0 hb
    have j1:=jv 1 (by omega) (by omega)
    have j2:=jv 2 (by omega) (by omega)
    have ef:tZ s 0 (aK s 0)=EW s 0 (aK s 0):=by unfold tZ;rw [if_pos k]
    obtain⟨cl,ev⟩:=a6Y s 0 (aK s 0) (fun p=>(own.s0 k p).1) (fun p=>(own.s3 k p).2.1)
    rw [ef] at jw op bz
    rw [ef,cl]
    rw [hb] at bz
    generalize EW s 0 (aK s 0)=r at jw op bz ev
    rcases ev with ⟨e0,ep⟩ | ⟨p2,e0,ep⟩
    · rw [e0,List.append_nil]
      refine⟨h.q0,h.p0,fun _=>by rw [jw,op];exact⟨k,c0,va,qa⟩,fun e he kk=>?_,h.q1,by rw [j1];exact h.j1,h.q2,by rw [j2];exact h.j2,by rw [j1];exact h.pin,by rw [j1];exact h.cnt,h.m1,by rw [j1];exact h.m2,h.aGK⟩
      obtain⟨b1,b2,b3,b4⟩:=h.sw e he kk
      rw [jw,op]
      exact⟨b1,b2,b3,fun _ p=>b4 hb (ep p)⟩
    · rw [e0]
      have hH:=own.s1 k (.inr p2)
      generalize hE:(⟨2,0,(aK s 0).aI,(aK s 0).Op.Cell,(aK s 0).H,(aK s 0).Op.dK,0⟩:Ev)=E
      have eK:E.Kind=2:=by rw [←hE]
      have eC:E.Cell=0:=by rw [←hE];exact c0
      have eH:E.Handle=(aK s 0).H:=by rw [←hE]
      have eV:E.dK=(aK s 0).Op.dK:=by rw [←hE]
      have e1:R6 (s.Log ++ [E]) 0=E:=by rw [MN,if_pos ⟨eK,eC⟩]
      have e2:∀n,YO (s.Log ++ [E]) n=YO s.Log n:=fun n=>by rw [MO,if_neg (fun q=>by have:=q.1;omega)]
      have e3:V5 (s.Log ++ [E])=V5 s.Log:=by rw [QO,if_neg (fun q=>by have:=q.1;omega)]
      have e4:w1N (s.Log ++ [E])=w1N s.Log:=by rw [aL6,if_neg (fun q=>by have:=q.1;omega)];rfl
      have up:(R6 s.Log 0).dK≤E.dK:=by
        rcases aSN s.Log 0 with q | ⟨q1,q2,q3⟩
        · rw [q,eV];simp only [zEv];omega
        · have:=(h.sw _ q1 q2).2.2.2 hb (.inr (.inr p2));omega
      refine⟨h.q0,h.p0,fun _=>by rw [jw,op];exact⟨k,c0,va,qa⟩,fun e he kk=>?_,h.q1,by rw [j1];exact h.j1,h.q2,by rw [j2];exact h.j2,by rw [j1];exact h.pin,by rw [j1,e4];exact h.cnt,?_,fun q e x hx=>?_,h.aGK.snoc fun q=>by omega⟩
      · rw [jw]
        have no:r.j.cY=true→r.j.Pc=0∨r.j.Pc=1∨r.j.Pc=2→e.dK < r.j.Op.dK:=fun _ p=>by omega
        rcases List.mem_append.1 he with z | z
        · obtain⟨b1,b2,b3,_⟩:=h.sw e z kk
          exact⟨b1,b2,b3,no⟩
        · rw [List.mem_singleton.1 z] at no ⊢
          exact⟨eC,by rw [eV];exact va,by rw [eV];exact qa,no⟩
      · rw [e1,e3]
        exact⟨by have:=h.m1.1;omega,fun _=>by rw [eH];exact hH⟩
      · rw [j1,e2] at hx
        rw [j1] at q
        obtain⟨y1,y2,y3,y4⟩:=h.m2 q e x hx
        rw [e1,e3]
        exact⟨by omega,y2,fun z=>⟨by rw [eH];exact hH,(y3 z).2⟩,y4⟩
  · obtain⟨k,c0,cd,pc⟩:=h.j1 hb
    have j0:=jv 0 (by omega) (by omega)
    have j2:=jv 2 (by omega) (by omega)
    have rr:aYF s 1 (aK s 1) (tZ s 1 (aK s 1)):=by
      unfold tZ
      rw [if_neg (by omega)]
      rcases k with k | k
      · rw [if_pos k];exact a6Z hc hw k cd (by omega)
      · rw [if_neg (by omega),if_pos k]
        refine a60 cd (by omega) ?_
        cases q:(bS s.aA.aC 1).On with
        | false=>rfl
        | true=>have:=(h.pin q).2.1;omega
    obtain⟨ev,rc,rp,ro⟩:=rr
    rw [hb] at bz
    generalize tZ s 1 (aK s 1)=r at jw op bz ser ev rc rp ro
    have jj1:(J' 1).cY=true→((J' 1).Op.Kind=2∨(J' 1).Op.Kind=3)∧(J' 1).Op.Cell=0∧((J' 1).Code=0∨(J' 1).Code=6∨(J' 1).Code=8)∧(0≤(J' 1).Pc∧(J' 1).Pc≤4∨(J' 1).Pc=9):=fun _=>by rw [jw,op];exact⟨k,c0,rc,rp⟩
    have pp:(bS r.b.aC 1).On=true→(J' 1).cY=true∧(J' 1).Op.Kind=2∧(J' 1).Pc≠9:=fun q=>by rw [jw,op];exact⟨bz,ro q⟩
    rcases ev with ev | ⟨x0,ev⟩
    · rw [ev,List.append_nil]
      refine⟨h.q0,h.p0,by rw [j0];exact h.j0,by rw [j0];exact h.sw,h.q1,jj1,h.q2,by rw [j2];exact h.j2,pp,?_,h.m1,fun _=>by rw [jw,ser];exact h.m2 hb,h.aGK⟩
      have:=h.cnt
      rw [jw,bz];rw [hb] at this;exact this
    · rw [ev]
      have rs:=QM (L:=s.Log) (w:=1) (aK s 1) x0
      rw [c0] at rs
      generalize hE:y9 1 (aK s 1) x0=E at rs
      have eK:E.Kind=3:=by rw [←hE];rfl
      have e1:R6 (s.Log ++ [E]) 0=R6 s.Log 0:=by rw [MN,if_neg (fun q=>by have:=q.1;omega)]
      have e3:V5 (s.Log ++ [E])=V5 s.Log:=by rw [QO,if_neg (fun q=>by have:=q.1;omega)]
      have e4:w1N (s.Log ++ [E])=w1N s.Log:=by rw [aL6,if_neg (fun q=>by have:=q.1;omega)];rfl
      refine⟨h.q0,h.p0,by rw [j0];exact h.j0,fun e he kk=>?_,h.q1,jj1,h.q2,by rw [j2];exact h.j2,pp,?_,by rw [e1,e3];exact h.m1,fun _ e x hx=>?_,h.aGK.snoc fun q=>by omega⟩
      · rw [j0]
        rcases List.mem_append.1 he with z | z
        · exact h.sw e z kk
        · rw [List.mem_singleton.1 z] at kk;omega
      · have:=h.cnt
        rw [jw,bz,e4];rw [hb] at this;exact this
      · rw [jw,ser,rs] at hx
        injection hx with hx
        injection hx with _ hx
        subst hx
        rw [e1,e3]
        refine⟨Int.le_refl _,h.m1.1,fun z=>⟨z,?_⟩,fun z=>?_⟩
        · rcases aSN s.Log 0 with q | ⟨q1,q2,q3⟩
          · rw [q] at z;exact absurd rfl z
          · exact(h.sw _ q1 q2).2.1
        · by_cases q:V5 s.Log=0
          · exact q
          · exact absurd z (h.m1.2 q)
  · have k:=h.j2 hb
    have ef:tZ s 2 (aK s 2)=uU s 2 (aK s 2):=by unfold tZ;rw [if_neg (by omega),if_neg (by omega),if_neg (by omega),if_neg (by omega)]
    have el:(tZ s 2 (aK s 2)).l=[]:=by rw [ef];exact a1J ..
    rw [el,List.append_nil]
    refine h.congr rfl rfl (jv 0 (by omega) (by omega)) (jv 1 (by omega) (by omega)) h.q2 (fun _=>by rw [jw,op];exact k) fun q=>?_
    rw [ef] at q
    unfold uU at q
    rw [if_neg (by omega)] at q
    by_cases p0:(aK s 2).Pc=0
    · rw [if_pos (.inl p0)] at q
      obtain⟨_,_,i3,_⟩:=hep.1 2 hw hb
      obtain⟨sk,sd,_⟩:=i3 ⟨hb,k,p0⟩
      have es:d7 s.aA 2 (aK s 2).Sub=lG s.aA (aK s 2).Sub:=by unfold d7;simp [sk,sd]
      rw [es] at q
      simp only at q
      unfold lG at q
      split at q
      · exact q
      split at q
      · split at q
        · rename_i hB
          have:=((aG9 hc hB (aK s 2).Sub.E).2.1 1 (by omega)).1
          split at q
          · rw [←this];exact q
          · rw [←this];exact q
        · exact q
      split at q
      · unfold V3 at q
        split at q
        · exact q
        · exact q
      · exact q
    · by_cases p1:(aK s 2).Pc=1
      · rw [if_pos (.inr ⟨p1,by omega⟩)] at q
        have:=LD (b:=s.aA) (w:=2) (s:=(aK s 2).Sub) (.inr (.inr ((own.k k p1).1)))
        simp only at q
        rw [this] at q;exact q
      · rw [if_neg (by omega)] at q;exact q
theorem a1L{w:Int}(hw:0≤w∧w≤2):Rg (dN (iO s w).aZ) (aK (iO s w)) (iO s w).Log (bS (iO s w).aA.aC 1).On:=by
  have h3:=hs.2.2.1
  have t3:s.aZ.length=3:=hs.2.2.2.1.1
  unfold iO
  by_cases hb:(aK s w).cY=false
  · rw [if_pos hb]
    unfold NS
    cases ho:dN s.aZ w with
    | nil=>exact h
    | cons o r =>
      simp only
      by_cases hm:s.aI=1000000
      · rw [if_pos hm];exact h
      rw [if_neg hm]
      have ja:=fun(v:Int) (hv:0≤v∧v≤2)=>m9 h3 hw hv s.aA s.Cells (iJ s.aA.aC w o (s.aI+1)) (s.aZ.set w.toNat ⟨r⟩) (s.Log ++ [⟨1,w,s.aI+1,o.Cell,0,0,0⟩]) (s.aI+1)
      have ta:=fun(v:Int) (hv:0≤v∧v≤2)=>Z4 t3 hw hv r
      exact aYR hs hv hep h hw hb ho rfl (by rw [ta w hw,if_pos rfl]) (fun v hv hn=>by rw [ta v hv,if_neg hn]) (by rw [ja w hw,dZ]) (fun v hv hn=>by rw [ja v hv,QI _ hn])
  rw [if_neg hb]
  have hb':(aK s w).cY=true:=by simpa using hb
  by_cases h9:(aK s w).Pc=9
  · rw [if_pos h9]
    have ja:=fun(v:Int) (hv:0≤v∧v≤2)=>m9 h3 hw hv s.aA s.Cells kD s.aZ (s.Log ++ [zA w (aK s w)]) s.aI
    exact a1K hs hv hep h hw hb' h9 (by rw [ja w hw,dZ]) (fun v hv hn=>by rw [ja v hv,QI _ hn])
  rw [if_neg h9]
  unfold kV
  have ja:=fun(v:Int) (hv:0≤v∧v≤2)=>m9 h3 hw hv (tZ s w (aK s w)).b (tZ s w (aK s w)).c (tZ s w (aK s w)).j s.aZ (s.Log++(tZ s w (aK s w)).l) s.aI
  exact a4V hs hv hep h hw hb' h9 (by rw [ja w hw,dZ]) (fun v hv hn=>by rw [ja v hv,QI _ hn])
end
end Go.Gv
end
noncomputable section
namespace Go.Gv
def a4W(k:Int)(l:List Queue):Prop:=∃A B C,l=[⟨A⟩,⟨B⟩,⟨C⟩]∧(A.length:Int)=k∧(B.length:Int)=k∧(C.length:Int)=k ∧
  (∀o∈A,o.Kind=1∧o.Cell=0∧(1≤o.gP∧o.gP≤40)∧100≤o.dK∧o.dK < 100+k)∧A.Pairwise (fun a b=>a.dK < b.dK)∧(∀o∈B,(o.Kind=2∨o.Kind=3)∧o.Cell=0∧o.gP=0∧o.dK=0)∧∀o∈C,o=⟨4,0,0,0⟩
theorem a8G{code:List UInt8}(hl:code.length≤1048576):uV (loop (B8 code) (0,List.replicate ((3:Int).toNat) (⟨[]⟩:Queue))) (a4W 6):=by
  refine .loop (fun s=>6 - s.1.toNat) (fun s=>(0≤s.1∧s.1≤6)∧a4W s.1 s.2) ⟨by simp,[],[],[],rfl,rfl,rfl,rfl,fun o h=>by simp at h,List.Pairwise.nil,fun o h=>by simp at h,fun o h=>by simp at h⟩ ?_
  rintro⟨k,l⟩ ⟨⟨k0,k6⟩,A,B,C,rfl,a1,b1,c1,a2,a3,b2,c2⟩
  simp only at k0 k6 a1 b1 c1 a2
  simp only [B8]
  refine .ite (fun q=>?_) (fun q=>?_)
  · have q':=of_decide_eq_true q
    have e0:idx [(⟨A⟩:Queue),⟨B⟩,⟨C⟩] 0=some ⟨A⟩:=rfl
    rw [e0,aG]
    refine .bind (RM hl (i:=k) (by omega)) fun x hx=>.need (by simp;omega) ?_
    simp only [zK]
    rw [jX hx.1,aN (x:=1+x % 40) (by omega) (by omega),aN (x:=100+k) (by omega) (by omega),aN (x:=k+6) (by omega) (by omega)]
    generalize hA:A ++ [(⟨1,0,1+x % 40,100+k⟩:bK)]=A'
    have e1:idx ([(⟨A⟩:Queue),⟨B⟩,⟨C⟩].set (0:Int).toNat ⟨A'⟩) 1=some ⟨B⟩:=rfl
    rw [e1,aG]
    refine .bind (RM hl (i:=k+6) (by omega)) fun y hy=>?_
    have hk:uV (idx ([2,3]:List Int) (Int.tmod y 2)) (fun z=>z=2∨z=3):=by
      rw [jX hy.1]
      have:y % 2=0∨y % 2=1:=by omega
      rcases this with e | e <;> rw [e]
      · exact⟨2,rfl,.inl rfl⟩
      · exact⟨3,rfl,.inr rfl⟩
    refine .bind hk fun z hz=>.need (by simp;omega) ?_
    simp only [zJ]
    generalize hB:B ++ [(⟨z,0,0,0⟩:bK)]=B'
    have e2:idx (([(⟨A⟩:Queue),⟨B⟩,⟨C⟩].set (0:Int).toNat ⟨A'⟩).set (1:Int).toNat ⟨B'⟩) 2=some ⟨C⟩:=rfl
    rw [e2,aG]
    refine .need (by simp;omega) ?_
    simp only [zI]
    rw [aN (x:=k+1) (by omega) (by omega)]
    refine .ret ⟨⟨⟨by (try simp only);omega,by (try simp only);omega⟩,A',B',C ++ [⟨4,0,0,0⟩],rfl,by rw [←hA,List.length_append];simp only [List.length_singleton];omega,by rw [←hB,List.length_append];simp only [List.length_singleton];omega,by rw [List.length_append];simp only [List.length_singleton];omega,fun o ho=>?_,?_,fun o ho=>?_,fun o ho=>?_⟩,by (try simp only);omega⟩
    · rw [←hA] at ho
      rcases List.mem_append.1 ho with h | h
      · obtain⟨y1,y2,y3,y4,y5⟩:=a2 o h
        exact⟨y1,y2,y3,y4,by (try simp only);omega⟩
      · rw [List.mem_singleton.1 h]
        exact⟨rfl,rfl,⟨by (try simp only);omega,by (try simp only);omega⟩,by (try simp only);omega,by (try simp only);omega⟩
    · rw [←hA,List.pairwise_append]
      refine⟨a3,List.pairwise_singleton _ _,fun a ha b hb=>?_⟩
      rw [List.mem_singleton.1 hb]
      have:=a2 a ha
      simp only;omega
    · rw [←hB] at ho
      rcases List.mem_append.1 ho with h | h
      · exact b2 o h
      · rw [List.mem_singleton.1 h];exact⟨hz,rfl,rfl,rfl⟩
    · rcases List.mem_append.1 ho with h | h
      · exact c2 o h
      · exact List.mem_singleton.1 h
  · have q':¬k < 6:=by simpa using q
    have:k=6:=by omega
    subst this
    exact .ret ⟨A,B,C,rfl,a1,b1,c1,a2,a3,b2,c2⟩
theorem a1M{l:List Queue}(h:a4W 6 l):ES l∧(∀q∈l,q.fM.length=6)∧Rg (dN l) (aK (dD l)) [] false:=by
  obtain⟨A,B,C,rfl,a1,b1,c1,a2,a3,b2,c2⟩:=h
  have e0:dN [(⟨A⟩:Queue),⟨B⟩,⟨C⟩] 0=A:=rfl
  have e1:dN [(⟨A⟩:Queue),⟨B⟩,⟨C⟩] 1=B:=rfl
  have e2:dN [(⟨A⟩:Queue),⟨B⟩,⟨C⟩] 2=C:=rfl
  have q6:∀q∈[(⟨A⟩:Queue),⟨B⟩,⟨C⟩],q=⟨A⟩∨q=⟨B⟩∨q=⟨C⟩:=fun q hq=>by simpa using hq
  have nb:∀v:Int,0≤v∧v≤2→(aK (dD [⟨A⟩,⟨B⟩,⟨C⟩]) v).cY=false:=fun v hv=>by
    have hc:v=0∨v=1∨v=2:=by omega
    rcases hc with rfl | rfl | rfl <;> rfl
  have n0:=nb 0 (by omega)
  have n1:=nb 1 (by omega)
  have n2:=nb 2 (by omega)
  refine⟨⟨rfl,fun q hq=>?_⟩,fun q hq=>?_,⟨by rw [e0];exact fun o ho=>by have:=a2 o ho;exact⟨this.1,this.2.1,this.2.2.2.1,by have:=this.2.2.2.2;omega⟩,by rw [e0];exact a3,fun q=>(by rw [n0] at q;cases q),fun e he=>by simp at he,by rw [e1];exact fun o ho=>⟨(b2 o ho).1,(b2 o ho).2.1⟩,fun q=>(by rw [n1] at q;cases q),by rw [e2];exact fun o ho=>by rw [c2 o ho],fun q=>(by rw [n2] at q;cases q),fun q=>(by cases q),?_,⟨by decide,fun q=>absurd rfl q⟩,fun q=>(by rw [n1] at q;cases q),fun M e N hx=>by simp at hx⟩⟩
  · rcases q6 q hq with rfl | rfl | rfl
    · refine⟨by simp only;omega,fun o ho=>?_⟩
      obtain⟨h1,h2,h3,h4⟩:=a2 o ho
      exact⟨by omega,.inr h2,by omega,by rw [if_pos h1];omega⟩
    · refine⟨by simp only;omega,fun o ho=>?_⟩
      obtain⟨h1,h2,h3,h4⟩:=b2 o ho
      exact⟨by omega,.inr h2,by omega,by rw [if_neg (by omega)];exact⟨h3,h4⟩⟩
    · refine⟨by simp only;omega,fun o ho=>?_⟩
      rw [c2 o ho]
      decide
  · rcases q6 q hq with rfl | rfl | rfl <;> (simp only;omega)
  · rw [n1,e1]
    simp only [w1N,List.countP_nil,aP,if_false]
    omega
theorem sv0(t:List Queue):Sv (dD t).aA (dD t).Cells (aK (dD t)) (dD t).Log (dD t).aI:=by
  have e1:∀v:Int,0≤v∧v≤2→aK (dD t) v=kD:=fun v hv=>by
    have hc:v=0∨v=1∨v=2:=by omega
    rcases hc with rfl | rfl | rfl <;> rfl
  have c0:∀k:Int,0≤k∧k≤1→cellAt (dD t).Cells k=0:=fun k hk=>by
    have hc:k=0∨k=1:=by omega
    rcases hc with rfl | rfl <;> rfl
  have n0:∀i,0≤i∧i≤4→nm (dD t).Cells (aK (dD t)) i=0:=fun i hi=>by
    rcases aHB hi with hk | ⟨v,hv,rfl⟩
    · rw [mT _ _ hk];exact c0 i hk
    · rw [f8 _ _ hv,e1 v hv];exact yQ (by decide)
  have un:∀t',eQ aGA.Mem t'≠3:=fun t' h=>by
    have h1:=(gX.1 h).1
    obtain⟨a,b,c⟩:=qO h1
    have key:∀p:Nat,p < 6→bZ aGA.Mem.aE p = -1:=by decide
    rw [key _ (by omega)] at c
    omega
  refine⟨⟨fun i hi hn=>absurd (n0 i hi) hn,fun i j hi _ hn=>absurd (n0 i hi) hn,fun t' ht=>absurd ht (un t')⟩,fun k hk=>⟨(c0 k hk).symm,fun q=>absurd (c0 k hk) q⟩,fun v hv=>by rw [e1 v hv];exact a2T,fun M e N hx=>by simp [dD] at hx,fun e he=>by simp [dD] at he,fun v hv hb=>(by rw [e1 v hv] at hb;cases hb),fun v u hv _ hb=>by rw [e1 v hv] at hb;cases hb⟩
theorem aTZ{L:List Ev}:V5 (eF L)=V5 L:=by
  have:∀(L:List Ev) a,(eF L).foldl (fun a e=>if e.Kind=4∧e.LI=1∧e.Code=0 then e.dK else a) a=L.foldl (fun a e=>if e.Kind=4∧e.LI=1∧e.Code=0 then e.dK else a) a:=by
    intro L
    induction L with
    | nil=>intro a;rfl
    | cons e L ih =>
      intro a
      unfold eF at ih ⊢
      rw [List.filter_cons]
      by_cases q:e.Kind=4
      · rw [if_pos (by simpa using q),List.foldl_cons,List.foldl_cons,ih]
      · rw [if_neg (by simpa using q),List.foldl_cons,ih,if_neg (fun z=>q z.1)]
  exact this L 0
theorem QP{α:Type}{p:α→Bool}:∀{L M:List α} {e:α} {N:List α},L.filter p=M++e :: N→∃M' N',L=M'++e :: N'∧M'.filter p=M
  | [],M,e,N,h=>by cases M <;> simp at h
  | a :: L, M, e, N, h => by
    rw [List.filter_cons] at h
    by_cases q:p a=true
    · rw [if_pos q] at h
      cases M with
      | nil =>
        injection h with h1 h2
        subst h1
        exact⟨[],L,rfl,rfl⟩
      | cons m M =>
        injection h with h1 h2
        subst h1
        obtain⟨M',N',rfl,e2⟩:=QP h2
        exact⟨a :: M',N',rfl,by rw [List.filter_cons,if_pos q,e2]⟩
    · rw [if_neg q] at h
      obtain⟨M',N',rfl,e2⟩:=QP h
      exact⟨a :: M',N',rfl,by rw [List.filter_cons,if_neg q,e2]⟩
theorem aQW{L:List Ev}(h:Good L):Good (eF L):=fun M e N hx=>by
  obtain⟨M',N',e1,e2⟩:=QP hx
  have:=h M' e N' e1
  rw [←e2]
  show okEv (V5 (eF M')) e
  rw [aTZ];exact this
theorem aYS(L:List Ev):w1N L=(eF L).countP fun e=>e.LI == 1:=by
  unfold w1N eF
  rw [List.countP_filter]
  congr 1
  funext e
  exact Bool.and_comm ..
theorem aHF{code:List UInt8}(_:fit code):H8 code=some true:=by
  unfold H8 vS
  rw [aG]
  by_cases hcl:1048576 < (code.length:Int)
  · rw [if_pos (by simpa using hcl)]
  rw [if_neg (by simpa using hcl)]
  obtain⟨x0,ex,hT0,hp⟩:=aQQ (code:=code) (by omega)
  rw [ex,aG,aQ (by omega)]
  simp only [B9]
  obtain⟨T,eT,hT⟩:=a8G (code:=code) (by omega)
  rw [eT,aG]
  obtain⟨ht,h6,hrg⟩:=a1M hT
  simp only [LC,LB]
  generalize hx:(⟨T,x0.jL⟩:zD)=x
  have xT:x.aZ=T:=by rw [←hx]
  have xP:x.jL=x0.jL:=by rw [←hx]
  have t3:=ht.1
  have l6:∀v:Int,0≤v∧v≤2→(dN T v).length=6:=fun v hv=>by
    unfold dN
    rw [List.getD_eq_getElem?_getD,List.getElem?_eq_getElem (show v.toNat < T.length by omega)]
    exact h6 _ (List.getElem_mem _)
  have hS:K2 x.aZ:=by rw [xT];exact⟨by omega,fun q hq=>by have:=h6 q hq;omega⟩
  have h8:T8 T:=⟨by rw [l6 0 (by omega)];omega,by rw [l6 2 (by omega)];omega⟩
  have hN:(JN fun v=>(dN T v).length)=18:=by
    have a:=l6 0 (by omega);have b:=l6 1 (by omega);have c:=l6 2 (by omega)
    simp only [JN];omega
  let P:aB→Prop:=fun s=>(Tl 18 s∧phi s+s.Log.length≤774)∧Ep s.aA.aC (aK s)∧Sv s.aA s.Cells (aK s) s.Log s.aI∧Rg (dN s.aZ) (aK s) s.Log (bS s.aA.aC 1).On
  have ser:∀s:aB,P s→s.aI≠1000000:=fun s h=>by have:=h.1.1.tot;omega
  have step:∀(s:aB) (w:Int),mY s→(0≤w∧w≤2)→P s→mY (iO s w)∧P (iO s w):=fun s w hs hw h=>by
    obtain⟨_,o1,o2⟩:=K1 hs (by have:=h.1.2;omega) hw
    obtain⟨⟨p1,p2⟩,p3,p4,p5⟩:=h
    refine⟨o1,⟨aSF hs hw (by omega) p1,?_⟩,a09 hs hw p3,a1I hs hw p3 p4,a1L hs p4 p3 p5 hw⟩
    by_cases q:ML s w
    · rw [aX9 hs hw q];exact p2
    · have:=aGG hs hw (ser s ⟨⟨p1,p2⟩,p3,p4,p5⟩) q;omega
  obtain⟨s,es,hs,hE,hl⟩:=a2P hS (by rw [xP];exact hp) P (fun t h e=>by
    rw [e,xT]
    exact⟨⟨hN ▸ tl0 ht,by have:=a6Q ht h8;have:(dD T).Log.length=0:=rfl;omega⟩,ep0 T,sv0 T,hrg⟩) (fun s w a b c=>(step s w a b c).2) (by rw [xT];exact ht)
  obtain⟨e,f1,f2⟩:=MK hs (by omega)
  obtain⟨gi,gE,_,_,gR⟩:=YN P step ser 3000 0 s hs hE (by
    have:wait s 0≤2:=by unfold wait;split;split <;> omega;omega
    have:=hE.1.2
    omega)
  rw [es,aG,e,aG]
  have gi':mZ (yK s):=gi
  have gE':=gE.1
  have gR':Rg (dN (yK s).aZ) (aK (yK s)) (yK s).Log (bS (yK s).aA.aC 1).On:=gR
  have gE':Tl 18 (yK s):=gE'
  generalize yK s=z at f1 f2 gi' gE' gR'
  rw [T3 (by omega),aG]
  have jz:∀v,0≤v∧v≤2→(aK z v).cY=false:=fun v hv=>gi'.1 _ (aJZ f1 hv)
  have qz:∀v,0≤v∧v≤2→(dN z.aZ v).length=0:=fun v hv=>by
    have tz:=f1.2.2.2.1.1
    have:=gi'.2 ⟨dN z.aZ v⟩ (List.mem_of_getElem? (i:=v.toNat) (by
      unfold dN
      rw [List.getD_eq_getElem?_getD,List.getElem?_eq_getElem (show v.toNat < z.aZ.length by omega)];rfl))
    simpa using this
  have zero:JN (fun _=>0)=0:=rfl
  have lt:(eF z.Log).length=18:=by
    have a:=gE'.aNZ
    rw [xE (g:=fun v=>bJ (aK z v)) (f:=fun _=>0) fun v hv=>by simp [bJ,jz v hv],zero] at a
    have b:=gE'.tot
    rw [xE (g:=fun v=>(dN z.aZ v).length) (f:=fun _=>0) fun v hv=>qz v hv,zero] at b
    have:(eF z.Log).length=kN 4 z.Log:=by unfold kN eF;rw [List.countP_eq_length_filter]
    omega
  have w6:(eF z.Log).countP (fun e=>e.LI == 1)=6:=by
    have:=gR'.cnt
    rw [jz 1 (by omega),qz 1 (by omega)] at this
    rw [←aYS]
    simp only [aP,if_false] at this
    omega
  have gd:=aQW gR'.aGK
  have k4:∀e∈eF z.Log,e.Kind=4:=fun e he=>by
    have:=List.mem_filter.1 he
    simpa using this.2
  generalize eF z.Log=ts at lt w6 gd k4
  have lp:loop (nM ts) (0,0,0)=some (Out.brk 6):=by
    have key:=iQ (f:=nM ts) ts.length (fun k=>(V5 (ts.take k),(((ts.take k).countP fun e=>e.LI == 1:Nat):Int),(k:Int))) (Out.brk 6) (fun k hk=>by
      have hsp:ts=ts.take k++ts[k] :: ts.drop (k+1):=by rw [←List.drop_eq_getElem_cons hk,List.take_append_drop]
      have ok:=gd _ _ _ hsp
      have h4:=k4 _ (List.getElem_mem hk)
      have hle:(ts.take k).countP (fun e=>e.LI == 1)≤k:=Nat.le_trans (List.countP_le_length) (by rw [List.length_take];omega)
      have e1:V5 (ts.take (k+1))=if ts[k].Kind=4∧ts[k].LI=1∧ts[k].Code=0 then ts[k].dK else V5 (ts.take k):=by
        rw [List.take_succ_eq_append_getElem hk,QO]
      have e2:((ts.take (k+1)).countP fun e=>e.LI == 1)=(ts.take k).countP (fun e=>e.LI == 1)+if ts[k].LI=1 then 1 else 0:=by
        rw [List.take_succ_eq_append_getElem hk,List.countP_append,List.countP_singleton]
        congr 1
        by_cases q:ts[k].LI=1 <;> simp [q]
      have ew:aY ((k:Int)+1)=((k+1:Nat):Int):=by rw [aN (by omega) (by omega)];rfl
      have ew2:aY (((ts.take k).countP (fun e=>e.LI == 1):Nat)+1:Int)=(((ts.take k).countP (fun e=>e.LI == 1)+1:Nat):Int):=by rw [aN (by omega) (by omega)];rfl
      rw [e1,e2]
      generalize (ts.take k).countP (fun e=>e.LI == 1)=c at ew2
      generalize V5 (ts.take k)=a at ok ⊢
      simp only [nM,tC,tB,tA,kM,nL]
      rw [if_pos (by simp;omega),aV hk]
      simp only [aG,ew]
      by_cases q:ts[k].LI=1
      · have q1:(ts[k].LI == 1)=true:=by simpa using q
        have q2:(ts[k].LI != 1)=false:=by simpa using q
        simp only [q1,q2,if_true,aP,if_false,ew2,if_pos q]
        rcases ok h4 q with o | ⟨o,o2⟩ | ⟨o,⟨o2,o3⟩,o4⟩
        · have q3:(ts[k].Code == 6)=true:=by simpa using o
          rw [q3,if_pos rfl,if_neg (by omega)]
        · have q3:(ts[k].Code == 6)=false:=by rw [o];rfl
          have q4:(ts[k].Code == 8)=true:=by rw [o];rfl
          have q5:(a == 0)=true:=by simpa using o2
          simp only [q3,q4,q5,if_true,aP,if_false]
          rw [if_neg (by omega)]
        · have q3:(ts[k].Code == 6)=false:=by rw [o];rfl
          have q4:(ts[k].Code == 8)=false:=by rw [o];rfl
          have q5:(ts[k].Code != 0)=false:=by rw [o];rfl
          simp only [q3,q4,q5,if_true,aP,if_false,bP (show ¬ts[k].dK < 100 by omega),bP (show ¬105 < ts[k].dK by omega),bP (show ¬ts[k].dK < a by omega)]
          rw [if_pos ⟨h4,q,o⟩]
      · have q1:(ts[k].LI == 1)=false:=by simpa using q
        have q2:(ts[k].LI != 1)=true:=by simpa using q
        simp only [q1,q2,if_true,aP,if_false,if_neg q,Nat.add_zero]
        rw [if_neg (fun z=>q z.2.1)]) (by
      simp only [nM]
      rw [if_neg (by simp),List.take_of_length_le (Nat.le_refl _),w6];rfl)
    simpa [V5] using key
  rw [lp,aG]
  simp only [LA,K9,sZ]
  rw [if_pos (by simp [lt])];rfl
end Go.Gv
end
