import Derived.Test.YtbdmodalljibjaaGreatXOE
set_option linter.unusedVariables false
set_option linter.unusedSimpArgs false
set_option linter.unusedSectionVars false
set_option linter.constructorNameAsVariable false
set_option linter.unnecessarySimpa false
noncomputable section
set_option maxHeartbeats 4000000
set_option maxRecDepth 100000
namespace Go.Proofs.YtbdmodalljibjaaGreat
open Go.Gv
noncomputable section
variable {κ:Ctx}
theorem aEG{b:List Int}{s1:AC}(h1:aT κ s1 b):V0 Tryz.prog κ 223 (GM b) [.h s1 b.length] .b:=
 bR tok Tryz.call223 Tryz.func223 Tryz.results223 Q Q<|dA 0 0 xY [] 2 [] Q (dZ [5,6] Q Q (c0 Q (fun h=>gG (h.a h1) (aFX Tryz.call338 fun _=>XZ)) fun x2=>b8 [] Q Q)<|b8 [] Q Q) fun x1=>aZ Q Q
theorem aAK{c:Int}:V0 Tryz.prog κ 224 (DO c) [I c] .b:=
 bR tok Tryz.call224 Tryz.func224 Tryz.results224 Q Q<|c0 Q (fun _=>cE) fun x1=>aZ Q Q
theorem TR{h:aG}{s1 s2:AC}(h1:aT κ s1 h.Bytes)(h2:aT κ s2 h.Class):V0 Tryz.prog κ 126 (EL h) [.g [.h s1 h.Bytes.length,.h s2 h.Class.length]] .b:=
 bR tok Tryz.call126 Tryz.func126 Tryz.results126 Q Q<|dA 0 1 o4 [] 2 [] Q (dZ [6,7] Q Q (c0 Q (fun h=>aEG (h.a h1)) fun x2=>dZ [10,11,12] Q Q (dZ [16,17,18] Q Q (c0 Q (fun h=>gG (h.a h2) (aFX Tryz.call224 fun _=>aAK)) fun x3=>b8 [] Q Q)<|b8 [] Q Q)<|b8 [] Q Q)<|b8 [] Q Q) fun x1=>aZ Q Q
theorem l7{c:Int}:V0 Tryz.prog κ 124 (jE c) [I c] .b:=
 bR tok Tryz.call124 Tryz.func124 Tryz.results124 Q Q<|c0 Q (fun _=>cE) fun x1=>aZ Q Q
theorem LM{c:Int}:V0 Tryz.prog κ 415 (zX c) [I c] I:=
 bR tok Tryz.call415 Tryz.func415 Tryz.results415 Q Q<|c0 Q (fun _=>l7) fun x1=>aV [5] Q Q (aZ Q Q)<|fun hF=>qba [I 8,I 16,I 40] Tryz.zeroValue376 Tryz.underlying376 Tryz.sizeOf3 Q Q Q Q Q Q<|qai (fun q:Int=>.int .i64 q) (fun q=>.i .i64 q) (l:=([8,16,40]:List Int)) Tryz.underlying376 Tryz.sizeOf3 Tryz.isAgg3 (fun _=>Q) Q Q Q Q Q Q hF fun x2 _ hF=>wi hF<|aZ Q Q
theorem FA{c:Int}:V0 Tryz.prog κ 341 (rT c) [I c] I:=
 bR tok Tryz.call341 Tryz.func341 Tryz.results341 Q Q<|c0 Q (fun _=>l7) fun x1=>aV [5] Q Q (aZ Q Q)<|c0 Q (fun _=>LM) fun x2=>aZ Q Q
theorem pL{c:Int}:V0 Tryz.prog κ 340 (nA c) [I c] I:=
 bR tok Tryz.call340 Tryz.func340 Tryz.results340 Q Q<|c0 Q (fun _=>l7) fun x1=>aV [5] Q Q (aZ Q Q)<|c0 Q (fun _=>FA) fun x2=>fun hF=>a09 Q Q Q Q hF fun hF=>wi hF<|aZ Q Q
theorem BX{b:List Int}{at_ width:Int}{s1:AC}(h1:aT κ s1 b):V0 Tryz.prog κ 411 (kY b at_ width) [.h s1 b.length,I at_,I width] I:=
 bR tok Tryz.call411 Tryz.func411 Tryz.results411 Q Q<|fun hF=>aM5 Q Q Q Q Q h1 Q Q Q hF fun hF s2 h2=>wi hF<|CK () [15,16] (fun(p:Int×Int) (_:Unit)=>[(7,I p.1),(17,I p.2)]) [] [] (fun p _=>[]) id [] (fun(x5:Int) (_:Unit)=>[(7,I x5)]) [] (fun x5 _=>[]) Q Q (fun hF1 ⟨x3,x4⟩ _ hr1=>aV [18] Q Q (SJ Q h2 Q fun x6=>vP [] Q)<|mL [] Q) fun x5 _=>aZ Q Q
theorem aAL{x:Int}:V0 Tryz.prog κ 454 (DP x) [I x] .b:=
 bR tok Tryz.call454 Tryz.func454 Tryz.results454 Q Q<|aZ Q Q
theorem TS{b:List Int}{s1:AC}(h1:aT κ s1 b):V0 Tryz.prog κ 445 (EM b) [.h s1 b.length] .b:=
 bR tok Tryz.call445 Tryz.func445 Tryz.results445 Q Q<|c0 Q (fun h=>gG (h.a h1) (aFX Tryz.call454 fun _=>aAL)) fun x1=>aZ Q Q
theorem aG2{h:aG}{page:Int}{s1 s2:AC}(h1:aT κ s1 h.Bytes)(h2:aT κ s2 h.Class):V0 Tryz.prog κ 409 (KI h page) [.g [.h s1 h.Bytes.length,.h s2 h.Class.length],I page] .b:=
 bR tok Tryz.call409 Tryz.func409 Tryz.results409 Q Q<|d9 aB [0] Q<|SJ Q h2 Q fun x1=>fun hF=>aM5 Q Q Q Q Q h1 Q Q Q hF fun hF s3 h3=>wi hF<|aV [22] Q Q (c0 Q (fun h=>TS (h.a h3)) fun x2=>aZ Q Q)<|dA 0 2 (iI h page x1) [5,6] 49 [] Q (d9 aB [0,1] Q<|SJ Q h3 Q fun x10=>dZ [28,29] Q Q (b8 [] Q Q)<|SJ Q h3 Q fun x11=>dZ [34,35,36] Q Q (b8 [] Q Q)<|SJ Q h3 Q fun x12=>c0 Q (fun _=>pL) fun x13=>dZ [42,43,44] Q Q (b8 [] Q Q)<|fun hF=>aM5 Q Q Q Q Q h3 Q Q Q hF fun hF s4 h4=>wi hF<|c0 Q (fun h=>TS (h.a h4)) fun x14=>b8 [] Q Q) fun x3=>aV [49] Q Q (aZ Q Q)<|c0 Q (fun _=>pL) fun x4=>FG 52 [5,6,51] [] Out.brk [] [] Q Q (fun hF2 x6 hr2=>aV [53] Q Q (c0 Q (fun _=>FA) fun x7=>c0 Q (fun h=>BX (h.a h3)) fun x8=>c0 Q (fun _=>cE) fun x9=>aV [63] Q Q (lK hr2 hF2<|aZ Q Q)<|vP [] Q)<|mL [] Q)<|aZ Q Q
theorem TU{h:aG}{s1 s2:AC}(h1:aT κ s1 h.Bytes)(h2:aT κ s2 h.Class):V0 Tryz.prog κ 328 (EN h) [.g [.h s1 h.Bytes.length,.h s2 h.Class.length]] .b:=
 bR tok Tryz.call328 Tryz.func328 Tryz.results328 Q Q<|c0 Q (fun h=>TR (h.a h1) (h.a h2)) fun x1=>aV [6] Q Q (aZ Q Q)<|FG 7 [1] [0] Out.brk [] [] Q Q (fun hF1 x3 hr1=>aV [8] Q Q (c0 Q (fun h=>aG2 (h.a h1) (h.a h2)) fun x4=>aV [13] Q Q (lK hr1 hF1<|aZ Q Q)<|vP [0] Q)<|mL [] Q)<|aZ Q Q
theorem qQ{slot c:Int}:V0 Tryz.prog κ 225 (tF slot c) [I slot,I c] I:=
 bR tok Tryz.call225 Tryz.func225 Tryz.results225 Q Q<|dA 0 0 (wP slot c) [0,1] 19 [] Q (c0 Q (fun _=>EB) fun x3=>dZ [7,8] Q Q (b8 [] Q Q)<|c0 Q (fun _=>l7) fun x4=>dZ [11,12,13] Q Q (b8 [] Q Q)<|c0 Q (fun _=>pL) fun x5=>b8 [] Q Q) fun x1=>aV [19] Q Q (aZ Q Q)<|c0 Q (fun _=>FA) fun x2=>aZ Q Q
theorem tV{h:aG}{slot:Int}{s1 s2:AC}(h1:aT κ s1 h.Bytes)(h2:aT κ s2 h.Class):V0 Tryz.prog κ 127 (nB h slot) [.g [.h s1 h.Bytes.length,.h s2 h.Class.length],I slot] I:=
 bR tok Tryz.call127 Tryz.func127 Tryz.results127 Q Q<|dA 0 1 (xZ h slot) [1,2] 18 [0] Q (c0 Q (fun _=>EB) fun x3=>dZ [7,8] Q Q (b8 [0] Q Q)<|SJ Q h2 Q fun x4=>c0 Q (fun _=>qQ) fun x5=>b8 [0] Q Q) fun x1=>aV [18] Q Q (aZ Q Q)<|SJ Q h2 Q fun x2=>aZ Q Q
theorem tW{h:aG}{slot:Int}{s1 s2:AC}(h1:aT κ s1 h.Bytes)(h2:aT κ s2 h.Class):V0 Tryz.prog κ 410 (p8 h slot) [.g [.h s1 h.Bytes.length,.h s2 h.Class.length],I slot] I:=
 bR tok Tryz.call410 Tryz.func410 Tryz.results410 Q Q<|c0 Q (fun h=>TR (h.a h1) (h.a h2)) fun x1=>aV [7] Q Q (aZ Q Q)<|c0 Q (fun h=>tV (h.a h1) (h.a h2)) fun x2=>aZ Q Q
theorem HH{h:aG}{slot:Int}{s1 s2:AC}(h1:aT κ s1 h.Bytes)(h2:aT κ s2 h.Class):V0 Tryz.prog κ 333 (zD h slot) [.g [.h s1 h.Bytes.length,.h s2 h.Class.length],I slot] I:=
 bR tok Tryz.call333 Tryz.func333 Tryz.results333 Q Q<|c0 Q (fun h=>tW (h.a h1) (h.a h2)) fun x1=>aV [10] Q Q (aZ Q Q)<|d9 aB [0] Q<|c0 Q (fun _=>qQ) fun x2=>c0 Q (fun h=>BX (h.a h1)) fun x3=>aZ Q Q
theorem P0{h:aG}{s:aH}{c:Int}{s1 s2:AC}{s3:AC}(h1:aT κ s1 h.Bytes)(h2:aT κ s2 h.Class)(h3:aT κ s3 s.aL):V0 Tryz.prog κ 329 (wQ h s c) [.g [.h s1 h.Bytes.length,.h s2 h.Class.length],.g [.h s3 s.aL.length],I c] .b:=
 bR tok Tryz.call329 Tryz.func329 Tryz.results329 Q Q<|FG 12 [2,3,10,11] [0] Out.brk [] [] Q Q (fun hF1 x2 hr1=>aV [13] Q Q (SJ Q h3 Q fun x3=>dA 0 3 (uV x2) [2,3,10,11,12] 26 [0] Q (c0 Q (fun h=>tV (h.a h1) (h.a h2)) fun x5=>dZ [20,21] Q Q (b8 [0] Q Q)<|c0 Q (fun h=>HH (h.a h1) (h.a h2)) fun x6=>b8 [0] Q Q) fun x4=>aV [26] Q Q (lK hr1 hF1<|aZ Q Q)<|vP [0] Q)<|mL [] Q)<|aZ Q Q
theorem V2{m:Mem}{s1 s2 s3 s4:AC}(h1:aT κ s1 m.aG.Bytes)(h2:aT κ s2 m.aG.Class)(h3:aT κ s3 m.aA.Global)(h4:aT κ s4 m.aA.bQ):V0 Tryz.prog κ 211 (II m) [.g (gM m s1 s2 s3 s4)] .b:=
 bR tok Tryz.call211 Tryz.func211 Tryz.results211 Q Q<|dA 0 1 (DQ m) [1] 16 [0] Q (c0 Q (fun h=>TU (h.a h1) (h.a h2)) fun x10=>dZ [10,11] Q Q (b8 [0] Q Q)<|c0 Q (fun h=>BW (h.a h3) (h.a h4)) fun x11=>b8 [0] Q Q) fun x1=>aV [16] Q Q (aZ Q Q)<|FG 21 [1,19,20] [0] Out.brk [1] [0] Q Q (fun hF2 x3 hr2=>aV [22] Q Q (jT qP Q h3 Q fun x8 s6 h6=>c0 Q (fun h=>P0 (h.a h1) (h.a h2) (h.a h6)) fun x9=>aV [31] Q Q (lK hr2 hF2<|aZ Q Q)<|vP [0] Q)<|mL [0] Q)<|FG 37 [1,35,36] [0] Out.brk [] [] Q Q (fun hF3 x5 hr3=>aV [38] Q Q (jT qP Q h4 Q fun x6 s5 h5=>c0 Q (fun h=>P0 (h.a h1) (h.a h2) (h.a h5)) fun x7=>aV [48] Q Q (lK hr3 hF3<|aZ Q Q)<|vP [0] Q)<|mL [] Q)<|aZ Q Q
theorem mZ{h:Int}:V0 Tryz.prog κ 295 (fZ h) [I h] .b:=
 bR tok Tryz.call295 Tryz.func295 Tryz.results295 Q Q<|dA 0 0 lQ [] 2 [] Q (c0 Q (fun _=>cE) fun x2=>dZ [4,5] Q Q (b8 [] Q Q)<|b8 [] Q Q) fun x1=>aZ Q Q
theorem BY{l:List aO}{s1:AC}(h_s1:aT κ s1 l):V0 Tryz.prog κ 212 (kZ l) [.h s1 l.length] .b:=
 fun r hF=>a1K Tryz.call212 fun hm vs hv=>by cases hv;exact Calls.mono (aDM (hm (z6 [AC.v s1 l.length] l) h_s1) hF) fun _ _ ⟨v,h1,h2,h3⟩=>⟨v,h1,by rw [h2];rfl,h3⟩
theorem EC{h:Int}:V0 Tryz.prog κ 184 (pS h) [I h] .b:=
 bR tok Tryz.call184 Tryz.func184 Tryz.results184 Q Q<|dA 0 0 tH [] 2 [] Q (dZ [4,5] Q Q (b8 [] Q Q)<|c0 Q (fun _=>mZ) fun x2=>b8 [] Q Q) fun x1=>aZ Q Q
theorem aEH{h:Int}:V0 Tryz.prog κ 330 (GN h) [I h] .b:=
 bR tok Tryz.call330 Tryz.func330 Tryz.results330 Q Q<|c0 Q (fun _=>EC) fun x1=>aZ Q Q
theorem OT{z:List Int}{s1:AC}(h1:aT κ s1 z):V0 Tryz.prog κ 213 (C1 z) [.h s1 z.length] .b:=
 bR tok Tryz.call213 Tryz.func213 Tryz.results213 Q Q<|dA 0 0 DR [] 2 [] Q (dZ [5,6] Q Q (c0 Q (fun h=>gG (h.a h1) (aFX Tryz.call330 fun _=>aEH)) fun x2=>b8 [] Q Q)<|b8 [] Q Q) fun x1=>aZ Q Q
theorem LN{s:List aO}{f:(aO→Option Bool)}{s1:AC}{g_f:FuncId}{cap_f:List Value}(h1:aT κ s1 s)(h_f:Fu1 Tryz.prog κ (C4:K6 aO) .b g_f cap_f f):V0 Tryz.prog κ 331 (qA s f) [.h s1 s.length,.k (.func (.func g_f) #[] cap_f.toArray)] I:=
 bR tok Tryz.call331 Tryz.func331 Tryz.results331 Q Q<|FG 8 [0,1,7] [] Out.brk [] [] Q Q (fun hF1 x2 hr1=>aV [9] Q Q (jT C4 Q h1 Q fun x3 s2 h2=>fun hG1=>fa1 h_f x3 s2 Q Q Q Q Q h2 hG1 fun x4 _ hG1=>wi hG1<|aV [16] Q Q (lK hr1 hF1<|aZ Q Q)<|vP [] Q)<|mL [] Q)<|aZ Q Q
theorem sJ{s:List aO}{f:(aO→Option Bool)}{s1:AC}{g_f:FuncId}{cap_f:List Value}(h1:aT κ s1 s)(h_f:Fu1 Tryz.prog κ (C4:K6 aO) .b g_f cap_f f):V0 Tryz.prog κ 214 (gD s f) [.h s1 s.length,.k (.func (.func g_f) #[] cap_f.toArray)] .b:=
 bR tok Tryz.call214 Tryz.func214 Tryz.results214 Q Q<|c0 Q (fun h=>LN (h.a h1) (h.u1 h_f)) fun x1=>aZ Q Q
theorem NB{s:List bM}{f:(bM→Option Bool)}{s1:AC}{g_f:FuncId}{cap_f:List Value}(h1:aT κ s1 s)(h_f:Fu1 Tryz.prog κ (TN:K6 bM) .b g_f cap_f f):V0 Tryz.prog κ 332 (rZ s f) [.h s1 s.length,.k (.func (.func g_f) #[] cap_f.toArray)] I:=
 bR tok Tryz.call332 Tryz.func332 Tryz.results332 Q Q<|FG 8 [0,1,7] [] Out.brk [] [] Q Q (fun hF1 x2 hr1=>aV [9] Q Q (jT TN Q h1 Q fun x3 _ _=>fun hG1=>fa1 h_f x3 () Q Q Q Q Q trivial hG1 fun x4 _ hG1=>wi hG1<|aV [16] Q Q (lK hr1 hF1<|aZ Q Q)<|vP [] Q)<|mL [] Q)<|aZ Q Q
theorem tX{s:List bM}{f:(bM→Option Bool)}{s1:AC}{g_f:FuncId}{cap_f:List Value}(h1:aT κ s1 s)(h_f:Fu1 Tryz.prog κ (TN:K6 bM) .b g_f cap_f f):V0 Tryz.prog κ 216 (gT s f) [.h s1 s.length,.k (.func (.func g_f) #[] cap_f.toArray)] .b:=
 bR tok Tryz.call216 Tryz.func216 Tryz.results216 Q Q<|c0 Q (fun h=>NB (h.a h1) (h.u1 h_f)) fun x1=>aZ Q Q
theorem IZ{s:List Int}{v:Int}{s1:AC}(h1:aT κ s1 s):V0 Tryz.prog κ 446 (lR s v) [.h s1 s.length,I v] I:=
 bR tok Tryz.call446 Tryz.func446 Tryz.results446 Q Q<|FG 8 [0,1,7] [] Out.brk [] [] Q Q (fun hF1 x2 hr1=>aV [9] Q Q (SJ Q h1 Q fun x3=>aV [16] Q Q (lK hr1 hF1<|aZ Q Q)<|vP [] Q)<|mL [] Q)<|aZ Q Q
theorem QD{s:List Int}{v:Int}{s1:AC}(h1:aT κ s1 s):V0 Tryz.prog κ 413 (nV s v) [.h s1 s.length,I v] .b:=
 bR tok Tryz.call413 Tryz.func413 Tryz.results413 Q Q<|c0 Q (fun h=>IZ (h.a h1)) fun x1=>aZ Q Q
theorem P1{s:aH}{k0:Int}{s1:AC}{b0:Nat×Nat}(h1:aT κ s1 s.aL):VS Tryz.prog κ 412 (nN s k0) [.g [.h s1 s.aL.length],.p 0 0] [b0] [.ro 0 [I k0]] (fun r (_:Unit)=>.b r) (fun _ _=>[]):=
 bR tok Tryz.call412 Tryz.func412 Tryz.results412 Q Q<|c0 Q (fun h=>QD (h.a h1)) fun x1=>aZ Q Q
theorem LO{s:List aH}{f:(aH→Option Bool)}{s1:AC}{g_f:FuncId}{cap_f:List Value}(h1:aT κ s1 s)(h_f:Fu1 Tryz.prog κ (qP:K6 aH) .b g_f cap_f f):V0 Tryz.prog κ 447 (qB s f) [.h s1 s.length,.k (.func (.func g_f) #[] cap_f.toArray)] I:=
 bR tok Tryz.call447 Tryz.func447 Tryz.results447 Q Q<|FG 8 [0,1,7] [] Out.brk [] [] Q Q (fun hF1 x2 hr1=>aV [9] Q Q (jT qP Q h1 Q fun x3 s2 h2=>fun hG1=>fa1 h_f x3 s2 Q Q Q Q Q h2 hG1 fun x4 _ hG1=>wi hG1<|aV [16] Q Q (lK hr1 hF1<|aZ Q Q)<|vP [] Q)<|mL [] Q)<|aZ Q Q
theorem sK{s:List aH}{f:(aH→Option Bool)}{s1:AC}{g_f:FuncId}{cap_f:List Value}(h1:aT κ s1 s)(h_f:Fu1 Tryz.prog κ (qP:K6 aH) .b g_f cap_f f):V0 Tryz.prog κ 414 (gE s f) [.h s1 s.length,.k (.func (.func g_f) #[] cap_f.toArray)] .b:=
 bR tok Tryz.call414 Tryz.func414 Tryz.results414 Q Q<|c0 Q (fun h=>LO (h.a h1) (h.u1 h_f)) fun x1=>aZ Q Q
theorem TV{l:aA}{slot:Int}{s1 s2:AC}(h1:aT κ s1 l.Global)(h2:aT κ s2 l.bQ):V0 Tryz.prog κ 334 (EO l slot) [.g [.h s1 l.Global.length,.h s2 l.bQ.length],I slot] .b:=
 bR tok Tryz.call334 Tryz.func334 Tryz.results334 Q Q<|fun hF=>mf [1] Q Q Q<|wi hF<|dA 0 2 A1 [] 4 [] Q (aNC [1] Q Q Q Q (fun h=>fun hB=>sK (h.a h1) (aNB (cs:=[(1,[I slot])]) Tryz.call412 hB Q fun _ hy=>P1 hy)) fun x2=>dZ [10,11] Q Q (b8 [] Q Q)<|aNC [1] Q Q Q Q (fun h=>fun hB=>sK (h.a h2) (aNB (cs:=[(1,[I slot])]) Tryz.call412 hB Q fun _ hy=>P1 hy)) fun x3=>b8 [] Q Q) fun x1=>aZ Q Q
theorem aEI{m:Mem}{slot:Int}{s1 s2 s3 s4:AC}(h1:aT κ s1 m.aG.Bytes)(h2:aT κ s2 m.aG.Class)(h3:aT κ s3 m.aA.Global)(h4:aT κ s4 m.aA.bQ):V0 Tryz.prog κ 219 (GO m slot) [.g (gM m s1 s2 s3 s4),I slot] I:=
 bR tok Tryz.call219 Tryz.func219 Tryz.results219 Q Q<|c0 Q (fun h=>tV (h.a h1) (h.a h2)) fun x1=>aV [5,10] Q Q (aZ Q Q)<|c0 Q (fun h=>TV (h.a h3) (h.a h4)) fun x2=>aV [11,15] Q Q (aZ Q Q)<|c0 Q (fun h=>HH (h.a h1) (h.a h2)) fun x3=>aV [16,21] Q Q (aZ Q Q)<|aZ Q Q
theorem LP{m:Mem}{h:Int}{s1 s2 s3 s4:AC}(h1:aT κ s1 m.aG.Bytes)(h2:aT κ s2 m.aG.Class)(h3:aT κ s3 m.aA.Global)(h4:aT κ s4 m.aA.bQ):V0 Tryz.prog κ 218 (zY m h) [.g (gM m s1 s2 s3 s4),I h] .b:=
 bR tok Tryz.call218 Tryz.func218 Tryz.results218 Q Q<|dA 0 1 tI [] 4 [] Q (c0 Q (fun _=>mZ) fun x2=>dZ [6,7] Q Q (c0 Q (fun h=>aEI (h.a h1) (h.a h2) (h.a h3) (h.a h4)) fun x3=>dZ [12,13,14] Q Q (c0 Q (fun h=>HH (h.a h1) (h.a h2)) fun x4=>b8 [] Q Q)<|b8 [] Q Q)<|b8 [] Q Q) fun x1=>aZ Q Q
theorem V3{r_:bM}{k0:aD}{s1 s2 s3 s4 s5 s6 s7:AC}{b0:Nat×Nat}(h1:aT κ s1 k0.Mem.aG.Bytes)(h2:aT κ s2 k0.Mem.aG.Class)(h3:aT κ s3 k0.Mem.aA.Global)(h4:aT κ s4 k0.Mem.aA.bQ)(h5:aT κ s5 k0.aJ.bD)(h6:aT κ s6 k0.aX)(h7:aT κ s7 k0.jQ):VS Tryz.prog κ 217 (yD r_ k0) [.g [I r_.Handle,I r_.aM],.p 0 0] [b0] [.ro 0 (gB k0 s1 s2 s3 s4 s5 s6 s7)] (fun r (_:Unit)=>.b r) (fun _ _=>[]):=
 bR tok Tryz.call217 Tryz.func217 Tryz.results217 Q Q<|dA 0 2 qC [] 3 [] Q (c0 Q (fun h=>LP (h.a h1) (h.a h2) (h.a h3) (h.a h4)) fun x2=>dZ [9,10] Q Q (b8 [] Q Q)<|b8 [] Q Q) fun x1=>aZ Q Q
theorem aAM{l:aO}{k0:aD}{s1:AC}{s2 s3 s4 s5 s6 s7 s8:AC}{b0:Nat×Nat}(h1:aT κ s1 l.Rows)(h2:aT κ s2 k0.Mem.aG.Bytes)(h3:aT κ s3 k0.Mem.aG.Class)(h4:aT κ s4 k0.Mem.aA.Global)(h5:aT κ s5 k0.Mem.aA.bQ)(h6:aT κ s6 k0.aJ.bD)(h7:aT κ s7 k0.aX)(h8:aT κ s8 k0.jQ):VS Tryz.prog κ 215 (DS l k0) [.g [.h s1 l.Rows.length],.p 0 0] [b0] [.ro 0 (gB k0 s2 s3 s4 s5 s6 s7 s8)] (fun r (_:Unit)=>.b r) (fun _ _=>[]):=
 bR tok Tryz.call215 Tryz.func215 Tryz.results215 Q Q<|fun hF=>mf [0] Q Q Q<|wi hF<|aNC [0] Q Q Q Q (fun h=>fun hB=>tX (h.a h1) (aNB (cs:=[(0,(gB k0 s2 s3 s4 s5 s6 s7 s8))]) Tryz.call217 hB Q fun hk _=>V3 (rk hk (h.a h2)) (rk hk (h.a h3)) (rk hk (h.a h4)) (rk hk (h.a h5)) (rk hk (h.a h6)) (rk hk (h.a h7)) (rk hk (h.a h8)))) fun x1=>aZ Q Q
theorem aG3{b:aD}{s1 s2 s3 s4 s5 s6 s7:AC}(h1:aT κ s1 b.Mem.aG.Bytes)(h2:aT κ s2 b.Mem.aG.Class)(h3:aT κ s3 b.Mem.aA.Global)(h4:aT κ s4 b.Mem.aA.bQ)(h5:aT κ s5 b.aJ.bD)(h6:aT κ s6 b.aX)(h7:aT κ s7 b.jQ):V0 Tryz.prog κ 121 (KJ b) [.g (gB b s1 s2 s3 s4 s5 s6 s7)] .b:=
 bR tok Tryz.call121 Tryz.func121 Tryz.results121 Q Q<|dA 0 1 (o6 b) [1] 24 [0] Q (c0 Q (fun h=>V2 (h.a h1) (h.a h2) (h.a h3) (h.a h4)) fun x3=>dZ [6,7] Q Q (b8 [0] Q Q)<|c0 Q (fun h=>tU (h.a h5)) fun x4=>dZ [11,12,13] Q Q (b8 [0] Q Q)<|c0 Q (fun h=>BY (h.a h6)) fun x5=>dZ [17,18,19] Q Q (b8 [0] Q Q)<|c0 Q (fun h=>OT (h.a h7)) fun x6=>b8 [0] Q Q) fun x1=>aV [24] Q Q (aZ Q Q)<|fun hF=>mf [0] Q Q Q<|wi hF<|aNC [0] Q Q Q Q (fun h=>fun hB=>sJ (h.a h6) (aNB (cs:=[(0,(gB b s1 s2 s3 s4 s5 s6 s7))]) Tryz.call215 hB Q fun hk hy=>aAM hy (rk hk (h.a h1)) (rk hk (h.a h2)) (rk hk (h.a h3)) (rk hk (h.a h4)) (rk hk (h.a h5)) (rk hk (h.a h6)) (rk hk (h.a h7)))) fun x2=>aZ Q Q
theorem QE{s:List dP}{f:(dP→Option Bool)}{s1:AC}{g_f:FuncId}{cap_f:List Value}(h1:aT κ s1 s)(h_f:Fu1 Tryz.prog κ (Z7:K6 dP) .b g_f cap_f f):V0 Tryz.prog κ 389 (vX s f) [.h s1 s.length,.k (.func (.func g_f) #[] cap_f.toArray)] I:=
 bR tok Tryz.call389 Tryz.func389 Tryz.results389 Q Q<|FG 8 [0,1,7] [] Out.brk [] [] Q Q (fun hF1 x2 hr1=>aV [9] Q Q (jT Z7 Q h1 Q fun x3 _ _=>fun hG1=>fa1 h_f x3 () Q Q Q Q Q trivial hG1 fun x4 _ hG1=>wi hG1<|aV [16] Q Q (lK hr1 hF1<|aZ Q Q)<|vP [] Q)<|mL [] Q)<|aZ Q Q
theorem LQ{s:List dP}{f:(dP→Option Bool)}{s1:AC}{g_f:FuncId}{cap_f:List Value}(h1:aT κ s1 s)(h_f:Fu1 Tryz.prog κ (Z7:K6 dP) .b g_f cap_f f):V0 Tryz.prog κ 291 (lA s f) [.h s1 s.length,.k (.func (.func g_f) #[] cap_f.toArray)] .b:=
 bR tok Tryz.call291 Tryz.func291 Tryz.results291 Q Q<|c0 Q (fun h=>QE (h.a h1) (h.u1 h_f)) fun x1=>aZ Q Q
theorem YZ{o_:dP}:V0 Tryz.prog κ 293 (HO o_) [.g [I o_.Kind,I o_.Cell,I o_.dQ,I o_.dN]] .b:=
 bR tok Tryz.call293 Tryz.func293 Tryz.results293 Q Q<|dA 0 1 (nC o_) [1] 3 [0] Q (aLL [6,7] Q Q (fun hb8=>b8 [0] Q Q) fun hb8=>aLL [10,11,12] Q Q (fun hb9=>b8 [0] Q Q) fun hb9=>aLL [15,16,17] Q Q (fun hb10=>b8 [0] Q Q) fun hb10=>b8 [0] Q Q) fun x1=>c0 Q (fun _=>cE) fun x2=>aLK [22,26] Q Q (fun hb1=>aZ Q Q) fun hb1=>dA 0 1 (A3 o_) [1] 27 [0] Q (aLL [3,28,29] Q Q (fun hb6=>c0 Q (fun _=>cE) fun x8=>aLL [33,34,35] Q Q (fun hb7=>b8 [0] Q Q) fun hb7=>b8 [0] Q Q) fun hb6=>b8 [0] Q Q) fun x3=>aLK [27] Q Q (fun hb2=>aZ Q Q) fun hb2=>aLK [44,47] Q Q (fun hb3=>dA 0 1 GP [] 2 [] Q (c0 Q (fun _=>cE) fun x5=>aLL [50,51] Q Q (fun hb4=>c0 Q (fun _=>cE) fun x6=>b8 [] Q Q) fun hb4=>b8 [] Q Q) fun x4=>aZ Q Q) fun hb3=>dA 0 1 GQ [] 2 [] Q (aLL [58,59] Q Q (fun hb5=>b8 [] Q Q) fun hb5=>b8 [] Q Q) fun x7=>aZ Q Q
theorem V4{o_:dP}:V0 Tryz.prog κ 292 (yE o_) [.g [I o_.Kind,I o_.Cell,I o_.dQ,I o_.dN]] .b:=
 bR tok Tryz.call292 Tryz.func292 Tryz.results292 Q Q<|c0 Q (fun _=>YZ) fun x1=>aZ Q Q
theorem aAN{q:Queue}{s1:AC}(h1:aT κ s1 q.eZ):V0 Tryz.prog κ 290 (DT q) [.g [.h s1 q.eZ.length]] .b:=
 bR tok Tryz.call290 Tryz.func290 Tryz.results290 Q Q<|dA 0 1 uW [] 2 [] Q (dZ [6,7] Q Q (b8 [] Q Q)<|c0 Q (fun h=>LQ (h.a h1) (aFX Tryz.call292 fun _=>V4)) fun x2=>b8 [] Q Q) fun x1=>aZ Q Q
theorem aG4{todo:List Queue}{s1:AC}(h1:aT κ s1 todo):V0 Tryz.prog κ 181 (KK todo) [.h s1 todo.length] .b:=
 bR tok Tryz.call181 Tryz.func181 Tryz.results181 Q Q<|dA 0 0 A4 [] 2 [] Q (dZ [5,6] Q Q (c0 Q (fun h=>sI (h.a h1) (aFX Tryz.call290 fun hy=>aAN hy)) fun x2=>b8 [] Q Q)<|b8 [] Q Q) fun x1=>aZ Q Q
theorem X0{h:Int}:V0 Tryz.prog κ 183 (tJ h) [I h] .b:=
 bR tok Tryz.call183 Tryz.func183 Tryz.results183 Q Q<|c0 Q (fun _=>EC) fun x1=>aZ Q Q
theorem aJT{j:bW}:V0 Tryz.prog κ 186 (OA j) [.g [.b j.fP,I j.Op.Kind,I j.Op.Cell,I j.Op.dQ,I j.Op.dN,I j.aR,I j.Pc,I j.Sub.Kind,I j.Sub.A,I j.Sub.Pc,I j.Sub.E,I j.Sub.Row,I j.Sub.B,I j.Sub.H,I j.Sub.Out,I j.Sub.Code,.b j.Sub.cJ,I j.H,I j.Old,I j.dN,I j.Code]] .b:=
 bR tok Tryz.call186 Tryz.func186 Tryz.results186 Q Q<|aV [5] Q Q (fun hF=>eqS Tryz.eqGuardType74 Tryz.stoodInHeld74 Tryz.underlying74 (aDK 9996 j (⟨false,(⟨0,0,0,0⟩:dP),0,0,(⟨0,0,0,0,0,0,0,0,0,false⟩:Sub),0,0,0,0⟩:bW)) Q Q Q Q Q Q<|wi hF<|aZ Q Q)<|dA 0 1 wS [] 2 [] Q (c0 Q (fun _=>YZ) fun x2=>dZ [11,12] Q Q (c0 Q (fun _=>EC) fun x3=>dZ [15,16,17] Q Q (c0 Q (fun _=>EC) fun x4=>b8 [] Q Q)<|b8 [] Q Q)<|b8 [] Q Q) fun x1=>aZ Q Q
theorem X2{j:bW}:V0 Tryz.prog κ 185 (A5 j) [.g [.b j.fP,I j.Op.Kind,I j.Op.Cell,I j.Op.dQ,I j.Op.dN,I j.aR,I j.Pc,I j.Sub.Kind,I j.Sub.A,I j.Sub.Pc,I j.Sub.E,I j.Sub.Row,I j.Sub.B,I j.Sub.H,I j.Sub.Out,I j.Sub.Code,.b j.Sub.cJ,I j.H,I j.Old,I j.dN,I j.Code]] .b:=
 bR tok Tryz.call185 Tryz.func185 Tryz.results185 Q Q<|c0 Q (fun _=>aJT) fun x1=>aZ Q Q
theorem RO{s:aC}{s1 s2 s3 s4 s5 s6 s7 s8 s9 s10 s11:AC}(h1:aT κ s1 s.aD.Mem.aG.Bytes)(h2:aT κ s2 s.aD.Mem.aG.Class)(h3:aT κ s3 s.aD.Mem.aA.Global)(h4:aT κ s4 s.aD.Mem.aA.bQ)(h5:aT κ s5 s.aD.aJ.bD)(h6:aT κ s6 s.aD.aX)(h7:aT κ s7 s.aD.jQ)(h8:aT κ s8 s.Cells)(h9:aT κ s9 s.aW)(h10:aT κ s10 s.cG)(h11:aT κ s11 s.Log):V0 Tryz.prog κ 97 (uX s) [.g (gS s s1 s2 s3 s4 s5 s6 s7 s8 s9 s10 s11)] .b:=
 bR tok Tryz.call97 Tryz.func97 Tryz.results97 Q Q<|dA 0 1 g7 [] 2 [] Q (c0 Q (fun h=>aG3 (h.a h1) (h.a h2) (h.a h3) (h.a h4) (h.a h5) (h.a h6) (h.a h7)) fun x2=>dZ [5,6] Q Q (dZ [10,11,12] Q Q (dZ [16,17,18] Q Q (c0 Q (fun h=>aG4 (h.a h10)) fun x3=>dZ [21,22,23] Q Q (c0 Q (fun _=>cE) fun x4=>dZ [26,27,28] Q Q (c0 Q (fun h=>gG (h.a h8) (aFX Tryz.call183 fun _=>X0)) fun x5=>dZ [32,33,34] Q Q (c0 Q (fun h=>vT (h.a h9) (aFX Tryz.call185 fun _=>X2)) fun x6=>b8 [] Q Q)<|b8 [] Q Q)<|b8 [] Q Q)<|b8 [] Q Q)<|b8 [] Q Q)<|b8 [] Q Q)<|b8 [] Q Q) fun x1=>aZ Q Q
theorem V5{x y:Int}:V0 Tryz.prog κ 307 (PK x y) [.i .u64 x,.i .u64 y] (fun r=>.t [.i .u64 r.1,.i .u64 r.2]):=
 bR tok Tryz.call307 Tryz.func307 Tryz.results307 Q Q<|aZ Q Q
theorem aAO{x y:Int}:V0 Tryz.prog κ 196 (DU x y) [.i .u64 x,.i .u64 y] (fun r=>.t [.i .u64 r.1,.i .u64 r.2]):=
 bR tok Tryz.call196 Tryz.func196 Tryz.results196 Q Q<|c0 Q (fun _=>V5) fun x1=>aZ Q Q
theorem zK{x:List dP}{count:Int}{s1:AC}(h1:aT κ s1 x):VS Tryz.prog κ 108 (uY x count) [.h s1 x.length,I count] [] [] (fun r (y:AC)=>.h y r.length) (fun r y=>[ow y r]):=
 bR tok Tryz.call108 Tryz.func108 Tryz.results108 Q Q<|aV [10] Q Q (fun hF=>nomatch hF)<|c0 Q (fun _=>aAO) fun x1=>dA 0 0 (nW x x1) [0,6] 26 [] Q (dZ [22,23] Q Q (b8 [] Q Q)<|b8 [] Q Q) fun x2=>aV [26] Q Q (fun hF=>nomatch hF)<|fun hF=>mks ((⟨0,0,0,0⟩:dP):dP) gK (fun w=>aLB (aCW (⟨0,0,0,0⟩:dP)) w) Q Q Q Q Q Q Q hF fun hF s2=>cp0 (xs:=x) 0 (fun h=>(h.a h1)) Q Q Q Q Q Q Q Q<|rr s2 (eR (xs:=x) (Nat.zero_le _)).symm [7,30,31] [] [] Q Q Q Q<|wi hF<|CK () [] (fun(p:(List dP)×Int) (_:Unit)=>[(7,.h s2 p.1.length),(8,I p.2)]) [0] [] (fun p _=>[ow s2 (p.1:List dP)]) id [] (fun(x7:(List dP)) (_:Unit)=>[(7,.h s2 x7.length)]) [] (fun x7 _=>[ow s2 (x7:List dP)]) Q Q (fun hF2 ⟨x5,x6⟩ _ hr2=>aV [37] Q Q (d9 aB [] Q<|fun hG2=>cpc 0 Q Q fun hc1=>aFW hc1 Q Q Q Q Q Q hG2 fun hG2 h2=>aP7 hc1 Q Q Q Q Q Q hG2 fun hG2 h3=>cpy (xs:=(x5.take x6.toNat).drop 0) 0 x6.toNat h2 (fun h=>((h.o 0 Q).sub (MD h3.1 h3.2) h3)) Q Q Q Q Q Q Q Q<|rr s2 (eR (xs:=(x5.take x6.toNat).drop 0) h2.1).symm [7,35,39,42] [] [] Q Q Q Q<|wi hG2<|vP [0] Q)<|mL [0] Q) fun x7 _=>d8 s2 [0] Q Q
theorem V6{s:aC}{n:Int}{s1 s2 s3 s4 s5 s6 s7 s8 s9 s10 s11:AC}(h1:aT κ s1 s.aD.Mem.aG.Bytes)(h2:aT κ s2 s.aD.Mem.aG.Class)(h3:aT κ s3 s.aD.Mem.aA.Global)(h4:aT κ s4 s.aD.Mem.aA.bQ)(h5:aT κ s5 s.aD.aJ.bD)(h6:aT κ s6 s.aD.aX)(h7:aT κ s7 s.aD.jQ)(h8:aT κ s8 s.Cells)(h9:aT κ s9 s.aW)(h10:aT κ s10 s.cG)(h11:aT κ s11 s.Log):VS Tryz.prog κ 26 (yF s n) [.g (gS s s1 s2 s3 s4 s5 s6 s7 s8 s9 s10 s11),I n] [] [] (fun r (y:BS)=>.g (yS r y)) (fun r y=>(zS r y [])):=
 bR tok Tryz.call26 Tryz.func26 Tryz.results26 Q Q<|c1 Q (fun h=>NA (h.a h1) (h.a h2) (h.a h3) (h.a h4) (h.a h5) (h.a h6) (h.a h7) (h.a h8) (h.a h9) (h.a h10) (h.a h11)) fun x1 s12=>i4 0 3 (fun(p:Bool×aC)=>l5 n p.1 p.2) [1,4,5] (fun(p:Bool×aC) (_:Unit)=>[(21,.b p.1)]) [1] (fun p _=>(zS p.2 s12 [.box 2 (yS p.2 s12)])) Q (c0 Q (fun h=>RO (h.a h1) (h.a h2) (h.a h3) (h.a h4) (h.a h5) (h.a h6) (h.a h7) (h.a h8) (h.a h9) (h.a h10) (h.a h11)) fun x12=>dZ [11,12] Q Q (b8 (p:=(true,x1)) [2,3,4,5,6,7,8,9,10,11,12,13,1] Q Q)<|c0 Q (fun h=>YY (h.a h1) (h.a h2) (h.a h3) (h.a h4) (h.a h5) (h.a h6) (h.a h7) (h.a h8) (h.a h9) (h.a h10) (h.a h11)) fun x13=>dZ [15,16,17] Q Q (b8 (p:=(true,x1)) [2,3,4,5,6,7,8,9,10,11,12,13,1] Q Q)<|c0 Q (fun _=>cE) fun x14=>b8 (p:=(!x14,x1)) [2,3,4,5,6,7,8,9,10,11,12,13,1] Q Q) fun⟨x2,x3⟩ _=>aV [21] Q Q (d8 s12 [0,1,2,3,4,5,6,7,8,9,10] Q Q)<|CK () [1,4,5,25] (fun(p:Int×aC) (_:Unit)=>[(26,I p.1)]) [0,1,2,3,4,5,6,7,8,9,10,11,12] [12] (fun p _=>(zS p.2 s12 [.box 2 (yS p.2 s12)])) id [4,5] (fun(x8:aC) (_:Unit)=>[]) [12] (fun x8 _=>(zS x8 s12 [.box 2 (yS x8 s12)])) Q Q (fun hF2 ⟨x6,x7⟩ _ hr2=>aV [27] Q Q (i4 0 3 (zE x6) [1,4,5,25,26] (fun(x9:aC) (_:Unit)=>[]) [12] (fun x9 _=>(zS x9 s12 [.box 2 (yS x9 s12)])) Q (d9 aB [11,12] Q<|i7 i9 9 Q Q Q fun x10 h12 s13 h13=>fun hG2=>eB 3 h13 h12 Q Q Q Q Q<|bd hG2 fun x11 hA1 hG2=>nd hG2 fun hA2 hG2=>jC Q Q (Y9 Z8 [] ((⟨4,0,0,0⟩:dP)) () gK Q Q Q Q Q Q Q Q Q Q Q Q Q fun s17=>have hq1:=rb hA1;wi hq1<|c1 Q (fun h=>zK (h.o 17 Q)) fun u1 s18=>fun hq1=>match u1,hq1 with | _,rfl=>have hq2:=rn hA2;ap 16 gK Q Q Q Q Q Q Q (fun h=>(h.o 18 Q)) Q Q hq2 fun hq2 s19=>eB 3 h13 h12 Q Q Q Q Q<|sF Q<|iN i9 13 [16] [30,33] (⟨x10.eZ++x11⟩:Queue) s19 Q Q Q Q Q Q Q Q<|mG s12.2.2.2.2.2.2.2.2.2.1 List.length_set.symm [] [(11,10)] Q Q Q<|fR Q Q<|mK (p:=(({x7 with cG:=x7.cG.set x6.toNat (⟨x10.eZ++x11⟩:Queue)}:aC))) () [0,1,2,3,4,5,6,7,8,19,10,11,12] hG2 Q) (Y9 Z8 [] ((⟨4,0,0,0⟩:dP)) () gK Q Q Q Q Q Q Q Q Q Q Q Q Q fun s20=>jC Q Q (have hq3:=rb hA1;wi hq3<|c1 Q (fun h=>zK (h.o 17 Q)) fun u2 s21=>fun hq3=>match u2,hq3 with | _,rfl=>have hq4:=rn hA2;ap 16 gK Q Q Q Q Q Q Q (fun h=>(h.o 18 Q)) Q Q hq4 fun hq4 s22=>eB 3 h13 h12 Q Q Q Q Q<|sF Q<|iN i9 13 [16] [30,33] (⟨x10.eZ++x11⟩:Queue) s22 Q Q Q Q Q Q Q Q<|mG s12.2.2.2.2.2.2.2.2.2.1 List.length_set.symm [] [(11,10)] Q Q Q<|fR Q Q<|mK (p:=(({x7 with cG:=x7.cG.set x6.toNat (⟨x10.eZ++x11⟩:Queue)}:aC))) () [0,1,2,3,4,5,6,7,8,19,10,11,12] hG2 Q) (have hq5:=rb hA1;wi hq5<|c1 Q (fun h=>zK (h.o 17 Q)) fun u3 s23=>fun hq5=>match u3,hq5 with | _,rfl=>have hq6:=rn hA2;ap 16 gK Q Q Q Q Q Q Q (fun h=>(h.o 18 Q)) Q Q hq6 fun hq6 s24=>eB 3 h13 h12 Q Q Q Q Q<|sF Q<|iN i9 13 [16] [30,33] (⟨x10.eZ++x11⟩:Queue) s24 Q Q Q Q Q Q Q Q<|mG s12.2.2.2.2.2.2.2.2.2.1 List.length_set.symm [] [(11,10)] Q Q Q<|fR Q Q<|mK (p:=(({x7 with cG:=x7.cG.set x6.toNat (⟨x10.eZ++x11⟩:Queue)}:aC))) () [0,1,2,3,4,5,6,7,8,19,10,11,12] hG2 Q))) fun x9 _=>vP [0,1,2,3,4,5,6,7,8,9,10,11,12] Q)<|mL [0,1,2,3,4,5,6,7,8,9,10,11,12] Q) fun x8 _=>d8 s12 [0,1,2,3,4,5,6,7,8,9,10] Q Q
theorem xE{kind a_:Int}:V0 Tryz.prog κ 42 (iT kind a_) [I kind,I a_] (fun r=>.g [I r.Kind,I r.A,I r.Pc,I r.E,I r.Row,I r.B,I r.H,I r.Out,I r.Code,.b r.cJ]):=
 bR tok Tryz.call42 Tryz.func42 Tryz.results42 Q Q<|aZ Q Q
theorem iL{s:aC}{kind w_ handle val code:Int}{s1 s2 s3 s4 s5 s6 s7 s8 s9 s10 s11:AC}{b0:Nat×Nat}:VS Tryz.prog κ 188 (cR s kind w_ handle val code) [.p 0 0,I kind,I w_,I handle,I val,I code] [b0] ([.box 0 (gS s s1 s2 s3 s4 s5 s6 s7 s8 s9 s10 s11)]++(oS s s1 s2 s3 s4 s5 s6 s7 s8 s9 s10 s11 [])) (fun(r:aC) (y:AC)=>.t []) (fun(r:aC) (y:AC)=>([.box 0 (gS r s1 s2 s3 s4 s5 s6 s7 s8 s9 s10 y)]++(oS r s1 s2 s3 s4 s5 s6 s7 s8 s9 s10 y []))):=
 bR tok Tryz.call188 Tryz.func188 Tryz.results188 Q Q<|i7 bT 9 Q Q Q fun x1 h1 _ h2=>fun hF=>eB 1 h2 h1 Q Q Q Q Q<|wi hF<|i4 0 3 (fun(_:Unit)=>dC s kind w_ handle val code x1) [0] (fun(_:Unit) (s12:AC)=>[]) [1,2,3,4,5,6,7,8,10] (fun _ s12=>[ow s9 (s.aW:List bW),ow s12 (s.Log++([(⟨kind,w_,x1.aR,x1.Op.Cell,handle,val,code⟩:Ev)]):List Ev),.box 0 [.h s1 s.aD.Mem.aG.Bytes.length,.h s2 s.aD.Mem.aG.Class.length,.h s3 s.aD.Mem.aA.Global.length,.h s4 s.aD.Mem.aA.bQ.length,I s.aD.aJ.aM,.h s5 s.aD.aJ.bD.length,.h s6 s.aD.aX.length,.h s7 s.aD.jQ.length,.h s8 s.Cells.length,.h s9 s.aW.length,.h s10 s.cG.length,.h s12 (s.Log++([(⟨kind,w_,x1.aR,x1.Op.Cell,handle,val,code⟩:Ev)])).length,I s.aR]]) Q (d9 aB [14,15] Q<|fun hF=>nd hF fun hA1 hF=>jC Q Q (Y9 oEv [] ((⟨kind,w_,x1.aR,x1.Op.Cell,handle,val,code⟩:Ev)) () bE Q Q Q Q Q Q Q Q Q Q Q Q Q fun s15=>have hq1:=rn hA1;ap 11 bE Q Q Q Q Q Q Q (fun h=>(h.o 16 Q)) Q Q hq1 fun hq1 s16=>sF Q<|kS bT 12 [] h1 () Q Q Q Q Q Q Q<|mK (p:=()) s16 [17,11,0,1,2,3,4,5,6,7,8,10] hF Q) (Y9 oEv [] ((⟨kind,w_,x1.aR,x1.Op.Cell,handle,val,code⟩:Ev)) () bE Q Q Q Q Q Q Q Q Q Q Q Q Q fun s17=>have hq2:=rn hA1;ap 11 bE Q Q Q Q Q Q Q (fun h=>(h.o 16 Q)) Q Q hq2 fun hq2 s18=>sF Q<|kS bT 12 [] h1 () Q Q Q Q Q Q Q<|mK (p:=()) s18 [17,11,0,1,2,3,4,5,6,7,8,10] hF Q)) fun _ s12=>L4 s12 [2,3,4,5,6,7,8,9,10,0,11,1] Q Q
theorem US{s:List dP}{i j:Int}{s1:AC}:VS Tryz.prog κ 296 (uZ s i j) [.h s1 s.length,I i,I j] [] [ow s1 (s:List dP)] (fun(r:(List dP)) (y:AC)=>.h y r.length) (fun(r:(List dP)) (y:AC)=>[ow y r]):=
 bR tok Tryz.call296 Tryz.func296 Tryz.results296 Q Q<|fun hF=>cpc 0 Q Q fun hc1=>aTT hc1 Q Q Q Q Q Q Q Q hF fun hF h1=>wi hF<|aV [16] Q Q (d8 s1 [0] Q Q)<|d9 aB [] Q<|fun hF=>aP7 hc1 Q Q Q Q Q Q hF fun hF h2=>aFW hc1 Q Q Q Q Q Q hF fun hF h3=>nd hF fun hab hF=>ap2 0 i.toNat j.toNat ⟨hab,h3.1⟩ Q Q Q Q Q Q Q Q Q fun h4=>aYA 0 (i.toNat+(s.length - j.toNat)) h4.2 (z7 h4.1 h4.2) Q Q Q Q Q Q Q Q Q hF fun hF h5=>clr 0 (((((cT s i.toNat (s.drop j.toNat)).take (i.toNat+(s.length - j.toNat))).drop 0).length:Int).toNat) ((s.length:Int).toNat) ((⟨0,0,0,0⟩:dP):dP) h5 gK Q (fun _=>(aCW (⟨0,0,0,0⟩:dP))) Q Q Q Q Q Q Q Q<|sR Q<|poR 0 0 (i.toNat+(s.length - j.toNat)) Q Q (aTS h4 (Nat.le_trans h5.1 h5.2)) (aO8 (Nat.le_of_eq (by rw [Int.toNat_natCast,z7 h4.1 h4.2];rfl)) (Nat.le_trans h5.1 h5.2))<|jS (hT:=tok) (AC.sub s1 4 0) [0] hF Q Tryz.results296 Q Q Q Q
theorem cA{j:bW}{code:Int}{b0:Nat×Nat}:VS Tryz.prog κ 297 (bJ j code) [.p 0 0,I code] [b0] [.box 0 [.b j.fP,I j.Op.Kind,I j.Op.Cell,I j.Op.dQ,I j.Op.dN,I j.aR,I j.Pc,I j.Sub.Kind,I j.Sub.A,I j.Sub.Pc,I j.Sub.E,I j.Sub.Row,I j.Sub.B,I j.Sub.H,I j.Sub.Out,I j.Sub.Code,.b j.Sub.cJ,I j.H,I j.Old,I j.dN,I j.Code]] (fun(r:bW) (y:Unit)=>.t []) (fun(r:bW) (y:Unit)=>[.box 0 [.b r.fP,I r.Op.Kind,I r.Op.Cell,I r.Op.dQ,I r.Op.dN,I r.aR,I r.Pc,I r.Sub.Kind,I r.Sub.A,I r.Sub.Pc,I r.Sub.E,I r.Sub.Row,I r.Sub.B,I r.Sub.H,I r.Sub.Out,I r.Sub.Code,.b r.Sub.cJ,I r.H,I r.Old,I r.dN,I r.Code]]):=
 bR tok Tryz.call297 Tryz.func297 Tryz.results297 Q Q<|L4 () [0] Q Q
theorem UT{s:aC}{w_:Int}{s1 s2 s3 s4 s5 s6 s7 s8 s9 s10 s11:AC}{b0:Nat×Nat}:VS Tryz.prog κ 187 (vA s w_) [.p 0 0,I w_] [b0] ([.box 0 (gS s s1 s2 s3 s4 s5 s6 s7 s8 s9 s10 s11)]++(oS s s1 s2 s3 s4 s5 s6 s7 s8 s9 s10 s11 [])) (fun(r:aC) (y:AC)=>.t []) (fun(r:aC) (y:AC)=>([.box 0 (gS r s1 s2 s3 s4 s5 s6 s7 s8 s9 s10 y)]++(oS r s1 s2 s3 s4 s5 s6 s7 s8 s9 s10 y []))):=
 bR tok Tryz.call187 Tryz.func187 Tryz.results187 Q Q<|dA 0 1 (nX s w_) [0,1] 22 [1,2,3,4,5,6,7,8,9,10,11,0] Q (i7 i9 10 Q Q Q fun x14 h9 s15 h10=>fun hF=>eB 1 h10 h9 Q Q Q Q Q<|wi hF<|dZ [15,16] Q Q (fun hF=>sF Q<|kS i9 12 [15] h9 s15 Q Q Q Q Q Q Q<|mK () [1,2,3,4,5,6,7,8,9,16,11,0] hF Q)<|fun hF=>sF Q<|kS i9 12 [15] h9 s15 Q Q Q Q Q Q Q<|mK () [1,2,3,4,5,6,7,8,9,16,11,0] hF Q) fun x1=>aV [22] Q Q (d8 s11 [11,0,1,2,3,4,5,6,7,8,9,10] Q Q)<|i7 i9 9 Q Q Q fun x2 h1 s12 h2=>fun hF=>eB 1 h2 h1 Q Q Q Q Q<|wi hF<|i7 Z8 15 Q Q Q fun x3 h3 _ h4=>fun hF=>eB 2 h4 h3 Q Q Q Q Q<|LZ Z8 16 [] h3 () Q Q Q Q Q Q Q Q Q<|wi hF<|d9 aB [11,14,18,19] Q<|fun hF=>eB 1 h2 h1 Q Q Q Q Q<|wi hF<|gW [20] Q Q Q Q (fun _=>US) fun x4 s13=>fun hF=>eB 1 h2 h1 Q Q Q Q Q<|wi hF<|d9 aB [11,14,18,19] Q<|i4 1 5 (dK s w_ x4) [0,1,5] (fun(x5:bW) (_:Unit)=>[]) [0,1,2,3,4,5,6,7,8,10] (fun x5 _=>[ow s10 (s.cG.set w_.toNat (⟨x4⟩:Queue):List Queue),.box 0 [.h s1 s.aD.Mem.aG.Bytes.length,.h s2 s.aD.Mem.aG.Class.length,.h s3 s.aD.Mem.aA.Global.length,.h s4 s.aD.Mem.aA.bQ.length,I s.aD.aJ.aM,.h s5 s.aD.aJ.bD.length,.h s6 s.aD.aX.length,.h s7 s.aD.jQ.length,.h s8 s.Cells.length,.h s9 s.aW.length,.h s10 (s.cG.set w_.toNat (⟨x4⟩:Queue)).length,.h s11 s.Log.length,I (aE (s.aR+1))],.box 4 [.b x5.fP,I x5.Op.Kind,I x5.Op.Cell,I x5.Op.dQ,I x5.Op.dN,I x5.aR,I x5.Pc,I x5.Sub.Kind,I x5.Sub.A,I x5.Sub.Pc,I x5.Sub.E,I x5.Sub.Row,I x5.Sub.B,I x5.Sub.H,I x5.Sub.Out,I x5.Sub.Code,.b x5.Sub.cJ,I x5.H,I x5.Old,I x5.dN,I x5.Code]]) Q (aV [64,65] Q Q (c0 Q (fun _=>xE) fun x8=>fun hF=>sF Q<|iN i9 12 [21] [26,36,41] (⟨x4⟩:Queue) s13 Q Q Q Q Q Q Q Q<|mG s10 List.length_set.symm [] [(11,10)] Q Q Q<|fR Q Q<|mK () [23,11,22,0,1,2,3,4,5,6,7,8,10] hF Q)<|i4 0 5 (iO s w_ x3 x4) [0,1,5,63] (fun(x9:Bool) (_:Unit)=>[(70,.b x9)]) [0,1,2,3,4,5,6,7,8,10,22] (fun x9 _=>[ow s10 (s.cG.set w_.toNat (⟨x4⟩:Queue):List Queue),.box 0 [.h s1 s.aD.Mem.aG.Bytes.length,.h s2 s.aD.Mem.aG.Class.length,.h s3 s.aD.Mem.aA.Global.length,.h s4 s.aD.Mem.aA.bQ.length,I s.aD.aJ.aM,.h s5 s.aD.aJ.bD.length,.h s6 s.aD.aX.length,.h s7 s.aD.jQ.length,.h s8 s.Cells.length,.h s9 s.aW.length,.h s10 (s.cG.set w_.toNat (⟨x4⟩:Queue)).length,.h s11 s.Log.length,I (aE (s.aR+1))]]) Q (aV [70,71] Q Q (fun hF=>sF Q<|iN i9 12 [21] [26,36,41] (⟨x4⟩:Queue) s13 Q Q Q Q Q Q Q Q<|mG s10 List.length_set.symm [] [(11,10)] Q Q Q<|fR Q Q<|mK () [23,11,0,1,2,3,4,5,6,7,8,10,22] hF Q)<|fun hF=>sF Q<|iN i9 12 [21] [26,36,41] (⟨x4⟩:Queue) s13 Q Q Q Q Q Q Q Q<|mG s10 List.length_set.symm [] [(11,10)] Q Q Q<|fR Q Q<|mK () [23,11,0,1,2,3,4,5,6,7,8,10,22] hF Q) fun x9 _=>aV [70] Q Q (c0 Q (fun _=>xE) fun x10=>i7 nO 6 Q Q Q fun x11 h7 _ h8=>fun hF=>eB 5 h8 h7 Q Q Q Q Q<|wi hF<|aV [84] Q Q (fun hF=>bx 12 Q Q Q<|wi hF<|fI 12 4 0 21 [] Q Q Q Q Q (fun _=>cA (j:=(⟨true,x3,aE (s.aR+1),0,x10,0,0,0,0⟩:bW))) fun x12 _=>fun hF=>sF Q<|kS nO 13 [] h7 () Q Q Q Q Q Q Q<|mK () [0,1,12,2,3,4,5,16,7,8,9,10,11] hF Q)<|fun hF=>sF Q<|kS nO 13 [] h7 () Q Q Q Q Q Q Q<|mK () [0,1,12,2,3,4,5,16,7,8,9,10,11] hF Q)<|aV [86,87] Q Q (c0 Q (fun _=>xE) fun x13=>b8 [0,1,12,2,3,4,5,6,7,8,9,10,11] Q Q)<|b8 [0,1,12,2,3,4,5,6,7,8,9,10,11] Q Q) fun x5 _=>d9 aB [1,2] Q<|i7 bT 11 Q Q Q fun x6 h5 _ h6=>fun hF=>eB 5 h6 h5 Q Q Q Q Q<|ceS bT 13 [] [93] x5 () Q Q Q Q Q Q Q Q Q Q<|rh s9 List.length_set.symm [] [(1,9)] Q Q Q<|wi hF<|fI 1 0 0 13 [3,4,5,6,7,8,9,10,16,0,12] Q Q Q Q Q (fun _=>iL (s:=({s with aW:=s.aW.set w_.toNat x5,cG:=s.cG.set w_.toNat (⟨x4⟩:Queue),aR:=aE (s.aR+1)}:aC))) fun x7 s14=>L4 s14 [1,17,18,19,20,21,22,23,24,25,26,27] Q Q
theorem cN{s:Sub}{code:Int}{b0:Nat×Nat}:VS Tryz.prog κ 239 (bC s code) [.p 0 0,I code] [b0] [.box 0 [I s.Kind,I s.A,I s.Pc,I s.E,I s.Row,I s.B,I s.H,I s.Out,I s.Code,.b s.cJ]] (fun(r:Sub) (y:Unit)=>.t []) (fun(r:Sub) (y:Unit)=>[.box 0 [I r.Kind,I r.A,I r.Pc,I r.E,I r.Row,I r.B,I r.H,I r.Out,I r.Code,.b r.cJ]]):=
 bR tok Tryz.call239 Tryz.func239 Tryz.results239 Q Q<|L4 () [0] Q Q
theorem aEJ{size:Int}:V0 Tryz.prog κ 352 (GR size) [I size] I:=
 bR tok Tryz.call352 Tryz.func352 Tryz.results352 Q Q<|FG 4 [0] [] Out.brk [] [] Q Q (fun hF1 x2 hr1=>aV [5] Q Q (dA 0 0 (yG x2) [0,3,4] 14 [] Q (dZ [8,9] Q Q (c0 Q (fun _=>LM) fun x4=>b8 [] Q Q)<|b8 [] Q Q) fun x3=>aV [14] Q Q (lK hr1 hF1<|aZ Q Q)<|vP [] Q)<|mL [] Q)<|aZ Q Q
theorem f7{w_:Int}:V0 Tryz.prog κ 98 (fD w_) [I w_] .b:=
 bR tok Tryz.call98 Tryz.func98 Tryz.results98 Q Q<|c0 Q (fun _=>cE) fun x1=>aZ Q Q
theorem V7{w_ c:Int}:V0 Tryz.prog κ 125 (IL w_ c) [I w_,I c] I:=
 bR tok Tryz.call125 Tryz.func125 Tryz.results125 Q Q<|dA 0 0 (DV w_ c) [0,1] 12 [] Q (c0 Q (fun _=>f7) fun x2=>dZ [7,8] Q Q (b8 [] Q Q)<|c0 Q (fun _=>l7) fun x3=>b8 [] Q Q) fun x1=>aV [12] Q Q (aZ Q Q)<|aZ Q Q
theorem NC{s:aH}{s1:AC}{b0:Nat×Nat}:VS Tryz.prog κ 423 (tK s) [.p 0 0] [b0] [.box 0 [.h s1 s.aL.length],ow s1 (s.aL:List Int)] (fun(r:Int×aH) (y:AC)=>I r.1) (fun(r:Int×aH) (y:AC)=>[.box 0 [.h y r.2.aL.length],ow y r.2.aL]):=
 bR tok Tryz.call423 Tryz.func423 Tryz.results423 Q Q<|aV [12] Q Q (d8 s1 [0,1] Q Q)<|i7 oI 1 Q Q Q fun x1 h1 _ h2=>fun hF=>eB 1 h2 h1 Q Q Q Q Q<|LZ oI 2 [] h1 () Q Q Q Q Q Q Q Q Q<|cpc 5 Q Q fun hc1=>a1J hc1 Q Q Q Q Q Q Q hF fun hF h3=>sR Q<|pmR 5 ((aE ((s.aL.length:Int) - 1)).toNat) ((aE ((s.aL.length:Int) - 1)).toNat) Q Q h3 Q<|jS (hT:=tok) ⟨(AC.sub s1 1 0).a,(aE ((s.aL.length:Int) - 1)).toNat⟩ [0,5] hF Q Tryz.results423 Q Q Q Q
theorem aEK{l:aA}{w_ c:Int}{s1 s2:AC}(h1:aT κ s1 l.Global)(h2:aT κ s2 l.bQ):VS Tryz.prog κ 353 (GS l w_ c) [.g [.h s1 l.Global.length,.h s2 l.bQ.length],I w_,I c] [] [] (fun r (y:AC×AC)=>.t [.g [.h y.1 r.1.Global.length,.h y.2 r.1.bQ.length],I r.2]) (fun r y=>[ow y.1 r.1.Global,ow y.2 r.1.bQ]):=
 bR tok Tryz.call353 Tryz.func353 Tryz.results353 Q Q<|c1 Q (fun h=>iC (h.a h1) (h.a h2)) fun x1 s3=>c0 Q (fun _=>V7) fun x2=>dA 0 3 (yH x1 x2) [6,8,9] 22 [1,2,3,4] Q (c0 Q (fun h=>BW (h.a h1) (h.a h2)) fun x6=>dZ [18,19] Q Q (b8 [1,2,3,4] Q Q)<|b8 [1,2,3,4] Q Q) fun x3=>aV [22] Q Q (d8 (s3.1,s3.2) [1,2] Q Q)<|i7 fC 2 Q Q Q fun x4 h3 s4 h4=>fun hF=>eB 3 h4 h3 Q Q Q Q Q<|wi hF<|fI 5 3 0 1 [7] Q Q Q Q Q (fun _=>NC) fun x5 s5=>fun hF=>sR Q<|iN fC 4 [8] [25] x5.2 s5 Q Q Q Q Q Q Q Q<|mG s3.2 List.length_set.symm [(29,1)] [(0,1),(3,1)] Q Q Q<|fR Q Q<|jS (hT:=tok) (s3.1,s3.2) [1,9] hF Q Tryz.results353 Q Q Q Q
theorem V8{l:aA}{c:Int}{s1 s2:AC}(h1:aT κ s1 l.Global)(h2:aT κ s2 l.bQ):VS Tryz.prog κ 354 (yI l c) [.g [.h s1 l.Global.length,.h s2 l.bQ.length],I c] [] [] (fun r (y:AC×AC)=>.t [.g [.h y.1 r.1.Global.length,.h y.2 r.1.bQ.length],I r.2]) (fun r y=>[ow y.1 r.1.Global,ow y.2 r.1.bQ]):=
 bR tok Tryz.call354 Tryz.func354 Tryz.results354 Q Q<|c1 Q (fun h=>iC (h.a h1) (h.a h2)) fun x1 s3=>dA 0 3 (qE c x1) [1,4,6] 17 [1,2,3,4] Q (c0 Q (fun h=>BW (h.a h1) (h.a h2)) fun x5=>dZ [12,13] Q Q (b8 [1,2,3,4] Q Q)<|c0 Q (fun _=>l7) fun x6=>b8 [1,2,3,4] Q Q) fun x2=>aV [17] Q Q (d8 (s3.1,s3.2) [1,2] Q Q)<|i7 fC 1 Q Q Q fun x3 h3 s4 h4=>fun hF=>eB 3 h4 h3 Q Q Q Q Q<|wi hF<|fI 5 3 0 1 [7] Q Q Q Q Q (fun _=>NC) fun x4 s5=>fun hF=>sR Q<|iN fC 4 [8] [20] x4.2 s5 Q Q Q Q Q Q Q Q<|mG s3.1 List.length_set.symm [(24,0)] [(0,0),(3,0)] Q Q Q<|fR Q Q<|jS (hT:=tok) (s3.1,s3.2) [9,2] hF Q Tryz.results354 Q Q Q Q
theorem I0{width:Int}:V0 Tryz.prog κ 438 (jG width) [I width] .b:=
 bR tok Tryz.call438 Tryz.func438 Tryz.results438 Q Q<|c0 Q (fun _=>cE) fun x1=>aZ Q Q
theorem qR{n width:Int}:V0 Tryz.prog κ 390 (zF n width) [I n,I width] .s:=
 bR tok Tryz.call390 Tryz.func390 Tryz.results390 Q Q<|dA 0 0 (wT n width) [0,1] 21 [] Q (c0 Q (fun _=>I0) fun x10=>dZ [9,10] Q Q (b8 [] Q Q)<|dZ [12,13,14] Q Q (b8 [] Q Q)<|fun hF=>a2H Q Q Q Q hF fun hF=>wi hF<|b8 [] Q Q) fun x1=>aV [21] Q Q (aZ Q Q)<|fun hF=>mks (0:UInt8) aH4 (fun w=>aLB Q w) Q Q Q Q Q Q Q hF fun hF s1=>wi hF<|CK () [] (fun(p:Int×(List UInt8)×Int) (_:Unit)=>[(0,I p.1),(5,.h s1 p.2.1.length),(6,I p.2.2)]) [0] [] (fun p _=>[ow s1 (p.2.1:List UInt8)]) id [] (fun(x8:(List UInt8)) (_:Unit)=>[(5,.h s1 x8.length)]) [] (fun x8 _=>[ow s1 (x8:List UInt8)]) Q Q (fun hF2 ⟨x5,x6,x7⟩ _ hr2=>aV [27] Q Q (i7 oU 0 Q Q Q fun x9 h1 _ h2=>fun hG2=>eB 0 h2 h1 Q Q Q Q Q<|sF Q<|iN oU 1 [] [5,30] (u8 x5) () Q Q Q Q Q Q Q Q<|nxR () [4] hG2 Q)<|mL [0] Q) fun x8 _=>fun hF=>qbo 0 Q Q Q Q Q Q Q<|wi hF<|aZ Q Q
theorem lH{b:List Int}{at_:Int}{text:List UInt8}{s1:AC}:VS Tryz.prog κ 392 (tL b at_ text) [.h s1 b.length,I at_,.s text] [] [ow s1 (b:List Int)] (fun(r:(List Int)) (y:Unit)=>.t []) (fun(r:(List Int)) (y:Unit)=>[.o (dB [AC.v s1 b.length] r)]):=
 bR tok Tryz.call392 Tryz.func392 Tryz.results392 Q Q<|CK () [1,2,8] (fun(p:(List Int)×Int) (_:Unit)=>[(0,.h s1 p.1.length),(9,I p.2)]) [0] [] (fun p _=>[ow s1 (p.1:List Int)]) id [] (fun(x5:(List Int)) (_:Unit)=>[(0,.h s1 x5.length)]) [] (fun x5 _=>[ow s1 (x5:List Int)]) Q Q (fun hF1 ⟨x3,x4⟩ _ hr1=>fun hG1=>nd hG1 fun hl3 hG1=>wi hG1<|aV [10] Q Q (fun hG1=>qsi Q Q Q Q Q hG1 fun x6 _ hG1=>wi hG1<|i7 oI 0 Q Q Q fun x7 h1 _ h2=>fun hG1=>eB 0 h2 h1 Q Q Q Q Q<|sF Q<|iN oI 1 [] [0,12] (x6.toNat:Int) () Q Q Q Q Q Q Q Q<|nxR () [4] hG1 Q)<|mL [0] Q) fun x5 _=>fun hF=>nd hF fun hl2 hF=>sF Q<|QB 0 hl2 Q<|jS (hT:=tok) () [0] hF Q Tryz.results392 Q Q Q Q
theorem aG5{page index:Int}:V0 Tryz.prog κ 451 (KL page index) [I page,I index] I:=
 bR tok Tryz.call451 Tryz.func451 Tryz.results451 Q Q<|dA 0 0 (A7 page index) [0,1] 12 [] Q (c0 Q (fun _=>cE) fun x2=>dZ [7,8] Q Q (b8 [] Q Q)<|c0 Q (fun _=>cE) fun x3=>b8 [] Q Q) fun x1=>aV [12] Q Q (aZ Q Q)<|aZ Q Q
theorem aJU{h:aG}{c:Int}{s1 s2:AC}(h1:aT κ s1 h.Bytes)(h2:aT κ s2 h.Class):VS Tryz.prog κ 424 (C2 h c) [.g [.h s1 h.Bytes.length,.h s2 h.Class.length],I c] [] [] (fun r (y:AC×AC×AC)=>.t [.g [.h y.1 r.1.Bytes.length,.h y.2.1 r.1.Class.length],.h y.2.2 r.2.length]) (fun r y=>[ow y.1 r.1.Bytes,ow y.2.1 r.1.Class,ow y.2.2 r.2]):=
 bR tok Tryz.call424 Tryz.func424 Tryz.results424 Q Q<|c1 Q (fun h=>yU (h.a h1) (h.a h2)) fun x1 s3=>fun hF=>HY (α:=Int) cQ Q Q Q Q fun s4=>wi hF<|c0 Q (fun h=>IZ (h.a h2)) fun x2=>dA 0 3 (wU c x1 x2) [1,4,6,7,8] 28 [4,1,2,3,5] Q (c0 Q (fun h=>TU (h.a h1) (h.a h2)) fun x21=>dZ [19,20] Q Q (b8 [4,1,2,3,5] Q Q)<|c0 Q (fun _=>l7) fun x22=>dZ [23,24,25] Q Q (b8 [4,1,2,3,5] Q Q)<|b8 [4,1,2,3,5] Q Q) fun x3=>aV [28] Q Q (d8 (s3.1,s3.2,s4) [2,3,0] Q Q)<|i7 oI 3 Q Q Q fun x4 h3 _ h4=>fun hF=>eB 3 h4 h3 Q Q Q Q Q<|wi hF<|i4 0 4 (LC c x1 x2) [1,4,6,7,8] (fun(x5:(List Int)) (_:Unit)=>[]) [0,1] (fun x5 _=>[ow s3.1 (x5:List Int),ow s3.2 (x1.Class.set x2.toNat c:List Int),.box 2 [.h s3.1 x5.length,.h s3.2 (x1.Class.set x2.toNat c).length]]) Q (d9 aB [1,7] Q<|fun hF=>nd hF fun hA4 hF=>bd hF fun x20 hA5 hF=>jC Q Q (cpc 2 Q Q fun hc2=>have hq9:=rn hA4;aFW hc2 Q Q Q Q Q Q hq9 fun hq9 h6=>have hq10:=rb hA5;wi hq10<|c0 Q (fun _=>pL) fun u9=>fun hq10=>match u9,hq10 with | _,rfl=>ltK oI () ([171,c,x20]:List Int) cQ Q Q Q Q Q Q Q Q Q Q (fun _=>Q) fun s11=>cpy (xs:=([171,c,x20]:List Int)) 2 ((aE (x2 * 64)).toNat) h6 (fun h=>(h.o 8 Q)) Q Q Q Q Q Q Q Q<|rr s3.1 (eR (xs:=([171,c,x20]:List Int)) h6.1).symm [37] [] [(4,0)] Q Q Q Q<|sF Q<|iN oI 5 [] [32] c () Q Q Q Q Q Q Q Q<|mG s3.2 List.length_set.symm [] [(4,1)] Q Q Q<|fR Q Q<|mK (p:=(cT x1.Bytes ((aE (x2 * 64)).toNat) ([171,c,x20]:List Int))) () [2,9,4,0,1] hF Q) (have hq11:=rb hA5;wi hq11<|c0 Q (fun _=>pL) fun u10=>fun hq11=>match u10,hq11 with | _,rfl=>jC Q Q (cpc 2 Q Q fun hc3=>have hq12:=rn hA4;aFW hc3 Q Q Q Q Q Q hq12 fun hq12 h7=>ltK oI () ([171,c,x20]:List Int) cQ Q Q Q Q Q Q Q Q Q Q (fun _=>Q) fun s12=>cpy (xs:=([171,c,x20]:List Int)) 2 ((aE (x2 * 64)).toNat) h7 (fun h=>(h.o 8 Q)) Q Q Q Q Q Q Q Q<|rr s3.1 (eR (xs:=([171,c,x20]:List Int)) h7.1).symm [37] [] [(4,0)] Q Q Q Q<|sF Q<|iN oI 5 [] [32] c () Q Q Q Q Q Q Q Q<|mG s3.2 List.length_set.symm [] [(4,1)] Q Q Q<|fR Q Q<|mK (p:=(cT x1.Bytes ((aE (x2 * 64)).toNat) ([171,c,x20]:List Int))) () [2,9,4,0,1] hF Q) (ltK oI () ([171,c,x20]:List Int) cQ Q Q Q Q Q Q Q Q Q Q (fun _=>Q) fun s13=>cpc 2 Q Q fun hc4=>have hq13:=rn hA4;aFW hc4 Q Q Q Q Q Q hq13 fun hq13 h8=>cpy (xs:=([171,c,x20]:List Int)) 2 ((aE (x2 * 64)).toNat) h8 (fun h=>(h.o 8 Q)) Q Q Q Q Q Q Q Q<|rr s3.1 (eR (xs:=([171,c,x20]:List Int)) h8.1).symm [37] [] [(4,0)] Q Q Q Q<|sF Q<|iN oI 5 [] [32] c () Q Q Q Q Q Q Q Q<|mG s3.2 List.length_set.symm [] [(4,1)] Q Q Q<|fR Q Q<|mK (p:=(cT x1.Bytes ((aE (x2 * 64)).toNat) ([171,c,x20]:List Int))) () [2,9,4,0,1] hF Q))) fun x5 _=>c0 Q (fun _=>pL) fun x6=>CK s4 [1,4,6,8,47] (fun(p:(List Int)×Int×(List Int)) (s6:AC)=>[(7,.h s6 p.1.length),(48,I p.2.1)]) [3,0,2,4,1] [4,1] (fun p s6=>[ow s6 (p.1:List Int),ow s3.1 (p.2.2:List Int),.box 2 [.h s3.1 p.2.2.length,.h s3.2 (x1.Class.set x2.toNat c).length]]) id [4,6] (fun(p:(List Int)×(List Int)) (s7:AC)=>[(7,.h s7 p.1.length)]) [4,1] (fun p s7=>[ow s7 (p.1:List Int),ow s3.1 (p.2:List Int),.box 2 [.h s3.1 p.2.length,.h s3.2 (x1.Class.set x2.toNat c).length]]) Q Q (fun hF3 ⟨x10,x11,x12⟩ s6 hr3=>aV [49] Q Q (c0 Q (fun _=>aG5) fun x15=>i4 0 4 (LB x10 x11 x15) [1,4,6,7,8,10,47,48] (fun(x16:(List Int)) (_:Unit)=>[]) [0,3,4] (fun x16 _=>[ow s3.1 (x16:List Int),.box 2 [.h s3.1 x16.length,.h s3.2 (x1.Class.set x2.toNat c).length]]) Q (d9 aB [3] Q<|fun hG3=>bd hG3 fun x17 hA1 hG3=>bd hG3 fun x18 hA2 hG3=>bd hG3 fun x19 hA3 hG3=>jC Q Q (have hq1:=rb hA1;wi hq1<|c0 Q (fun _=>qQ) fun u1=>fun hq1=>match u1,hq1 with | _,rfl=>have hq2:=rb hA2;wi hq2<|c0 Q (fun _=>qR) fun u2=>fun hq2=>match u2,hq2 with | _,rfl=>have hq3:=rb hA3;wi hq3<|gW [1] Q Q Q Q (fun _=>lH) fun u3 _=>fun hq3=>un 5 [55] [] [(2,0)] Q Q Q Q Q Q fun hl3=>match u3,hq3 with | _,rfl=>wi hG3<|b8 (p:=(x19)) [5,2,0,3,4] Q Q) (have hq4:=rb hA1;wi hq4<|c0 Q (fun _=>qQ) fun u4=>fun hq4=>match u4,hq4 with | _,rfl=>jC Q Q (have hq5:=rb hA2;wi hq5<|c0 Q (fun _=>qR) fun u5=>fun hq5=>match u5,hq5 with | _,rfl=>have hq6:=rb hA3;wi hq6<|gW [1] Q Q Q Q (fun _=>lH) fun u6 _=>fun hq6=>un 5 [55] [] [(2,0)] Q Q Q Q Q Q fun hl4=>match u6,hq6 with | _,rfl=>wi hG3<|b8 (p:=(x19)) [5,2,0,3,4] Q Q) (have hq7:=rb hA2;wi hq7<|c0 Q (fun _=>qR) fun u7=>fun hq7=>match u7,hq7 with | _,rfl=>have hq8:=rb hA3;wi hq8<|gW [1] Q Q Q Q (fun _=>lH) fun u8 _=>fun hq8=>un 5 [55] [] [(2,0)] Q Q Q Q Q Q fun hl5=>match u8,hq8 with | _,rfl=>wi hG3<|b8 (p:=(x19)) [5,2,0,3,4] Q Q))) fun x16 _=>fun hG3=>lt1 Q cQ Q Q Q Q fun s8=>ap 2 cQ Q Q Q Q Q Q Q (fun h=>(h.o 5 Q)) Q Q hG3 fun hG3 s9=>wi hG3<|nxW s9 [2,0,1,3,4] Q)<|bkW s6 [0,1,2,3,4] Q) fun⟨x13,x14⟩ s7=>d8 (s3.1,s3.2,s7) [1,4,0] Q Q
theorem aEL{m:Mem}{c:Int}{s1 s2 s3 s4:AC}(h1:aT κ s1 m.aG.Bytes)(h2:aT κ s2 m.aG.Class)(h3:aT κ s3 m.aA.Global)(h4:aT κ s4 m.aA.bQ):VS Tryz.prog κ 355 (GU m c) [.g (gM m s1 s2 s3 s4),I c] [] [] (fun r (y:A4C)=>.t [.g (yM r.1 y),I r.2]) (fun r y=>(zM r.1 y [])):=
 bR tok Tryz.call355 Tryz.func355 Tryz.results355 Q Q<|c1 Q (fun h=>aJU (h.a h1) (h.a h2)) fun x1 s5=>i4 0 4 (E9 c x1) [1,4,7] (fun(x2:Mem) (u:AC×AC)=>[(8,.p 3 0)]) [4,1] (fun x2 u=>(oM x2 s5.1 s5.2.1 u.1 u.2 [.box 3 (gM x2 s5.1 s5.2.1 u.1 u.2)])) Q (d9 aB [0,1,5] Q<|fun hF=>bd hF fun x7 hA1 hF=>jC Q Q (have hq1:=rb hA1;wi hq1<|c1 Q (fun h=>iC (h.a h3) (h.a h4)) fun u1 s11=>fun hq1=>match u1,hq1 with | _,rfl=>wi hF<|CJ (p:=((⟨x1.1,x7⟩:Mem))) (s11.1,s11.2) [2,3,6,7,8,4,1] Q Q) (have hq2:=rb hA1;wi hq2<|c1 Q (fun h=>iC (h.a h3) (h.a h4)) fun u2 s12=>fun hq2=>match u2,hq2 with | _,rfl=>wi hF<|CJ (p:=((⟨x1.1,x7⟩:Mem))) (s12.1,s12.2) [2,3,7,8,6,4,1] Q Q)) fun x2 ⟨s6,s7⟩=>aV [23] Q Q (d8 (s5.1,s5.2.1,s6,s7) [0,1,2,3] Q Q)<|d9 aB [4,6] Q<|i7 fC 2 Q Q Q fun x3 h5 s8 h6=>fun hF=>eB 4 h6 h5 Q Q Q Q Q<|cpc 5 Q Q fun hc1=>aFW hc1 Q Q Q Q Q Q hF fun hF h7=>ap 10 cQ Q Q Q Q Q Q Q (fun h=>((h.o 5 Q).sub (MD h7.1 h7.2) h7)) Q Q hF fun hF s9=>eB 4 h6 h5 Q Q Q Q Q<|wi hF<|i4 0 5 (fun(p:Int×Mem)=>E8 p.1 p.2) [4] (fun(p:Int×Mem) (_:Unit)=>[(5,I p.1)]) [] (fun p _=>(oM p.2 s5.1 s5.2.1 s6 s7 [.box 1 (gM p.2 s5.1 s5.2.1 s6 s7)])) Q (d9 aB [4,9] Q<|i7 oI 5 Q Q Q fun x6 h8 _ h9=>fun hF=>eB 5 h9 h8 Q Q Q Q Q<|jC Q Q (sF Q<|kS oI 11 [] h8 () Q Q Q Q Q Q Q<|iN fC 7 [10] [27,31] (⟨x3.aL++((x1.2.take x1.2.length).drop ((1:Int).toNat))⟩:aH) s9 Q Q Q Q Q Q Q Q<|mG s6 List.length_set.symm [(41,2)] [(4,2),(6,2)] Q Q Q<|fR Q Q<|mK (p:=(x6,(⟨x2.aG,(⟨x2.aA.Global.set c.toNat (⟨x3.aL++((x1.2.take x1.2.length).drop ((1:Int).toNat))⟩:aH),x2.aA.bQ⟩:aA)⟩:Mem))) () [0,1,15,3,6] hF Q) (sF Q<|kS oI 11 [] h8 () Q Q Q Q Q Q Q<|iN fC 7 [10] [27,31] (⟨x3.aL++((x1.2.take x1.2.length).drop ((1:Int).toNat))⟩:aH) s9 Q Q Q Q Q Q Q Q<|mG s6 List.length_set.symm [(41,2)] [(4,2),(6,2)] Q Q Q<|fR Q Q<|mK (p:=(x6,(⟨x2.aG,(⟨x2.aA.Global.set c.toNat (⟨x3.aL++((x1.2.take x1.2.length).drop ((1:Int).toNat))⟩:aH),x2.aA.bQ⟩:aA)⟩:Mem))) () [0,1,15,3,6] hF Q)) fun⟨x4,x5⟩ _=>d8 (s5.1,s5.2.1,s6,s7) [0,1,2,3] Q Q
theorem aAP{slot gen:Int}:V0 Tryz.prog κ 425 (LD slot gen) [I slot,I gen] I:=
 bR tok Tryz.call425 Tryz.func425 Tryz.results425 Q Q<|dA 0 0 (vB slot gen) [0,1] 12 [] Q (c0 Q (fun _=>EB) fun x2=>dZ [7,8] Q Q (b8 [] Q Q)<|c0 Q (fun _=>cE) fun x3=>b8 [] Q Q) fun x1=>aV [12] Q Q (aZ Q Q)<|aZ Q Q
theorem aAQ{m:Mem}{slot:Int}{s1 s2 s3 s4:AC}(h1:aT κ s1 m.aG.Bytes)(h2:aT κ s2 m.aG.Class)(h3:aT κ s3 m.aA.Global)(h4:aT κ s4 m.aA.bQ):V0 Tryz.prog κ 356 (DY m slot) [.g (gM m s1 s2 s3 s4),I slot] I:=
 bR tok Tryz.call356 Tryz.func356 Tryz.results356 Q Q<|c0 Q (fun h=>HH (h.a h1) (h.a h2)) fun x1=>c0 Q (fun _=>aAP) fun x2=>aZ Q Q
theorem RP{s:Sub}{b:aD}{w_:Int}{s1 s2 s3 s4 s5 s6 s7:AC}{b0 b1:Nat×Nat}:VS Tryz.prog κ 234 (qF s b w_) [.p 0 0,.p 1 0,I w_] [b0,b1] ([.box 0 [I s.Kind,I s.A,I s.Pc,I s.E,I s.Row,I s.B,I s.H,I s.Out,I s.Code,.b s.cJ],.box 1 (gB b s1 s2 s3 s4 s5 s6 s7)]++(oB b s1 s2 s3 s4 s5 s6 s7 [])) (fun(r:Sub×aD) (y:A4C)=>.t []) (fun(r:Sub×aD) (y:A4C)=>([.box 0 [I r.1.Kind,I r.1.A,I r.1.Pc,I r.1.E,I r.1.Row,I r.1.B,I r.1.H,I r.1.Out,I r.1.Code,.b r.1.cJ],.box 1 (gB r.2 y.1 y.2.1 y.2.2.1 y.2.2.2 s5 s6 s7)]++(oB r.2 y.1 y.2.1 y.2.2.1 y.2.2.2 s5 s6 s7 []))):=
 bR tok Tryz.call234 Tryz.func234 Tryz.results234 Q Q<|c0 Q (fun _=>aEJ) fun x1=>aV [14] Q Q (fI 0 0 0 10 [] Q Q Q Q Q (fun _=>cN) fun x2 _=>d8 (s1,s2,s3,s4) [0,1,2,3,4,5,6,7,8] Q Q)<|i4 1 2 (fun(p:Int×aD)=>gP s p.1 p.2) [0,1] (fun(p:Int×aD) (u:A4C)=>[(7,I p.1)]) [0] (fun p u=>(oB p.2 u.1 u.2.1 u.2.2.1 u.2.2.2 s5 s6 s7 [.box 1 (gB p.2 u.1 u.2.1 u.2.2.1 u.2.2.2 s5 s6 s7)])) Q (aV [23,24] Q Q (c1 Q (fun h=>aEK (h.o 4 Q) (h.o 5 Q)) fun x8 s12=>CJ (p:=(x8.2,({b with Mem:=(⟨b.Mem.aG,x8.1⟩:Mem)}:aD))) (s1,s2,s12.1,s12.2) [2,3,9,10,6,7,8,1,0] Q Q)<|dA 0 2 (mE s b x1) [0,1,6,20] 40 [0,2,3,4,5,6,7,8,1] Q (aV [40,41] Q Q (b8 [0,2,3,4,5,6,7,8,1] Q Q)<|b8 [0,2,3,4,5,6,7,8,1] Q Q) fun x9=>aV [40] Q Q (c1 Q (fun h=>V8 (h.o 3 Q) (h.o 4 Q)) fun x10 s13=>CJ (p:=(x10.2,({b with Mem:=(⟨b.Mem.aG,x10.1⟩:Mem)}:aD))) (s1,s2,s13.1,s13.2) [1,2,9,10,5,6,7,8,0] Q Q)<|aV [57,58] Q Q (c1 Q (fun h=>aEL (h.o 1 Q) (h.o 2 Q) (h.o 3 Q) (h.o 4 Q)) fun x11 s14=>CJ (p:=(x11.2,({b with Mem:=x11.1}:aD))) s14 [9,10,11,12,5,6,7,8,0] Q Q)<|fI 0 0 0 10 [] Q Q Q Q Q (fun _=>cN) fun x12 _=>d8 (s1,s2,s3,s4) [0,8,1,2,3,4,5,6,7] Q Q) fun⟨x3,x4⟩ ⟨s8,s9,s10,s11⟩=>aV [78,80] Q Q (c0 Q (fun h=>aAQ (h.o 0 Q) (h.o 1 Q) (h.o 2 Q) (h.o 3 Q)) fun x5=>fI 8 0 0 10 [] Q Q Q Q Q (fun _=>cN (s:=({s with Out:=x5}:Sub))) fun x6 _=>L4 (s8,s9,s10,s11) [8,7,0,1,2,3,4,5,6] Q Q)<|aV [92,97] Q Q (fI 8 0 0 10 [] Q Q Q Q Q (fun _=>cN) fun x7 _=>L4 (s8,s9,s10,s11) [8,7,0,1,2,3,4,5,6] Q Q)<|L4 (s8,s9,s10,s11) [8,7,0,1,2,3,4,5,6] Q Q
theorem UU{r_:bM}{k0:Int}{b0:Nat×Nat}:VS Tryz.prog κ 336 (o7 r_ k0) [.g [I r_.Handle,I r_.aM],.p 0 0] [b0] [.ro 0 [I k0]] (fun r (_:Unit)=>.b r) (fun _ _=>[]):=
 bR tok Tryz.call336 Tryz.func336 Tryz.results336 Q Q<|dA 0 2 nY [] 3 [] Q (c0 Q (fun _=>mZ) fun x2=>dZ [6,7] Q Q (b8 [] Q Q)<|b8 [] Q Q) fun x1=>aZ Q Q
theorem X3{own:aO}{k0:Int}{s1:AC}{b0:Nat×Nat}(h1:aT κ s1 own.Rows):VS Tryz.prog κ 335 (A8 own k0) [.g [.h s1 own.Rows.length],.p 0 0] [b0] [.ro 0 [I k0]] (fun r (_:Unit)=>.b r) (fun _ _=>[]):=
 bR tok Tryz.call335 Tryz.func335 Tryz.results335 Q Q<|fun hF=>mf [0] Q Q Q<|wi hF<|aNC [0] Q Q Q Q (fun h=>fun hB=>tX (h.a h1) (aNB (cs:=[(0,[I k0])]) Tryz.call336 hB Q fun _ _=>UU)) fun x1=>aZ Q Q
theorem aEM{l:List aO}{slot:Int}{s1:AC}(h1:aT κ s1 l):V0 Tryz.prog κ 220 (GV l slot) [.h s1 l.length,I slot] .b:=
 bR tok Tryz.call220 Tryz.func220 Tryz.results220 Q Q<|fun hF=>mf [0] Q Q Q<|wi hF<|aNC [0] Q Q Q Q (fun h=>fun hB=>sJ (h.a h1) (aNB (cs:=[(0,[I slot])]) Tryz.call335 hB Q fun _ hy=>X3 hy)) fun x1=>aZ Q Q
theorem aAR{l:List aO}{w_ h e_:Int}{s1:AC}(h1:aT κ s1 l):VS Tryz.prog κ 357 (DZ l w_ h e_) [.h s1 l.length,I w_,I h,I e_] [] [] (fun r (y:AC)=>.t [.h y r.1.length,.b r.2]) (fun r y=>[ow y r.1]):=
 bR tok Tryz.call357 Tryz.func357 Tryz.results357 Q Q<|dA 0 0 (vC l w_ h e_) [0,1,2,3] 18 [] Q (c0 Q (fun h=>BY (h.a h1)) fun x7=>dZ [13,14] Q Q (b8 [] Q Q)<|c0 Q (fun _=>f7) fun x8=>b8 [] Q Q) fun x1=>aV [18] Q Q (c1 Q (fun h=>pK (h.a h1)) fun x2 s2=>d8 s2 [0] Q Q)<|c1 Q (fun h=>pK (h.a h1)) fun x3 s3=>i7 gU 0 Q Q Q fun x4 h2 s4 h3=>fun hF=>eB 0 h3 h2 Q Q Q Q Q<|Y9 l6 [] ((⟨h,e_⟩:bM)) () gO Q Q Q Q Q Q Q Q Q Q Q Q Q fun s5=>ap 4 gO Q Q Q Q Q Q Q (fun h=>(h.o 5 Q)) Q Q hF fun hF s6=>eB 0 h3 h2 Q Q Q Q Q<|ceS gU 1 [4] [10,22,23,25,37] (⟨x4.Rows++([(⟨h,e_⟩:bM)])⟩:aO) s6 Q Q Q Q Q Q Q Q Q Q<|wi hF<|c0 Q (fun h=>BY (h.o 6 Q)) fun x5=>aV [39] Q Q (c1 Q (fun h=>pK (h.a h1)) fun x6 s7=>d8 s7 [7] Q Q)<|d8 s3 [6] Q Q
theorem QF{s:Sub}{b:aD}{w_:Int}{s1 s2 s3 s4 s5 s6 s7:AC}{b0 b1:Nat×Nat}:VS Tryz.prog κ 235 (nZ s b w_) [.p 0 0,.p 1 0,I w_] [b0,b1] ([.box 0 [I s.Kind,I s.A,I s.Pc,I s.E,I s.Row,I s.B,I s.H,I s.Out,I s.Code,.b s.cJ],.box 1 (gB b s1 s2 s3 s4 s5 s6 s7)]++(oB b s1 s2 s3 s4 s5 s6 s7 [])) (fun(r:Sub×aD) (y:AC)=>.t []) (fun(r:Sub×aD) (y:AC)=>([.box 0 [I r.1.Kind,I r.1.A,I r.1.Pc,I r.1.E,I r.1.Row,I r.1.B,I r.1.H,I r.1.Out,I r.1.Code,.b r.1.cJ],.box 1 (gB r.2 s1 s2 s3 s4 s5 y s7)]++(oB r.2 s1 s2 s3 s4 s5 y s7 []))):=
 bR tok Tryz.call235 Tryz.func235 Tryz.results235 Q Q<|aV [28,33] Q Q (L4 s6 [0,1,2,3,4,5,6,7,8] Q Q)<|dA 0 2 (lC s b w_) [0,1,2] 45 [0,2,3,4,5,6,7,8,1] Q (d9 aB [0,1] Q<|dZ [50,51] Q Q (b8 [0,2,3,4,5,6,7,8,1] Q Q)<|c0 Q (fun _=>cE) fun x9=>b8 [0,2,3,4,5,6,7,8,1] Q Q) fun x1=>aV [45] Q Q (fI 0 0 0 10 [] Q Q Q Q Q (fun _=>cN) fun x2 _=>L4 s6 [0,8,1,2,3,4,5,6,7] Q Q)<|dA 0 2 (lB s b w_) [0,1,2] 66 [0,1,2,3,4,5,6,7,8] Q (d9 aB [0,8] Q<|c0 Q (fun h=>LP (h.o 1 Q) (h.o 2 Q) (h.o 3 Q) (h.o 4 Q)) fun x7=>dZ [76,77] Q Q (b8 [0,1,2,3,4,5,6,7,8] Q Q)<|c0 Q (fun h=>aEM (h.o 6 Q)) fun x8=>b8 [0,1,2,3,4,5,6,7,8] Q Q) fun x3=>aV [66] Q Q (fI 0 0 0 10 [] Q Q Q Q Q (fun _=>cN) fun x4 _=>L4 s6 [0,8,1,2,3,4,5,6,7] Q Q)<|d9 aB [0] Q<|c1 Q (fun h=>aAR (h.o 6 Q)) fun x5 s8=>fI 0 0 0 10 [] Q Q Q Q Q (fun _=>cN) fun x6 _=>L4 s8 [0,8,1,2,3,4,5,9,7] Q Q
theorem aG6{c:aJ}{w_ e_:Int}{s1:AC}(h1:aT κ s1 c.bD):VS Tryz.prog κ 358 (KM c w_ e_) [.g [I c.aM,.h s1 c.bD.length],I w_,I e_] [] [] (fun r (y:AC)=>.t [.g [I r.1.aM,.h y r.1.bD.length],.b r.2]) (fun r y=>[ow y r.1.bD]):=
 bR tok Tryz.call358 Tryz.func358 Tryz.results358 Q Q<|c1 Q (fun h=>pJ (h.a h1)) fun x1 s2=>dA 0 3 (A9 w_ e_ x1) [1,2,6,8] 19 [1,2,3] Q (c0 Q (fun h=>tU (h.a h1)) fun x6=>dZ [14,15] Q Q (b8 [1,2,3] Q Q)<|c0 Q (fun _=>f7) fun x7=>b8 [1,2,3] Q Q) fun x2=>aV [19] Q Q (d8 s2 [1] Q Q)<|i7 nO 1 Q Q Q fun x3 h2 _ h3=>fun hF=>eB 3 h3 h2 Q Q Q Q Q<|wi hF<|i4 0 4 (o8 w_ x1) [6,8,9] (fun(x4:Bool) (_:Unit)=>[(25,.b x4)]) [0,2,5] (fun x4 _=>[ow s2 (x1.bD:List fO)]) Q (dZ [30,31] Q Q (fun hF=>sF Q<|kS nO 3 [] h2 () Q Q Q Q Q Q Q<|mK () [6,0,2,5] hF Q)<|dZ [35,36,37] Q Q (fun hF=>sF Q<|kS nO 3 [] h2 () Q Q Q Q Q Q Q<|mK () [6,0,2,5] hF Q)<|fun hF=>sF Q<|kS nO 3 [] h2 () Q Q Q Q Q Q Q<|mK () [6,0,2,5] hF Q) fun x4 _=>aV [25] Q Q (d8 s2 [0] Q Q)<|fun hF=>ro nO 0 3 3 Q Q Q Q hF fun x5 h4 hF _=>wi hF<|aV [46,51] Q Q (fun hF=>sR Q<|iN nO 4 [] [] ({x5 with Seen:=aE (x5.Seen+1)}:fO) () Q Q Q Q Q Q Q Q<|mG s2 List.length_set.symm [(59,1)] [(1,1),(2,1)] Q Q Q<|fR Q Q<|jS (hT:=tok) s2 [7] hF Q Tryz.results358 Q Q Q Q)<|fun hF=>sR Q<|iN nO 4 [] [] ({x5 with eI:=true,Seen:=0}:fO) () Q Q Q Q Q Q Q Q<|mG s2 List.length_set.symm [(66,1)] [(1,1),(2,1)] Q Q Q<|fR Q Q<|jS (hT:=tok) s2 [7] hF Q Tryz.results358 Q Q Q Q
theorem aLV{c:aJ}{e_:Int}{s1:AC}(h1:aT κ s1 c.bD):VS Tryz.prog κ 359 (SM c e_) [.g [I c.aM,.h s1 c.bD.length],I e_] [] [] (fun r (y:AC)=>.t [.g [I r.1.aM,.h y r.1.bD.length],.b r.2]) (fun r y=>[ow y r.1.bD]):=
 bR tok Tryz.call359 Tryz.func359 Tryz.results359 Q Q<|c1 Q (fun h=>pJ (h.a h1)) fun x1 s2=>dA 0 3 (BA x1) [4,6] 22 [1,2,3] Q (c0 Q (fun h=>tU (h.a h1)) fun x3=>dZ [11,12] Q Q (b8 [1,2,3] Q Q)<|dZ [16,17,18] Q Q (b8 [1,2,3] Q Q)<|b8 [1,2,3] Q Q) fun x2=>aV [22] Q Q (d8 s2 [1] Q Q)<|d8 s2 [1] Q Q
theorem OU{s:Sub}{b:aD}{s1 s2 s3 s4 s5 s6 s7:AC}{b0 b1:Nat×Nat}:VS Tryz.prog κ 236 (nD s b) [.p 0 0,.p 1 0] [b0,b1] ([.box 0 [I s.Kind,I s.A,I s.Pc,I s.E,I s.Row,I s.B,I s.H,I s.Out,I s.Code,.b s.cJ],.box 1 (gB b s1 s2 s3 s4 s5 s6 s7)]++(oB b s1 s2 s3 s4 s5 s6 s7 [])) (fun(r:Sub×aD) (y:AC)=>.t []) (fun(r:Sub×aD) (y:AC)=>([.box 0 [I r.1.Kind,I r.1.A,I r.1.Pc,I r.1.E,I r.1.Row,I r.1.B,I r.1.H,I r.1.Out,I r.1.Code,.b r.1.cJ],.box 1 (gB r.2 s1 s2 s3 s4 y s6 s7)]++(oB r.2 s1 s2 s3 s4 y s6 s7 []))):=
 bR tok Tryz.call236 Tryz.func236 Tryz.results236 Q Q<|aV [7,12] Q Q (L4 s5 [0,1,2,3,4,5,6,7,8] Q Q)<|dA 0 2 (j4 s b) [0,1] 27 [0,2,3,4,5,6,7,8,1] Q (dZ [32,33] Q Q (c0 Q (fun _=>f7) fun x8=>b8 [0,2,3,4,5,6,7,8,1] Q Q)<|b8 [0,2,3,4,5,6,7,8,1] Q Q) fun x1=>aV [27] Q Q (d9 aB [0] Q<|c1 Q (fun h=>aG6 (h.o 5 Q)) fun x2 s8=>aV [60] Q Q (fI 0 0 0 10 [] Q Q Q Q Q (fun _=>cN) fun x3 _=>d8 s8 [0,8,1,2,3,4,9,6,7] Q Q)<|aV [74] Q Q (L4 s8 [0,8,1,2,3,4,9,6,7] Q Q)<|L4 s8 [0,8,1,2,3,4,9,6,7] Q Q)<|aV [78,83] Q Q (d9 aB [0] Q<|c1 Q (fun h=>aLV (h.o 5 Q)) fun x4 s9=>i4 0 2 (jZ s b x4) [0,1] (fun(x5:Int) (_:Unit)=>[]) [1,2,3,4,9,6,7,8] (fun x5 _=>[.box 0 [I s.Kind,I s.A,I s.Pc,I s.E,I s.Row,I s.B,I s.H,I x5,I s.Code,.b s.cJ]]) Q (aV [4,96,99] Q Q (b8 [0,1,2,3,4,9,6,7,8] Q Q)<|b8 [0,1,2,3,4,9,6,7,8] Q Q) fun x5 _=>fI 0 0 0 10 [] Q Q Q Q Q (fun _=>cN (s:=({s with Out:=x5}:Sub))) fun x6 _=>L4 s9 [0,8,1,2,3,4,5,6,7] Q Q)<|fI 0 0 0 10 [] Q Q Q Q Q (fun _=>cN) fun x7 _=>L4 s5 [0,8,1,2,3,4,5,6,7] Q Q
theorem TW{l:List aO}{w_ i:Int}{s1:AC}(h1:aT κ s1 l):V0 Tryz.prog κ 360 (EP l w_ i) [.h s1 l.length,I w_,I i] .b:=
 bR tok Tryz.call360 Tryz.func360 Tryz.results360 Q Q<|dA 0 0 BC [] 6 [] Q (c0 Q (fun _=>f7) fun x2=>dZ [8,9] Q Q (jT C4 Q h1 Q fun x3 s2 h2=>c0 Q (fun _=>cE) fun x4=>b8 [] Q Q)<|b8 [] Q Q) fun x1=>aZ Q Q
theorem Y0{r_:bM}{e_:Int}:V0 Tryz.prog κ 362 (MU r_ e_) [.g [I r_.Handle,I r_.aM],I e_] .b:=
 bR tok Tryz.call362 Tryz.func362 Tryz.results362 Q Q<|dA 0 1 GW [] 4 [] Q (dZ [6,7] Q Q (b8 [] Q Q)<|b8 [] Q Q) fun x1=>aZ Q Q
theorem SY{s:Sub}{b:aD}{w_:Int}{s1 s2 s3 s4 s5 s6 s7:AC}{b0 b1:Nat×Nat}:VS Tryz.prog κ 361 (nE s b w_) [.p 0 0,.p 1 0,I w_] [b0,b1] ([.box 0 [I s.Kind,I s.A,I s.Pc,I s.E,I s.Row,I s.B,I s.H,I s.Out,I s.Code,.b s.cJ],.box 1 (gB b s1 s2 s3 s4 s5 s6 s7)]++(oB b s1 s2 s3 s4 s5 s6 s7 [])) (fun(r:Sub×aD) (y:Unit)=>.t []) (fun(r:Sub×aD) (y:Unit)=>([.box 0 [I r.1.Kind,I r.1.A,I r.1.Pc,I r.1.E,I r.1.Row,I r.1.B,I r.1.H,I r.1.Out,I r.1.Code,.b r.1.cJ],.box 1 (gB r.2 s1 s2 s3 s4 s5 s6 s7)]++(oB r.2 s1 s2 s3 s4 s5 s6 s7 []))):=
 bR tok Tryz.call361 Tryz.func361 Tryz.results361 Q Q<|fun hF=>a1B Q Q Q Q<|wi hF<|FG 6 [0,1,2] [0,2,3,4,5,6,7,8,1] Out.brk [0,1] [0,2,3,4,5,6,7,8,1] Q Q (fun hF1 x2 hr1=>i7 gU 6 Q Q Q fun x4 h1 s8 h2=>fun hG1=>eB 2 h2 h1 Q Q Q Q Q<|wi hG1<|aV [23] Q Q (fun hG1=>eB 2 h2 h1 Q Q Q Q Q<|wi hG1<|i7 l6 12 Q Q Q fun x5 h3 _ h4=>fun hG1=>eB 3 h4 h3 Q Q Q Q Q<|wi hG1<|d9 aB [0,8,11,15,16] Q<|c0 Q (fun _=>Y0) fun x6=>aV [42] Q Q (d9 aB [8,11,15,16] Q<|fun hG1=>sR Q<|kS l6 13 [] h3 () Q Q Q Q Q Q Q<|kS gU 9 [17] h1 s8 Q Q Q Q Q Q Q<|jS (hT:=tok) () [0,8,1,2,3,4,5,18,7] (re hG1 Q hr1 hF1) Q Tryz.results361 Q Q Q Q)<|fun hG1=>sF Q<|kS l6 13 [] h3 () Q Q Q Q Q Q Q<|kS gU 9 [17] h1 s8 Q Q Q Q Q Q Q<|nxR () [0,1,2,3,4,5,18,7,8] hG1 Q)<|fun hG1=>sX Q<|kS gU 9 [12] h1 s8 Q Q Q Q Q Q Q<|bkR () [0,1,2,3,4,5,13,7,8] hG1 hr1 Q)<|wm (F:=ER s b) Q<|fI 0 0 0 10 [] Q Q Q Q Q (fun _=>cN) fun x3 _=>L4 () [0,8,1,2,3,4,5,6,7] Q Q
theorem RQ{s:List bM}{i j:Int}{s1:AC}:VS Tryz.prog κ 426 (zG s i j) [.h s1 s.length,I i,I j] [] [ow s1 (s:List bM)] (fun(r:(List bM)) (y:AC)=>.h y r.length) (fun(r:(List bM)) (y:AC)=>[ow y r]):=
 bR tok Tryz.call426 Tryz.func426 Tryz.results426 Q Q<|fun hF=>cpc 0 Q Q fun hc1=>aTT hc1 Q Q Q Q Q Q Q Q hF fun hF h1=>wi hF<|aV [16] Q Q (d8 s1 [0] Q Q)<|d9 aB [] Q<|fun hF=>aP7 hc1 Q Q Q Q Q Q hF fun hF h2=>aFW hc1 Q Q Q Q Q Q hF fun hF h3=>nd hF fun hab hF=>ap2 0 i.toNat j.toNat ⟨hab,h3.1⟩ Q Q Q Q Q Q Q Q Q fun h4=>aYA 0 (i.toNat+(s.length - j.toNat)) h4.2 (z7 h4.1 h4.2) Q Q Q Q Q Q Q Q Q hF fun hF h5=>clr 0 (((((cT s i.toNat (s.drop j.toNat)).take (i.toNat+(s.length - j.toNat))).drop 0).length:Int).toNat) ((s.length:Int).toNat) ((⟨0,0⟩:bM):bM) h5 gO Q (fun _=>(aPG (⟨0,0⟩:bM))) Q Q Q Q Q Q Q Q<|sR Q<|poR 0 0 (i.toNat+(s.length - j.toNat)) Q Q (aTS h4 (Nat.le_trans h5.1 h5.2)) (aO8 (Nat.le_of_eq (by rw [Int.toNat_natCast,z7 h4.1 h4.2];rfl)) (Nat.le_trans h5.1 h5.2))<|jS (hT:=tok) (AC.sub s1 2 0) [0] hF Q Tryz.results426 Q Q Q Q
theorem aEN{l:List aO}{w_ i:Int}{s1:AC}(h1:aT κ s1 l):VS Tryz.prog κ 363 (GX l w_ i) [.h s1 l.length,I w_,I i] [] [] (fun r (y:AC)=>.t [.h y r.1.length,.b r.2]) (fun r y=>[ow y r.1]):=
 bR tok Tryz.call363 Tryz.func363 Tryz.results363 Q Q<|c1 Q (fun h=>pK (h.a h1)) fun x1 s2=>dA 0 0 (yJ w_ i x1) [1,2,8] 20 [0] Q (c0 Q (fun h=>BY (h.a h1)) fun x5=>dZ [13,14] Q Q (b8 [0] Q Q)<|c0 Q (fun h=>TW (h.a h1)) fun x6=>b8 [0] Q Q) fun x2=>aV [20] Q Q (d8 s2 [0] Q Q)<|i7 gU 0 Q Q Q fun x3 h2 s3 h3=>fun hF=>eB 0 h3 h2 Q Q Q Q Q<|wi hF<|gW [4] Q Q Q Q (fun _=>RQ) fun x4 s4=>fun hF=>eB 0 h3 h2 Q Q Q Q Q<|sR Q<|iN gU 1 [5] [6,8,22,24,35] (⟨x4⟩:aO) s4 Q Q Q Q Q Q Q Q<|jS (hT:=tok) s2 [6] hF Q Tryz.results363 Q Q Q Q
theorem aG7{h:aG}{slot gen:Int}{s1 s2:AC}(h1:aT κ s1 h.Bytes)(h2:aT κ s2 h.Class):VS Tryz.prog κ 427 (RB h slot gen) [.g [.h s1 h.Bytes.length,.h s2 h.Class.length],I slot,I gen] [] [] (fun r (y:AC×AC)=>.t [.g [.h y.1 r.1.Bytes.length,.h y.2 r.1.Class.length],.b r.2]) (fun r y=>[ow y.1 r.1.Bytes,ow y.2 r.1.Class]):=
 bR tok Tryz.call427 Tryz.func427 Tryz.results427 Q Q<|i4 0 3 (fun(p:Int×(List Int)×(List Int))=>IN slot gen p.1 p.2.1 p.2.2) [1,2,6] (fun(p:Int×(List Int)×(List Int)) (u:AC×AC)=>[(8,.p 2 0),(9,I p.1)]) [1] (fun p u=>[ow u.1 (p.2.1:List Int),ow u.2 (p.2.2:List Int),.box 2 [.h u.1 p.2.1.length,.h u.2 p.2.2.length]]) Q (d9 aB [0,1] Q<|fun hF=>bd hF fun x10 hA4 hF=>bd hF fun x11 hA5 hF=>jC Q Q (have hq9:=rb hA4;wi hq9<|c1 Q (fun h=>yU (h.a h1) (h.a h2)) fun u9 s6=>fun hq9=>match u9,hq9 with | _,rfl=>jC Q Q (have hq10:=rb hA5;wi hq10<|c0 Q (fun h=>tW (h.a h1) (h.a h2)) fun u10=>fun hq10=>match u10,hq10 with | _,rfl=>wi hF<|CJ (p:=(x11,x10.Bytes,x10.Class)) (s6.1,s6.2) [2,3,4,1] Q Q) (have hq11:=rb hA5;wi hq11<|c0 Q (fun h=>tW (h.a h1) (h.a h2)) fun u11=>fun hq11=>match u11,hq11 with | _,rfl=>wi hF<|CJ (p:=(x11,x10.Bytes,x10.Class)) (s6.1,s6.2) [2,3,4,1] Q Q)) (have hq12:=rb hA4;wi hq12<|c1 Q (fun h=>yU (h.a h1) (h.a h2)) fun u12 s7=>fun hq12=>match u12,hq12 with | _,rfl=>have hq13:=rb hA5;wi hq13<|c0 Q (fun h=>tW (h.a h1) (h.a h2)) fun u13=>fun hq13=>match u13,hq13 with | _,rfl=>wi hF<|CJ (p:=(x11,x10.Bytes,x10.Class)) (s7.1,s7.2) [3,4,2,1] Q Q)) fun⟨x1,x2,x3⟩ ⟨s3,s4⟩=>dA 0 3 (BD slot gen x1 x2 x3) [1,2,6,8,9] 21 [3,0,1,2] Q (dZ [16,17] Q Q (b8 [3,0,1,2] Q Q)<|c0 Q (fun _=>cE) fun x9=>b8 [3,0,1,2] Q Q) fun x4=>aV [21] Q Q (d8 (s3,s4) [1,2] Q Q)<|i4 0 3 (IM x3) [6,8] (fun(x5:(List Int)) (_:Unit)=>[]) [0,2] (fun x5 _=>[ow s3 (x5:List Int),.box 2 [.h s3 x5.length,.h s4 x3.length]]) Q (d9 aB [0] Q<|fun hF=>bd hF fun x6 hA1 hF=>bd hF fun x7 hA2 hF=>bd hF fun x8 hA3 hF=>jC Q Q (have hq1:=rb hA1;wi hq1<|c0 Q (fun _=>qQ) fun u1=>fun hq1=>match u1,hq1 with | _,rfl=>have hq2:=rb hA2;wi hq2<|c0 Q (fun _=>qR) fun u2=>fun hq2=>match u2,hq2 with | _,rfl=>have hq3:=rb hA3;wi hq3<|gW [1] Q Q Q Q (fun _=>lH) fun u3 _=>fun hq3=>un 4 [24] [] [(3,0)] Q Q Q Q Q Q fun hl2=>match u3,hq3 with | _,rfl=>wi hF<|b8 (p:=(x8)) [4,3,0,2] Q Q) (have hq4:=rb hA1;wi hq4<|c0 Q (fun _=>qQ) fun u4=>fun hq4=>match u4,hq4 with | _,rfl=>jC Q Q (have hq5:=rb hA2;wi hq5<|c0 Q (fun _=>qR) fun u5=>fun hq5=>match u5,hq5 with | _,rfl=>have hq6:=rb hA3;wi hq6<|gW [1] Q Q Q Q (fun _=>lH) fun u6 _=>fun hq6=>un 4 [24] [] [(3,0)] Q Q Q Q Q Q fun hl3=>match u6,hq6 with | _,rfl=>wi hF<|b8 (p:=(x8)) [4,3,0,2] Q Q) (have hq7:=rb hA2;wi hq7<|c0 Q (fun _=>qR) fun u7=>fun hq7=>match u7,hq7 with | _,rfl=>have hq8:=rb hA3;wi hq8<|gW [1] Q Q Q Q (fun _=>lH) fun u8 _=>fun hq8=>un 4 [24] [] [(3,0)] Q Q Q Q Q Q fun hl4=>match u8,hq8 with | _,rfl=>wi hF<|b8 (p:=(x8)) [4,3,0,2] Q Q))) fun x5 _=>d8 (s3,s4) [0,3] Q Q
theorem aLW{l:aA}{w_ c slot:Int}{s1 s2:AC}(h1:aT κ s1 l.Global)(h2:aT κ s2 l.bQ):VS Tryz.prog κ 428 (XN l w_ c slot) [.g [.h s1 l.Global.length,.h s2 l.bQ.length],I w_,I c,I slot] [] [] (fun r (y:AC×AC)=>.t [.g [.h y.1 r.1.Global.length,.h y.2 r.1.bQ.length],.b r.2]) (fun r y=>[ow y.1 r.1.Global,ow y.2 r.1.bQ]):=
 bR tok Tryz.call428 Tryz.func428 Tryz.results428 Q Q<|c1 Q (fun h=>iC (h.a h1) (h.a h2)) fun x1 s3=>c0 Q (fun _=>V7) fun x2=>dA 0 3 (vD c slot x1 x2) [2,3,8,10,11] 34 [1,2,3,4] Q (c0 Q (fun h=>BW (h.a h1) (h.a h2)) fun x6=>dZ [20,21] Q Q (b8 [1,2,3,4] Q Q)<|dZ [23,24,25] Q Q (b8 [1,2,3,4] Q Q)<|c0 Q (fun _=>EB) fun x7=>dZ [28,29,30] Q Q (b8 [1,2,3,4] Q Q)<|c0 Q (fun h=>TV (h.a h1) (h.a h2)) fun x8=>b8 [1,2,3,4] Q Q) fun x3=>aV [34] Q Q (d8 (s3.1,s3.2) [1,2] Q Q)<|i7 fC 2 Q Q Q fun x4 h3 s4 h4=>fun hF=>eB 3 h4 h3 Q Q Q Q Q<|wi hF<|aV [45] Q Q (i7 fC 1 Q Q Q fun x5 h5 s5 h6=>fun hF=>eB 4 h6 h5 Q Q Q Q Q<|lt1 Q cQ Q Q Q Q fun s6=>ap 11 cQ Q Q Q Q Q Q Q (fun h=>(h.o 12 Q)) Q Q hF fun hF s7=>sR Q<|iN fC 8 [11] [47] (⟨x5.aL++([slot])⟩:aH) s7 Q Q Q Q Q Q Q Q<|mG s3.1 List.length_set.symm [(60,0)] [(0,0),(3,0)] Q Q Q<|kS fC 4 [7] h3 s4 Q Q Q Q Q Q Q<|fR Q Q<|jS (hT:=tok) (s3.1,s3.2) [13,14] hF Q Tryz.results428 Q Q Q Q)<|fun hF=>lt1 Q cQ Q Q Q Q fun s8=>ap 7 cQ Q Q Q Q Q Q Q (fun h=>(h.o 8 Q)) Q Q hF fun hF s9=>sR Q<|iN fC 4 [7] [37] (⟨x4.aL++([slot])⟩:aH) s9 Q Q Q Q Q Q Q Q<|mG s3.2 List.length_set.symm [(60,1)] [(0,1),(3,1)] Q Q Q<|fR Q Q<|jS (hT:=tok) (s3.1,s3.2) [1,9] hF Q Tryz.results428 Q Q Q Q
theorem aJV{m:Mem}{w_ h:Int}{s1 s2 s3 s4:AC}(h1:aT κ s1 m.aG.Bytes)(h2:aT κ s2 m.aG.Class)(h3:aT κ s3 m.aA.Global)(h4:aT κ s4 m.aA.bQ):VS Tryz.prog κ 364 (OB m w_ h) [.g (gM m s1 s2 s3 s4),I w_,I h] [] [] (fun r (y:A4C)=>.g (yM r y)) (fun r y=>(zM r y [])):=
 bR tok Tryz.call364 Tryz.func364 Tryz.results364 Q Q<|c1 Q (fun h=>aG7 (h.a h1) (h.a h2)) fun x1 s5=>i4 0 4 (LG m w_ h) [1,3,6,7,8] (fun(x2:Mem) (u:AC×AC)=>[(11,.p 3 0)]) [0,1] (fun x2 u=>(oM x2 s5.1 s5.2 u.1 u.2 [.box 3 (gM x2 s5.1 s5.2 u.1 u.2)])) Q (d9 aB [0,1,4] Q<|fun hF=>bd hF fun x6 hA1 hF=>jC Q Q (have hq1:=rb hA1;wi hq1<|c1 Q (fun h=>iC (h.a h3) (h.a h4)) fun u1 s12=>fun hq1=>match u1,hq1 with | _,rfl=>wi hF<|CJ (p:=((⟨x1.1,x6⟩:Mem))) (s12.1,s12.2) [2,3,5,6,7,0,1] Q Q) (have hq2:=rb hA1;wi hq2<|c1 Q (fun h=>iC (h.a h3) (h.a h4)) fun u2 s13=>fun hq2=>match u2,hq2 with | _,rfl=>wi hF<|CJ (p:=((⟨x1.1,x6⟩:Mem))) (s13.1,s13.2) [2,3,6,7,5,0,1] Q Q)) fun x2 ⟨s6,s7⟩=>i4 0 4 LF [6,11] (fun(x3:Mem) (u:AC×AC)=>[]) [6] (fun x3 u=>(oM x3 s5.1 s5.2 u.1 u.2 [.box 3 (gM x3 s5.1 s5.2 u.1 u.2)])) Q (aV [31] Q Q (d9 aB [5,6] Q<|c0 Q (fun h=>tV (h.a h1) (h.a h2)) fun x4=>c1 Q (fun h=>aLW (h.a h3) (h.a h4)) fun x5 s10=>CJ (s10.1,s10.2) [0,1,7,8,4,6] Q Q)<|CJ (s6,s7) [0,1,2,3,4,6] Q Q) fun x3 ⟨s8,s9⟩=>d8 (s5.1,s5.2,s8,s9) [0,1,2,3] Q Q
theorem OV{s:Sub}{b:aD}{w_:Int}{s1 s2 s3 s4 s5 s6 s7:AC}{b0 b1:Nat×Nat}:VS Tryz.prog κ 237 (nF s b w_) [.p 0 0,.p 1 0,I w_] [b0,b1] ([.box 0 [I s.Kind,I s.A,I s.Pc,I s.E,I s.Row,I s.B,I s.H,I s.Out,I s.Code,.b s.cJ],.box 1 (gB b s1 s2 s3 s4 s5 s6 s7)]++(oB b s1 s2 s3 s4 s5 s6 s7 [])) (fun(r:Sub×aD) (y:A5C)=>.t []) (fun(r:Sub×aD) (y:A5C)=>([.box 0 [I r.1.Kind,I r.1.A,I r.1.Pc,I r.1.E,I r.1.Row,I r.1.B,I r.1.H,I r.1.Out,I r.1.Code,.b r.1.cJ],.box 1 (gB r.2 y.1 y.2.1 y.2.2.1 y.2.2.2.1 s5 y.2.2.2.2 s7)]++(oB r.2 y.1 y.2.1 y.2.2.1 y.2.2.2.1 s5 y.2.2.2.2 s7 []))):=
 bR tok Tryz.call237 Tryz.func237 Tryz.results237 Q Q<|dA 0 2 (eU s b w_) [0,1,2] 6 [0,2,3,4,5,6,7,8,1] Q (d9 aB [0,1] Q<|c0 Q (fun h=>TW (h.o 7 Q)) fun x13=>dZ [16,17] Q Q (i7 gU 7 Q Q Q fun x14 h7 s11 h8=>fun hF=>eB 2 h8 h7 Q Q Q Q Q<|wi hF<|i7 l6 12 Q Q Q fun x15 h9 _ h10=>fun hF=>eB 3 h10 h9 Q Q Q Q Q<|sF Q<|kS l6 13 [] h9 () Q Q Q Q Q Q Q<|kS gU 9 [16] h7 s11 Q Q Q Q Q Q Q<|mK () [0,2,3,4,5,6,17,8,1] hF Q)<|b8 [0,2,3,4,5,6,7,8,1] Q Q) fun x1=>aV [41,46] Q Q (L4 (s1,s2,s3,s4,s6) [0,8,1,2,3,4,5,6,7] Q Q)<|aV [61,66] Q Q (ZA 0 0 0 10 8 1 0 8 [1,2,3,4,5,6,7] Q Q Q Q Q (fun _=>SY) fun x2 _=>L4 (s1,s2,s3,s4,s6) [0,8,9,10,11,12,13,14,15] Q Q)<|dA 0 2 (dU s b w_ x1) [0,1,2,6] 71 [0,1,2,3,4,5,6,7,8] Q (dZ [76,77] Q Q (c0 Q (fun _=>f7) fun x12=>dZ [82,83,84] Q Q (b8 [0,1,2,3,4,5,6,7,8] Q Q)<|b8 [0,1,2,3,4,5,6,7,8] Q Q)<|b8 [0,1,2,3,4,5,6,7,8] Q Q) fun x3=>aV [71] Q Q (d9 aB [0,8] Q<|i7 oI 7 Q Q Q fun x4 h1 _ h2=>fun hF=>eB 2 h2 h1 Q Q Q Q Q<|wi hF<|aV [101] Q Q (fun hF=>sR Q<|kS oI 9 [] h1 () Q Q Q Q Q Q Q<|jS (hT:=tok) (s1,s2,s3,s4,s6) [0,8,1,2,3,4,5,6,12] hF Q Tryz.results237 Q Q Q Q)<|aV [124] Q Q (fun hF=>sF Q<|kS oI 9 [] h1 () Q Q Q Q Q Q Q<|jS (hT:=tok) (s1,s2,s3,s4,s6) [0,8,1,2,3,4,5,6,12] hF Q Tryz.results237 Q Q Q Q)<|fun hF=>sF Q<|kS oI 9 [] h1 () Q Q Q Q Q Q Q<|jS (hT:=tok) (s1,s2,s3,s4,s6) [0,8,1,2,3,4,5,6,12] hF Q Tryz.results237 Q Q Q Q)<|dA 0 2 (cZ s b w_) [0,1,2] 128 [0,1,2,3,4,5,6,7,8] Q (d9 aB [0,8] Q<|dZ [133,134] Q Q (dZ [6,135,136,137] Q Q (i7 gU 6 Q Q Q fun x9 h3 s10 h4=>fun hF=>eB 2 h4 h3 Q Q Q Q Q<|wi hF<|i7 l6 12 Q Q Q fun x10 h5 _ h6=>fun hF=>eB 3 h6 h5 Q Q Q Q Q<|wi hF<|c0 Q (fun _=>Y0) fun x11=>fun hF=>sF Q<|kS l6 13 [] h5 () Q Q Q Q Q Q Q<|kS gU 9 [16] h3 s10 Q Q Q Q Q Q Q<|mK () [0,1,2,3,4,5,17,7,8] hF Q)<|b8 [0,1,2,3,4,5,6,7,8] Q Q)<|b8 [0,1,2,3,4,5,6,7,8] Q Q) fun x5=>aV [128] Q Q (d9 aB [0] Q<|c1 Q (fun h=>aEN (h.o 6 Q)) fun x6 s8=>d9 aB [0] Q<|c1 Q (fun h=>aJV (h.o 1 Q) (h.o 2 Q) (h.o 3 Q) (h.o 4 Q)) fun x7 s9=>L4 (s9.1,s9.2.1,s9.2.2.1,s9.2.2.2,s8) [0,8,10,11,12,13,5,9,7] Q Q)<|fI 0 0 0 10 [] Q Q Q Q Q (fun _=>cN) fun x8 _=>L4 (s1,s2,s3,s4,s6) [0,8,1,2,3,4,5,6,7] Q Q
theorem V9{c:aJ}{w_ e_:Int}{s1:AC}(h1:aT κ s1 c.bD):VS Tryz.prog κ 365 (OC c w_ e_) [.g [I c.aM,.h s1 c.bD.length],I w_,I e_] [] [] (fun r (y:AC)=>.t [.g [I r.1.aM,.h y r.1.bD.length],.b r.2]) (fun r y=>[ow y r.1.bD]):=
 bR tok Tryz.call365 Tryz.func365 Tryz.results365 Q Q<|c1 Q (fun h=>pJ (h.a h1)) fun x1 s2=>dA 0 3 (wV w_ e_ x1) [1,2,6,8] 25 [1,2,3] Q (c0 Q (fun h=>tU (h.a h1)) fun x4=>dZ [13,14] Q Q (b8 [1,2,3] Q Q)<|c0 Q (fun _=>f7) fun x5=>dZ [17,18,19] Q Q (b8 [1,2,3] Q Q)<|c0 Q (fun _=>cE) fun x6=>b8 [1,2,3] Q Q) fun x2=>aV [25] Q Q (d8 s2 [1] Q Q)<|i7 nO 1 Q Q Q fun x3 h2 _ h3=>fun hF=>eB 3 h3 h2 Q Q Q Q Q<|sR Q<|iN nO 3 [] [28] (⟨true,e_,false,0⟩:fO) () Q Q Q Q Q Q Q Q<|mG s2 List.length_set.symm [(33,1)] [(0,1),(2,1)] Q Q Q<|fR Q Q<|jS (hT:=tok) s2 [6] hF Q Tryz.results365 Q Q Q Q
theorem UW{s:Sub}{b:aD}{w_:Int}{s1 s2 s3 s4 s5 s6 s7:AC}{b0 b1:Nat×Nat}:VS Tryz.prog κ 238 (vF s b w_) [.p 0 0,.p 1 0,I w_] [b0,b1] ([.box 0 [I s.Kind,I s.A,I s.Pc,I s.E,I s.Row,I s.B,I s.H,I s.Out,I s.Code,.b s.cJ],.box 1 (gB b s1 s2 s3 s4 s5 s6 s7)]++(oB b s1 s2 s3 s4 s5 s6 s7 [])) (fun(r:Sub×aD) (y:AC)=>.t []) (fun(r:Sub×aD) (y:AC)=>([.box 0 [I r.1.Kind,I r.1.A,I r.1.Pc,I r.1.E,I r.1.Row,I r.1.B,I r.1.H,I r.1.Out,I r.1.Code,.b r.1.cJ],.box 1 (gB r.2 s1 s2 s3 s4 y s6 s7)]++(oB r.2 s1 s2 s3 s4 y s6 s7 []))):=
 bR tok Tryz.call238 Tryz.func238 Tryz.results238 Q Q<|aV [14,15] Q Q (L4 s5 [0,1,2,3,4,5,6,7,8] Q Q)<|aV [27,28] Q Q (i4 0 3 (fun(p:Bool×Int×(List fO))=>vY s b p.1 p.2.1 p.2.2) [0,1] (fun(p:Bool×Int×(List fO)) (s8:AC)=>[(6,.p 2 0),(7,.b p.1)]) [0,2,3,4,5,6,7,8,1] (fun p s8=>[ow s8 (p.2.2:List fO),.box 2 [I p.2.1,.h s8 p.2.2.length]]) Q (d9 aB [0,1] Q<|fun hF=>bd hF fun x5 hA1 hF=>jC Q Q (have hq1:=rb hA1;wi hq1<|c1 Q (fun h=>V9 (h.o 6 Q)) fun u1 s10=>fun hq1=>match u1,hq1 with | _,rfl=>wi hF<|CJ (p:=(x5.2,x5.1.aM,x5.1.bD)) s10 [9,10,0,2,3,4,5,6,7,8,1] Q Q) (have hq2:=rb hA1;wi hq2<|c1 Q (fun h=>V9 (h.o 6 Q)) fun u2 s11=>fun hq2=>match u2,hq2 with | _,rfl=>wi hF<|CJ (p:=(x5.2,x5.1.aM,x5.1.bD)) s11 [10,9,0,2,3,4,5,6,7,8,1] Q Q)) fun⟨x1,x2,x3⟩ s8=>aV [43] Q Q (fI 2 0 0 10 [] Q Q Q Q Q (fun _=>cN) fun x4 _=>d8 s5 [2,10,3,4,5,6,7,8,9] Q Q)<|L4 s8 [2,10,3,4,5,6,0,8,9] Q Q)<|aV [53,54] Q Q (d9 aB [0,1] Q<|aV [64] Q Q (fI 0 0 0 10 [] Q Q Q Q Q (fun _=>cN) fun x6 _=>L4 s5 [0,1,2,3,4,5,6,7,8] Q Q)<|L4 s5 [0,1,2,3,4,5,6,7,8] Q Q)<|fI 0 0 0 10 [] Q Q Q Q Q (fun _=>cN) fun x7 _=>L4 s5 [0,1,2,3,4,5,6,7,8] Q Q
theorem m0{s:Sub}{b:aD}{w_:Int}{s1 s2 s3 s4 s5 s6 s7:AC}{b0 b1:Nat×Nat}:VS Tryz.prog κ 130 (jH s b w_) [.p 0 0,.p 1 0,I w_] [b0,b1] ([.box 0 [I s.Kind,I s.A,I s.Pc,I s.E,I s.Row,I s.B,I s.H,I s.Out,I s.Code,.b s.cJ],.box 1 (gB b s1 s2 s3 s4 s5 s6 s7)]++(oB b s1 s2 s3 s4 s5 s6 s7 [])) (fun(r:Sub×aD) (y:A6C)=>.t []) (fun(r:Sub×aD) (y:A6C)=>([.box 0 [I r.1.Kind,I r.1.A,I r.1.Pc,I r.1.E,I r.1.Row,I r.1.B,I r.1.H,I r.1.Out,I r.1.Code,.b r.1.cJ],.box 1 (gB r.2 y.1 y.2.1 y.2.2.1 y.2.2.2.1 y.2.2.2.2.1 y.2.2.2.2.2 s7)]++(oB r.2 y.1 y.2.1 y.2.2.1 y.2.2.2.1 y.2.2.2.2.1 y.2.2.2.2.2 s7 []))):=
 bR tok Tryz.call130 Tryz.func130 Tryz.results130 Q Q<|aV [9] Q Q (d8 (s1,s2,s3,s4,s5,s6) [0,1,2,3,4,5,6,7,8] Q Q)<|aV [16,17] Q Q (ZA 0 0 0 10 1 1 0 8 [2,3,4,5,6,7,8] Q Q Q Q Q (fun _=>RP) fun x1 s8=>L4 (s8.1,s8.2.1,s8.2.2.1,s8.2.2.2,s5,s6) [0,1,9,10,11,12,13,14,15] Q Q)<|aV [22,23] Q Q (ZA 0 0 0 10 1 1 0 8 [2,3,4,5,6,7,8] Q Q Q Q Q (fun _=>QF) fun x2 s9=>L4 (s1,s2,s3,s4,s5,s9) [0,1,9,10,11,12,13,14,15] Q Q)<|aV [28,29] Q Q (ZA 0 0 0 10 1 1 0 8 [2,3,4,5,6,7,8] Q Q Q Q Q (fun _=>OU) fun x3 s10=>L4 (s1,s2,s3,s4,s10,s6) [0,1,9,10,11,12,13,14,15] Q Q)<|aV [33,34] Q Q (ZA 0 0 0 10 1 1 0 8 [2,3,4,5,6,7,8] Q Q Q Q Q (fun _=>OV) fun x4 s11=>L4 (s11.1,s11.2.1,s11.2.2.1,s11.2.2.2.1,s5,s11.2.2.2.2) [0,1,9,10,11,12,13,14,15] Q Q)<|aV [39,40] Q Q (ZA 0 0 0 10 1 1 0 8 [2,3,4,5,6,7,8] Q Q Q Q Q (fun _=>UW) fun x5 s12=>L4 (s1,s2,s3,s4,s12,s6) [0,1,9,10,11,12,13,14,15] Q Q)<|fI 0 0 0 10 [] Q Q Q Q Q (fun _=>cN) fun x6 _=>L4 (s1,s2,s3,s4,s5,s6) [0,1,2,3,4,5,6,7,8] Q Q
theorem eK{j:bW}{pc:Int}{b0:Nat×Nat}:VS Tryz.prog κ 298 (cY j pc) [.p 0 0,I pc] [b0] [.box 0 [.b j.fP,I j.Op.Kind,I j.Op.Cell,I j.Op.dQ,I j.Op.dN,I j.aR,I j.Pc,I j.Sub.Kind,I j.Sub.A,I j.Sub.Pc,I j.Sub.E,I j.Sub.Row,I j.Sub.B,I j.Sub.H,I j.Sub.Out,I j.Sub.Code,.b j.Sub.cJ,I j.H,I j.Old,I j.dN,I j.Code]] (fun(r:bW) (y:Unit)=>.t []) (fun(r:bW) (y:Unit)=>[.box 0 [.b r.fP,I r.Op.Kind,I r.Op.Cell,I r.Op.dQ,I r.Op.dN,I r.aR,I r.Pc,I r.Sub.Kind,I r.Sub.A,I r.Sub.Pc,I r.Sub.E,I r.Sub.Row,I r.Sub.B,I r.Sub.H,I r.Sub.Out,I r.Sub.Code,.b r.Sub.cJ,I r.H,I r.Old,I r.dN,I r.Code]]):=
 bR tok Tryz.call298 Tryz.func298 Tryz.results298 Q Q<|L4 () [0] Q Q
theorem aEO{slot c:Int}:V0 Tryz.prog κ 452 (GY slot c) [I slot,I c] I:=
 bR tok Tryz.call452 Tryz.func452 Tryz.results452 Q Q<|c0 Q (fun _=>qQ) fun x1=>aV [10] Q Q (aZ Q Q)<|aZ Q Q
theorem aEP{slot c:Int}:V0 Tryz.prog κ 439 (OD slot c) [I slot,I c] (fun r=>.g [I r.aT5,I r.To]):=
 bR tok Tryz.call439 Tryz.func439 Tryz.results439 Q Q<|c0 Q (fun _=>aEO) fun x1=>aV [10] Q Q (aZ Q Q)<|c0 Q (fun _=>LM) fun x2=>aZ Q Q
theorem BZ{h:aG}{slot at_ width:Int}{s1 s2:AC}(h1:aT κ s1 h.Bytes)(h2:aT κ s2 h.Class):V0 Tryz.prog κ 393 (vG h slot at_ width) [.g [.h s1 h.Bytes.length,.h s2 h.Class.length],I slot,I at_,I width] I:=
 bR tok Tryz.call393 Tryz.func393 Tryz.results393 Q Q<|c0 Q (fun h=>tV (h.a h1) (h.a h2)) fun x1=>c0 Q (fun _=>aEP) fun x2=>c0 Q (fun _=>cE) fun x3=>aV [24] Q Q (aZ Q Q)<|aZ Q Q
theorem aG8{m:Mem}{h at_ width:Int}{s1 s2 s3 s4:AC}(h1:aT κ s1 m.aG.Bytes)(h2:aT κ s2 m.aG.Class)(h3:aT κ s3 m.aA.Global)(h4:aT κ s4 m.aA.bQ):V0 Tryz.prog κ 391 (RC m h at_ width) [.g (gM m s1 s2 s3 s4),I h,I at_,I width] (fun r=>.t [I r.1,I r.2]):=
 bR tok Tryz.call391 Tryz.func391 Tryz.results391 Q Q<|dA 0 1 (BE m h at_ width) [1,2,3,4] 11 [0] Q (c0 Q (fun h=>V2 (h.a h1) (h.a h2) (h.a h3) (h.a h4)) fun x5=>dZ [14,15] Q Q (b8 [0] Q Q)<|c0 Q (fun _=>I0) fun x6=>b8 [0] Q Q) fun x1=>aV [11] Q Q (aZ Q Q)<|c0 Q (fun h=>LP (h.a h1) (h.a h2) (h.a h3) (h.a h4)) fun x2=>aV [20,24] Q Q (aZ Q Q)<|c0 Q (fun h=>BZ (h.a h1) (h.a h2)) fun x3=>aV [33] Q Q (aZ Q Q)<|c0 Q (fun h=>BX (h.a h1)) fun x4=>aZ Q Q
theorem jR{m:Mem}{h at_ width n:Int}{s1 s2 s3 s4:AC}(h1:aT κ s1 m.aG.Bytes)(h2:aT κ s2 m.aG.Class)(h3:aT κ s3 m.aA.Global)(h4:aT κ s4 m.aA.bQ):VS Tryz.prog κ 299 (GZ m h at_ width n) [.g (gM m s1 s2 s3 s4),I h,I at_,I width,I n] [] [] (fun r (y:A4C)=>.t [.g (yM r.1 y),I r.2]) (fun r y=>(zM r.1 y [])):=
 bR tok Tryz.call299 Tryz.func299 Tryz.results299 Q Q<|c1 Q (fun h=>RN (h.a h1) (h.a h2) (h.a h3) (h.a h4)) fun x1 s5=>c0 Q (fun _=>qR) fun x2=>c0 Q (fun h=>aG8 (h.a h1) (h.a h2) (h.a h3) (h.a h4)) fun x3=>aV [30] Q Q (d8 s5 [2,3,4,5] Q Q)<|aV [34] Q Q (d8 s5 [2,3,4,5] Q Q)<|i4 0 3 PL [10,12] (fun(x4:Mem) (_:Unit)=>[]) [1] (fun x4 _=>(zM x4 s5 [.box 2 (yM x4 s5)])) Q (d9 aB [0,1] Q<|fun hF=>bd hF fun x5 hA1 hF=>bd hF fun x6 hA2 hF=>jC Q Q (have hq1:=rb hA1;wi hq1<|c0 Q (fun h=>BZ (h.a h1) (h.a h2)) fun u1=>fun hq1=>match u1,hq1 with | _,rfl=>have hq2:=rb hA2;wi hq2<|gW [2] Q Q Q Q (fun _=>lH) fun u2 _=>fun hq2=>un 7 [38] [(17,0)] [(6,0)] Q Q Q Q Q Q fun hl2=>match u2,hq2 with | _,rfl=>wi hF<|b8 (p:=((⟨(⟨x6,x1.aG.Class⟩:aG),x1.aA⟩:Mem))) [7,3,4,5,6,1] Q Q) (have hq3:=rb hA1;wi hq3<|c0 Q (fun h=>BZ (h.a h1) (h.a h2)) fun u3=>fun hq3=>match u3,hq3 with | _,rfl=>have hq4:=rb hA2;wi hq4<|gW [2] Q Q Q Q (fun _=>lH) fun u4 _=>fun hq4=>un 7 [38] [(17,0)] [(6,0)] Q Q Q Q Q Q fun hl3=>match u4,hq4 with | _,rfl=>wi hF<|b8 (p:=((⟨(⟨x6,x1.aG.Class⟩:aG),x1.aA⟩:Mem))) [7,3,4,5,6,1] Q Q)) fun x4 _=>d8 s5 [0,1,2,3] Q Q
theorem X4{s:aC}{w_:Int}{s1 s2 s3 s4 s5 s6 s7 s8 s9 s10 s11:AC}{b0:Nat×Nat}:VS Tryz.prog κ 189 (BI s w_) [.p 0 0,I w_] [b0] ([.box 0 (gS s s1 s2 s3 s4 s5 s6 s7 s8 s9 s10 s11)]++(oS s s1 s2 s3 s4 s5 s6 s7 s8 s9 s10 s11 [])) (fun(r:aC) (y:A7C)=>.t []) (fun(r:aC) (y:A7C)=>([.box 0 (gS r y.1 y.2.1 y.2.2.1 y.2.2.2.1 y.2.2.2.2.1 y.2.2.2.2.2.1 s7 s8 s9 s10 y.2.2.2.2.2.2)]++(oS r y.1 y.2.1 y.2.2.1 y.2.2.2.1 y.2.2.2.2.1 y.2.2.2.2.2.1 s7 s8 s9 s10 y.2.2.2.2.2.2 []))):=
 bR tok Tryz.call189 Tryz.func189 Tryz.results189 Q Q<|i7 bT 9 Q Q Q fun x1 h1 _ h2=>fun hF=>eB 1 h2 h1 Q Q Q Q Q<|wi hF<|aV [19,20] Q Q (d9 aB [14] Q<|ZA 13 1 7 10 0 0 0 8 [1,2,3,4,5,6,7] Q Q Q Q Q (fun _=>m0) fun x2 s12=>aV [39,45] Q Q (fun hF=>sF Q<|iN bT 12 [] [10] ({x1 with Sub:=x2.1}:bW) () Q Q Q Q Q Q Q Q<|mG s9 List.length_set.symm [] [(0,9)] Q Q Q<|fR Q Q<|jS (hT:=tok) (s12.1,s12.2.1,s12.2.2.1,s12.2.2.2.1,s12.2.2.2.2.1,s12.2.2.2.2.2,s11) [0,15,16,17,18,19,20,21,8,22,10,11] hF Q Tryz.results189 Q Q Q Q)<|aV [46,52] Q Q (fI 13 1 0 21 [] Q Q Q Q Q (fun _=>cA (j:=({x1 with Sub:=x2.1}:bW))) fun x3 _=>fun hF=>sF Q<|iN bT 12 [] [10] x3 () Q Q Q Q Q Q Q Q<|mG s9 List.length_set.symm [] [(0,9)] Q Q Q<|fR Q Q<|jS (hT:=tok) (s12.1,s12.2.1,s12.2.2.1,s12.2.2.2.1,s12.2.2.2.2.1,s12.2.2.2.2.2,s11) [0,15,16,17,18,19,20,21,8,22,10,11] hF Q Tryz.results189 Q Q Q Q)<|c0 Q (fun _=>mZ) fun x4=>aV [60,67] Q Q (fI 13 1 0 21 [] Q Q Q Q Q (fun _=>cA (j:=({x1 with Sub:=x2.1}:bW))) fun x5 _=>fun hF=>sF Q<|iN bT 12 [] [10] x5 () Q Q Q Q Q Q Q Q<|mG s9 List.length_set.symm [] [(0,9)] Q Q Q<|fR Q Q<|jS (hT:=tok) (s12.1,s12.2.1,s12.2.2.1,s12.2.2.2.1,s12.2.2.2.2.1,s12.2.2.2.2.2,s11) [0,15,16,17,18,19,20,21,8,22,10,11] hF Q Tryz.results189 Q Q Q Q)<|fI 13 1 0 21 [] Q Q Q Q Q (fun _=>eK (j:=({x1 with Sub:=x2.1,H:=x2.1.Out}:bW))) fun x6 _=>fun hF=>sF Q<|iN bT 12 [] [10] x6 () Q Q Q Q Q Q Q Q<|mG s9 List.length_set.symm [] [(0,9)] Q Q Q<|fR Q Q<|jS (hT:=tok) (s12.1,s12.2.1,s12.2.2.1,s12.2.2.2.1,s12.2.2.2.2.1,s12.2.2.2.2.2,s11) [0,15,16,17,18,19,20,21,8,22,10,11] hF Q Tryz.results189 Q Q Q Q)<|aV [70,71] Q Q (i4 0 3 (fun(p:Int×Mem)=>BF s w_ p.1 p.2) [0,4] (fun(p:Int×Mem) (u:A4C)=>[(5,.p 2 0),(6,I p.1)]) [1,2,3,4,5,6,7,8,10,11,0,14] (fun p u=>([ow s9 (s.aW:List bW)]++(zM p.2 u [.box 2 (yM p.2 u)]))) Q (d9 aB [0,14] Q<|fun hF=>bd hF fun x13 hA1 hF=>aZG Q Q (jC Q Q (jC Q Q (have hq1:=rb hA1;wi hq1<|c1 Q (fun h=>jR (h.o 1 Q) (h.o 2 Q) (h.o 3 Q) (h.o 4 Q)) fun u1 s18=>fun hq1=>match u1,hq1 with | _,rfl=>sF Q<|kS bT 12 [] h1 () Q Q Q Q Q Q Q<|mK (p:=(x13.2,x13.1)) s18 [20,15,16,17,18,19,1,2,3,4,5,6,7,8,10,11,0,14] hF Q) (have hq2:=rb hA1;wi hq2<|c1 Q (fun h=>jR (h.o 1 Q) (h.o 2 Q) (h.o 3 Q) (h.o 4 Q)) fun u2 s19=>fun hq2=>match u2,hq2 with | _,rfl=>sF Q<|kS bT 12 [] h1 () Q Q Q Q Q Q Q<|mK (p:=(x13.2,x13.1)) s19 [20,16,17,18,19,15,1,2,3,4,5,6,7,8,10,11,0,14] hF Q)) (have hq3:=rb hA1;wi hq3<|c1 Q (fun h=>jR (h.o 1 Q) (h.o 2 Q) (h.o 3 Q) (h.o 4 Q)) fun u3 s20=>fun hq3=>match u3,hq3 with | _,rfl=>sF Q<|kS bT 12 [] h1 () Q Q Q Q Q Q Q<|mK (p:=(x13.2,x13.1)) s20 [20,16,17,18,19,15,1,2,3,4,5,6,7,8,10,11,0,14] hF Q)) (jC Q Q (jC Q Q (have hq4:=rb hA1;wi hq4<|c1 Q (fun h=>jR (h.o 1 Q) (h.o 2 Q) (h.o 3 Q) (h.o 4 Q)) fun u4 s21=>fun hq4=>match u4,hq4 with | _,rfl=>sF Q<|kS bT 12 [] h1 () Q Q Q Q Q Q Q<|mK (p:=(x13.2,x13.1)) s21 [20,15,16,17,18,19,1,2,3,4,5,6,7,8,10,11,0,14] hF Q) (have hq5:=rb hA1;wi hq5<|c1 Q (fun h=>jR (h.o 1 Q) (h.o 2 Q) (h.o 3 Q) (h.o 4 Q)) fun u5 s22=>fun hq5=>match u5,hq5 with | _,rfl=>sF Q<|kS bT 12 [] h1 () Q Q Q Q Q Q Q<|mK (p:=(x13.2,x13.1)) s22 [20,16,17,18,19,15,1,2,3,4,5,6,7,8,10,11,0,14] hF Q)) (have hq6:=rb hA1;wi hq6<|c1 Q (fun h=>jR (h.o 1 Q) (h.o 2 Q) (h.o 3 Q) (h.o 4 Q)) fun u6 s23=>fun hq6=>match u6,hq6 with | _,rfl=>sF Q<|kS bT 12 [] h1 () Q Q Q Q Q Q Q<|mK (p:=(x13.2,x13.1)) s23 [20,16,17,18,19,15,1,2,3,4,5,6,7,8,10,11,0,14] hF Q)) (jC Q Q (have hq7:=rb hA1;wi hq7<|c1 Q (fun h=>jR (h.o 1 Q) (h.o 2 Q) (h.o 3 Q) (h.o 4 Q)) fun u7 s24=>fun hq7=>match u7,hq7 with | _,rfl=>sF Q<|kS bT 12 [] h1 () Q Q Q Q Q Q Q<|mK (p:=(x13.2,x13.1)) s24 [20,16,17,18,19,15,1,2,3,4,5,6,7,8,10,11,0,14] hF Q) (have hq8:=rb hA1;wi hq8<|c1 Q (fun h=>jR (h.o 1 Q) (h.o 2 Q) (h.o 3 Q) (h.o 4 Q)) fun u8 s25=>fun hq8=>match u8,hq8 with | _,rfl=>sF Q<|kS bT 12 [] h1 () Q Q Q Q Q Q Q<|mK (p:=(x13.2,x13.1)) s25 [20,16,17,18,19,15,1,2,3,4,5,6,7,8,10,11,0,14] hF Q))) fun⟨x7,x8⟩ ⟨s13,s14,s15,s16⟩=>aV [91] Q Q (fun hF=>ro bT 0 17 1 Q Q Q Q hF fun x9 h3 hF _=>wi hF<|fI 19 1 0 21 [] Q Q Q Q Q (fun _=>cA) fun x10 _=>fun hF=>sR Q<|iN bT 18 [] [] x10 () Q Q Q Q Q Q Q Q<|mG s9 List.length_set.symm [] [(16,9)] Q Q Q<|fR Q Q<|jS (hT:=tok) (s1,s2,s3,s4,s5,s6,s11) [16,6,7,8,9,10,11,12,13,21,14,15] hF Q Tryz.results189 Q Q Q Q)<|fun hF=>ro bT 0 17 1 Q Q Q Q hF fun x11 h5 hF _=>wi hF<|fI 19 1 0 21 [] Q Q Q Q Q (fun _=>eK) fun x12 _=>fun hF=>sF Q<|iN bT 18 [] [] x12 () Q Q Q Q Q Q Q Q<|mG s9 List.length_set.symm [] [(16,9)] Q Q Q<|fR Q Q<|jS (hT:=tok) (s13,s14,s15,s16,s5,s6,s11) [16,1,2,3,4,10,11,12,13,21,14,15] hF Q Tryz.results189 Q Q Q Q)<|aV [102,103] Q Q (fun hF=>LZ bT 12 [] h1 () Q Q Q Q Q Q Q Q Q<|wi hF<|d9 aB [0,14] Q<|fun hF=>ro bT 15 14 1 Q Q Q Q hF fun x14 h7 hF _=>wi hF<|i7 oI 8 Q Q Q fun x15 h9 _ h10=>fun hF=>eB 2 h10 h9 Q Q Q Q Q<|wi hF<|i4 0 3 (BH s w_ x14 x15) [0,1,4] (fun(x16:(List Int)) (_:Unit)=>[]) [1,2,3,4,5,6,7,10,11,14] (fun x16 _=>[ow s8 (x16:List Int),ow s9 (s.aW.set w_.toNat ({x14 with Old:=x15}:bW):List bW),.box 0 [.h s1 s.aD.Mem.aG.Bytes.length,.h s2 s.aD.Mem.aG.Class.length,.h s3 s.aD.Mem.aA.Global.length,.h s4 s.aD.Mem.aA.bQ.length,I s.aD.aJ.aM,.h s5 s.aD.aJ.bD.length,.h s6 s.aD.aX.length,.h s7 s.aD.jQ.length,.h s8 x16.length,.h s9 (s.aW.set w_.toNat ({x14 with Old:=x15}:bW)).length,.h s10 s.cG.length,.h s11 s.Log.length,I s.aR]]) Q (fun hF=>LZ oI 19 [] h9 () Q Q Q Q Q Q Q Q Q<|ceS bT 16 [] [10] ({x14 with Old:=x15}:bW) () Q Q Q Q Q Q Q Q Q Q<|rh s9 List.length_set.symm [] [(0,9)] Q Q Q<|wi hF<|d9 aB [0,14,18,21] Q<|fun hF=>bd hF fun x24 hA4 hF=>bd hF fun x25 hA5 hF=>jC Q Q (have hq13:=rb hA4;ro bT 23 14 1 Q Q Q Q hq13 fun u13 h23 hq13 _=>match u13,hq13 with | _,rfl=>have hq14:=rb hA5;wi hq14<|i7 oI 22 Q Q Q fun u14 h25 _ h26=>fun hq14=>eB 3 h26 h25 Q Q Q Q Q<|match u14,hq14 with | _,rfl=>sF Q<|iN oI 27 [] [108,121] x24.H () Q Q Q Q Q Q Q Q<|mG s8 List.length_set.symm [] [(0,8)] Q Q Q<|kS bT 24 [] h23 () Q Q Q Q Q Q Q<|fR Q Q<|mK (p:=(s.Cells.set x24.Op.Cell.toNat x24.H)) () [30,31,0,1,2,3,4,5,6,7,10,11,14] hF Q) (have hq15:=rb hA4;ro bT 23 14 1 Q Q Q Q hq15 fun u15 h27 hq15 _=>match u15,hq15 with | _,rfl=>have hq16:=rb hA5;wi hq16<|i7 oI 22 Q Q Q fun u16 h29 _ h30=>fun hq16=>eB 3 h30 h29 Q Q Q Q Q<|match u16,hq16 with | _,rfl=>sF Q<|iN oI 27 [] [108,121] x24.H () Q Q Q Q Q Q Q Q<|mG s8 List.length_set.symm [] [(0,8)] Q Q Q<|kS bT 24 [] h27 () Q Q Q Q Q Q Q<|fR Q Q<|mK (p:=(s.Cells.set x24.Op.Cell.toNat x24.H)) () [30,31,0,1,2,3,4,5,6,7,10,11,14] hF Q)) fun x16 _=>i4 0 3 (BG w_) [0,4] (fun(x17:aC) (s26:AC)=>[]) [12] (fun x17 s26=>(oS x17 s1 s2 s3 s4 s5 s6 s7 s8 s9 s10 s26 [.box 0 (gS x17 s1 s2 s3 s4 s5 s6 s7 s8 s9 s10 s26)])) Q (d9 aB [12] Q<|fun hF=>bd hF fun x22 hA2 hF=>bd hF fun x23 hA3 hF=>jC Q Q (have hq9:=rb hA2;ro bT 1 12 1 Q Q Q Q hq9 fun u9 h15 hq9 _=>match u9,hq9 with | _,rfl=>LZ bT 13 [] h15 () Q Q Q Q Q Q Q Q Q<|have hq10:=rb hA3;wi hq10<|fI 2 0 0 13 [3,4,5,6,7,8,9,0,16,10,11] Q Q Q Q Q (fun _=>iL (s:=({s with Cells:=x16,aW:=s.aW.set w_.toNat ({x14 with Old:=x15}:bW)}:aC))) fun u10 s28=>fun hq10=>match u10,hq10 with | _,rfl=>wi hF<|CJ (p:=(x23)) s28 [17,18,19,20,21,22,23,24,25,26,27,2,12] Q Q) (have hq11:=rb hA2;ro bT 1 12 1 Q Q Q Q hq11 fun u11 h17 hq11 _=>match u11,hq11 with | _,rfl=>LZ bT 13 [] h17 () Q Q Q Q Q Q Q Q Q<|have hq12:=rb hA3;wi hq12<|fI 2 0 0 13 [3,4,5,6,7,8,9,0,16,10,11] Q Q Q Q Q (fun _=>iL (s:=({s with Cells:=x16,aW:=s.aW.set w_.toNat ({x14 with Old:=x15}:bW)}:aC))) fun u12 s29=>fun hq12=>match u12,hq12 with | _,rfl=>wi hF<|CJ (p:=(x23)) s29 [17,18,19,20,21,22,23,24,25,26,27,2,12] Q Q)) fun x17 s26=>fun hF=>ro bT 8 12 1 Q Q Q Q hF fun x18 h11 hF _=>wi hF<|aV [148] Q Q (fI 14 1 0 21 [] Q Q Q Q Q (fun _=>cA) fun x19 _=>fun hF=>sR Q<|iN bT 13 [] [] x19 () Q Q Q Q Q Q Q Q<|mG s9 List.length_set.symm [] [(11,9)] Q Q Q<|fR Q Q<|jS (hT:=tok) (s1,s2,s3,s4,s5,s6,s26) [11,0,1,2,3,4,5,6,7,16,9,10] hF Q Tryz.results189 Q Q Q Q)<|c0 Q (fun _=>xE) fun x20=>fI 14 1 0 21 [] Q Q Q Q Q (fun _=>eK (j:=({x18 with Sub:=x20}:bW))) fun x21 _=>fun hF=>sF Q<|iN bT 13 [] [] x21 () Q Q Q Q Q Q Q Q<|mG s9 List.length_set.symm [] [(11,9)] Q Q Q<|fR Q Q<|jS (hT:=tok) (s1,s2,s3,s4,s5,s6,s26) [11,0,1,2,3,4,5,6,7,16,9,10] hF Q Tryz.results189 Q Q Q Q)<|aV [161,162] Q Q (d9 aB [14] Q<|ZA 13 1 7 10 0 0 0 8 [1,2,3,4,5,6,7] Q Q Q Q Q (fun _=>m0) fun x26 s30=>aV [175] Q Q (fI 13 1 0 21 [] Q Q Q Q Q (fun _=>cA (j:=({x1 with Sub:=x26.1}:bW))) fun x27 _=>fun hF=>sF Q<|iN bT 12 [] [10] x27 () Q Q Q Q Q Q Q Q<|mG s9 List.length_set.symm [] [(0,9)] Q Q Q<|fR Q Q<|jS (hT:=tok) (s30.1,s30.2.1,s30.2.2.1,s30.2.2.2.1,s30.2.2.2.2.1,s30.2.2.2.2.2,s11) [0,15,16,17,18,19,20,21,8,22,10,11] hF Q Tryz.results189 Q Q Q Q)<|fun hF=>sF Q<|iN bT 12 [] [10] ({x1 with Sub:=x26.1}:bW) () Q Q Q Q Q Q Q Q<|mG s9 List.length_set.symm [] [(0,9)] Q Q Q<|fR Q Q<|jS (hT:=tok) (s30.1,s30.2.1,s30.2.2.1,s30.2.2.2.1,s30.2.2.2.2.1,s30.2.2.2.2.2,s11) [0,15,16,17,18,19,20,21,8,22,10,11] hF Q Tryz.results189 Q Q Q Q)<|fI 13 1 0 21 [] Q Q Q Q Q (fun _=>cA) fun x28 _=>fun hF=>sF Q<|iN bT 12 [] [10] x28 () Q Q Q Q Q Q Q Q<|mG s9 List.length_set.symm [] [(0,9)] Q Q Q<|fR Q Q<|jS (hT:=tok) (s1,s2,s3,s4,s5,s6,s11) [0,1,2,3,4,5,6,7,8,15,10,11] hF Q Tryz.results189 Q Q Q Q
theorem ND{s:aC}{w_:Int}{s1 s2 s3 s4 s5 s6 s7 s8 s9 s10 s11:AC}{b0:Nat×Nat}:VS Tryz.prog κ 300 (tM s w_) [.p 0 0,I w_] [b0] ([.box 0 (gS s s1 s2 s3 s4 s5 s6 s7 s8 s9 s10 s11)]++(oS s s1 s2 s3 s4 s5 s6 s7 s8 s9 s10 s11 [])) (fun(r:aC) (y:AC)=>.t []) (fun(r:aC) (y:AC)=>([.box 0 (gS r s1 s2 s3 s4 s5 s6 s7 s8 s9 s10 y)]++(oS r s1 s2 s3 s4 s5 s6 s7 s8 s9 s10 y []))):=
 bR tok Tryz.call300 Tryz.func300 Tryz.results300 Q Q<|i7 bT 9 Q Q Q fun x1 h1 _ h2=>fun hF=>eB 1 h2 h1 Q Q Q Q Q<|LZ bT 12 [] h1 () Q Q Q Q Q Q Q Q Q<|wi hF<|d9 aB [0,14] Q<|fun hF=>ro bT 15 14 1 Q Q Q Q hF fun x2 h3 hF _=>wi hF<|i7 oI 8 Q Q Q fun x3 h5 _ h6=>fun hF=>eB 2 h6 h5 Q Q Q Q Q<|LZ oI 19 [] h5 () Q Q Q Q Q Q Q Q Q<|ceS bT 16 [] [8] ({x2 with H:=x3}:bW) () Q Q Q Q Q Q Q Q Q Q<|rh s9 List.length_set.symm [] [(0,9)] Q Q Q<|wi hF<|fI 0 0 0 13 [1,2,3,4,5,6,7,22,23,10,11] Q Q Q Q Q (fun _=>iL (s:=({s with aW:=s.aW.set w_.toNat ({x2 with H:=x3}:bW)}:aC))) fun x4 s12=>L4 s12 [0,24,25,26,27,28,29,30,31,32,33,34] Q Q
theorem aEQ{b:aD}{h at_ width:Int}{s1 s2 s3 s4 s5 s6 s7:AC}(h1:aT κ s1 b.Mem.aG.Bytes)(h2:aT κ s2 b.Mem.aG.Class)(h3:aT κ s3 b.Mem.aA.Global)(h4:aT κ s4 b.Mem.aA.bQ)(h5:aT κ s5 b.aJ.bD)(h6:aT κ s6 b.aX)(h7:aT κ s7 b.jQ):V0 Tryz.prog κ 394 (G0 b h at_ width) [.g (gB b s1 s2 s3 s4 s5 s6 s7),I h,I at_,I width] (fun r=>.t [I r.1,.b r.2]):=
 bR tok Tryz.call394 Tryz.func394 Tryz.results394 Q Q<|dA 0 2 (rD b h at_ width) [1,2,3,10] 29 [1] Q (c0 Q (fun _=>mZ) fun x4=>dZ [17,18] Q Q (b8 [1] Q Q)<|c0 Q (fun h=>tW (h.a h1) (h.a h2)) fun x5=>dZ [23,24,25] Q Q (b8 [1] Q Q)<|c0 Q (fun _=>I0) fun x6=>b8 [1] Q Q) fun x1=>aV [29] Q Q (aZ Q Q)<|c0 Q (fun h=>BZ (h.a h1) (h.a h2)) fun x2=>aV [37] Q Q (aZ Q Q)<|c0 Q (fun h=>BX (h.a h1)) fun x3=>aZ Q Q
theorem B3{s:aC}{w_:Int}{s1 s2 s3 s4 s5 s6 s7 s8 s9 s10 s11:AC}{b0:Nat×Nat}:VS Tryz.prog κ 301 (kJ s w_) [.p 0 0,I w_] [b0] ([.box 0 (gS s s1 s2 s3 s4 s5 s6 s7 s8 s9 s10 s11)]++(oS s s1 s2 s3 s4 s5 s6 s7 s8 s9 s10 s11 [])) (fun(r:aC) (y:Unit)=>.t []) (fun(r:aC) (y:Unit)=>([.box 0 (gS r s1 s2 s3 s4 s5 s6 s7 s8 s9 s10 s11)]++(oS r s1 s2 s3 s4 s5 s6 s7 s8 s9 s10 s11 []))):=
 bR tok Tryz.call301 Tryz.func301 Tryz.results301 Q Q<|d9 aB [0] Q<|i7 bT 9 Q Q Q fun x1 h1 _ h2=>fun hF=>eB 1 h2 h1 Q Q Q Q Q<|wi hF<|c0 Q (fun h=>aEQ (h.o 1 Q) (h.o 2 Q) (h.o 3 Q) (h.o 4 Q) (h.o 5 Q) (h.o 6 Q) (h.o 7 Q)) fun x2=>fun hF=>eB 1 h2 h1 Q Q Q Q Q<|sF Q<|iN bT 12 [] [8,17] ({x1 with dN:=x2.1}:bW) () Q Q Q Q Q Q Q Q<|mG s9 List.length_set.symm [] [(0,9)] Q Q Q<|fR Q Q<|jS (hT:=tok) () [0,1,2,3,4,5,6,7,8,15,10,11] hF Q Tryz.results301 Q Q Q Q
theorem RR{p:fO}:V0 Tryz.prog κ 138 (qG p) [.g [.b p.On,I p.aM,.b p.eI,I p.Seen]] .b:=
 bR tok Tryz.call138 Tryz.func138 Tryz.results138 Q Q<|dA 0 1 i5 [] 2 [] Q (dZ [4,5] Q Q (b8 [] Q Q)<|b8 [] Q Q) fun x1=>aZ Q Q
theorem CL{s:aC}{w_ pc:Int}{s1 s2 s3 s4 s5 s6 s7 s8 s9 s10 s11:AC}{b0:Nat×Nat}:VS Tryz.prog κ 302 (kQ s w_ pc) [.p 0 0,I w_,I pc] [b0] ([.box 0 (gS s s1 s2 s3 s4 s5 s6 s7 s8 s9 s10 s11)]++(oS s s1 s2 s3 s4 s5 s6 s7 s8 s9 s10 s11 [])) (fun(r:aC) (y:Unit)=>.t []) (fun(r:aC) (y:Unit)=>([.box 0 (gS r s1 s2 s3 s4 s5 s6 s7 s8 s9 s10 s11)]++(oS r s1 s2 s3 s4 s5 s6 s7 s8 s9 s10 s11 []))):=
 bR tok Tryz.call302 Tryz.func302 Tryz.results302 Q Q<|i7 bT 9 Q Q Q fun x1 h1 _ h2=>fun hF=>eB 1 h2 h1 Q Q Q Q Q<|wi hF<|fI 13 1 0 21 [] Q Q Q Q Q (fun _=>eK) fun x2 _=>i7 nO 5 Q Q Q fun x3 h3 _ h4=>fun hF=>eB 2 h4 h3 Q Q Q Q Q<|wi hF<|c0 Q (fun _=>RR) fun x4=>aV [26] Q Q (fun hF=>sF Q<|kS nO 15 [] h3 () Q Q Q Q Q Q Q<|iN bT 12 [] [10] ({x2 with dN:=0,Code:=6}:bW) () Q Q Q Q Q Q Q Q<|mG s9 List.length_set.symm [] [(0,9)] Q Q Q<|fR Q Q<|jS (hT:=tok) () [0,1,2,3,4,18,6,7,8,19,10,11] hF Q Tryz.results302 Q Q Q Q)<|fun hF=>sF Q<|kS nO 15 [] h3 () Q Q Q Q Q Q Q<|iN bT 12 [] [10] x2 () Q Q Q Q Q Q Q Q<|mG s9 List.length_set.symm [] [(0,9)] Q Q Q<|fR Q Q<|jS (hT:=tok) () [0,1,2,3,4,18,6,7,8,19,10,11] hF Q Tryz.results302 Q Q Q Q
theorem aJW{c:aJ}{w_:Int}{s1:AC}(h1:aT κ s1 c.bD):VS Tryz.prog κ 395 (OE c w_) [.g [I c.aM,.h s1 c.bD.length],I w_] [] [] (fun r (y:AC)=>.t [.g [I r.1.aM,.h y r.1.bD.length],.b r.2]) (fun r y=>[ow y r.1.bD]):=
 bR tok Tryz.call395 Tryz.func395 Tryz.results395 Q Q<|c1 Q (fun h=>pJ (h.a h1)) fun x1 s2=>dA 0 3 (wW w_ x1) [1,4,6] 25 [1,2,3] Q (c0 Q (fun h=>tU (h.a h1)) fun x4=>dZ [11,12] Q Q (b8 [1,2,3] Q Q)<|c0 Q (fun _=>f7) fun x5=>dZ [15,16,17] Q Q (b8 [1,2,3] Q Q)<|jT SW Q h1 Q fun x6 _ _=>b8 [1,2,3] Q Q) fun x2=>aV [25] Q Q (d8 s2 [1] Q Q)<|i7 nO 1 Q Q Q fun x3 h2 _ h3=>fun hF=>eB 3 h3 h2 Q Q Q Q Q<|sR Q<|iN nO 3 [] [28] (⟨false,0,false,0⟩:fO) () Q Q Q Q Q Q Q Q<|mG s2 List.length_set.symm [(32,1)] [(0,1),(2,1)] Q Q Q<|fR Q Q<|jS (hT:=tok) s2 [6] hF Q Tryz.results395 Q Q Q Q
theorem KW{b:aD}{w_:Int}{s1 s2 s3 s4 s5 s6 s7:AC}{b0:Nat×Nat}:VS Tryz.prog κ 303 (rE b w_) [.p 0 0,I w_] [b0] ([.box 0 (gB b s1 s2 s3 s4 s5 s6 s7)]++(oB b s1 s2 s3 s4 s5 s6 s7 [])) (fun(r:Bool×aD) (y:AC)=>.b r.1) (fun(r:Bool×aD) (y:AC)=>([.box 0 (gB r.2 s1 s2 s3 s4 y s6 s7)]++(oB r.2 s1 s2 s3 s4 y s6 s7 []))):=
 bR tok Tryz.call303 Tryz.func303 Tryz.results303 Q Q<|c1 Q (fun h=>aJW (h.o 5 Q)) fun x1 s8=>d8 s8 [0,1,2,3,4,8,6,7] Q Q
theorem X5{s:aC}{w_:Int}{s1 s2 s3 s4 s5 s6 s7 s8 s9 s10 s11:AC}{b0:Nat×Nat}:VS Tryz.prog κ 190 (BJ s w_) [.p 0 0,I w_] [b0] ([.box 0 (gS s s1 s2 s3 s4 s5 s6 s7 s8 s9 s10 s11)]++(oS s s1 s2 s3 s4 s5 s6 s7 s8 s9 s10 s11 [])) (fun(r:aC) (y:A7C)=>.t []) (fun(r:aC) (y:A7C)=>([.box 0 (gS r y.1 y.2.1 y.2.2.1 y.2.2.2.1 y.2.2.2.2.1 y.2.2.2.2.2.1 s7 s8 s9 s10 y.2.2.2.2.2.2)]++(oS r y.1 y.2.1 y.2.2.1 y.2.2.2.1 y.2.2.2.2.1 y.2.2.2.2.2.1 s7 s8 s9 s10 y.2.2.2.2.2.2 []))):=
 bR tok Tryz.call190 Tryz.func190 Tryz.results190 Q Q<|i7 bT 9 Q Q Q fun x1 h1 _ h2=>fun hF=>eB 1 h2 h1 Q Q Q Q Q<|wi hF<|aV [17,18] Q Q (d9 aB [14] Q<|ZA 13 1 7 10 0 0 0 8 [1,2,3,4,5,6,7] Q Q Q Q Q (fun _=>m0) fun x2 s12=>aV [31] Q Q (fI 13 1 0 21 [] Q Q Q Q Q (fun _=>eK (j:=({x1 with Sub:=x2.1}:bW))) fun x3 _=>fun hF=>sF Q<|iN bT 12 [] [8] x3 () Q Q Q Q Q Q Q Q<|mG s9 List.length_set.symm [] [(0,9)] Q Q Q<|fR Q Q<|jS (hT:=tok) (s12.1,s12.2.1,s12.2.2.1,s12.2.2.2.1,s12.2.2.2.2.1,s12.2.2.2.2.2,s11) [0,15,16,17,18,19,20,21,8,22,10,11] hF Q Tryz.results190 Q Q Q Q)<|fun hF=>sF Q<|iN bT 12 [] [8] ({x1 with Sub:=x2.1}:bW) () Q Q Q Q Q Q Q Q<|mG s9 List.length_set.symm [] [(0,9)] Q Q Q<|fR Q Q<|jS (hT:=tok) (s12.1,s12.2.1,s12.2.2.1,s12.2.2.2.1,s12.2.2.2.2.1,s12.2.2.2.2.2,s11) [0,15,16,17,18,19,20,21,8,22,10,11] hF Q Tryz.results190 Q Q Q Q)<|aV [34,35] Q Q (fun hF=>LZ bT 12 [] h1 () Q Q Q Q Q Q Q Q Q<|wi hF<|fI 0 0 0 13 [1,2,3,4,5,6,7,8,15,10,11] Q Q Q Q Q (fun _=>ND) fun x4 s13=>fun hF=>ro bT 24 14 1 Q Q Q Q hF fun x5 h3 hF _=>wi hF<|fI 28 1 0 21 [] Q Q Q Q Q (fun _=>eK) fun x6 _=>aV [45] Q Q (fun hF=>sF Q<|iN bT 27 [] [] ({x6 with Pc:=4,Code:=8}:bW) () Q Q Q Q Q Q Q Q<|mG s9 List.length_set.symm [] [(0,9)] Q Q Q<|fR Q Q<|jS (hT:=tok) (s1,s2,s3,s4,s5,s6,s13) [0,16,17,18,19,20,21,22,23,30,25,26] hF Q Tryz.results190 Q Q Q Q)<|fun hF=>sF Q<|iN bT 27 [] [] x6 () Q Q Q Q Q Q Q Q<|mG s9 List.length_set.symm [] [(0,9)] Q Q Q<|fR Q Q<|jS (hT:=tok) (s1,s2,s3,s4,s5,s6,s13) [0,16,17,18,19,20,21,22,23,30,25,26] hF Q Tryz.results190 Q Q Q Q)<|aV [52,53] Q Q (fun hF=>LZ bT 12 [] h1 () Q Q Q Q Q Q Q Q Q<|wi hF<|fI 0 0 0 13 [1,2,3,4,5,6,7,8,15,10,11] Q Q Q Q Q (fun _=>B3) fun x7 _=>fun hF=>ro bT 24 14 1 Q Q Q Q hF fun x8 h5 hF _=>wi hF<|fI 28 1 0 21 [] Q Q Q Q Q (fun _=>eK) fun x9 _=>fun hF=>sF Q<|iN bT 27 [] [] x9 () Q Q Q Q Q Q Q Q<|mG s9 List.length_set.symm [] [(0,9)] Q Q Q<|fR Q Q<|jS (hT:=tok) (s1,s2,s3,s4,s5,s6,s11) [0,16,17,18,19,20,21,22,23,30,25,26] hF Q Tryz.results190 Q Q Q Q)<|aV [59,60] Q Q (fun hF=>LZ bT 12 [] h1 () Q Q Q Q Q Q Q Q Q<|wi hF<|fI 0 0 0 13 [1,2,3,4,5,6,7,8,15,10,11] Q Q Q Q Q (fun _=>CL) fun x10 _=>L4 (s1,s2,s3,s4,s5,s6,s11) [0,16,17,18,19,20,21,22,23,24,25,26] Q Q)<|aV [64,65] Q Q (fI 0 0 0 8 [1,2,3,4,5,6,7] Q Q Q Q Q (fun _=>KW) fun x11 s14=>fI 13 1 0 21 [] Q Q Q Q Q (fun _=>cA) fun x12 _=>fun hF=>sF Q<|iN bT 12 [] [8] x12 () Q Q Q Q Q Q Q Q<|mG s9 List.length_set.symm [] [(0,9)] Q Q Q<|fR Q Q<|jS (hT:=tok) (s1,s2,s3,s4,s14,s6,s11) [0,15,16,17,18,19,20,21,8,22,10,11] hF Q Tryz.results190 Q Q Q Q)<|fI 13 1 0 21 [] Q Q Q Q Q (fun _=>cA) fun x13 _=>fun hF=>sF Q<|iN bT 12 [] [8] x13 () Q Q Q Q Q Q Q Q<|mG s9 List.length_set.symm [] [(0,9)] Q Q Q<|fR Q Q<|jS (hT:=tok) (s1,s2,s3,s4,s5,s6,s11) [0,1,2,3,4,5,6,7,8,15,10,11] hF Q Tryz.results190 Q Q Q Q
theorem RS{z:List Int}{w_ h:Int}{s1:AC}(h1:aT κ s1 z):VS Tryz.prog κ 304 (G3 z w_ h) [.h s1 z.length,I w_,I h] [] [] (fun r (y:AC)=>.t [.h y r.1.length,.b r.2]) (fun r y=>[ow y r.1]):=
 bR tok Tryz.call304 Tryz.func304 Tryz.results304 Q Q<|c1 Q (fun h=>eJ (h.a h1)) fun x1 s2=>dA 0 0 (rF w_ h x1) [1,2,8] 23 [0] Q (c0 Q (fun h=>OT (h.a h1)) fun x4=>dZ [13,14] Q Q (b8 [0] Q Q)<|c0 Q (fun _=>f7) fun x5=>dZ [17,18,19] Q Q (b8 [0] Q Q)<|c0 Q (fun _=>mZ) fun x6=>b8 [0] Q Q) fun x2=>aV [23] Q Q (d8 s2 [0] Q Q)<|i7 oI 0 Q Q Q fun x3 h2 _ h3=>fun hF=>eB 0 h3 h2 Q Q Q Q Q<|sR Q<|iN oI 1 [] [6,8,25,29] h () Q Q Q Q Q Q Q Q<|jS (hT:=tok) s2 [4] hF Q Tryz.results304 Q Q Q Q
theorem aJX{z:List Int}{w_:Int}{s1:AC}(h1:aT κ s1 z):VS Tryz.prog κ 305 (OF z w_) [.h s1 z.length,I w_] [] [] (fun r (y:AC)=>.t [.h y r.1.length,.b r.2]) (fun r y=>[ow y r.1]):=
 bR tok Tryz.call305 Tryz.func305 Tryz.results305 Q Q<|c1 Q (fun h=>eJ (h.a h1)) fun x1 s2=>dA 0 0 (wX w_ x1) [1,6] 23 [0] Q (c0 Q (fun h=>OT (h.a h1)) fun x4=>dZ [11,12] Q Q (b8 [0] Q Q)<|c0 Q (fun _=>f7) fun x5=>dZ [15,16,17] Q Q (b8 [0] Q Q)<|SJ Q h1 Q fun x6=>b8 [0] Q Q) fun x2=>aV [23] Q Q (d8 s2 [0] Q Q)<|i7 oI 0 Q Q Q fun x3 h2 _ h3=>fun hF=>eB 0 h3 h2 Q Q Q Q Q<|sR Q<|iN oI 1 [] [4,6,25,28] 0 () Q Q Q Q Q Q Q Q<|jS (hT:=tok) s2 [4] hF Q Tryz.results305 Q Q Q Q
theorem X6{s:aC}{w_:Int}{s1 s2 s3 s4 s5 s6 s7 s8 s9 s10 s11:AC}{b0:Nat×Nat}:VS Tryz.prog κ 191 (BM s w_) [.p 0 0,I w_] [b0] ([.box 0 (gS s s1 s2 s3 s4 s5 s6 s7 s8 s9 s10 s11)]++(oS s s1 s2 s3 s4 s5 s6 s7 s8 s9 s10 s11 [])) (fun(r:aC) (y:AC×AC)=>.t []) (fun(r:aC) (y:AC×AC)=>([.box 0 (gS r s1 s2 s3 s4 s5 s6 y.1 s8 s9 s10 y.2)]++(oS r s1 s2 s3 s4 s5 s6 y.1 s8 s9 s10 y.2 []))):=
 bR tok Tryz.call191 Tryz.func191 Tryz.results191 Q Q<|i7 bT 9 Q Q Q fun x1 h1 _ h2=>fun hF=>eB 1 h2 h1 Q Q Q Q Q<|wi hF<|aV [17,18] Q Q (fun hF=>LZ bT 12 [] h1 () Q Q Q Q Q Q Q Q Q<|wi hF<|d9 aB [0,14] Q<|fun hF=>ro bT 15 14 1 Q Q Q Q hF fun x2 h3 hF _=>wi hF<|i7 oI 8 Q Q Q fun x3 h5 _ h6=>fun hF=>eB 2 h6 h5 Q Q Q Q Q<|wi hF<|fI 17 1 0 21 [] Q Q Q Q Q (fun _=>eK (j:=({x2 with H:=x3}:bW))) fun x4 _=>aV [39] Q Q (fun hF=>LZ oI 19 [] h5 () Q Q Q Q Q Q Q Q Q<|ceS bT 16 [] [8] x4 () Q Q Q Q Q Q Q Q Q Q<|rh s9 List.length_set.symm [] [(0,9)] Q Q Q<|wi hF<|fI 0 0 0 13 [1,2,3,4,5,6,7,22,23,10,11] Q Q Q Q Q (fun _=>iL (s:=({s with aW:=s.aW.set w_.toNat x4}:aC))) fun x5 s12=>fun hF=>ro bT 32 14 1 Q Q Q Q hF fun x6 h7 hF _=>sF Q<|iN bT 35 [] [] ({x6 with Pc:=4,Code:=8}:bW) () Q Q Q Q Q Q Q Q<|mG s9 List.length_set.symm [] [(0,9)] Q Q Q<|fR Q Q<|jS (hT:=tok) (s7,s12) [0,24,25,26,27,28,29,30,31,38,33,34] hF Q Tryz.results191 Q Q Q Q)<|fun hF=>sF Q<|kS oI 19 [] h5 () Q Q Q Q Q Q Q<|iN bT 16 [] [8] x4 () Q Q Q Q Q Q Q Q<|mG s9 List.length_set.symm [] [(0,9)] Q Q Q<|fR Q Q<|jS (hT:=tok) (s7,s11) [0,1,2,3,4,5,6,7,22,23,10,11] hF Q Tryz.results191 Q Q Q Q)<|aV [49,50] Q Q (i4 0 2 (BK s w_) [0,4] (fun(x7:(List Int)) (s13:AC)=>[]) [1,2,3,4,5,6,8,10,11,14] (fun x7 s13=>[ow s13 (x7:List Int),ow s9 (s.aW:List bW),.box 0 [.h s1 s.aD.Mem.aG.Bytes.length,.h s2 s.aD.Mem.aG.Class.length,.h s3 s.aD.Mem.aA.Global.length,.h s4 s.aD.Mem.aA.bQ.length,I s.aD.aJ.aM,.h s5 s.aD.aJ.bD.length,.h s6 s.aD.aX.length,.h s13 x7.length,.h s8 s.Cells.length,.h s9 s.aW.length,.h s10 s.cG.length,.h s11 s.Log.length,I s.aR]]) Q (d9 aB [14] Q<|fun hF=>bd hF fun x10 hA1 hF=>jC Q Q (have hq1:=rb hA1;wi hq1<|c1 Q (fun h=>RS (h.o 7 Q)) fun u1 s15=>fun hq1=>match u1,hq1 with | _,rfl=>sF Q<|kS bT 12 [] h1 () Q Q Q Q Q Q Q<|mK (p:=(x10.1)) s15 [15,16,0,1,2,3,4,5,6,8,10,11,14] hF Q) (have hq2:=rb hA1;wi hq2<|c1 Q (fun h=>RS (h.o 7 Q)) fun u2 s16=>fun hq2=>match u2,hq2 with | _,rfl=>sF Q<|kS bT 12 [] h1 () Q Q Q Q Q Q Q<|mK (p:=(x10.1)) s16 [15,16,0,1,2,3,4,5,6,8,10,11,14] hF Q)) fun x7 s13=>fun hF=>ro bT 1 12 1 Q Q Q Q hF fun x8 h9 hF _=>wi hF<|fI 14 1 0 21 [] Q Q Q Q Q (fun _=>eK) fun x9 _=>fun hF=>sF Q<|iN bT 13 [] [] x9 () Q Q Q Q Q Q Q Q<|mG s9 List.length_set.symm [] [(2,9)] Q Q Q<|fR Q Q<|jS (hT:=tok) (s13,s11) [2,3,4,5,6,7,8,0,9,16,10,11] hF Q Tryz.results191 Q Q Q Q)<|aV [71,72] Q Q (i4 0 2 (BL s w_) [0,1,4] (fun(x11:Bool) (_:Unit)=>[(88,.b x11)]) [1,2,3,4,5,6,7,8,10,11,0,14] (fun x11 _=>[ow s9 (s.aW:List bW)]) Q (fun hF=>LZ bT 12 [] h1 () Q Q Q Q Q Q Q Q Q<|wi hF<|d9 aB [0,14] Q<|fun hF=>bd hF fun x18 hA2 hF=>bd hF fun x19 hA3 hF=>jC Q Q (have hq3:=rb hA2;ro bT 15 14 1 Q Q Q Q hq3 fun u3 h21 hq3 _=>match u3,hq3 with | _,rfl=>have hq4:=rb hA3;wi hq4<|i7 oI 8 Q Q Q fun u4 h23 _ h24=>fun hq4=>eB 2 h24 h23 Q Q Q Q Q<|match u4,hq4 with | _,rfl=>jC Q Q (sF Q<|kS oI 19 [] h23 () Q Q Q Q Q Q Q<|kS bT 16 [] h21 () Q Q Q Q Q Q Q<|mK (p:=(x19 != x18.H)) () [23,1,2,3,4,5,6,7,22,10,11,0,14] hF Q) (sF Q<|kS oI 19 [] h23 () Q Q Q Q Q Q Q<|kS bT 16 [] h21 () Q Q Q Q Q Q Q<|mK (p:=(x19 != x18.H)) () [23,1,2,3,4,5,6,7,22,10,11,0,14] hF Q)) (have hq5:=rb hA2;ro bT 15 14 1 Q Q Q Q hq5 fun u5 h25 hq5 _=>match u5,hq5 with | _,rfl=>have hq6:=rb hA3;wi hq6<|i7 oI 8 Q Q Q fun u6 h27 _ h28=>fun hq6=>eB 2 h28 h27 Q Q Q Q Q<|match u6,hq6 with | _,rfl=>sF Q<|kS oI 19 [] h27 () Q Q Q Q Q Q Q<|kS bT 16 [] h25 () Q Q Q Q Q Q Q<|mK (p:=(x19 != x18.H)) () [23,1,2,3,4,5,6,7,22,10,11,0,14] hF Q)) fun x11 _=>aV [88] Q Q (fun hF=>ro bT 0 12 1 Q Q Q Q hF fun x12 h11 hF _=>wi hF<|fI 14 1 0 21 [] Q Q Q Q Q (fun _=>eK) fun x13 _=>fun hF=>sR Q<|iN bT 13 [] [] x13 () Q Q Q Q Q Q Q Q<|mG s9 List.length_set.symm [] [(11,9)] Q Q Q<|fR Q Q<|jS (hT:=tok) (s7,s11) [11,1,2,3,4,5,6,7,8,16,9,10] hF Q Tryz.results191 Q Q Q Q)<|fun hF=>ro bT 0 12 1 Q Q Q Q hF fun x14 h13 hF _=>LZ bT 13 [] h13 () Q Q Q Q Q Q Q Q Q<|wi hF<|fI 11 0 0 13 [1,2,3,4,5,6,7,8,16,9,10] Q Q Q Q Q (fun _=>iL) fun x15 s17=>fun hF=>ro bT 25 12 1 Q Q Q Q hF fun x16 h15 hF _=>wi hF<|fI 29 1 0 21 [] Q Q Q Q Q (fun _=>eK) fun x17 _=>fun hF=>sF Q<|iN bT 28 [] [] x17 () Q Q Q Q Q Q Q Q<|mG s9 List.length_set.symm [] [(11,9)] Q Q Q<|fR Q Q<|jS (hT:=tok) (s7,s17) [11,17,18,19,20,21,22,23,24,31,26,27] hF Q Tryz.results191 Q Q Q Q)<|aV [100,101] Q Q (fun hF=>LZ bT 12 [] h1 () Q Q Q Q Q Q Q Q Q<|wi hF<|fI 0 0 0 13 [1,2,3,4,5,6,7,8,15,10,11] Q Q Q Q Q (fun _=>B3) fun x20 _=>fun hF=>ro bT 24 14 1 Q Q Q Q hF fun x21 h29 hF _=>wi hF<|fI 28 1 0 21 [] Q Q Q Q Q (fun _=>eK) fun x22 _=>fun hF=>sF Q<|iN bT 27 [] [] x22 () Q Q Q Q Q Q Q Q<|mG s9 List.length_set.symm [] [(0,9)] Q Q Q<|fR Q Q<|jS (hT:=tok) (s7,s11) [0,16,17,18,19,20,21,22,23,30,25,26] hF Q Tryz.results191 Q Q Q Q)<|aV [107,108] Q Q (c1 Q (fun h=>aJX (h.o 7 Q)) fun x23 s18=>fI 13 1 0 21 [] Q Q Q Q Q (fun _=>cA) fun x24 _=>fun hF=>sF Q<|iN bT 12 [] [8] x24 () Q Q Q Q Q Q Q Q<|mG s9 List.length_set.symm [] [(0,9)] Q Q Q<|fR Q Q<|jS (hT:=tok) (s18,s11) [0,1,2,3,4,5,6,15,8,16,10,11] hF Q Tryz.results191 Q Q Q Q)<|fI 13 1 0 21 [] Q Q Q Q Q (fun _=>cA) fun x25 _=>fun hF=>sF Q<|iN bT 12 [] [8] x25 () Q Q Q Q Q Q Q Q<|mG s9 List.length_set.symm [] [(0,9)] Q Q Q<|fR Q Q<|jS (hT:=tok) (s7,s11) [0,1,2,3,4,5,6,7,8,15,10,11] hF Q Tryz.results191 Q Q Q Q
theorem WA{s:aC}{w_:Int}{s1 s2 s3 s4 s5 s6 s7 s8 s9 s10 s11:AC}{b0:Nat×Nat}:VS Tryz.prog κ 192 (yK s w_) [.p 0 0,I w_] [b0] ([.box 0 (gS s s1 s2 s3 s4 s5 s6 s7 s8 s9 s10 s11)]++(oS s s1 s2 s3 s4 s5 s6 s7 s8 s9 s10 s11 [])) (fun(r:aC) (y:AC)=>.t []) (fun(r:aC) (y:AC)=>([.box 0 (gS r s1 s2 s3 s4 s5 s6 s7 s8 s9 s10 y)]++(oS r s1 s2 s3 s4 s5 s6 s7 s8 s9 s10 y []))):=
 bR tok Tryz.call192 Tryz.func192 Tryz.results192 Q Q<|i4 0 4 (zH s w_) [0,1] (fun(x1:fO) (_:Unit)=>[(4,.p 1 0),(5,.p 3 0)]) [1,2,3,4,5,6,7,8,9,10,11,0] (fun x1 _=>[wOf bW 1 s9 s.aW.length w_.toNat,.box 3 [.b x1.On,I x1.aM,.b x1.eI,I x1.Seen]]) Q (d9 aB [0] Q<|i7 bT 9 Q Q Q fun x20 h15 _ h16=>fun hF=>eB 1 h16 h15 Q Q Q Q Q<|wi hF<|i7 nO 5 Q Q Q fun x21 h17 _ h18=>fun hF=>eB 2 h18 h17 Q Q Q Q Q<|jC Q Q (sF Q<|kS nO 15 [] h17 () Q Q Q Q Q Q Q<|kS bT 12 [] h15 () Q Q Q Q Q Q Q<|mK (p:=(x21)) () [14,18,1,2,3,4,19,6,7,8,20,10,11,0] hF Q) (sF Q<|kS nO 15 [] h17 () Q Q Q Q Q Q Q<|kS bT 12 [] h15 () Q Q Q Q Q Q Q<|mK (p:=(x21)) () [14,18,1,2,3,4,19,6,7,8,20,10,11,0] hF Q)) fun x1 _=>dA 0 4 (qI s w_ x1) [0,1,4,5] 23 [2,3,4,5,6,7,8,9,10,11,12,13,0,1] Q (fun hF=>ro bT 10 0 1 Q Q Q Q hF fun x19 h13 hF _=>wi hF<|dZ [28,29] Q Q (fun hF=>sF Q<|kS bT 14 [] h13 () Q Q Q Q Q Q Q<|mK () [2,3,4,5,6,7,8,9,17,11,12,13,0,1] hF Q)<|fun hF=>sF Q<|kS bT 14 [] h13 () Q Q Q Q Q Q Q<|mK () [2,3,4,5,6,7,8,9,17,11,12,13,0,1] hF Q) fun x2=>aV [23] Q Q (fun hF=>ro bT 8 12 1 Q Q Q Q hF fun x3 h1 hF _=>wi hF<|fI 15 1 0 21 [] Q Q Q Q Q (fun _=>cA) fun x4 _=>fun hF=>sF Q<|iN bT 14 [] [] x4 () Q Q Q Q Q Q Q Q<|mG s9 List.length_set.symm [] [(11,9)] Q Q Q<|fR Q Q<|jS (hT:=tok) s11 [11,0,1,2,3,4,5,6,7,17,9,10] hF Q Tryz.results192 Q Q Q Q)<|dA 0 4 (qH s w_) [0,1,4] 36 [0,1,2,3,4,5,6,7,8,9,10,11,12] Q (fun hF=>ro bT 8 12 1 Q Q Q Q hF fun x18 h11 hF _=>wi hF<|dZ [41,42] Q Q (fun hF=>sF Q<|kS bT 14 [] h11 () Q Q Q Q Q Q Q<|mK () [0,1,2,3,4,5,6,7,17,9,10,11,12] hF Q)<|fun hF=>sF Q<|kS bT 14 [] h11 () Q Q Q Q Q Q Q<|mK () [0,1,2,3,4,5,6,7,17,9,10,11,12] hF Q) fun x5=>aV [36] Q Q (fun hF=>ro bT 8 12 1 Q Q Q Q hF fun x6 h3 hF _=>wi hF<|fI 14 1 0 21 [] Q Q Q Q Q (fun _=>cA) fun x7 _=>fun hF=>sF Q<|iN bT 13 [] [] x7 () Q Q Q Q Q Q Q Q<|mG s9 List.length_set.symm [] [(11,9)] Q Q Q<|fR Q Q<|jS (hT:=tok) s11 [11,0,1,2,3,4,5,6,7,16,9,10] hF Q Tryz.results192 Q Q Q Q)<|fun hF=>ro bT 8 12 1 Q Q Q Q hF fun x8 h5 hF _=>wi hF<|aV [48,53] Q Q (fun hF=>LZ bT 13 [] h5 () Q Q Q Q Q Q Q Q Q<|wi hF<|fI 11 0 0 13 [0,1,2,3,4,5,6,7,16,9,10] Q Q Q Q Q (fun _=>ND) fun x9 s12=>fun hF=>ro bT 25 12 1 Q Q Q Q hF fun x10 h7 hF _=>wi hF<|fI 29 1 0 21 [] Q Q Q Q Q (fun _=>eK) fun x11 _=>aV [63] Q Q (fI 29 1 0 21 [] Q Q Q Q Q (fun _=>cA) fun x12 _=>fun hF=>sF Q<|iN bT 28 [] [] x12 () Q Q Q Q Q Q Q Q<|mG s9 List.length_set.symm [] [(11,9)] Q Q Q<|fR Q Q<|jS (hT:=tok) s12 [11,17,18,19,20,21,22,23,24,31,26,27] hF Q Tryz.results192 Q Q Q Q)<|fun hF=>sF Q<|iN bT 28 [] [] x11 () Q Q Q Q Q Q Q Q<|mG s9 List.length_set.symm [] [(11,9)] Q Q Q<|fR Q Q<|jS (hT:=tok) s12 [11,17,18,19,20,21,22,23,24,31,26,27] hF Q Tryz.results192 Q Q Q Q)<|aV [66,71] Q Q (fun hF=>LZ bT 13 [] h5 () Q Q Q Q Q Q Q Q Q<|wi hF<|fI 11 0 0 13 [0,1,2,3,4,5,6,7,16,9,10] Q Q Q Q Q (fun _=>B3) fun x13 _=>fun hF=>ro bT 25 12 1 Q Q Q Q hF fun x14 h9 hF _=>wi hF<|fI 29 1 0 21 [] Q Q Q Q Q (fun _=>eK) fun x15 _=>fun hF=>sF Q<|iN bT 28 [] [] x15 () Q Q Q Q Q Q Q Q<|mG s9 List.length_set.symm [] [(11,9)] Q Q Q<|fR Q Q<|jS (hT:=tok) s11 [11,17,18,19,20,21,22,23,24,31,26,27] hF Q Tryz.results192 Q Q Q Q)<|aV [77,82] Q Q (fun hF=>LZ bT 13 [] h5 () Q Q Q Q Q Q Q Q Q<|wi hF<|fI 11 0 0 13 [0,1,2,3,4,5,6,7,16,9,10] Q Q Q Q Q (fun _=>CL) fun x16 _=>L4 s11 [11,17,18,19,20,21,22,23,24,25,26,27] Q Q)<|fI 14 1 0 21 [] Q Q Q Q Q (fun _=>cA) fun x17 _=>fun hF=>sF Q<|iN bT 13 [] [] x17 () Q Q Q Q Q Q Q Q<|mG s9 List.length_set.symm [] [(11,9)] Q Q Q<|fR Q Q<|jS (hT:=tok) s11 [11,0,1,2,3,4,5,6,7,16,9,10] hF Q Tryz.results192 Q Q Q Q
theorem UX{s:aC}{w_:Int}{s1 s2 s3 s4 s5 s6 s7 s8 s9 s10 s11:AC}{b0:Nat×Nat}:VS Tryz.prog κ 193 (vH s w_) [.p 0 0,I w_] [b0] ([.box 0 (gS s s1 s2 s3 s4 s5 s6 s7 s8 s9 s10 s11)]++(oS s s1 s2 s3 s4 s5 s6 s7 s8 s9 s10 s11 [])) (fun(r:aC) (y:A6C)=>.t []) (fun(r:aC) (y:A6C)=>([.box 0 (gS r y.1 y.2.1 y.2.2.1 y.2.2.2.1 y.2.2.2.2.1 y.2.2.2.2.2 s7 s8 s9 s10 s11)]++(oS r y.1 y.2.1 y.2.2.1 y.2.2.2.1 y.2.2.2.2.1 y.2.2.2.2.2 s7 s8 s9 s10 s11 []))):=
 bR tok Tryz.call193 Tryz.func193 Tryz.results193 Q Q<|i7 bT 9 Q Q Q fun x1 h1 _ h2=>fun hF=>eB 1 h2 h1 Q Q Q Q Q<|wi hF<|i4 0 2 (oE s w_) [0,1,4] (fun(x2:Bool) (_:Unit)=>[(14,.b x2)]) [1,2,3,4,5,6,7,8,10,11,0,14] (fun x2 _=>[ow s9 (s.aW:List bW)]) Q (dZ [20,21] Q Q (fun hF=>sF Q<|kS bT 12 [] h1 () Q Q Q Q Q Q Q<|mK () [15,1,2,3,4,5,6,7,8,10,11,0,14] hF Q)<|fun hF=>sF Q<|kS bT 12 [] h1 () Q Q Q Q Q Q Q<|mK () [15,1,2,3,4,5,6,7,8,10,11,0,14] hF Q) fun x2 _=>aV [14] Q Q (i4 1 2 (fun(p:Int×aC)=>n9 w_ p.1 p.2) [0,4] (fun(p:Int×aC) (s12:AC)=>[(5,I p.1)]) [12] (fun p s12=>(oS p.2 s1 s2 s3 s4 s12 s6 s7 s8 s9 s10 s11 [.box 0 (gS p.2 s1 s2 s3 s4 s12 s6 s7 s8 s9 s10 s11)])) Q (fI 11 0 0 8 [1,2,3,4,5,6,7] Q Q Q Q Q (fun _=>KW) fun x7 s13=>aV [33] Q Q (CJ (p:=(5,({s with aD:=x7.2}:aC))) s13 [13,14,15,16,17,18,19,8,0,9,10,11,12] Q Q)<|CJ (p:=(0,({s with aD:=x7.2}:aC))) s13 [13,14,15,16,17,18,19,8,0,9,10,11,12] Q Q) fun⟨x3,x4⟩ s12=>fun hF=>ro bT 8 12 1 Q Q Q Q hF fun x5 h3 hF _=>wi hF<|fI 14 1 0 21 [] Q Q Q Q Q (fun _=>cA) fun x6 _=>fun hF=>sF Q<|iN bT 13 [] [] x6 () Q Q Q Q Q Q Q Q<|mG s9 List.length_set.symm [] [(11,9)] Q Q Q<|fR Q Q<|jS (hT:=tok) (s1,s2,s3,s4,s12,s6) [11,0,1,2,3,4,5,6,7,16,9,10] hF Q Tryz.results193 Q Q Q Q)<|dA 0 2 (oD s w_) [0,1,4] 37 [1,2,3,4,5,6,7,8,0,9,10,11,12] Q (fun hF=>ro bT 0 12 1 Q Q Q Q hF fun x25 h17 hF _=>wi hF<|dZ [43,44] Q Q (fun hF=>sF Q<|kS bT 13 [] h17 () Q Q Q Q Q Q Q<|mK () [1,2,3,4,5,6,7,8,16,9,10,11,12] hF Q)<|fun hF=>sF Q<|kS bT 13 [] h17 () Q Q Q Q Q Q Q<|mK () [1,2,3,4,5,6,7,8,16,9,10,11,12] hF Q) fun x8=>aV [37] Q Q (d9 aB [12] Q<|fun hF=>ro bT 8 12 1 Q Q Q Q hF fun x9 h5 hF _=>wi hF<|ZA 14 1 7 10 11 0 0 8 [0,1,2,3,4,5,6] Q Q Q Q Q (fun _=>m0) fun x10 s14=>aV [63] Q Q (fI 14 1 0 21 [] Q Q Q Q Q (fun _=>cA (j:=({x9 with Sub:=x10.1}:bW))) fun x11 _=>fun hF=>sF Q<|iN bT 13 [] [] x11 () Q Q Q Q Q Q Q Q<|mG s9 List.length_set.symm [] [(11,9)] Q Q Q<|fR Q Q<|jS (hT:=tok) s14 [11,16,17,18,19,20,21,22,7,23,9,10] hF Q Tryz.results193 Q Q Q Q)<|fun hF=>sF Q<|iN bT 13 [] [] ({x9 with Sub:=x10.1}:bW) () Q Q Q Q Q Q Q Q<|mG s9 List.length_set.symm [] [(11,9)] Q Q Q<|fR Q Q<|jS (hT:=tok) s14 [11,16,17,18,19,20,21,22,7,23,9,10] hF Q Tryz.results193 Q Q Q Q)<|dA 0 2 (oC s w_) [0,1,4] 71 [0,1,2,3,4,5,6,7,8,9,10,11,12] Q (fun hF=>ro bT 8 12 1 Q Q Q Q hF fun x24 h15 hF _=>wi hF<|dZ [77,78] Q Q (fun hF=>sF Q<|kS bT 13 [] h15 () Q Q Q Q Q Q Q<|mK () [0,1,2,3,4,5,6,7,16,9,10,11,12] hF Q)<|fun hF=>sF Q<|kS bT 13 [] h15 () Q Q Q Q Q Q Q<|mK () [0,1,2,3,4,5,6,7,16,9,10,11,12] hF Q) fun x12=>aV [71] Q Q (d9 aB [12] Q<|fun hF=>ro bT 8 12 1 Q Q Q Q hF fun x13 h7 hF _=>wi hF<|ZA 14 1 7 10 11 0 0 8 [0,1,2,3,4,5,6] Q Q Q Q Q (fun _=>m0) fun x14 s15=>aV [97] Q Q (c0 Q (fun _=>xE) fun x15=>fI 14 1 0 21 [] Q Q Q Q Q (fun _=>eK (j:=({x13 with Sub:=x15}:bW))) fun x16 _=>fun hF=>sF Q<|iN bT 13 [] [] x16 () Q Q Q Q Q Q Q Q<|mG s9 List.length_set.symm [] [(11,9)] Q Q Q<|fR Q Q<|jS (hT:=tok) s15 [11,16,17,18,19,20,21,22,7,23,9,10] hF Q Tryz.results193 Q Q Q Q)<|fun hF=>sF Q<|iN bT 13 [] [] ({x13 with Sub:=x14.1}:bW) () Q Q Q Q Q Q Q Q<|mG s9 List.length_set.symm [] [(11,9)] Q Q Q<|fR Q Q<|jS (hT:=tok) s15 [11,16,17,18,19,20,21,22,7,23,9,10] hF Q Tryz.results193 Q Q Q Q)<|dA 0 2 (oA s w_) [0,1,4] 104 [0,1,2,3,4,5,6,7,8,9,10,11,12] Q (fun hF=>ro bT 8 12 1 Q Q Q Q hF fun x23 h13 hF _=>wi hF<|dZ [110,111] Q Q (fun hF=>sF Q<|kS bT 13 [] h13 () Q Q Q Q Q Q Q<|mK () [0,1,2,3,4,5,6,7,16,9,10,11,12] hF Q)<|fun hF=>sF Q<|kS bT 13 [] h13 () Q Q Q Q Q Q Q<|mK () [0,1,2,3,4,5,6,7,16,9,10,11,12] hF Q) fun x17=>aV [104] Q Q (d9 aB [12] Q<|fun hF=>ro bT 8 12 1 Q Q Q Q hF fun x18 h9 hF _=>wi hF<|ZA 14 1 7 10 11 0 0 8 [0,1,2,3,4,5,6] Q Q Q Q Q (fun _=>m0) fun x19 s16=>aV [130] Q Q (fI 14 1 0 21 [] Q Q Q Q Q (fun _=>cA (j:=({x18 with Sub:=x19.1,dN:=x19.1.Out}:bW))) fun x20 _=>fun hF=>sF Q<|iN bT 13 [] [] x20 () Q Q Q Q Q Q Q Q<|mG s9 List.length_set.symm [] [(11,9)] Q Q Q<|fR Q Q<|jS (hT:=tok) s16 [11,16,17,18,19,20,21,22,7,23,9,10] hF Q Tryz.results193 Q Q Q Q)<|fun hF=>sF Q<|iN bT 13 [] [] ({x18 with Sub:=x19.1}:bW) () Q Q Q Q Q Q Q Q<|mG s9 List.length_set.symm [] [(11,9)] Q Q Q<|fR Q Q<|jS (hT:=tok) s16 [11,16,17,18,19,20,21,22,7,23,9,10] hF Q Tryz.results193 Q Q Q Q)<|fun hF=>ro bT 8 12 1 Q Q Q Q hF fun x21 h11 hF _=>wi hF<|fI 14 1 0 21 [] Q Q Q Q Q (fun _=>cA) fun x22 _=>fun hF=>sF Q<|iN bT 13 [] [] x22 () Q Q Q Q Q Q Q Q<|mG s9 List.length_set.symm [] [(11,9)] Q Q Q<|fR Q Q<|jS (hT:=tok) (s1,s2,s3,s4,s5,s6) [11,0,1,2,3,4,5,6,7,16,9,10] hF Q Tryz.results193 Q Q Q Q
theorem WB{s:aC}{w_:Int}{s1 s2 s3 s4 s5 s6 s7 s8 s9 s10 s11:AC}{b0:Nat×Nat}:VS Tryz.prog κ 99 (yL s w_) [.p 0 0,I w_] [b0] ([.box 0 (gS s s1 s2 s3 s4 s5 s6 s7 s8 s9 s10 s11)]++(oS s s1 s2 s3 s4 s5 s6 s7 s8 s9 s10 s11 [])) (fun(r:aC) (y:A8C)=>.t []) (fun(r:aC) (y:A8C)=>([.box 0 (gS r y.1 y.2.1 y.2.2.1 y.2.2.2.1 y.2.2.2.2.1 y.2.2.2.2.2.1 y.2.2.2.2.2.2.1 s8 s9 s10 y.2.2.2.2.2.2.2)]++(oS r y.1 y.2.1 y.2.2.1 y.2.2.2.1 y.2.2.2.2.1 y.2.2.2.2.2.1 y.2.2.2.2.2.2.1 s8 s9 s10 y.2.2.2.2.2.2.2 []))):=
 bR tok Tryz.call99 Tryz.func99 Tryz.results99 Q Q<|i7 bT 9 Q Q Q fun x1 h1 _ h2=>fun hF=>eB 1 h2 h1 Q Q Q Q Q<|wi hF<|aV [15,18] Q Q (fun hF=>LZ bT 12 [] h1 () Q Q Q Q Q Q Q Q Q<|wi hF<|fI 0 0 0 13 [1,2,3,4,5,6,7,8,16,10,11] Q Q Q Q Q (fun _=>UT) fun x2 s12=>L4 (s1,s2,s3,s4,s5,s6,s7,s12) [0,17,18,19,20,21,22,23,24,25,26,27] Q Q)<|aV [22,25] Q Q (fun hF=>LZ bT 12 [] h1 () Q Q Q Q Q Q Q Q Q<|wi hF<|fI 0 0 0 13 [1,2,3,4,5,6,7,8,16,10,11] Q Q Q Q Q (fun _=>iL) fun x3 s13=>i7 bT 25 Q Q Q fun x4 h3 _ h4=>fun hF=>eB 3 h4 h3 Q Q Q Q Q<|sF Q<|iN bT 28 [] [38] (⟨false,(⟨0,0,0,0⟩:dP),0,0,(⟨0,0,0,0,0,0,0,0,0,false⟩:Sub),0,0,0,0⟩:bW) () Q Q Q Q Q Q Q Q<|mG s9 List.length_set.symm [] [(0,9)] Q Q Q<|fR Q Q<|jS (hT:=tok) (s1,s2,s3,s4,s5,s6,s7,s13) [0,17,18,19,20,21,22,23,24,31,26,27] hF Q Tryz.results99 Q Q Q Q)<|aV [42,46] Q Q (fun hF=>LZ bT 12 [] h1 () Q Q Q Q Q Q Q Q Q<|wi hF<|fI 0 0 0 13 [1,2,3,4,5,6,7,8,16,10,11] Q Q Q Q Q (fun _=>X4) fun x5 s14=>L4 (s14.1,s14.2.1,s14.2.2.1,s14.2.2.2.1,s14.2.2.2.2.1,s14.2.2.2.2.2.1,s7,s14.2.2.2.2.2.2) [0,17,18,19,20,21,22,23,24,25,26,27] Q Q)<|aV [50,54] Q Q (fun hF=>LZ bT 12 [] h1 () Q Q Q Q Q Q Q Q Q<|wi hF<|fI 0 0 0 13 [1,2,3,4,5,6,7,8,16,10,11] Q Q Q Q Q (fun _=>X5) fun x6 s15=>L4 (s15.1,s15.2.1,s15.2.2.1,s15.2.2.2.1,s15.2.2.2.2.1,s15.2.2.2.2.2.1,s7,s15.2.2.2.2.2.2) [0,17,18,19,20,21,22,23,24,25,26,27] Q Q)<|aV [58,62] Q Q (fun hF=>LZ bT 12 [] h1 () Q Q Q Q Q Q Q Q Q<|wi hF<|fI 0 0 0 13 [1,2,3,4,5,6,7,8,16,10,11] Q Q Q Q Q (fun _=>X6) fun x7 s16=>L4 (s1,s2,s3,s4,s5,s6,s16.1,s16.2) [0,17,18,19,20,21,22,23,24,25,26,27] Q Q)<|aV [66,70] Q Q (fun hF=>LZ bT 12 [] h1 () Q Q Q Q Q Q Q Q Q<|wi hF<|fI 0 0 0 13 [1,2,3,4,5,6,7,8,16,10,11] Q Q Q Q Q (fun _=>WA) fun x8 s17=>L4 (s1,s2,s3,s4,s5,s6,s7,s17) [0,17,18,19,20,21,22,23,24,25,26,27] Q Q)<|fun hF=>LZ bT 12 [] h1 () Q Q Q Q Q Q Q Q Q<|wi hF<|fI 0 0 0 13 [1,2,3,4,5,6,7,8,16,10,11] Q Q Q Q Q (fun _=>UX) fun x9 s18=>L4 (s18.1,s18.2.1,s18.2.2.1,s18.2.2.2.1,s18.2.2.2.2.1,s18.2.2.2.2.2,s7,s11) [0,17,18,19,20,21,22,23,24,25,26,27] Q Q
theorem aG9{s:aC}{s1 s2 s3 s4 s5 s6 s7 s8 s9 s10 s11:AC}(h1:aT κ s1 s.aD.Mem.aG.Bytes)(h2:aT κ s2 s.aD.Mem.aG.Class)(h3:aT κ s3 s.aD.Mem.aA.Global)(h4:aT κ s4 s.aD.Mem.aA.bQ)(h5:aT κ s5 s.aD.aJ.bD)(h6:aT κ s6 s.aD.aX)(h7:aT κ s7 s.aD.jQ)(h8:aT κ s8 s.Cells)(h9:aT κ s9 s.aW)(h10:aT κ s10 s.cG)(h11:aT κ s11 s.Log):VS Tryz.prog κ 77 (KN s) [.g (gS s s1 s2 s3 s4 s5 s6 s7 s8 s9 s10 s11)] [] [] (fun r (y:BS)=>.g (yS r y)) (fun r y=>(zS r y [])):=
 bR tok Tryz.call77 Tryz.func77 Tryz.results77 Q Q<|c1 Q (fun h=>NA (h.a h1) (h.a h2) (h.a h3) (h.a h4) (h.a h5) (h.a h6) (h.a h7) (h.a h8) (h.a h9) (h.a h10) (h.a h11)) fun x1 s12=>c0 Q (fun h=>RO (h.a h1) (h.a h2) (h.a h3) (h.a h4) (h.a h5) (h.a h6) (h.a h7) (h.a h8) (h.a h9) (h.a h10) (h.a h11)) fun x2=>aV [9] Q Q (d8 s12 [2,3,4,5,6,7,8,9,10,11,12] Q Q)<|CK (s12.1,s12.2.1,s12.2.2.1,s12.2.2.2.1,s12.2.2.2.2.1,s12.2.2.2.2.2.1,s12.2.2.2.2.2.2.1,s12.2.2.2.2.2.2.2.2.2.2) [2,3] (fun(p:Int×aC) (u:A8C)=>[(4,I p.1)]) [2,3,4,5,6,7,8,9,10,11,12,13,1] [1] (fun p u=>(oS p.2 u.1 u.2.1 u.2.2.1 u.2.2.2.1 u.2.2.2.2.1 u.2.2.2.2.2.1 u.2.2.2.2.2.2.1 s12.2.2.2.2.2.2.2.1 s12.2.2.2.2.2.2.2.2.1 s12.2.2.2.2.2.2.2.2.2.1 u.2.2.2.2.2.2.2 [.box 2 (gS p.2 u.1 u.2.1 u.2.2.1 u.2.2.2.1 u.2.2.2.2.1 u.2.2.2.2.2.1 u.2.2.2.2.2.2.1 s12.2.2.2.2.2.2.2.1 s12.2.2.2.2.2.2.2.2.1 s12.2.2.2.2.2.2.2.2.2.1 u.2.2.2.2.2.2.2)])) id [2,3] (fun(x7:aC) (u:A8C)=>[]) [1] (fun x7 u=>(oS x7 u.1 u.2.1 u.2.2.1 u.2.2.2.1 u.2.2.2.2.1 u.2.2.2.2.2.1 u.2.2.2.2.2.2.1 s12.2.2.2.2.2.2.2.1 s12.2.2.2.2.2.2.2.2.1 s12.2.2.2.2.2.2.2.2.2.1 u.2.2.2.2.2.2.2 [.box 2 (gS x7 u.1 u.2.1 u.2.2.1 u.2.2.2.1 u.2.2.2.2.1 u.2.2.2.2.2.1 u.2.2.2.2.2.2.1 s12.2.2.2.2.2.2.2.1 s12.2.2.2.2.2.2.2.2.1 s12.2.2.2.2.2.2.2.2.2.1 u.2.2.2.2.2.2.2)])) Q Q (fun hF1 ⟨x5,x6⟩ ⟨s21,s22,s23,s24,s25,s26,s27,s28⟩ hr1=>i4 0 3 (fun(p:Bool×aC)=>o9 x5 p.1 p.2) [2,3,4] (fun(p:Bool×aC) (_:Unit)=>[(17,.b p.1)]) [12] (fun p _=>(oS p.2 s21 s22 s23 s24 s25 s26 s27 s12.2.2.2.2.2.2.2.1 s12.2.2.2.2.2.2.2.2.1 s12.2.2.2.2.2.2.2.2.2.1 s28 [.box 2 (gS p.2 s21 s22 s23 s24 s25 s26 s27 s12.2.2.2.2.2.2.2.1 s12.2.2.2.2.2.2.2.2.1 s12.2.2.2.2.2.2.2.2.2.1 s28)])) Q (dZ [12,13] Q Q (c0 Q (fun h=>YY (h.o 0 Q) (h.o 1 Q) (h.o 2 Q) (h.o 3 Q) (h.o 4 Q) (h.o 5 Q) (h.o 6 Q) (h.o 7 Q) (h.o 8 Q) (h.o 9 Q) (h.o 10 Q)) fun x11=>b8 (p:=(!x11,x6)) [0,1,2,3,4,5,6,7,8,9,10,11,12] Q Q)<|b8 (p:=(false,x6)) [0,1,2,3,4,5,6,7,8,9,10,11,12] Q Q) fun⟨x8,x9⟩ _=>aV [17] Q Q (fI 11 2 0 13 [0,1,2,3,4,5,6,7,8,9,10] Q Q Q Q Q (fun _=>WB) fun x10 s37=>nxW s37 [13,14,15,16,17,18,19,20,21,22,23,11,12] Q)<|bkW (s21,s22,s23,s24,s25,s26,s27,s28) [0,1,2,3,4,5,6,7,8,9,10,11,12] Q) fun x7 ⟨s29,s30,s31,s32,s33,s34,s35,s36⟩=>d8 (s29,s30,s31,s32,s33,s34,s35,s12.2.2.2.2.2.2.2.1,s12.2.2.2.2.2.2.2.2.1,s12.2.2.2.2.2.2.2.2.2.1,s36) [0,1,2,3,4,5,6,7,8,9,10] Q Q
theorem WC{s:aC}{n:Int}{s1 s2 s3 s4 s5 s6 s7 s8 s9 s10 s11:AC}(h1:aT κ s1 s.aD.Mem.aG.Bytes)(h2:aT κ s2 s.aD.Mem.aG.Class)(h3:aT κ s3 s.aD.Mem.aA.Global)(h4:aT κ s4 s.aD.Mem.aA.bQ)(h5:aT κ s5 s.aD.aJ.bD)(h6:aT κ s6 s.aD.aX)(h7:aT κ s7 s.aD.jQ)(h8:aT κ s8 s.Cells)(h9:aT κ s9 s.aW)(h10:aT κ s10 s.cG)(h11:aT κ s11 s.Log):VS Tryz.prog κ 16 (C3 s n) [.g (gS s s1 s2 s3 s4 s5 s6 s7 s8 s9 s10 s11),I n] [] [] (fun r (y:BS)=>.g (yS r y)) (fun r y=>(zS r y [])):=
 bR tok Tryz.call16 Tryz.func16 Tryz.results16 Q Q<|c1 Q (fun h=>V6 (h.a h1) (h.a h2) (h.a h3) (h.a h4) (h.a h5) (h.a h6) (h.a h7) (h.a h8) (h.a h9) (h.a h10) (h.a h11)) fun x1 s12=>c1 Q (fun h=>aG9 (h.o 2 Q) (h.o 3 Q) (h.o 4 Q) (h.o 5 Q) (h.o 6 Q) (h.o 7 Q) (h.o 8 Q) (h.o 9 Q) (h.o 10 Q) (h.o 11 Q) (h.o 12 Q)) fun x2 s13=>d8 s13 [13,14,15,16,17,18,19,20,21,22,23] Q Q
theorem xF{a_ b:List Int}{s1:AC}{s2:AC}(h1:aT κ s1 a_)(h2:aT κ s2 b):V0 Tryz.prog κ 79 (pT a_ b) [.h s1 a_.length,.h s2 b.length] .b:=
 bR tok Tryz.call79 Tryz.func79 Tryz.results79 Q Q<|aV [10] Q Q (aZ Q Q)<|FG 5 [0,1] [] Out.brk [] [] Q Q (fun hF1 x2 hr1=>aV [14] Q Q (d9 aB [] Q<|SJ Q h1 Q fun x3=>SJ Q h2 Q fun x4=>aV [25] Q Q (lK hr1 hF1<|aZ Q Q)<|vP [] Q)<|mL [] Q)<|aZ Q Q
theorem aHA{a_ b:aG}{s1 s2:AC}{s3 s4:AC}(h1:aT κ s1 a_.Bytes)(h2:aT κ s2 a_.Class)(h3:aT κ s3 b.Bytes)(h4:aT κ s4 b.Class):V0 Tryz.prog κ 273 (KO a_ b) [.g [.h s1 a_.Bytes.length,.h s2 a_.Class.length],.g [.h s3 b.Bytes.length,.h s4 b.Class.length]] .b:=
 bR tok Tryz.call273 Tryz.func273 Tryz.results273 Q Q<|c0 Q (fun h=>xF (h.a h1) (h.a h3)) fun x1=>aV [10] Q Q (aZ Q Q)<|c0 Q (fun h=>xF (h.a h2) (h.a h4)) fun x2=>aV [16] Q Q (aZ Q Q)<|aZ Q Q
theorem aER{a_ b:aH}{s1:AC}{s2:AC}(h1:aT κ s1 a_.aL)(h2:aT κ s2 b.aL):V0 Tryz.prog κ 436 (G4 a_ b) [.g [.h s1 a_.aL.length],.g [.h s2 b.aL.length]] .b:=
 bR tok Tryz.call436 Tryz.func436 Tryz.results436 Q Q<|c0 Q (fun h=>xF (h.a h1) (h.a h2)) fun x1=>aV [10] Q Q (aZ Q Q)<|aZ Q Q
theorem P2{a_ b:List aH}{s1:AC}{s2:AC}(h1:aT κ s1 a_)(h2:aT κ s2 b):V0 Tryz.prog κ 384 (wY a_ b) [.h s1 a_.length,.h s2 b.length] .b:=
 bR tok Tryz.call384 Tryz.func384 Tryz.results384 Q Q<|aV [10] Q Q (aZ Q Q)<|FG 5 [0,1] [] Out.brk [] [] Q Q (fun hF1 x2 hr1=>aV [14] Q Q (d9 aB [] Q<|jT qP Q h1 Q fun x3 s3 h3=>jT qP Q h2 Q fun x4 s4 h4=>c0 Q (fun h=>aER (h.a h3) (h.a h4)) fun x5=>aV [26] Q Q (lK hr1 hF1<|aZ Q Q)<|vP [] Q)<|mL [] Q)<|aZ Q Q
theorem aES{a_ b:aA}{s1 s2:AC}{s3 s4:AC}(h1:aT κ s1 a_.Global)(h2:aT κ s2 a_.bQ)(h3:aT κ s3 b.Global)(h4:aT κ s4 b.bQ):V0 Tryz.prog κ 274 (G5 a_ b) [.g [.h s1 a_.Global.length,.h s2 a_.bQ.length],.g [.h s3 b.Global.length,.h s4 b.bQ.length]] .b:=
 bR tok Tryz.call274 Tryz.func274 Tryz.results274 Q Q<|c0 Q (fun h=>P2 (h.a h1) (h.a h3)) fun x1=>aV [10] Q Q (aZ Q Q)<|c0 Q (fun h=>P2 (h.a h2) (h.a h4)) fun x2=>aV [16] Q Q (aZ Q Q)<|aZ Q Q
theorem aJY{a_ b:Mem}{s1 s2 s3 s4:AC}{s5 s6 s7 s8:AC}(h1:aT κ s1 a_.aG.Bytes)(h2:aT κ s2 a_.aG.Class)(h3:aT κ s3 a_.aA.Global)(h4:aT κ s4 a_.aA.bQ)(h5:aT κ s5 b.aG.Bytes)(h6:aT κ s6 b.aG.Class)(h7:aT κ s7 b.aA.Global)(h8:aT κ s8 b.aA.bQ):V0 Tryz.prog κ 159 (OG a_ b) [.g (gM a_ s1 s2 s3 s4),.g (gM b s5 s6 s7 s8)] .b:=
 bR tok Tryz.call159 Tryz.func159 Tryz.results159 Q Q<|c0 Q (fun h=>aHA (h.a h1) (h.a h2) (h.a h5) (h.a h6)) fun x1=>aV [10] Q Q (aZ Q Q)<|c0 Q (fun h=>aES (h.a h3) (h.a h4) (h.a h7) (h.a h8)) fun x2=>aV [16] Q Q (aZ Q Q)<|aZ Q Q
theorem aJZ{a_ b:fO}:V0 Tryz.prog κ 385 (OH a_ b) [.g [.b a_.On,I a_.aM,.b a_.eI,I a_.Seen],.g [.b b.On,I b.aM,.b b.eI,I b.Seen]] .b:=
 bR tok Tryz.call385 Tryz.func385 Tryz.results385 Q Q<|aV [9] Q Q (aZ Q Q)<|aV [14] Q Q (aZ Q Q)<|aV [19] Q Q (aZ Q Q)<|aV [24] Q Q (aZ Q Q)<|aZ Q Q
theorem aHB{a_ b:List fO}{s1:AC}{s2:AC}(h1:aT κ s1 a_)(h2:aT κ s2 b):V0 Tryz.prog κ 275 (KP a_ b) [.h s1 a_.length,.h s2 b.length] .b:=
 bR tok Tryz.call275 Tryz.func275 Tryz.results275 Q Q<|aV [10] Q Q (aZ Q Q)<|FG 5 [0,1] [] Out.brk [] [] Q Q (fun hF1 x2 hr1=>aV [14] Q Q (d9 aB [] Q<|jT SW Q h1 Q fun x3 _ _=>jT SW Q h2 Q fun x4 _ _=>c0 Q (fun _=>aJZ) fun x5=>aV [26] Q Q (lK hr1 hF1<|aZ Q Q)<|vP [] Q)<|mL [] Q)<|aZ Q Q
theorem aET{a_ b:aJ}{s1:AC}{s2:AC}(h1:aT κ s1 a_.bD)(h2:aT κ s2 b.bD):V0 Tryz.prog κ 160 (G6 a_ b) [.g [I a_.aM,.h s1 a_.bD.length],.g [I b.aM,.h s2 b.bD.length]] .b:=
 bR tok Tryz.call160 Tryz.func160 Tryz.results160 Q Q<|aV [9] Q Q (aZ Q Q)<|c0 Q (fun h=>aHB (h.a h1) (h.a h2)) fun x1=>aV [15] Q Q (aZ Q Q)<|aZ Q Q
theorem aHC{a_ b:bM}:V0 Tryz.prog κ 437 (KQ a_ b) [.g [I a_.Handle,I a_.aM],.g [I b.Handle,I b.aM]] .b:=
 bR tok Tryz.call437 Tryz.func437 Tryz.results437 Q Q<|aV [9] Q Q (aZ Q Q)<|aV [14] Q Q (aZ Q Q)<|aZ Q Q
theorem aEU{a_ b:List bM}{s1:AC}{s2:AC}(h1:aT κ s1 a_)(h2:aT κ s2 b):V0 Tryz.prog κ 386 (G7 a_ b) [.h s1 a_.length,.h s2 b.length] .b:=
 bR tok Tryz.call386 Tryz.func386 Tryz.results386 Q Q<|aV [10] Q Q (aZ Q Q)<|FG 5 [0,1] [] Out.brk [] [] Q Q (fun hF1 x2 hr1=>aV [14] Q Q (d9 aB [] Q<|jT TN Q h1 Q fun x3 _ _=>jT TN Q h2 Q fun x4 _ _=>c0 Q (fun _=>aHC) fun x5=>aV [26] Q Q (lK hr1 hF1<|aZ Q Q)<|vP [] Q)<|mL [] Q)<|aZ Q Q
theorem aEV{a_ b:aO}{s1:AC}{s2:AC}(h1:aT κ s1 a_.Rows)(h2:aT κ s2 b.Rows):V0 Tryz.prog κ 276 (G8 a_ b) [.g [.h s1 a_.Rows.length],.g [.h s2 b.Rows.length]] .b:=
 bR tok Tryz.call276 Tryz.func276 Tryz.results276 Q Q<|c0 Q (fun h=>aEU (h.a h1) (h.a h2)) fun x1=>aV [10] Q Q (aZ Q Q)<|aZ Q Q
theorem aAS{a_ b:List aO}{s1:AC}{s2:AC}(h1:aT κ s1 a_)(h2:aT κ s2 b):V0 Tryz.prog κ 161 (D0 a_ b) [.h s1 a_.length,.h s2 b.length] .b:=
 bR tok Tryz.call161 Tryz.func161 Tryz.results161 Q Q<|aV [10] Q Q (aZ Q Q)<|FG 5 [0,1] [] Out.brk [] [] Q Q (fun hF1 x2 hr1=>aV [14] Q Q (d9 aB [] Q<|jT C4 Q h1 Q fun x3 s3 h3=>jT C4 Q h2 Q fun x4 s4 h4=>c0 Q (fun h=>aEV (h.a h3) (h.a h4)) fun x5=>aV [26] Q Q (lK hr1 hF1<|aZ Q Q)<|vP [] Q)<|mL [] Q)<|aZ Q Q
theorem aHD{a_ b:aD}{s1 s2 s3 s4 s5 s6 s7:AC}{s8 s9 s10 s11 s12 s13 s14:AC}(h1:aT κ s1 a_.Mem.aG.Bytes)(h2:aT κ s2 a_.Mem.aG.Class)(h3:aT κ s3 a_.Mem.aA.Global)(h4:aT κ s4 a_.Mem.aA.bQ)(h5:aT κ s5 a_.aJ.bD)(h6:aT κ s6 a_.aX)(h7:aT κ s7 a_.jQ)(h8:aT κ s8 b.Mem.aG.Bytes)(h9:aT κ s9 b.Mem.aG.Class)(h10:aT κ s10 b.Mem.aA.Global)(h11:aT κ s11 b.Mem.aA.bQ)(h12:aT κ s12 b.aJ.bD)(h13:aT κ s13 b.aX)(h14:aT κ s14 b.jQ):V0 Tryz.prog κ 78 (KR a_ b) [.g (gB a_ s1 s2 s3 s4 s5 s6 s7),.g (gB b s8 s9 s10 s11 s12 s13 s14)] .b:=
 bR tok Tryz.call78 Tryz.func78 Tryz.results78 Q Q<|c0 Q (fun h=>aJY (h.a h1) (h.a h2) (h.a h3) (h.a h4) (h.a h8) (h.a h9) (h.a h10) (h.a h11)) fun x1=>aV [10] Q Q (aZ Q Q)<|c0 Q (fun h=>aET (h.a h5) (h.a h12)) fun x2=>aV [16] Q Q (aZ Q Q)<|c0 Q (fun h=>aAS (h.a h6) (h.a h13)) fun x3=>aV [22] Q Q (aZ Q Q)<|c0 Q (fun h=>xF (h.a h7) (h.a h14)) fun x4=>aV [28] Q Q (aZ Q Q)<|aZ Q Q
theorem Y1{a_ b:dP}:V0 Tryz.prog κ 277 (MZ a_ b) [.g [I a_.Kind,I a_.Cell,I a_.dQ,I a_.dN],.g [I b.Kind,I b.Cell,I b.dQ,I b.dN]] .b:=
 bR tok Tryz.call277 Tryz.func277 Tryz.results277 Q Q<|aV [9] Q Q (aZ Q Q)<|aV [14] Q Q (aZ Q Q)<|aV [19] Q Q (aZ Q Q)<|aV [24] Q Q (aZ Q Q)<|aZ Q Q
theorem aJ0{a_ b:Sub}:V0 Tryz.prog κ 278 (OI a_ b) [.g [I a_.Kind,I a_.A,I a_.Pc,I a_.E,I a_.Row,I a_.B,I a_.H,I a_.Out,I a_.Code,.b a_.cJ],.g [I b.Kind,I b.A,I b.Pc,I b.E,I b.Row,I b.B,I b.H,I b.Out,I b.Code,.b b.cJ]] .b:=
 bR tok Tryz.call278 Tryz.func278 Tryz.results278 Q Q<|aV [9] Q Q (aZ Q Q)<|aV [14] Q Q (aZ Q Q)<|aV [19] Q Q (aZ Q Q)<|aV [24] Q Q (aZ Q Q)<|aV [29] Q Q (aZ Q Q)<|aV [34] Q Q (aZ Q Q)<|aV [39] Q Q (aZ Q Q)<|aV [44] Q Q (aZ Q Q)<|aV [49] Q Q (aZ Q Q)<|aV [54] Q Q (aZ Q Q)<|aZ Q Q
theorem aJ1{a_ b:bW}:V0 Tryz.prog κ 162 (OJ a_ b) [.g [.b a_.fP,I a_.Op.Kind,I a_.Op.Cell,I a_.Op.dQ,I a_.Op.dN,I a_.aR,I a_.Pc,I a_.Sub.Kind,I a_.Sub.A,I a_.Sub.Pc,I a_.Sub.E,I a_.Sub.Row,I a_.Sub.B,I a_.Sub.H,I a_.Sub.Out,I a_.Sub.Code,.b a_.Sub.cJ,I a_.H,I a_.Old,I a_.dN,I a_.Code],.g [.b b.fP,I b.Op.Kind,I b.Op.Cell,I b.Op.dQ,I b.Op.dN,I b.aR,I b.Pc,I b.Sub.Kind,I b.Sub.A,I b.Sub.Pc,I b.Sub.E,I b.Sub.Row,I b.Sub.B,I b.Sub.H,I b.Sub.Out,I b.Sub.Code,.b b.Sub.cJ,I b.H,I b.Old,I b.dN,I b.Code]] .b:=
 bR tok Tryz.call162 Tryz.func162 Tryz.results162 Q Q<|aV [9] Q Q (aZ Q Q)<|c0 Q (fun _=>Y1) fun x1=>aV [15] Q Q (aZ Q Q)<|aV [20] Q Q (aZ Q Q)<|aV [25] Q Q (aZ Q Q)<|c0 Q (fun _=>aJ0) fun x2=>aV [31] Q Q (aZ Q Q)<|aV [36] Q Q (aZ Q Q)<|aV [41] Q Q (aZ Q Q)<|aV [46] Q Q (aZ Q Q)<|aV [51] Q Q (aZ Q Q)<|aZ Q Q
theorem aHE{a_ b:List bW}{s1:AC}{s2:AC}(h1:aT κ s1 a_)(h2:aT κ s2 b):V0 Tryz.prog κ 80 (KS a_ b) [.h s1 a_.length,.h s2 b.length] .b:=
 bR tok Tryz.call80 Tryz.func80 Tryz.results80 Q Q<|aV [10] Q Q (aZ Q Q)<|FG 5 [0,1] [] Out.brk [] [] Q Q (fun hF1 x2 hr1=>aV [14] Q Q (d9 aB [] Q<|jT z5 Q h1 Q fun x3 _ _=>jT z5 Q h2 Q fun x4 _ _=>c0 Q (fun _=>aJ1) fun x5=>aV [26] Q Q (lK hr1 hF1<|aZ Q Q)<|vP [] Q)<|mL [] Q)<|aZ Q Q
theorem aJ2{a_ b:List dP}{s1:AC}{s2:AC}(h1:aT κ s1 a_)(h2:aT κ s2 b):V0 Tryz.prog κ 279 (OK a_ b) [.h s1 a_.length,.h s2 b.length] .b:=
 bR tok Tryz.call279 Tryz.func279 Tryz.results279 Q Q<|aV [10] Q Q (aZ Q Q)<|FG 5 [0,1] [] Out.brk [] [] Q Q (fun hF1 x2 hr1=>aV [14] Q Q (d9 aB [] Q<|jT Z7 Q h1 Q fun x3 _ _=>jT Z7 Q h2 Q fun x4 _ _=>c0 Q (fun _=>Y1) fun x5=>aV [26] Q Q (lK hr1 hF1<|aZ Q Q)<|vP [] Q)<|mL [] Q)<|aZ Q Q
theorem aEW{a_ b:Queue}{s1:AC}{s2:AC}(h1:aT κ s1 a_.eZ)(h2:aT κ s2 b.eZ):V0 Tryz.prog κ 163 (G9 a_ b) [.g [.h s1 a_.eZ.length],.g [.h s2 b.eZ.length]] .b:=
 bR tok Tryz.call163 Tryz.func163 Tryz.results163 Q Q<|c0 Q (fun h=>aJ2 (h.a h1) (h.a h2)) fun x1=>aV [10] Q Q (aZ Q Q)<|aZ Q Q
theorem aAT{a_ b:List Queue}{s1:AC}{s2:AC}(h1:aT κ s1 a_)(h2:aT κ s2 b):V0 Tryz.prog κ 81 (D1 a_ b) [.h s1 a_.length,.h s2 b.length] .b:=
 bR tok Tryz.call81 Tryz.func81 Tryz.results81 Q Q<|aV [10] Q Q (aZ Q Q)<|FG 5 [0,1] [] Out.brk [] [] Q Q (fun hF1 x2 hr1=>aV [14] Q Q (d9 aB [] Q<|jT zJ Q h1 Q fun x3 s3 h3=>jT zJ Q h2 Q fun x4 s4 h4=>c0 Q (fun h=>aEW (h.a h3) (h.a h4)) fun x5=>aV [26] Q Q (lK hr1 hF1<|aZ Q Q)<|vP [] Q)<|mL [] Q)<|aZ Q Q
theorem aLX{a_ b:Ev}:V0 Tryz.prog κ 164 (SN a_ b) [.g [I a_.Kind,I a_.Who,I a_.aR,I a_.Cell,I a_.Handle,I a_.dN,I a_.Code],.g [I b.Kind,I b.Who,I b.aR,I b.Cell,I b.Handle,I b.dN,I b.Code]] .b:=
 bR tok Tryz.call164 Tryz.func164 Tryz.results164 Q Q<|aV [9] Q Q (aZ Q Q)<|aV [14] Q Q (aZ Q Q)<|aV [19] Q Q (aZ Q Q)<|aV [24] Q Q (aZ Q Q)<|aV [29] Q Q (aZ Q Q)<|aV [34] Q Q (aZ Q Q)<|aV [39] Q Q (aZ Q Q)<|aZ Q Q
theorem aJ3{a_ b:List Ev}{s1:AC}{s2:AC}(h1:aT κ s1 a_)(h2:aT κ s2 b):V0 Tryz.prog κ 82 (OL a_ b) [.h s1 a_.length,.h s2 b.length] .b:=
 bR tok Tryz.call82 Tryz.func82 Tryz.results82 Q Q<|aV [10] Q Q (aZ Q Q)<|FG 5 [0,1] [] Out.brk [] [] Q Q (fun hF1 x2 hr1=>aV [14] Q Q (d9 aB [] Q<|jT cEv Q h1 Q fun x3 _ _=>jT cEv Q h2 Q fun x4 _ _=>c0 Q (fun _=>aLX) fun x5=>aV [26] Q Q (lK hr1 hF1<|aZ Q Q)<|vP [] Q)<|mL [] Q)<|aZ Q Q
theorem B4{a_ b:aC}{s1 s2 s3 s4 s5 s6 s7 s8 s9 s10 s11:AC}{s12 s13 s14 s15 s16 s17 s18 s19 s20 s21 s22:AC}(h1:aT κ s1 a_.aD.Mem.aG.Bytes)(h2:aT κ s2 a_.aD.Mem.aG.Class)(h3:aT κ s3 a_.aD.Mem.aA.Global)(h4:aT κ s4 a_.aD.Mem.aA.bQ)(h5:aT κ s5 a_.aD.aJ.bD)(h6:aT κ s6 a_.aD.aX)(h7:aT κ s7 a_.aD.jQ)(h8:aT κ s8 a_.Cells)(h9:aT κ s9 a_.aW)(h10:aT κ s10 a_.cG)(h11:aT κ s11 a_.Log)(h12:aT κ s12 b.aD.Mem.aG.Bytes)(h13:aT κ s13 b.aD.Mem.aG.Class)(h14:aT κ s14 b.aD.Mem.aA.Global)(h15:aT κ s15 b.aD.Mem.aA.bQ)(h16:aT κ s16 b.aD.aJ.bD)(h17:aT κ s17 b.aD.aX)(h18:aT κ s18 b.aD.jQ)(h19:aT κ s19 b.Cells)(h20:aT κ s20 b.aW)(h21:aT κ s21 b.cG)(h22:aT κ s22 b.Log):V0 Tryz.prog κ 17 (g8 a_ b) [.g (gS a_ s1 s2 s3 s4 s5 s6 s7 s8 s9 s10 s11),.g (gS b s12 s13 s14 s15 s16 s17 s18 s19 s20 s21 s22)] .b:=
 bR tok Tryz.call17 Tryz.func17 Tryz.results17 Q Q<|c0 Q (fun h=>aHD (h.a h1) (h.a h2) (h.a h3) (h.a h4) (h.a h5) (h.a h6) (h.a h7) (h.a h12) (h.a h13) (h.a h14) (h.a h15) (h.a h16) (h.a h17) (h.a h18)) fun x1=>aV [10] Q Q (aZ Q Q)<|c0 Q (fun h=>xF (h.a h8) (h.a h19)) fun x2=>aV [16] Q Q (aZ Q Q)<|c0 Q (fun h=>aHE (h.a h9) (h.a h20)) fun x3=>aV [22] Q Q (aZ Q Q)<|c0 Q (fun h=>aAT (h.a h10) (h.a h21)) fun x4=>aV [28] Q Q (aZ Q Q)<|c0 Q (fun h=>aJ3 (h.a h11) (h.a h22)) fun x5=>aV [34] Q Q (aZ Q Q)<|aV [39] Q Q (aZ Q Q)<|aZ Q Q
theorem rJ{a_:List Int}{k:Int}{s1:AC}:VS Tryz.prog κ 84 (lG a_ k) [.h s1 a_.length,I k] [] [ow s1 (a_:List Int)] (fun(r:Int×(List Int)) (y:Unit)=>I r.1) (fun(r:Int×(List Int)) (y:Unit)=>[.o (dB [AC.v s1 a_.length] r.2)]):=
 bR tok Tryz.call84 Tryz.func84 Tryz.results84 Q Q<|CK () [] (fun(p:(List Int)×Int×Int) (_:Unit)=>[(0,.h s1 p.1.length),(1,I p.2.1),(5,I p.2.2)]) [0] [] (fun p _=>[ow s1 (p.1:List Int)]) id [] (fun(p:(List Int)×Int) (_:Unit)=>[(0,.h s1 p.1.length),(1,I p.2)]) [] (fun p _=>[ow s1 (p.1:List Int)]) Q Q (fun hF1 ⟨x4,x5,x6⟩ _ hr1=>fun hG1=>nd hG1 fun hl3 hG1=>wi hG1<|aV [9] Q Q (i7 oI 0 Q Q Q fun x9 h1 _ h2=>fun hG1=>eB 0 h2 h1 Q Q Q Q Q<|sF Q<|iN oI 1 [] [0,7,12] x5 () Q Q Q Q Q Q Q Q<|nxR () [4] hG1 Q)<|mL [0] Q) fun⟨x7,x8⟩ _=>fun hF=>nd hF fun hl2 hF=>sR Q<|QB 0 hl2 Q<|jS (hT:=tok) () [0] hF Q Tryz.results84 Q Q Q Q
theorem aAU{a_:aG}{k:Int}{s1 s2:AC}:VS Tryz.prog κ 280 (D2 a_ k) [.g [.h s1 a_.Bytes.length,.h s2 a_.Class.length],I k] [] [ow s1 (a_.Bytes:List Int),ow s2 (a_.Class:List Int)] (fun(r:Int×(List Int)×(List Int)) (y:Unit)=>I r.1) (fun(r:Int×(List Int)×(List Int)) (y:Unit)=>[.o (dB [AC.v s1 a_.Bytes.length] r.2.1),.o (dB [AC.v s2 a_.Class.length] r.2.2)]):=
 bR tok Tryz.call280 Tryz.func280 Tryz.results280 Q Q<|gW [0] Q Q Q Q (fun _=>rJ) fun x1 _=>fun hF=>un 3 [6] [(0,0)] [(2,0)] Q Q Q Q Q Q fun hl1=>wi hF<|gW [1] Q Q Q Q (fun _=>rJ) fun x2 _=>fun hF=>un 4 [10] [(0,1)] [(2,1)] Q Q Q Q Q Q fun hl2=>sR Q<|QB 3 hl1 Q<|QB 4 hl2 Q<|jS (hT:=tok) () [3,4] hF Q Tryz.results280 Q Q Q Q
theorem KX{a_:List aH}{k:Int}{s1:AC}:VS Tryz.prog κ 387 (rH a_ k) [.h s1 a_.length,I k] [] [ow s1 (a_:List aH)] (fun(r:Int×(List aH)) (y:Unit)=>I r.1) (fun(r:Int×(List aH)) (y:Unit)=>[.o (dB [AC.v s1 a_.length] r.2)]):=
 bR tok Tryz.call387 Tryz.func387 Tryz.results387 Q Q<|CK () [] (fun(p:(List aH)×Int×Int) (_:Unit)=>[(0,.h s1 p.1.length),(1,I p.2.1),(5,I p.2.2)]) [0] [] (fun p _=>[ow s1 (p.1:List aH)]) id [] (fun(p:(List aH)×Int) (_:Unit)=>[(0,.h s1 p.1.length),(1,I p.2)]) [] (fun p _=>[ow s1 (p.1:List aH)]) Q Q (fun hF1 ⟨x4,x5,x6⟩ _ hr1=>fun hG1=>nd hG1 fun hl3 hG1=>wi hG1<|aV [9] Q Q (i7 fC 0 Q Q Q fun x9 h1 s2 h2=>fun hG1=>eB 0 h2 h1 Q Q Q Q Q<|wi hG1<|gW [4] Q Q Q Q (fun _=>rJ) fun x10 _=>fun hG1=>un 5 [16] [] [(2,0)] Q Q Q Q Q Q fun hl4=>sF Q<|iN fC 1 [5] [0,7,12] (⟨x10.2⟩:aH) s2 Q Q Q Q Q Q Q Q<|nxR () [6] hG1 Q)<|mL [0] Q) fun⟨x7,x8⟩ _=>fun hF=>nd hF fun hl2 hF=>sR Q<|QB 0 hl2 Q<|jS (hT:=tok) () [0] hF Q Tryz.results387 Q Q Q Q
theorem X7{a_:aA}{k:Int}{s1 s2:AC}:VS Tryz.prog κ 281 (BN a_ k) [.g [.h s1 a_.Global.length,.h s2 a_.bQ.length],I k] [] [ow s1 (a_.Global:List aH),ow s2 (a_.bQ:List aH)] (fun(r:Int×(List aH)×(List aH)) (y:Unit)=>I r.1) (fun(r:Int×(List aH)×(List aH)) (y:Unit)=>[.o (dB [AC.v s1 a_.Global.length] r.2.1),.o (dB [AC.v s2 a_.bQ.length] r.2.2)]):=
 bR tok Tryz.call281 Tryz.func281 Tryz.results281 Q Q<|gW [0] Q Q Q Q (fun _=>KX) fun x1 _=>fun hF=>un 3 [6] [(0,0)] [(2,0)] Q Q Q Q Q Q fun hl1=>wi hF<|gW [1] Q Q Q Q (fun _=>KX) fun x2 _=>fun hF=>un 4 [10] [(0,1)] [(2,1)] Q Q Q Q Q Q fun hl2=>sR Q<|QB 3 hl1 Q<|QB 4 hl2 Q<|jS (hT:=tok) () [3,4] hF Q Tryz.results281 Q Q Q Q
theorem aEX{a_:Mem}{k:Int}{s1 s2 s3 s4:AC}:VS Tryz.prog κ 165 (HA a_ k) [.g (gM a_ s1 s2 s3 s4),I k] [] (oM a_ s1 s2 s3 s4 []) (fun(r:Int×(List Int)×(List Int)×(List aH)×(List aH)) (y:Unit)=>I r.1) (fun(r:Int×(List Int)×(List Int)×(List aH)×(List aH)) (y:Unit)=>[.o (dB [AC.v s1 a_.aG.Bytes.length] r.2.1),.o (dB [AC.v s2 a_.aG.Class.length] r.2.2.1),.o (dB [AC.v s3 a_.aA.Global.length] r.2.2.2.1),.o (dB [AC.v s4 a_.aA.bQ.length] r.2.2.2.2)]):=
 bR tok Tryz.call165 Tryz.func165 Tryz.results165 Q Q<|gW [0,1] Q Q Q Q (fun _=>aAU) fun x1 _=>fun hF=>un 5 [] [(0,0),(6,0)] [(4,0)] Q Q Q Q Q Q fun hl1=>fG Q Q<|un 6 [] [(0,1),(6,1)] [(4,1)] Q Q Q Q Q Q fun hl2=>fG Q Q<|wi hF<|gW [2,3] Q Q Q Q (fun _=>X7) fun x2 _=>fun hF=>un 7 [] [(0,2),(10,0)] [(4,2)] Q Q Q Q Q Q fun hl3=>fG Q Q<|un 8 [] [(0,3),(10,1)] [(4,3)] Q Q Q Q Q Q fun hl4=>fG Q Q<|sR Q<|QB 5 hl1 Q<|QB 6 hl2 Q<|QB 7 hl3 Q<|QB 8 hl4 Q<|jS (hT:=tok) () [5,6,7,8] hF Q Tryz.results165 Q Q Q Q
theorem aAV{a_:List fO}{k:Int}{s1:AC}:VS Tryz.prog κ 282 (D3 a_ k) [.h s1 a_.length,I k] [] [ow s1 (a_:List fO)] (fun(r:Int×(List fO)) (y:Unit)=>I r.1) (fun(r:Int×(List fO)) (y:Unit)=>[.o (dB [AC.v s1 a_.length] r.2)]):=
 bR tok Tryz.call282 Tryz.func282 Tryz.results282 Q Q<|CK () [] (fun(p:(List fO)×Int×Int) (_:Unit)=>[(0,.h s1 p.1.length),(1,I p.2.1),(5,I p.2.2)]) [0] [] (fun p _=>[ow s1 (p.1:List fO)]) id [] (fun(p:(List fO)×Int) (_:Unit)=>[(0,.h s1 p.1.length),(1,I p.2)]) [] (fun p _=>[ow s1 (p.1:List fO)]) Q Q (fun hF1 ⟨x4,x5,x6⟩ _ hr1=>fun hG1=>nd hG1 fun hl3 hG1=>wi hG1<|aV [9] Q Q (i7 nO 0 Q Q Q fun x9 h1 _ h2=>fun hG1=>eB 0 h2 h1 Q Q Q Q Q<|eB 0 h2 h1 Q Q Q Q Q<|eB 0 h2 h1 Q Q Q Q Q<|eB 0 h2 h1 Q Q Q Q Q<|sF Q<|iN nO 1 [] [0,7,12,21,28,37] (⟨(Int.tmod x5 3) == 0,aE (x5+1),(Int.tmod (aE ((aE (x5+1))+1)) 3) == 0,aE ((aE ((aE (x5+1))+1))+1)⟩:fO) () Q Q Q Q Q Q Q Q<|nxR () [4] hG1 Q)<|mL [0] Q) fun⟨x7,x8⟩ _=>fun hF=>nd hF fun hl2 hF=>sR Q<|QB 0 hl2 Q<|jS (hT:=tok) () [0] hF Q Tryz.results282 Q Q Q Q
theorem X8{a_:aJ}{k:Int}{s1:AC}:VS Tryz.prog κ 166 (BO a_ k) [.g [I a_.aM,.h s1 a_.bD.length],I k] [] [ow s1 (a_.bD:List fO)] (fun(r:Int×(List fO)) (y:Unit)=>I r.1) (fun(r:Int×(List fO)) (y:Unit)=>[.o (dB [AC.v s1 a_.bD.length] r.2)]):=
 bR tok Tryz.call166 Tryz.func166 Tryz.results166 Q Q<|gW [0] Q Q Q Q (fun _=>aAV) fun x1 _=>fun hF=>un 2 [6] [(0,1)] [(1,1)] Q Q Q Q Q Q fun hl1=>sR Q<|QB 2 hl1 Q<|jS (hT:=tok) () [2] hF Q Tryz.results166 Q Q Q Q
theorem X9{a_:List bM}{k:Int}{s1:AC}:VS Tryz.prog κ 283 (BP a_ k) [.h s1 a_.length,I k] [] [ow s1 (a_:List bM)] (fun(r:Int×(List bM)) (y:Unit)=>I r.1) (fun(r:Int×(List bM)) (y:Unit)=>[.o (dB [AC.v s1 a_.length] r.2)]):=
 bR tok Tryz.call283 Tryz.func283 Tryz.results283 Q Q<|CK () [] (fun(p:(List bM)×Int×Int) (_:Unit)=>[(0,.h s1 p.1.length),(1,I p.2.1),(5,I p.2.2)]) [0] [] (fun p _=>[ow s1 (p.1:List bM)]) id [] (fun(p:(List bM)×Int) (_:Unit)=>[(0,.h s1 p.1.length),(1,I p.2)]) [] (fun p _=>[ow s1 (p.1:List bM)]) Q Q (fun hF1 ⟨x4,x5,x6⟩ _ hr1=>fun hG1=>nd hG1 fun hl3 hG1=>wi hG1<|aV [9] Q Q (i7 l6 0 Q Q Q fun x9 h1 _ h2=>fun hG1=>eB 0 h2 h1 Q Q Q Q Q<|eB 0 h2 h1 Q Q Q Q Q<|sF Q<|iN l6 1 [] [0,7,12,19] (⟨x5,aE (x5+1)⟩:bM) () Q Q Q Q Q Q Q Q<|nxR () [4] hG1 Q)<|mL [0] Q) fun⟨x7,x8⟩ _=>fun hF=>nd hF fun hl2 hF=>sR Q<|QB 0 hl2 Q<|jS (hT:=tok) () [0] hF Q Tryz.results283 Q Q Q Q
theorem WD{a_:List aO}{k:Int}{s1:AC}:VS Tryz.prog κ 167 (yN a_ k) [.h s1 a_.length,I k] [] [ow s1 (a_:List aO)] (fun(r:Int×(List aO)) (y:Unit)=>I r.1) (fun(r:Int×(List aO)) (y:Unit)=>[.o (dB [AC.v s1 a_.length] r.2)]):=
 bR tok Tryz.call167 Tryz.func167 Tryz.results167 Q Q<|CK () [] (fun(p:(List aO)×Int×Int) (_:Unit)=>[(0,.h s1 p.1.length),(1,I p.2.1),(5,I p.2.2)]) [0] [] (fun p _=>[ow s1 (p.1:List aO)]) id [] (fun(p:(List aO)×Int) (_:Unit)=>[(0,.h s1 p.1.length),(1,I p.2)]) [] (fun p _=>[ow s1 (p.1:List aO)]) Q Q (fun hF1 ⟨x4,x5,x6⟩ _ hr1=>fun hG1=>nd hG1 fun hl3 hG1=>wi hG1<|aV [9] Q Q (i7 gU 0 Q Q Q fun x9 h1 s2 h2=>fun hG1=>eB 0 h2 h1 Q Q Q Q Q<|wi hG1<|gW [4] Q Q Q Q (fun _=>X9) fun x10 _=>fun hG1=>un 5 [16] [] [(2,0)] Q Q Q Q Q Q fun hl4=>sF Q<|iN gU 1 [5] [0,7,12] (⟨x10.2⟩:aO) s2 Q Q Q Q Q Q Q Q<|nxR () [6] hG1 Q)<|mL [0] Q) fun⟨x7,x8⟩ _=>fun hF=>nd hF fun hl2 hF=>sR Q<|QB 0 hl2 Q<|jS (hT:=tok) () [0] hF Q Tryz.results167 Q Q Q Q
theorem aAW{a_:aD}{k:Int}{s1 s2 s3 s4 s5 s6 s7:AC}:VS Tryz.prog κ 83 (D4 a_ k) [.g (gB a_ s1 s2 s3 s4 s5 s6 s7),I k] [] (oB a_ s1 s2 s3 s4 s5 s6 s7 []) (fun(r:Int×(List Int)×(List Int)×(List aH)×(List aH)×(List fO)×(List aO)×(List Int)) (y:Unit)=>I r.1) (fun(r:Int×(List Int)×(List Int)×(List aH)×(List aH)×(List fO)×(List aO)×(List Int)) (y:Unit)=>[.o (dB [AC.v s1 a_.Mem.aG.Bytes.length] r.2.1),.o (dB [AC.v s2 a_.Mem.aG.Class.length] r.2.2.1),.o (dB [AC.v s3 a_.Mem.aA.Global.length] r.2.2.2.1),.o (dB [AC.v s4 a_.Mem.aA.bQ.length] r.2.2.2.2.1),.o (dB [AC.v s5 a_.aJ.bD.length] r.2.2.2.2.2.1),.o (dB [AC.v s6 a_.aX.length] r.2.2.2.2.2.2.1),.o (dB [AC.v s7 a_.jQ.length] r.2.2.2.2.2.2.2)]):=
 bR tok Tryz.call83 Tryz.func83 Tryz.results83 Q Q<|gW [0,1,2,3] Q Q Q Q (fun _=>aEX) fun x1 _=>fun hF=>un 8 [] [(0,0),(6,0)] [(7,0)] Q Q Q Q Q Q fun hl1=>fG Q Q<|un 9 [] [(0,1),(6,1)] [(7,1)] Q Q Q Q Q Q fun hl2=>fG Q Q<|un 10 [] [(0,2),(6,2)] [(7,2)] Q Q Q Q Q Q fun hl3=>fG Q Q<|un 11 [] [(0,3),(6,3)] [(7,3)] Q Q Q Q Q Q fun hl4=>fG Q Q<|wi hF<|gW [4] Q Q Q Q (fun _=>X8) fun x2 _=>fun hF=>un 12 [] [(0,5),(10,1)] [(7,5)] Q Q Q Q Q Q fun hl5=>wi hF<|gW [5] Q Q Q Q (fun _=>WD) fun x3 _=>fun hF=>un 13 [14] [(0,6)] [(7,6)] Q Q Q Q Q Q fun hl6=>wi hF<|gW [6] Q Q Q Q (fun _=>rJ) fun x4 _=>fun hF=>un 14 [18] [(0,7)] [(7,7)] Q Q Q Q Q Q fun hl7=>sR Q<|QB 8 hl1 Q<|QB 9 hl2 Q<|QB 10 hl3 Q<|QB 11 hl4 Q<|QB 12 hl5 Q<|QB 13 hl6 Q<|QB 14 hl7 Q<|jS (hT:=tok) () [8,9,10,11,12,13,14] hF Q Tryz.results83 Q Q Q Q
theorem aAX{a_:List bW}{k:Int}{s1:AC}:VS Tryz.prog κ 85 (D5 a_ k) [.h s1 a_.length,I k] [] [ow s1 (a_:List bW)] (fun(r:Int×(List bW)) (y:Unit)=>I r.1) (fun(r:Int×(List bW)) (y:Unit)=>[.o (dB [AC.v s1 a_.length] r.2)]):=
 bR tok Tryz.call85 Tryz.func85 Tryz.results85 Q Q<|CK () [] (fun(p:(List bW)×Int×Int) (_:Unit)=>[(0,.h s1 p.1.length),(1,I p.2.1),(5,I p.2.2)]) [0] [] (fun p _=>[ow s1 (p.1:List bW)]) id [] (fun(p:(List bW)×Int) (_:Unit)=>[(0,.h s1 p.1.length),(1,I p.2)]) [] (fun p _=>[ow s1 (p.1:List bW)]) Q Q (fun hF1 ⟨x4,x5,x6⟩ _ hr1=>fun hG1=>nd hG1 fun hl3 hG1=>wi hG1<|aV [9] Q Q (i7 bT 0 Q Q Q fun x9 h1 _ h2=>fun hG1=>eB 0 h2 h1 Q Q Q Q Q<|eB 0 h2 h1 Q Q Q Q Q<|eB 0 h2 h1 Q Q Q Q Q<|eB 0 h2 h1 Q Q Q Q Q<|eB 0 h2 h1 Q Q Q Q Q<|eB 0 h2 h1 Q Q Q Q Q<|eB 0 h2 h1 Q Q Q Q Q<|eB 0 h2 h1 Q Q Q Q Q<|eB 0 h2 h1 Q Q Q Q Q<|eB 0 h2 h1 Q Q Q Q Q<|eB 0 h2 h1 Q Q Q Q Q<|eB 0 h2 h1 Q Q Q Q Q<|eB 0 h2 h1 Q Q Q Q Q<|eB 0 h2 h1 Q Q Q Q Q<|eB 0 h2 h1 Q Q Q Q Q<|eB 0 h2 h1 Q Q Q Q Q<|eB 0 h2 h1 Q Q Q Q Q<|eB 0 h2 h1 Q Q Q Q Q<|eB 0 h2 h1 Q Q Q Q Q<|eB 0 h2 h1 Q Q Q Q Q<|eB 0 h2 h1 Q Q Q Q Q<|sF Q<|iN bT 1 [] [0,7,12,21,29,37,45,53,60,67,75,83,91,99,107,115,123,131,139,149,156,163,170] (⟨(Int.tmod x5 3) == 0,(⟨aE (x5+1),aE ((aE (x5+1))+1),aE ((aE ((aE (x5+1))+1))+1),aE ((aE ((aE ((aE (x5+1))+1))+1))+1)⟩:dP),aE ((aE ((aE ((aE ((aE (x5+1))+1))+1))+1))+1),aE ((aE ((aE ((aE ((aE ((aE (x5+1))+1))+1))+1))+1))+1),(⟨aE ((aE ((aE ((aE ((aE ((aE ((aE (x5+1))+1))+1))+1))+1))+1))+1),aE ((aE ((aE ((aE ((aE ((aE ((aE ((aE (x5+1))+1))+1))+1))+1))+1))+1))+1),aE ((aE ((aE ((aE ((aE ((aE ((aE ((aE ((aE (x5+1))+1))+1))+1))+1))+1))+1))+1))+1),aE ((aE ((aE ((aE ((aE ((aE ((aE ((aE ((aE ((aE (x5+1))+1))+1))+1))+1))+1))+1))+1))+1))+1),aE ((aE ((aE ((aE ((aE ((aE ((aE ((aE ((aE ((aE ((aE (x5+1))+1))+1))+1))+1))+1))+1))+1))+1))+1))+1),aE ((aE ((aE ((aE ((aE ((aE ((aE ((aE ((aE ((aE ((aE ((aE (x5+1))+1))+1))+1))+1))+1))+1))+1))+1))+1))+1))+1),aE ((aE ((aE ((aE ((aE ((aE ((aE ((aE ((aE ((aE ((aE ((aE ((aE (x5+1))+1))+1))+1))+1))+1))+1))+1))+1))+1))+1))+1))+1),aE ((aE ((aE ((aE ((aE ((aE ((aE ((aE ((aE ((aE ((aE ((aE ((aE ((aE (x5+1))+1))+1))+1))+1))+1))+1))+1))+1))+1))+1))+1))+1))+1),aE ((aE ((aE ((aE ((aE ((aE ((aE ((aE ((aE ((aE ((aE ((aE ((aE ((aE ((aE (x5+1))+1))+1))+1))+1))+1))+1))+1))+1))+1))+1))+1))+1))+1))+1),(Int.tmod (aE ((aE ((aE ((aE ((aE ((aE ((aE ((aE ((aE ((aE ((aE ((aE ((aE ((aE ((aE ((aE (x5+1))+1))+1))+1))+1))+1))+1))+1))+1))+1))+1))+1))+1))+1))+1))+1)) 3) == 0⟩:Sub),aE ((aE ((aE ((aE ((aE ((aE ((aE ((aE ((aE ((aE ((aE ((aE ((aE ((aE ((aE ((aE ((aE (x5+1))+1))+1))+1))+1))+1))+1))+1))+1))+1))+1))+1))+1))+1))+1))+1))+1),aE ((aE ((aE ((aE ((aE ((aE ((aE ((aE ((aE ((aE ((aE ((aE ((aE ((aE ((aE ((aE ((aE ((aE (x5+1))+1))+1))+1))+1))+1))+1))+1))+1))+1))+1))+1))+1))+1))+1))+1))+1))+1),aE ((aE ((aE ((aE ((aE ((aE ((aE ((aE ((aE ((aE ((aE ((aE ((aE ((aE ((aE ((aE ((aE ((aE ((aE (x5+1))+1))+1))+1))+1))+1))+1))+1))+1))+1))+1))+1))+1))+1))+1))+1))+1))+1))+1),aE ((aE ((aE ((aE ((aE ((aE ((aE ((aE ((aE ((aE ((aE ((aE ((aE ((aE ((aE ((aE ((aE ((aE ((aE ((aE (x5+1))+1))+1))+1))+1))+1))+1))+1))+1))+1))+1))+1))+1))+1))+1))+1))+1))+1))+1))+1)⟩:bW) () Q Q Q Q Q Q Q Q<|nxR () [4] hG1 Q)<|mL [0] Q) fun⟨x7,x8⟩ _=>fun hF=>nd hF fun hl2 hF=>sR Q<|QB 0 hl2 Q<|jS (hT:=tok) () [0] hF Q Tryz.results85 Q Q Q Q
theorem aEY{a_:List dP}{k:Int}{s1:AC}:VS Tryz.prog κ 168 (HB a_ k) [.h s1 a_.length,I k] [] [ow s1 (a_:List dP)] (fun(r:Int×(List dP)) (y:Unit)=>I r.1) (fun(r:Int×(List dP)) (y:Unit)=>[.o (dB [AC.v s1 a_.length] r.2)]):=
 bR tok Tryz.call168 Tryz.func168 Tryz.results168 Q Q<|CK () [] (fun(p:(List dP)×Int×Int) (_:Unit)=>[(0,.h s1 p.1.length),(1,I p.2.1),(5,I p.2.2)]) [0] [] (fun p _=>[ow s1 (p.1:List dP)]) id [] (fun(p:(List dP)×Int) (_:Unit)=>[(0,.h s1 p.1.length),(1,I p.2)]) [] (fun p _=>[ow s1 (p.1:List dP)]) Q Q (fun hF1 ⟨x4,x5,x6⟩ _ hr1=>fun hG1=>nd hG1 fun hl3 hG1=>wi hG1<|aV [9] Q Q (i7 Z8 0 Q Q Q fun x9 h1 _ h2=>fun hG1=>eB 0 h2 h1 Q Q Q Q Q<|eB 0 h2 h1 Q Q Q Q Q<|eB 0 h2 h1 Q Q Q Q Q<|eB 0 h2 h1 Q Q Q Q Q<|sF Q<|iN Z8 1 [] [0,7,12,19,26,33] (⟨x5,aE (x5+1),aE ((aE (x5+1))+1),aE ((aE ((aE (x5+1))+1))+1)⟩:dP) () Q Q Q Q Q Q Q Q<|nxR () [4] hG1 Q)<|mL [0] Q) fun⟨x7,x8⟩ _=>fun hF=>nd hF fun hl2 hF=>sR Q<|QB 0 hl2 Q<|jS (hT:=tok) () [0] hF Q Tryz.results168 Q Q Q Q
theorem WE{a_:List Queue}{k:Int}{s1:AC}:VS Tryz.prog κ 86 (yP a_ k) [.h s1 a_.length,I k] [] [ow s1 (a_:List Queue)] (fun(r:Int×(List Queue)) (y:Unit)=>I r.1) (fun(r:Int×(List Queue)) (y:Unit)=>[.o (dB [AC.v s1 a_.length] r.2)]):=
 bR tok Tryz.call86 Tryz.func86 Tryz.results86 Q Q<|CK () [] (fun(p:(List Queue)×Int×Int) (_:Unit)=>[(0,.h s1 p.1.length),(1,I p.2.1),(5,I p.2.2)]) [0] [] (fun p _=>[ow s1 (p.1:List Queue)]) id [] (fun(p:(List Queue)×Int) (_:Unit)=>[(0,.h s1 p.1.length),(1,I p.2)]) [] (fun p _=>[ow s1 (p.1:List Queue)]) Q Q (fun hF1 ⟨x4,x5,x6⟩ _ hr1=>fun hG1=>nd hG1 fun hl3 hG1=>wi hG1<|aV [9] Q Q (i7 i9 0 Q Q Q fun x9 h1 s2 h2=>fun hG1=>eB 0 h2 h1 Q Q Q Q Q<|wi hG1<|gW [4] Q Q Q Q (fun _=>aEY) fun x10 _=>fun hG1=>un 5 [16] [] [(2,0)] Q Q Q Q Q Q fun hl4=>sF Q<|iN i9 1 [5] [0,7,12] (⟨x10.2⟩:Queue) s2 Q Q Q Q Q Q Q Q<|nxR () [6] hG1 Q)<|mL [0] Q) fun⟨x7,x8⟩ _=>fun hF=>nd hF fun hl2 hF=>sR Q<|QB 0 hl2 Q<|jS (hT:=tok) () [0] hF Q Tryz.results86 Q Q Q Q
theorem aEZ{a_:List Ev}{k:Int}{s1:AC}:VS Tryz.prog κ 87 (HC a_ k) [.h s1 a_.length,I k] [] [ow s1 (a_:List Ev)] (fun(r:Int×(List Ev)) (y:Unit)=>I r.1) (fun(r:Int×(List Ev)) (y:Unit)=>[.o (dB [AC.v s1 a_.length] r.2)]):=
 bR tok Tryz.call87 Tryz.func87 Tryz.results87 Q Q<|CK () [] (fun(p:(List Ev)×Int×Int) (_:Unit)=>[(0,.h s1 p.1.length),(1,I p.2.1),(5,I p.2.2)]) [0] [] (fun p _=>[ow s1 (p.1:List Ev)]) id [] (fun(p:(List Ev)×Int) (_:Unit)=>[(0,.h s1 p.1.length),(1,I p.2)]) [] (fun p _=>[ow s1 (p.1:List Ev)]) Q Q (fun hF1 ⟨x4,x5,x6⟩ _ hr1=>fun hG1=>nd hG1 fun hl3 hG1=>wi hG1<|aV [9] Q Q (i7 oEv 0 Q Q Q fun x9 h1 _ h2=>fun hG1=>eB 0 h2 h1 Q Q Q Q Q<|eB 0 h2 h1 Q Q Q Q Q<|eB 0 h2 h1 Q Q Q Q Q<|eB 0 h2 h1 Q Q Q Q Q<|eB 0 h2 h1 Q Q Q Q Q<|eB 0 h2 h1 Q Q Q Q Q<|eB 0 h2 h1 Q Q Q Q Q<|sF Q<|iN oEv 1 [] [0,7,12,19,26,33,40,47,54] (⟨x5,aE (x5+1),aE ((aE (x5+1))+1),aE ((aE ((aE (x5+1))+1))+1),aE ((aE ((aE ((aE (x5+1))+1))+1))+1),aE ((aE ((aE ((aE ((aE (x5+1))+1))+1))+1))+1),aE ((aE ((aE ((aE ((aE ((aE (x5+1))+1))+1))+1))+1))+1)⟩:Ev) () Q Q Q Q Q Q Q Q<|nxR () [4] hG1 Q)<|mL [0] Q) fun⟨x7,x8⟩ _=>fun hF=>nd hF fun hl2 hF=>sR Q<|QB 0 hl2 Q<|jS (hT:=tok) () [0] hF Q Tryz.results87 Q Q Q Q
theorem NF{a_:aC}{k:Int}{s1 s2 s3 s4 s5 s6 s7 s8 s9 s10 s11:AC}:VS Tryz.prog κ 18 (jO a_ k) [.g (gS a_ s1 s2 s3 s4 s5 s6 s7 s8 s9 s10 s11),I k] [] (oS a_ s1 s2 s3 s4 s5 s6 s7 s8 s9 s10 s11 []) (fun(r:Int×(List Int)×(List Int)×(List aH)×(List aH)×(List fO)×(List aO)×(List Int)×(List Int)×(List bW)×(List Queue)×(List Ev)) (y:Unit)=>I r.1) (fun(r:Int×(List Int)×(List Int)×(List aH)×(List aH)×(List fO)×(List aO)×(List Int)×(List Int)×(List bW)×(List Queue)×(List Ev)) (y:Unit)=>[.o (dB [AC.v s1 a_.aD.Mem.aG.Bytes.length] r.2.1),.o (dB [AC.v s2 a_.aD.Mem.aG.Class.length] r.2.2.1),.o (dB [AC.v s3 a_.aD.Mem.aA.Global.length] r.2.2.2.1),.o (dB [AC.v s4 a_.aD.Mem.aA.bQ.length] r.2.2.2.2.1),.o (dB [AC.v s5 a_.aD.aJ.bD.length] r.2.2.2.2.2.1),.o (dB [AC.v s6 a_.aD.aX.length] r.2.2.2.2.2.2.1),.o (dB [AC.v s7 a_.aD.jQ.length] r.2.2.2.2.2.2.2.1),.o (dB [AC.v s8 a_.Cells.length] r.2.2.2.2.2.2.2.2.1),.o (dB [AC.v s9 a_.aW.length] r.2.2.2.2.2.2.2.2.2.1),.o (dB [AC.v s10 a_.cG.length] r.2.2.2.2.2.2.2.2.2.2.1),.o (dB [AC.v s11 a_.Log.length] r.2.2.2.2.2.2.2.2.2.2.2)]):=
 bR tok Tryz.call18 Tryz.func18 Tryz.results18 Q Q<|gW [0,1,2,3,4,5,6] Q Q Q Q (fun _=>aAW) fun x1 _=>fun hF=>un 12 [] [(0,0),(6,0)] [(11,0)] Q Q Q Q Q Q fun hl1=>fG Q Q<|un 13 [] [(0,1),(6,1)] [(11,1)] Q Q Q Q Q Q fun hl2=>fG Q Q<|un 14 [] [(0,2),(6,2)] [(11,2)] Q Q Q Q Q Q fun hl3=>fG Q Q<|un 15 [] [(0,3),(6,3)] [(11,3)] Q Q Q Q Q Q fun hl4=>fG Q Q<|un 16 [] [(0,5),(6,5)] [(11,5)] Q Q Q Q Q Q fun hl5=>fG Q Q<|un 17 [] [(0,6),(6,6)] [(11,6)] Q Q Q Q Q Q fun hl6=>fG Q Q<|un 18 [] [(0,7),(6,7)] [(11,7)] Q Q Q Q Q Q fun hl7=>fG Q Q<|wi hF<|gW [7] Q Q Q Q (fun _=>rJ) fun x2 _=>fun hF=>un 19 [10] [(0,8)] [(11,8)] Q Q Q Q Q Q fun hl8=>wi hF<|gW [8] Q Q Q Q (fun _=>aAX) fun x3 _=>fun hF=>un 20 [14] [(0,9)] [(11,9)] Q Q Q Q Q Q fun hl9=>wi hF<|gW [9] Q Q Q Q (fun _=>WE) fun x4 _=>fun hF=>un 21 [18] [(0,10)] [(11,10)] Q Q Q Q Q Q fun hl10=>wi hF<|gW [10] Q Q Q Q (fun _=>aEZ) fun x5 _=>fun hF=>un 22 [22] [(0,11)] [(11,11)] Q Q Q Q Q Q fun hl11=>sR Q<|QB 12 hl1 Q<|QB 13 hl2 Q<|QB 14 hl3 Q<|QB 15 hl4 Q<|QB 16 hl5 Q<|QB 17 hl6 Q<|QB 18 hl7 Q<|QB 19 hl8 Q<|QB 20 hl9 Q<|QB 21 hl10 Q<|QB 22 hl11 Q<|jS (hT:=tok) () [12,13,14,15,16,17,18,19,20,21,22] hF Q Tryz.results18 Q Q Q Q
theorem rK{a_:List Int}{k:Int}{s1:AC}(h1:aT κ s1 a_):V0 Tryz.prog κ 89 (iF a_ k) [.h s1 a_.length,I k] I:=
 bR tok Tryz.call89 Tryz.func89 Tryz.results89 Q Q<|CK () [0] (fun(p:Int×Int) (_:Unit)=>[(1,I p.1),(5,I p.2)]) [] [] (fun p _=>[]) Out.brk [] (fun(x5:Int) (_:Unit)=>[(1,I x5)]) [] (fun x5 _=>[]) Q Q (fun hF1 ⟨x3,x4⟩ _ hr1=>aV [9] Q Q (SJ Q h1 Q fun x6=>aV [17] Q Q (lK hr1 hF1<|aZ Q Q)<|vP [] Q)<|mL [] Q) fun x5 _=>aZ Q Q
theorem aAY{a_:aG}{k:Int}{s1 s2:AC}(h1:aT κ s1 a_.Bytes)(h2:aT κ s2 a_.Class):V0 Tryz.prog κ 284 (D6 a_ k) [.g [.h s1 a_.Bytes.length,.h s2 a_.Class.length],I k] I:=
 bR tok Tryz.call284 Tryz.func284 Tryz.results284 Q Q<|c0 Q (fun h=>rK (h.a h1)) fun x1=>aV [10] Q Q (aZ Q Q)<|c0 Q (fun h=>rK (h.a h2)) fun x2=>aV [16] Q Q (aZ Q Q)<|aZ Q Q
theorem KY{a_:List aH}{k:Int}{s1:AC}(h1:aT κ s1 a_):V0 Tryz.prog κ 388 (rI a_ k) [.h s1 a_.length,I k] I:=
 bR tok Tryz.call388 Tryz.func388 Tryz.results388 Q Q<|CK () [0] (fun(p:Int×Int) (_:Unit)=>[(1,I p.1),(5,I p.2)]) [] [] (fun p _=>[]) Out.brk [] (fun(x5:Int) (_:Unit)=>[(1,I x5)]) [] (fun x5 _=>[]) Q Q (fun hF1 ⟨x3,x4⟩ _ hr1=>aV [9] Q Q (jT qP Q h1 Q fun x6 s2 h2=>c0 Q (fun h=>rK (h.a h2)) fun x7=>aV [20] Q Q (lK hr1 hF1<|aZ Q Q)<|vP [] Q)<|mL [] Q) fun x5 _=>aZ Q Q
theorem YA{a_:aA}{k:Int}{s1 s2:AC}(h1:aT κ s1 a_.Global)(h2:aT κ s2 a_.bQ):V0 Tryz.prog κ 285 (BQ a_ k) [.g [.h s1 a_.Global.length,.h s2 a_.bQ.length],I k] I:=
 bR tok Tryz.call285 Tryz.func285 Tryz.results285 Q Q<|c0 Q (fun h=>KY (h.a h1)) fun x1=>aV [10] Q Q (aZ Q Q)<|c0 Q (fun h=>KY (h.a h2)) fun x2=>aV [16] Q Q (aZ Q Q)<|aZ Q Q
theorem aE0{a_:Mem}{k:Int}{s1 s2 s3 s4:AC}(h1:aT κ s1 a_.aG.Bytes)(h2:aT κ s2 a_.aG.Class)(h3:aT κ s3 a_.aA.Global)(h4:aT κ s4 a_.aA.bQ):V0 Tryz.prog κ 169 (HD a_ k) [.g (gM a_ s1 s2 s3 s4),I k] I:=
 bR tok Tryz.call169 Tryz.func169 Tryz.results169 Q Q<|c0 Q (fun h=>aAY (h.a h1) (h.a h2)) fun x1=>aV [10] Q Q (aZ Q Q)<|c0 Q (fun h=>YA (h.a h3) (h.a h4)) fun x2=>aV [16] Q Q (aZ Q Q)<|aZ Q Q
theorem aAZ{a_:List fO}{k:Int}{s1:AC}(h1:aT κ s1 a_):V0 Tryz.prog κ 286 (D7 a_ k) [.h s1 a_.length,I k] I:=
 bR tok Tryz.call286 Tryz.func286 Tryz.results286 Q Q<|CK () [0] (fun(p:Int×Int) (_:Unit)=>[(1,I p.1),(5,I p.2)]) [] [] (fun p _=>[]) Out.brk [] (fun(x5:Int) (_:Unit)=>[(1,I x5)]) [] (fun x5 _=>[]) Q Q (fun hF1 ⟨x3,x4⟩ _ hr1=>aV [9] Q Q (jT SW Q h1 Q fun x6 _ _=>aV [20] Q Q (lK hr1 hF1<|aZ Q Q)<|jT SW Q h1 Q fun x7 _ _=>aV [29] Q Q (lK hr1 hF1<|aZ Q Q)<|jT SW Q h1 Q fun x8 _ _=>aV [40] Q Q (lK hr1 hF1<|aZ Q Q)<|jT SW Q h1 Q fun x9 _ _=>aV [49] Q Q (lK hr1 hF1<|aZ Q Q)<|vP [] Q)<|mL [] Q) fun x5 _=>aZ Q Q
theorem YB{a_:aJ}{k:Int}{s1:AC}(h1:aT κ s1 a_.bD):V0 Tryz.prog κ 170 (BR a_ k) [.g [I a_.aM,.h s1 a_.bD.length],I k] I:=
 bR tok Tryz.call170 Tryz.func170 Tryz.results170 Q Q<|c0 Q (fun h=>aAZ (h.a h1)) fun x1=>aV [10] Q Q (aZ Q Q)<|aZ Q Q
theorem YC{a_:List bM}{k:Int}{s1:AC}(h1:aT κ s1 a_):V0 Tryz.prog κ 287 (pE a_ k) [.h s1 a_.length,I k] I:=
 bR tok Tryz.call287 Tryz.func287 Tryz.results287 Q Q<|CK () [0] (fun(p:Int×Int) (_:Unit)=>[(1,I p.1),(5,I p.2)]) [] [] (fun p _=>[]) Out.brk [] (fun(x5:Int) (_:Unit)=>[(1,I x5)]) [] (fun x5 _=>[]) Q Q (fun hF1 ⟨x3,x4⟩ _ hr1=>aV [9] Q Q (jT TN Q h1 Q fun x6 _ _=>aV [18] Q Q (lK hr1 hF1<|aZ Q Q)<|jT TN Q h1 Q fun x7 _ _=>aV [27] Q Q (lK hr1 hF1<|aZ Q Q)<|vP [] Q)<|mL [] Q) fun x5 _=>aZ Q Q
theorem WG{a_:List aO}{k:Int}{s1:AC}(h1:aT κ s1 a_):V0 Tryz.prog κ 171 (yR a_ k) [.h s1 a_.length,I k] I:=
 bR tok Tryz.call171 Tryz.func171 Tryz.results171 Q Q<|CK () [0] (fun(p:Int×Int) (_:Unit)=>[(1,I p.1),(5,I p.2)]) [] [] (fun p _=>[]) Out.brk [] (fun(x5:Int) (_:Unit)=>[(1,I x5)]) [] (fun x5 _=>[]) Q Q (fun hF1 ⟨x3,x4⟩ _ hr1=>aV [9] Q Q (jT C4 Q h1 Q fun x6 s2 h2=>c0 Q (fun h=>YC (h.a h2)) fun x7=>aV [20] Q Q (lK hr1 hF1<|aZ Q Q)<|vP [] Q)<|mL [] Q) fun x5 _=>aZ Q Q
theorem aA0{a_:aD}{k:Int}{s1 s2 s3 s4 s5 s6 s7:AC}(h1:aT κ s1 a_.Mem.aG.Bytes)(h2:aT κ s2 a_.Mem.aG.Class)(h3:aT κ s3 a_.Mem.aA.Global)(h4:aT κ s4 a_.Mem.aA.bQ)(h5:aT κ s5 a_.aJ.bD)(h6:aT κ s6 a_.aX)(h7:aT κ s7 a_.jQ):V0 Tryz.prog κ 88 (D8 a_ k) [.g (gB a_ s1 s2 s3 s4 s5 s6 s7),I k] I:=
 bR tok Tryz.call88 Tryz.func88 Tryz.results88 Q Q<|c0 Q (fun h=>aE0 (h.a h1) (h.a h2) (h.a h3) (h.a h4)) fun x1=>aV [10] Q Q (aZ Q Q)<|c0 Q (fun h=>YB (h.a h5)) fun x2=>aV [16] Q Q (aZ Q Q)<|c0 Q (fun h=>WG (h.a h6)) fun x3=>aV [22] Q Q (aZ Q Q)<|c0 Q (fun h=>rK (h.a h7)) fun x4=>aV [28] Q Q (aZ Q Q)<|aZ Q Q
theorem aA1{a_:List bW}{k:Int}{s1:AC}(h1:aT κ s1 a_):V0 Tryz.prog κ 90 (D9 a_ k) [.h s1 a_.length,I k] I:=
 bR tok Tryz.call90 Tryz.func90 Tryz.results90 Q Q<|CK () [0] (fun(p:Int×Int) (_:Unit)=>[(1,I p.1),(5,I p.2)]) [] [] (fun p _=>[]) Out.brk [] (fun(x5:Int) (_:Unit)=>[(1,I x5)]) [] (fun x5 _=>[]) Q Q (fun hF1 ⟨x3,x4⟩ _ hr1=>aV [9] Q Q (jT z5 Q h1 Q fun x6 _ _=>aV [20] Q Q (lK hr1 hF1<|aZ Q Q)<|jT z5 Q h1 Q fun x7 _ _=>aV [30] Q Q (lK hr1 hF1<|aZ Q Q)<|jT z5 Q h1 Q fun x8 _ _=>aV [40] Q Q (lK hr1 hF1<|aZ Q Q)<|jT z5 Q h1 Q fun x9 _ _=>aV [50] Q Q (lK hr1 hF1<|aZ Q Q)<|jT z5 Q h1 Q fun x10 _ _=>aV [60] Q Q (lK hr1 hF1<|aZ Q Q)<|jT z5 Q h1 Q fun x11 _ _=>aV [69] Q Q (lK hr1 hF1<|aZ Q Q)<|jT z5 Q h1 Q fun x12 _ _=>aV [78] Q Q (lK hr1 hF1<|aZ Q Q)<|jT z5 Q h1 Q fun x13 _ _=>aV [88] Q Q (lK hr1 hF1<|aZ Q Q)<|jT z5 Q h1 Q fun x14 _ _=>aV [98] Q Q (lK hr1 hF1<|aZ Q Q)<|jT z5 Q h1 Q fun x15 _ _=>aV [108] Q Q (lK hr1 hF1<|aZ Q Q)<|jT z5 Q h1 Q fun x16 _ _=>aV [118] Q Q (lK hr1 hF1<|aZ Q Q)<|jT z5 Q h1 Q fun x17 _ _=>aV [128] Q Q (lK hr1 hF1<|aZ Q Q)<|jT z5 Q h1 Q fun x18 _ _=>aV [138] Q Q (lK hr1 hF1<|aZ Q Q)<|jT z5 Q h1 Q fun x19 _ _=>aV [148] Q Q (lK hr1 hF1<|aZ Q Q)<|jT z5 Q h1 Q fun x20 _ _=>aV [158] Q Q (lK hr1 hF1<|aZ Q Q)<|jT z5 Q h1 Q fun x21 _ _=>aV [168] Q Q (lK hr1 hF1<|aZ Q Q)<|jT z5 Q h1 Q fun x22 _ _=>aV [180] Q Q (lK hr1 hF1<|aZ Q Q)<|jT z5 Q h1 Q fun x23 _ _=>aV [189] Q Q (lK hr1 hF1<|aZ Q Q)<|jT z5 Q h1 Q fun x24 _ _=>aV [198] Q Q (lK hr1 hF1<|aZ Q Q)<|jT z5 Q h1 Q fun x25 _ _=>aV [207] Q Q (lK hr1 hF1<|aZ Q Q)<|jT z5 Q h1 Q fun x26 _ _=>aV [216] Q Q (lK hr1 hF1<|aZ Q Q)<|vP [] Q)<|mL [] Q) fun x5 _=>aZ Q Q
theorem aE1{a_:List dP}{k:Int}{s1:AC}(h1:aT κ s1 a_):V0 Tryz.prog κ 172 (vL a_ k) [.h s1 a_.length,I k] I:=
 bR tok Tryz.call172 Tryz.func172 Tryz.results172 Q Q<|CK () [0] (fun(p:Int×Int) (_:Unit)=>[(1,I p.1),(5,I p.2)]) [] [] (fun p _=>[]) Out.brk [] (fun(x5:Int) (_:Unit)=>[(1,I x5)]) [] (fun x5 _=>[]) Q Q (fun hF1 ⟨x3,x4⟩ _ hr1=>aV [9] Q Q (jT Z7 Q h1 Q fun x6 _ _=>aV [18] Q Q (lK hr1 hF1<|aZ Q Q)<|jT Z7 Q h1 Q fun x7 _ _=>aV [27] Q Q (lK hr1 hF1<|aZ Q Q)<|jT Z7 Q h1 Q fun x8 _ _=>aV [36] Q Q (lK hr1 hF1<|aZ Q Q)<|jT Z7 Q h1 Q fun x9 _ _=>aV [45] Q Q (lK hr1 hF1<|aZ Q Q)<|vP [] Q)<|mL [] Q) fun x5 _=>aZ Q Q
theorem WH{a_:List Queue}{k:Int}{s1:AC}(h1:aT κ s1 a_):V0 Tryz.prog κ 91 (yT a_ k) [.h s1 a_.length,I k] I:=
 bR tok Tryz.call91 Tryz.func91 Tryz.results91 Q Q<|CK () [0] (fun(p:Int×Int) (_:Unit)=>[(1,I p.1),(5,I p.2)]) [] [] (fun p _=>[]) Out.brk [] (fun(x5:Int) (_:Unit)=>[(1,I x5)]) [] (fun x5 _=>[]) Q Q (fun hF1 ⟨x3,x4⟩ _ hr1=>aV [9] Q Q (jT zJ Q h1 Q fun x6 s2 h2=>c0 Q (fun h=>aE1 (h.a h2)) fun x7=>aV [20] Q Q (lK hr1 hF1<|aZ Q Q)<|vP [] Q)<|mL [] Q) fun x5 _=>aZ Q Q
theorem aE2{a_:List Ev}{k:Int}{s1:AC}(h1:aT κ s1 a_):V0 Tryz.prog κ 92 (HE a_ k) [.h s1 a_.length,I k] I:=
 bR tok Tryz.call92 Tryz.func92 Tryz.results92 Q Q<|CK () [0] (fun(p:Int×Int) (_:Unit)=>[(1,I p.1),(5,I p.2)]) [] [] (fun p _=>[]) Out.brk [] (fun(x5:Int) (_:Unit)=>[(1,I x5)]) [] (fun x5 _=>[]) Q Q (fun hF1 ⟨x3,x4⟩ _ hr1=>aV [9] Q Q (jT cEv Q h1 Q fun x6 _ _=>aV [18] Q Q (lK hr1 hF1<|aZ Q Q)<|jT cEv Q h1 Q fun x7 _ _=>aV [27] Q Q (lK hr1 hF1<|aZ Q Q)<|jT cEv Q h1 Q fun x8 _ _=>aV [36] Q Q (lK hr1 hF1<|aZ Q Q)<|jT cEv Q h1 Q fun x9 _ _=>aV [45] Q Q (lK hr1 hF1<|aZ Q Q)<|jT cEv Q h1 Q fun x10 _ _=>aV [54] Q Q (lK hr1 hF1<|aZ Q Q)<|jT cEv Q h1 Q fun x11 _ _=>aV [63] Q Q (lK hr1 hF1<|aZ Q Q)<|jT cEv Q h1 Q fun x12 _ _=>aV [72] Q Q (lK hr1 hF1<|aZ Q Q)<|vP [] Q)<|mL [] Q) fun x5 _=>aZ Q Q
theorem NG{a_:aC}{k:Int}{s1 s2 s3 s4 s5 s6 s7 s8 s9 s10 s11:AC}(h1:aT κ s1 a_.aD.Mem.aG.Bytes)(h2:aT κ s2 a_.aD.Mem.aG.Class)(h3:aT κ s3 a_.aD.Mem.aA.Global)(h4:aT κ s4 a_.aD.Mem.aA.bQ)(h5:aT κ s5 a_.aD.aJ.bD)(h6:aT κ s6 a_.aD.aX)(h7:aT κ s7 a_.aD.jQ)(h8:aT κ s8 a_.Cells)(h9:aT κ s9 a_.aW)(h10:aT κ s10 a_.cG)(h11:aT κ s11 a_.Log):V0 Tryz.prog κ 19 (jP a_ k) [.g (gS a_ s1 s2 s3 s4 s5 s6 s7 s8 s9 s10 s11),I k] I:=
 bR tok Tryz.call19 Tryz.func19 Tryz.results19 Q Q<|c0 Q (fun h=>aA0 (h.a h1) (h.a h2) (h.a h3) (h.a h4) (h.a h5) (h.a h6) (h.a h7)) fun x1=>aV [10] Q Q (aZ Q Q)<|c0 Q (fun h=>rK (h.a h8)) fun x2=>aV [16] Q Q (aZ Q Q)<|c0 Q (fun h=>aA1 (h.a h9)) fun x3=>aV [22] Q Q (aZ Q Q)<|c0 Q (fun h=>WH (h.a h10)) fun x4=>aV [28] Q Q (aZ Q Q)<|c0 Q (fun h=>aE2 (h.a h11)) fun x5=>aV [34] Q Q (aZ Q Q)<|aZ Q Q
theorem SZ{aS:aC}{aN:Int}{s1 s2 s3 s4 s5 s6 s7 s8 s9 s10 s11:AC}(h1:aT κ s1 aS.aD.Mem.aG.Bytes)(h2:aT κ s2 aS.aD.Mem.aG.Class)(h3:aT κ s3 aS.aD.Mem.aA.Global)(h4:aT κ s4 aS.aD.Mem.aA.bQ)(h5:aT κ s5 aS.aD.aJ.bD)(h6:aT κ s6 aS.aD.aX)(h7:aT κ s7 aS.aD.jQ)(h8:aT κ s8 aS.Cells)(h9:aT κ s9 aS.aW)(h10:aT κ s10 aS.cG)(h11:aT κ s11 aS.Log):V0 Tryz.prog κ 3 (KV aS aN) [.g (gS aS s1 s2 s3 s4 s5 s6 s7 s8 s9 s10 s11),I aN] .b:=
 bR tok Tryz.call3 Tryz.func3 Tryz.results3 Q Q<|c0 Q (fun h=>aDT (h.a h1) (h.a h2) (h.a h3) (h.a h4) (h.a h5) (h.a h6) (h.a h7) (h.a h8) (h.a h9) (h.a h10) (h.a h11)) fun x1=>aV [17] Q Q (aZ Q Q)<|c1 Q (fun h=>BV (h.a h1) (h.a h2) (h.a h3) (h.a h4) (h.a h5) (h.a h6) (h.a h7) (h.a h8) (h.a h9) (h.a h10) (h.a h11)) fun x2 s12=>c1 Q (fun h=>aJM (h.o 1 Q) (h.o 2 Q) (h.o 3 Q) (h.o 4 Q) (h.o 5 Q) (h.o 6 Q) (h.o 7 Q) (h.o 8 Q) (h.o 9 Q) (h.o 10 Q) (h.o 11 Q)) fun x3 s13=>c1 Q (fun h=>BV (h.a h1) (h.a h2) (h.a h3) (h.a h4) (h.a h5) (h.a h6) (h.a h7) (h.a h8) (h.a h9) (h.a h10) (h.a h11)) fun x4 s14=>c1 Q (fun h=>WC (h.o 24 Q) (h.o 25 Q) (h.o 26 Q) (h.o 27 Q) (h.o 28 Q) (h.o 29 Q) (h.o 30 Q) (h.o 31 Q) (h.o 32 Q) (h.o 33 Q) (h.o 34 Q)) fun x5 s15=>c0 Q (fun h=>B4 (h.o 36 Q) (h.o 37 Q) (h.o 38 Q) (h.o 39 Q) (h.o 40 Q) (h.o 41 Q) (h.o 42 Q) (h.o 43 Q) (h.o 44 Q) (h.o 45 Q) (h.o 46 Q) (h.o 12 Q) (h.o 13 Q) (h.o 14 Q) (h.o 15 Q) (h.o 16 Q) (h.o 17 Q) (h.o 18 Q) (h.o 19 Q) (h.o 20 Q) (h.o 21 Q) (h.o 22 Q)) fun x6=>aV [30] Q Q (aZ Q Q)<|d9 aB [0,23,35,47] Q<|c1 Q (fun h=>BV (h.a h1) (h.a h2) (h.a h3) (h.a h4) (h.a h5) (h.a h6) (h.a h7) (h.a h8) (h.a h9) (h.a h10) (h.a h11)) fun x7 s16=>c0 Q (fun h=>B4 (h.o 24 Q) (h.o 25 Q) (h.o 26 Q) (h.o 27 Q) (h.o 28 Q) (h.o 29 Q) (h.o 30 Q) (h.o 31 Q) (h.o 32 Q) (h.o 33 Q) (h.o 34 Q) (h.o 48 Q) (h.o 49 Q) (h.o 50 Q) (h.o 51 Q) (h.o 52 Q) (h.o 53 Q) (h.o 54 Q) (h.o 55 Q) (h.o 56 Q) (h.o 57 Q) (h.o 58 Q)) fun x8=>aV [35] Q Q (aZ Q Q)<|gW [24,25,26,27,28,29,30,31,32,33,34] Q Q Q Q (fun _=>NF) fun x9 _=>fun hF=>un 59 [] [(23,0),(24,0),(31,0),(36,0)] [(35,0)] Q Q Q Q Q Q fun hl1=>fG Q Q<|un 60 [] [(23,1),(24,1),(31,1),(36,1)] [(35,1)] Q Q Q Q Q Q fun hl2=>fG Q Q<|un 61 [] [(23,2),(24,2),(31,2),(36,2)] [(35,2)] Q Q Q Q Q Q fun hl3=>fG Q Q<|un 62 [] [(23,3),(24,3),(31,3),(36,3)] [(35,3)] Q Q Q Q Q Q fun hl4=>fG Q Q<|un 63 [] [(23,5),(24,5),(31,5),(36,5)] [(35,5)] Q Q Q Q Q Q fun hl5=>fG Q Q<|un 64 [] [(23,6),(24,6),(31,6),(36,6)] [(35,6)] Q Q Q Q Q Q fun hl6=>fG Q Q<|un 65 [] [(23,7),(24,7),(31,7),(36,7)] [(35,7)] Q Q Q Q Q Q fun hl7=>fG Q Q<|un 66 [] [(23,8),(24,8),(31,8),(36,8)] [(35,8)] Q Q Q Q Q Q fun hl8=>fG Q Q<|un 67 [] [(23,9),(24,9),(31,9),(36,9)] [(35,9)] Q Q Q Q Q Q fun hl9=>fG Q Q<|un 68 [] [(23,10),(24,10),(31,10),(36,10)] [(35,10)] Q Q Q Q Q Q fun hl10=>fG Q Q<|un 69 [] [(23,11),(24,11),(31,11),(36,11)] [(35,11)] Q Q Q Q Q Q fun hl11=>fG Q Q<|wi hF<|i4 0 4 (fun(p:Bool×aC×aC)=>nG aS aN p.1 p.2.1 p.2.2) [1,2,6,8] (fun(p:Bool×aC×aC) (_:Unit)=>[(46,.b p.1)]) [0] (fun p _=>(zS p.2.1 s13 ([.box 1 (yS p.2.1 s13)]))++(zS p.2.2 s15 [.box 3 (yS p.2.2 s15)])) Q (dZ [40,41] Q Q (b8 (p:=(true,x3,x5)) [12,13,14,15,16,17,18,19,20,21,22,23,36,37,38,39,40,41,42,43,44,45,46,47,0] Q Q)<|c0 Q (fun h=>B4 (h.o 36 Q) (h.o 37 Q) (h.o 38 Q) (h.o 39 Q) (h.o 40 Q) (h.o 41 Q) (h.o 42 Q) (h.o 43 Q) (h.o 44 Q) (h.o 45 Q) (h.o 46 Q) (h.o 12 Q) (h.o 13 Q) (h.o 14 Q) (h.o 15 Q) (h.o 16 Q) (h.o 17 Q) (h.o 18 Q) (h.o 19 Q) (h.o 20 Q) (h.o 21 Q) (h.o 22 Q)) fun x19=>b8 (p:=(!x19,x3,x5)) [12,13,14,15,16,17,18,19,20,21,22,23,36,37,38,39,40,41,42,43,44,45,46,47,0] Q Q) fun⟨x10,x11,x12⟩ _=>aV [46] Q Q (aZ Q Q)<|gW [12,13,14,15,16,17,18,19,20,21,22] Q Q Q Q (fun _=>NF) fun x13 _=>fun hF=>un 25 [] [(47,0)] [(23,0)] Q Q Q Q Q Q fun hl12=>fG Q Q<|un 26 [] [(47,1)] [(23,1)] Q Q Q Q Q Q fun hl13=>fG Q Q<|un 27 [] [(47,2)] [(23,2)] Q Q Q Q Q Q fun hl14=>fG Q Q<|un 28 [] [(47,3)] [(23,3)] Q Q Q Q Q Q fun hl15=>fG Q Q<|un 29 [] [(47,5)] [(23,5)] Q Q Q Q Q Q fun hl16=>fG Q Q<|un 30 [] [(47,6)] [(23,6)] Q Q Q Q Q Q fun hl17=>fG Q Q<|un 31 [] [(47,7)] [(23,7)] Q Q Q Q Q Q fun hl18=>fG Q Q<|un 32 [] [(47,8)] [(23,8)] Q Q Q Q Q Q fun hl19=>fG Q Q<|un 33 [] [(47,9)] [(23,9)] Q Q Q Q Q Q fun hl20=>fG Q Q<|un 34 [] [(47,10)] [(23,10)] Q Q Q Q Q Q fun hl21=>fG Q Q<|un 35 [] [(47,11)] [(23,11)] Q Q Q Q Q Q fun hl22=>fG Q Q<|wi hF<|c0 Q (fun h=>NG (a_:=(⟨(⟨(⟨(⟨x13.2.1,x13.2.2.1⟩:aG),(⟨x13.2.2.2.1,x13.2.2.2.2.1⟩:aA)⟩:Mem),(⟨x12.aD.aJ.aM,x13.2.2.2.2.2.1⟩:aJ),x13.2.2.2.2.2.2.1,x13.2.2.2.2.2.2.2.1⟩:aD),x13.2.2.2.2.2.2.2.2.1,x13.2.2.2.2.2.2.2.2.2.1,x13.2.2.2.2.2.2.2.2.2.2.1,x13.2.2.2.2.2.2.2.2.2.2.2,x12.aR⟩:aC)) (h.o 25 Q) (h.o 26 Q) (h.o 27 Q) (h.o 28 Q) (h.o 29 Q) (h.o 30 Q) (h.o 31 Q) (h.o 32 Q) (h.o 33 Q) (h.o 34 Q) (h.o 35 Q)) fun x14=>aV [54] Q Q (aZ Q Q)<|aV [57] Q Q (aZ Q Q)<|c1 Q (fun h=>BV (h.a h1) (h.a h2) (h.a h3) (h.a h4) (h.a h5) (h.a h6) (h.a h7) (h.a h8) (h.a h9) (h.a h10) (h.a h11)) fun x15 s17=>c1 Q (fun h=>WC (h.o 36 Q) (h.o 37 Q) (h.o 38 Q) (h.o 39 Q) (h.o 40 Q) (h.o 41 Q) (h.o 42 Q) (h.o 43 Q) (h.o 44 Q) (h.o 45 Q) (h.o 46 Q)) fun x16 s18=>c0 Q (fun h=>B4 (h.o 47 Q) (h.o 48 Q) (h.o 49 Q) (h.o 50 Q) (h.o 51 Q) (h.o 52 Q) (h.o 53 Q) (h.o 54 Q) (h.o 55 Q) (h.o 56 Q) (h.o 57 Q) (h.o 0 Q) (h.o 1 Q) (h.o 2 Q) (h.o 3 Q) (h.o 4 Q) (h.o 5 Q) (h.o 6 Q) (h.o 7 Q) (h.o 8 Q) (h.o 9 Q) (h.o 10 Q)) fun x17=>aV [65] Q Q (aZ Q Q)<|c0 Q (fun h=>NG (a_:=(⟨(⟨(⟨(⟨x13.2.1,x13.2.2.1⟩:aG),(⟨x13.2.2.2.1,x13.2.2.2.2.1⟩:aA)⟩:Mem),(⟨x12.aD.aJ.aM,x13.2.2.2.2.2.1⟩:aJ),x13.2.2.2.2.2.2.1,x13.2.2.2.2.2.2.2.1⟩:aD),x13.2.2.2.2.2.2.2.2.1,x13.2.2.2.2.2.2.2.2.2.1,x13.2.2.2.2.2.2.2.2.2.2.1,x13.2.2.2.2.2.2.2.2.2.2.2,x12.aR⟩:aC)) (h.o 25 Q) (h.o 26 Q) (h.o 27 Q) (h.o 28 Q) (h.o 29 Q) (h.o 30 Q) (h.o 31 Q) (h.o 32 Q) (h.o 33 Q) (h.o 34 Q) (h.o 35 Q)) fun x18=>aV [70] Q Q (aZ Q Q)<|aV [73] Q Q (aZ Q Q)<|aZ Q Q
end
end Go.Proofs.YtbdmodalljibjaaGreat
end
noncomputable section
namespace Go.Gv
theorem gA{σ ρ:Type}{f:σ→Option (Step σ ρ)}(n:Nat)(S:Nat→σ)(r:ρ)(hs:∀k,k < n→f (S k)=some (.next (S (k+1))))(he:f (S n)=some (.stop r)):loop f (S 0)=some r:=by
  have key:∀d k,k+d=n→loop f (S k)=some r:=by
    intro d
    induction d with
    | zero => intro k hk; obtain rfl : k = n := by omega
              exact bZ he
    | succ d ih=>intro k hk;rw [cH (hs k (by omega))];exact ih (k+1) (by omega)
  exact key n 0 (by omega)
theorem aP9{σ ρ:Type}{f:σ→Option (Step σ ρ)}(n:Nat)(S:Nat→σ)(g:Nat→ρ)
    (h:∀k,k≤n→f (S k)=some (.stop (g k))∨(k < n∧f (S k)=some (.next (S (k+1)))∧g k=g (k+1))):∀k,k≤n→loop f (S k)=some (g k):=by
  have key:∀d k,k+d=n→loop f (S k)=some (g k):=by
    intro d
    induction d with
    | zero =>
      intro k hk
      rcases h k (by omega) with h1 | ⟨h1,_⟩
      · exact bZ h1
      · omega
    | succ d ih =>
      intro k hk
      rcases h k (by omega) with h1 | ⟨_,h2,h3⟩
      · exact bZ h1
      · rw [cH h2,h3];exact ih (k+1) (by omega)
  intro k hk
  exact key (n - k) k (by omega)
theorem tY{σ ρ:Type}{f:σ→Option (Step σ ρ)}(n:Nat)(S:Nat→σ)(p:Nat→Prop)[DecidablePred p](yes no:ρ)
    (h1:∀k,k < n→p k→f (S k)=some (.next (S (k+1)))) (h2:∀k,k < n→¬p k→f (S k)=some (.stop no)) (h3:f (S n)=some (.stop yes)) :
    loop f (S 0)=some (if ∀k,k < n→p k then yes else no):=by
  classical
  have key:∀d k,k+d=n→loop f (S k)=some (if ∀j,k≤j→j < n→p j then yes else no):=by
    intro d
    induction d with
    | zero =>
      intro k hk;obtain rfl:k=n:=by omega
      rw [bZ h3,if_pos (fun j a b=>by omega)]
    | succ d ih =>
      intro k hk
      by_cases hp:p k
      · rw [cH (h1 k (by omega) hp),ih (k+1) (by omega)]
        by_cases h:∀j,k+1≤j→j < n→p j
        · rw [if_pos h,if_pos]
          intro j a b
          by_cases e:j=k
          · subst e;exact hp
          · exact h j (by omega) b
        · rw [if_neg h,if_neg]
          exact fun q=>h fun j a b=>q j (by omega) b
      · rw [bZ (h2 k (by omega) hp),if_neg]
        exact fun q=>hp (q k (Nat.le_refl _) (by omega))
  have:=key n 0 (by omega)
  rw [this]
  by_cases h:∀k,k < n→p k
  · rw [if_pos h,if_pos (fun j _ b=>h j b)]
  · rw [if_neg h,if_neg (fun q=>h fun k a=>q k (Nat.zero_le _) a)]
theorem iD{α σ ρ:Type}{f:σ→Option (Step σ ρ)}(l:List α)(S:Nat→σ)(p:α→Prop)[DecidablePred p](yes no:ρ)
    (h1:∀k (h:k < l.length),p l[k]→f (S k)=some (.next (S (k+1)))) (h2:∀k (h:k < l.length),¬p l[k]→f (S k)=some (.stop no)) (h3:f (S l.length)=some (.stop yes)) :
    loop f (S 0)=some (if ∀x∈l,p x then yes else no):=by
  classical
  have:=tY (f:=f) l.length S (fun k=>∀h:k < l.length,p l[k]) yes no (fun k h hp=>h1 k h (hp h)) (fun k h hp=>h2 k h (fun q=>hp fun _=>q)) h3
  rw [this]
  by_cases h:∀x∈l,p x
  · rw [if_pos h,if_pos (fun k hk _=>h _ (List.getElem_mem hk))]
  · rw [if_neg h,if_neg]
    intro q
    refine h fun x hx=>?_
    obtain⟨k,hk,rfl⟩:=List.mem_iff_getElem.1 hx
    exact q k hk hk
theorem aU{x:Int}(h1:-9223372036854775808≤x)(h2:x≤9223372036854775807):aE x=x:=HW ⟨h1,h2⟩
theorem r9{α:Type}{l:List α}{i:Int}(h0:0≤i)(h1:i < l.length):idx l i=some (l[i.toNat]'(by omega)):=idx_eq h0 h1
theorem wrap_i64{x:Int}(h1:-9223372036854775808≤x)(h2:x≤9223372036854775807):IntKind.i64.wrap x=x:=HW ⟨h1,h2⟩
theorem ET{x y:Int}(h1:0≤x):x.tdiv y=x / y:=Int.tdiv_eq_ediv_of_nonneg h1
theorem B5{x y:Int}(h1:0≤x):x.tmod y=x % y:=Int.tmod_eq_emod_of_nonneg h1
theorem aW2{x:Int}{k:Nat}(h1:0≤x)(hk:k≤63):HQ .i64 x k=x / 2 ^ k:=by
  unfold HQ
  have:min ((k:Int).toNat) IntKind.i64.bits=k:=by simp [IntKind.bits];omega
  rw [this,Int.fdiv_eq_ediv_of_nonneg _ (by exact Int.le_of_lt (Int.pow_pos (by omega)))]
end Go.Gv
end
noncomputable section
namespace Go.Gv
theorem dO(n a b:Int):cD n a b=some (decide (a≤n∧n≤b)):=by
  unfold cD oX
  by_cases h:a≤n <;> simp [h]
theorem cW(n a b:Int):bN n a b=some (decide (a≤n∧n≤b)):=by
  unfold bN FQ
  by_cases h:a≤n <;> simp [h]
theorem map_take{α β:Type}(f:α→β){l:List α}{k:Nat}(h:k < l.length):(l.take (k+1)).map f=(l.take k).map f ++ [f l[k]]:=by
  rw [List.take_succ_eq_append_getElem h,List.map_append];rfl
end Go.Gv
end
noncomputable section
namespace Go.Gv
def l8(c:Int):Int:=if c=0 then 8 else if c=1 then 16 else if c=2 then 40 else 0
def aY(c:Int):Int:=if c=0 then 12 else if c=1 then 20 else if c=2 then 44 else 0
def cP(c:Int):Int:=if c=0 then 4 else if c=1 then 2 else if c=2 then 1 else 0
theorem gQ{c:Int}(h:0≤c∧c≤2):c=0∨c=1∨c=2:=by omega
theorem aT7{c:Int}(h:¬(0≤c∧c≤2)):l8 c=0:=by unfold l8;rw [if_neg (by omega),if_neg (by omega),if_neg (by omega)]
theorem aE3{c:Int}(h:¬(0≤c∧c≤2)):aY c=0:=by unfold aY;rw [if_neg (by omega),if_neg (by omega),if_neg (by omega)]
theorem aJ4{c:Int}(h:¬(0≤c∧c≤2)):cP c=0:=by unfold cP;rw [if_neg (by omega),if_neg (by omega),if_neg (by omega)]
theorem nI(c:Int):0≤cP c∧cP c≤4:=by unfold cP;split <;> (try split) <;> (try split) <;> omega
theorem UY(c:Int):0≤aY c∧aY c≤44:=by unfold aY;split <;> (try split) <;> (try split) <;> omega
theorem nJ{c:Int}:0 < cP c↔0≤c∧c≤2:=by
  unfold cP;constructor
  · intro h;split at h <;> (try split at h) <;> (try split at h) <;> omega
  · intro h;rcases gQ h with rfl | rfl | rfl <;> decide
theorem I1(c:Int):m7 c=some (l8 c):=by
  unfold m7 l8
  by_cases h0:c=0 <;> by_cases h1:c=1 <;> by_cases h2:c=2 <;> simp [h0,h1,h2]
theorem iV(c:Int):jE c=some (decide (0≤c∧c≤2)):=by simp [jE,dO]
theorem RT(c:Int):zX c=some (l8 c):=by
  unfold zX
  rw [iV]
  by_cases h:0≤c∧c≤2
  · rcases gQ h with rfl | rfl | rfl <;> rfl
  · simp [h,aT7 h]
theorem YD(c:Int):wC c=some (aY c):=by
  unfold wC
  rw [cW]
  by_cases h:0≤c∧c≤2
  · rcases gQ h with rfl | rfl | rfl <;> rfl
  · simp [h,aE3 h]
theorem NH(c:Int):rT c=some (aY c):=by
  unfold rT
  rw [iV]
  by_cases h:0≤c∧c≤2
  · rcases gQ h with rfl | rfl | rfl <;> rfl
  · simp [h,aE3 h]
theorem hC(c:Int):kU c=some (cP c):=by
  unfold kU
  rw [cW]
  by_cases h:0≤c∧c≤2
  · rcases gQ h with rfl | rfl | rfl <;> rfl
  · simp [h,aJ4 h]
theorem yV(c:Int):nA c=some (cP c):=by
  unfold nA
  rw [iV]
  by_cases h:0≤c∧c≤2
  · rcases gQ h with rfl | rfl | rfl <;> rfl
  · simp [h,aJ4 h]
theorem RU(s:Int):zR s=some (if 0≤s∧s≤23 then s / 4 else -1):=by
  unfold zR
  rw [cW]
  by_cases h:0≤s∧s≤23
  · simp [h,ET h.1];rw [aU (by omega) (by omega)]
  · simp [h]
theorem P3(s:Int):uH s=some (if 0≤s∧s≤23 then s % 4 else -1):=by
  unfold uH
  rw [cW]
  by_cases h:0≤s∧s≤23
  · simp [h,B5 h.1]
  · simp [h]
def gH(s c:Int):Int:=if (0≤s∧s≤23)∧s % 4 < cP c then s / 4 * 64+8+s % 4 * aY c else -1
theorem I2{i c:Int}(h0:0≤i)(h1:i < cP c):0≤i * aY c∧i * aY c+aY c≤56:=by
  unfold cP at h1;unfold aY
  split at h1
  · rw [if_pos ‹_›];omega
  · split at h1
    · rw [if_neg ‹_›,if_pos ‹_›];omega
    · split at h1
      · rw [if_neg ‹_›,if_neg ‹_›,if_pos ‹_›];omega
      · omega
theorem xG(s c:Int):sQ s c=some (gH s c):=by
  unfold sQ DB gH
  rw [RU,P3,hC,YD]
  by_cases h:0≤s∧s≤23
  · have hp:=nI c
    have h1:¬s / 4 < 0:=by omega
    have h2:aE (cP c - 1)=cP c - 1:=aU (by omega) (by omega)
    by_cases h3:s % 4 < cP c
    · have hm:=I2 (by omega) h3
      have hs:=UY c
      have h4:0≤s % 4∧s % 4≤cP c - 1:=by omega
      have h5:¬cP c - 1 < s % 4:=by omega
      have e1:aE (s / 4 * 64)=s / 4 * 64:=aU (by omega) (by omega)
      have e2:aE (s / 4 * 64+8)=s / 4 * 64+8:=aU (by omega) (by omega)
      have e3:aE (s % 4 * aY c)=s % 4 * aY c:=aU (by omega) (by omega)
      have e4:aE (s / 4 * 64+8+s % 4 * aY c)=s / 4 * 64+8+s % 4 * aY c:=aU (by omega) (by omega)
      simp [h,h1,h2,h3,h4,h5,cW,e1,e2,e3,e4]
    · have h4:¬s % 4≤cP c - 1:=by omega
      simp [h,h1,h2,h3,h4,cW]
  · simp [h]
theorem tZ(s:Int):lF s=some (decide (0≤s∧s≤23)):=by simp [lF,dO]
theorem xH(s c:Int):tF s c=some (gH s c):=by
  unfold tF wP gH
  rw [tZ,iV,yV,NH]
  by_cases h:0≤s∧s≤23
  · have hp:=nI c
    rw [B5 h.1,ET h.1]
    by_cases h3:s % 4 < cP c
    · have hm:=I2 (by omega) h3
      have hs:=UY c
      have hc:0≤c∧c≤2:=nJ.1 (by omega)
      have e0:aE (s / 4)=s / 4:=aU (by omega) (by omega)
      have e1:aE (s / 4 * 64)=s / 4 * 64:=aU (by omega) (by omega)
      have e2:aE (s / 4 * 64+8)=s / 4 * 64+8:=aU (by omega) (by omega)
      have e3:aE (s % 4 * aY c)=s % 4 * aY c:=aU (by omega) (by omega)
      have e4:aE (s / 4 * 64+8+s % 4 * aY c)=s / 4 * 64+8+s % 4 * aY c:=aU (by omega) (by omega)
      have h5:¬cP c≤s % 4:=by omega
      simp [h,hc,h3,h5,e0,e1,e2,e3,e4]
    · have h5:cP c≤s % 4:=by omega
      by_cases hc:0≤c∧c≤2 <;> simp [h,hc,h3,h5]
  · simp [h]
end Go.Gv
end
noncomputable section
namespace Go.Gv
def ldF(l:List Int):Int:=l.foldl (fun n x=>n * 256+x) 0
def sL(l:List Int):Prop:=∀x∈l,0≤x∧x≤255
instance (l:List Int):Decidable (sL l):=by unfold sL;infer_instance
theorem aE4{l:List Int}{k:Nat}(h:k < l.length):ldF (l.take (k+1))=ldF (l.take k) * 256+l[k]:=by
  unfold ldF
  rw [List.take_succ_eq_append_getElem h,List.foldl_append];rfl
theorem aH5{l:List Int}(h:sL l):∀k,k≤l.length→0≤ldF (l.take k)∧ldF (l.take k) < 256 ^ k:=by
  intro k
  induction k with
  | zero=>intro _;simp [ldF]
  | succ k ih =>
    intro hk
    have h1:=ih (by omega)
    have h2:=h _ (List.getElem_mem (show k < l.length by omega))
    rw [aE4 (by omega),Int.pow_succ]
    omega
theorem aZX{k:Nat}(h:k≤6):(256:Int) ^ k≤281474976710656:=by
  have h1:(256:Nat) ^ k≤256 ^ 6:=Nat.pow_le_pow_right (by omega) h
  have h2:(256:Nat) ^ 6=281474976710656:=by decide
  rw [h2] at h1
  have h3:((256 ^ k:Nat):Int)≤281474976710656:=by omega
  rw [Int.natCast_pow] at h3
  exact h3
def ld(b:List Int)(at_ w:Nat):Int:=ldF ((b.drop at_).take w)
theorem aPH{n x:Int}{k:Nat}(hk:k≤6)(h:0≤n∧n < 256 ^ k)(hx:0≤x∧x≤255):aE (aE (n * 256)+x)=n * 256+x∧aE (aE (256 * n)+x)=n * 256+x:=by
  have:=aZX hk
  rw [Int.mul_comm 256 n,aU (x:=n * 256) (by omega) (by omega),aU (by omega) (by omega)]
  exact⟨rfl,rfl⟩
theorem aNG{b:List Int}{a w:Nat}(h:a+w≤b.length):((b.drop a).take w).length=w:=by simp;omega
theorem aE5{b:List Int}{a w k:Nat}(h:k < ((b.drop a).take w).length)(h':a+k < b.length):((b.drop a).take w)[k]=b[a+k]:=by simp
theorem aJ5{b:List Int}(hb:sL b)(a w:Nat):sL ((b.drop a).take w):=fun x hx=>hb x (List.mem_of_mem_drop (List.mem_of_mem_take hx))
theorem I3{b:List Int}(hb:sL b){a w:Nat}(hw:w≤7)(h:a+w≤b.length)(hl:b.length≤100000):sP b (a:Int) (w:Int)=some (ld b a w):=by
  unfold sP
  have hlen:=aNG h
  have hbb:=aJ5 hb a w
  have key:loop (sO b (a:Int) (w:Int)) (0,0)=some (ld b a w):=by
    refine gA (f:=sO b (a:Int) (w:Int)) w (fun k=>(ldF (((b.drop a).take w).take k),(k:Int))) _ (fun k hk=>?_) ?_
    · have hb1:=aH5 hbb k (by omega)
      have hk':k < ((b.drop a).take w).length:=by omega
      have hx:=hbb _ (List.getElem_mem hk')
      have hs:=aPH (by omega) hb1 hx
      rw [aE5 hk' (by omega)] at hs
      have e1:aE ((a:Int)+k)=((a+k:Nat):Int):=by rw [aU (by omega) (by omega)];omega
      simp only [sO]
      rw [if_pos (by simp;omega),e1,aQ (by omega)]
      simp only [aI,hs.1,aE4 hk',aE5 hk' (show a+k < b.length by omega)]
      rw [aU (x:=(k:Int)+1) (by omega) (by omega)];rfl
    · have:((b.drop a).take w).take w=(b.drop a).take w:=by rw [List.take_take];simp
      simp [sO,this,ld]
  rw [key];rfl
theorem yW{b:List Int}(hb:sL b){a w:Nat}(hw:w≤7)(h:a+w≤b.length)(hl:b.length≤100000):kY b (a:Int) (w:Int)=some (ld b a w):=by
  unfold kY
  have hlen:=aNG h
  have hbb:=aJ5 hb a w
  have e0:aE ((a:Int)+w)=((a+w:Nat):Int):=by rw [aU (by omega) (by omega)];omega
  have e2:(b.take (a+w)).drop a=(b.drop a).take w:=by rw [List.drop_take];congr 1;omega
  rw [aP (by rw [e0];omega)]
  have key:loop (rC b (a:Int) (w:Int)) (0,0)=some (ld b a w):=by
    refine gA (f:=rC b (a:Int) (w:Int)) w (fun k=>(ldF (((b.drop a).take w).take k),(k:Int))) _ (fun k hk=>?_) ?_
    · have hb1:=aH5 hbb k (by omega)
      have hk':k < ((b.drop a).take w).length:=by omega
      have hx:=hbb _ (List.getElem_mem hk')
      have hs:=aPH (by omega) hb1 hx
      simp only [rC,e0,Int.toNat_natCast,e2]
      rw [if_pos (by simp;omega),aQ hk']
      simp only [aI,hs.2,aE4 hk']
      rw [aU (x:=(k:Int)+1) (by omega) (by omega)];rfl
    · have:((b.drop a).take w).take w=(b.drop a).take w:=by rw [List.take_take];simp
      simp only [rC,e0,Int.toNat_natCast,e2,this,ld]
      rw [if_neg (by rw [hlen];simp)]
  rw [key];rfl
theorem B6{l:List Int}(hl:l.length≤maxLen)(f:Int→Bool):dT l (fun x=>some (f x))=some (l.any f):=by
  unfold dT tD
  have key:∀k:Nat,k≤l.length→loop (iB l (fun x=>some (f x))) (k:Int)=some (if (l.drop k).any f then Out.ret ((k+(l.drop k).findIdx f:Nat):Int) else Out.brk ()):=by
    refine aIS l.length _ fun k hk=>?_
    by_cases h3:k < l.length
    · have hd:l.drop k=l[k] :: l.drop (k+1):=List.drop_eq_getElem_cons h3
      simp only [iB]
      rw [if_pos (by simp;omega),aQ h3,cX (eE h3 hl),hd]
      simp only [aI,List.any_cons,List.findIdx_cons]
      by_cases h4:f l[k]=true
      · left;simp [h4]
      · right
        have h4:f l[k]=false:=by simpa using h4
        refine⟨h3,by simp [h4],?_⟩
        simp only [h4,Bool.false_or,cond_false]
        congr 2;omega
    · left
      obtain rfl:k=l.length:=by omega
      simp [iB]
  have t0:loop (iB l (fun x=>some (f x))) 0=_:=key 0 (by omega)
  rw [t0]
  simp only [List.drop_zero]
  by_cases h:l.any f=true
  · simp [h,oZ]
  · have h:l.any f=false:=by simpa using h
    simp [h,oZ,zW]
def BOk(b:List Int):Prop:=b.length≤1000∧sL b
instance (b:List Int):Decidable (BOk b):=by unfold BOk;infer_instance
theorem aA2{b:List Int}(hl:b.length≤maxLen):FR b=some (decide (BOk b)):=by
  unfold FR
  have key:loop (mN b) 0=some (if ∀x∈b,0≤x∧x≤255 then Out.brk () else Out.ret false):=by
    refine iD (f:=mN b) b (fun k=>(k:Int)) (fun x=>0≤x∧x≤255) _ _ (fun k h hp=>?_) (fun k h hp=>?_) ?_
    · simp only [mN]
      rw [if_pos (by simp;omega),aQ h,cX (eE h hl)]
      simp [cW,hp]
    · simp only [mN]
      rw [if_pos (by simp;omega),aQ h]
      simp only [aI,cW,hp,decide_false,lJ,if_true]
    · simp [mN]
  rw [key]
  by_cases h:∀x∈b,0≤x∧x≤255
  · rw [if_pos h]
    have:BOk b↔b.length≤1000:=⟨fun q=>q.1,fun q=>⟨q,h⟩⟩
    simp only [aI,EY,O6,this]
    congr 1;rw [Bool.eq_iff_iff];simp;omega
  · rw [if_neg h]
    have:¬BOk b:=fun q=>h q.2
    simp [EY,this]
theorem ED{α:Type}{p:α→Prop}[DecidablePred p](l:List α):(l.any fun x=>!decide (p x))=!decide (∀x∈l,p x):=by
  rw [Bool.eq_iff_iff];simp
theorem aA3{b:List Int}(hl:b.length≤maxLen):GM b=some (decide (BOk b)):=by
  unfold GM xY
  have e:(fun y0=>AZ y0)=fun y:Int=>some (!decide (0≤y∧y≤255)):=by
    funext y;simp [AZ,Q6,dO]
  rw [e,B6 hl,ED]
  by_cases h:b.length≤1000
  · have:BOk b↔∀x∈b,0≤x∧x≤255:=⟨fun q=>q.2,fun q=>⟨h,q⟩⟩
    have h':(b.length:Int)≤1000:=by omega
    simp [h',this]
  · have:¬BOk b:=fun q=>h q.1
    have h':¬(b.length:Int)≤1000:=by omega
    simp [h',this]
def fQ(h:aG):Prop:=h.Bytes.length=384∧h.Class.length=6∧sL h.Bytes∧∀c∈h.Class,-1≤c∧c≤2
instance (h:aG):Decidable (fQ h):=by unfold fQ;infer_instance
theorem aA4{h:aG}(hl:h.Bytes.length≤maxLen):FT h=some (decide (fQ h)):=by
  unfold FT qT
  by_cases h1:h.Bytes.length=384
  · by_cases h2:h.Class.length=6
    · rw [aA2 hl]
      have n1:((h.Bytes.length:Int) != 384)=false:=by simp;omega
      have n2:((h.Class.length:Int) != 6)=false:=by simp;omega
      simp only [n1,n2,a9,if_false,aI]
      by_cases h3:sL h.Bytes
      · have b1:BOk h.Bytes:=⟨by omega,h3⟩
        have key:loop (mO h) 0=some (if ∀x∈h.Class,-1≤x∧x≤2 then Out.brk () else Out.ret false):=by
          refine iD (f:=mO h) h.Class (fun k=>(k:Int)) (fun x=>-1≤x∧x≤2) _ _ (fun k h hp=>?_) (fun k h hp=>?_) ?_
          · simp only [mO]
            rw [if_pos (by simp;omega),aQ h,aU (by omega) (by omega)]
            simp [cW,hp]
          · simp only [mO]
            rw [if_pos (by simp;omega),aQ h]
            simp only [aI,cW]
            rw [bH hp];rfl
          · simp [mO,h2]
        rw [key]
        have:fQ h↔∀x∈h.Class,-1≤x∧x≤2:=⟨fun q=>q.2.2.2,fun q=>⟨h1,h2,h3,q⟩⟩
        simp only [b1,decide_true,eD,a9,if_false,this]
        by_cases h4:∀x∈h.Class,-1≤x∧x≤2
        · rw [if_pos h4,bL h4];rfl
        · rw [if_neg h4,bH h4];rfl
      · have b1:¬BOk h.Bytes:=fun q=>h3 q.2
        have:¬fQ h:=fun q=>h3 q.2.2.1
        simp [b1,this]
    · have n1:((h.Bytes.length:Int) != 384)=false:=by simp;omega
      have n2:((h.Class.length:Int) != 6)=true:=by simp;omega
      have:¬fQ h:=fun q=>h2 q.2.1
      simp [n1,n2,this]
  · have n1:((h.Bytes.length:Int) != 384)=true:=by simp;omega
    have:¬fQ h:=fun q=>h1 q.1
    simp [n1,this]
theorem B7{h:aG}(hl:h.Bytes.length≤maxLen):EL h=some (decide (fQ h)):=by
  unfold EL o4
  by_cases h1:h.Bytes.length=384
  · have n1:((h.Bytes.length:Int) == 384)=true:=by simp;omega
    rw [aA3 hl]
    by_cases h3:sL h.Bytes
    · have b1:BOk h.Bytes:=⟨by omega,h3⟩
      by_cases h2:h.Class.length=6
      · have n2:((h.Class.length:Int) == 6)=true:=by simp;omega
        have e:(fun y0=>DO y0)=fun y:Int=>some (!decide (-1≤y∧y≤2)):=by
          funext y;simp [DO,dO]
        rw [e,B6 (by rw [h2];simp [maxLen]),ED]
        have:fQ h↔∀x∈h.Class,-1≤x∧x≤2:=⟨fun q=>q.2.2.2,fun q=>⟨h1,h2,h3,q⟩⟩
        simp [n1,n2,b1,this]
      · have n2:((h.Class.length:Int) == 6)=false:=by simp;omega
        have:¬fQ h:=fun q=>h2 q.2.1
        simp [n1,n2,b1,this]
    · have b1:¬BOk h.Bytes:=fun q=>h3 q.2
      have:¬fQ h:=fun q=>h3 q.2.2.1
      simp [n1,b1,this]
  · have n1:((h.Bytes.length:Int) == 384)=false:=by simp;omega
    have:¬fQ h:=fun q=>h1 q.1
    simp [n1,this]
end Go.Gv
end
noncomputable section
namespace Go.Gv
def dL(h:aG)(p:Nat):List Int:=(h.Bytes.drop (p * 64)).take 64
def bY(h:aG)(p:Nat):Int:=h.Class.getD p 0
def l9(h:aG)(p:Nat):Prop:=
  if bY h p < 0 then ∀x∈dL h p,x=0
  else ((dL h p).getD 0 0=171∧(dL h p).getD 1 0=bY h p∧(dL h p).getD 2 0=cP (bY h p))∧(∀x∈((dL h p).drop 3).take 5,x=0)∧∀i,i < (cP (bY h p)).toNat→1≤ld h.Bytes (p * 64+8+i * (aY (bY h p)).toNat) 4∧ld h.Bytes (p * 64+8+i * (aY (bY h p)).toNat) 4≤7
instance (h:aG) (p:Nat):Decidable (l9 h p):=by unfold l9;infer_instance
noncomputable section
variable {h:aG} (hs:fQ h) {p:Nat} (hp:p < 6)
include hs hp
theorem I4:(dL h p).length=64:=aNG (by have:=hs.1;omega)
theorem RV{k:Nat}(hk:k < 64):h.Bytes[p * 64+k]'(by have:=hs.1;omega)=(dL h p)[k]'(by rw [I4 hs hp];exact hk):=(aE5 (show k < ((h.Bytes.drop (p * 64)).take 64).length by have:=I4 hs hp;unfold dL at this;omega) _).symm
theorem aH6{k:Nat}(hk:k < 64):h.Bytes[p * 64+k]'(by have:=hs.1;omega)=(dL h p).getD k 0:=by
  rw [RV hs hp hk,List.getD_eq_getElem?_getD,List.getElem?_eq_getElem (by rw [I4 hs hp];exact hk)];rfl
theorem aPI:h.Class[p]'(by have:=hs.2.1;omega)=bY h p:=by
  unfold bY
  rw [List.getD_eq_getElem?_getD,List.getElem?_eq_getElem (by have:=hs.2.1;omega)];rfl
theorem aB0:idx h.Class (p:Int)=some (bY h p):=by rw [aQ (by have:=hs.2.1;omega),aPI hs hp]
theorem aE6{k:Nat}(hk:k < 64):idx h.Bytes (((p * 64+k:Nat)):Int)=some ((dL h p).getD k 0):=by
  rw [aQ (by have:=hs.1;omega),aH6 hs hp hk]
theorem aQA:sL (dL h p):=aJ5 hs.2.2.1 _ _
theorem vM{c:Int}(hc:bY h p=c){i:Nat}(hi:i < (cP c).toNat):(8+i * (aY c).toNat)+4≤64∧0≤(i:Int) * aY c∧((8+i * (aY c).toNat:Nat):Int)=8+(i:Int) * aY c:=by
  have h1:(i:Int) < cP c:=by omega
  have hc2:0≤c∧c≤2:=nJ.1 (by omega)
  rcases gQ hc2 with rfl | rfl | rfl
  · have e:aY 0=12:=rfl
    have g:(12:Int).toNat=12:=rfl
    have f:(cP 0).toNat=4:=rfl
    rw [e,g];rw [f] at hi;omega
  · have e:aY 1=20:=rfl
    have g:(20:Int).toNat=20:=rfl
    have f:(cP 1).toNat=2:=rfl
    rw [e,g];rw [f] at hi;omega
  · have e:aY 2=44:=rfl
    have g:(44:Int).toNat=44:=rfl
    have f:(cP 2).toNat=1:=rfl
    rw [e,g];rw [f] at hi;omega
theorem aT8{i:Nat}(hi:i < (cP (bY h p)).toNat):gH ((p:Int) * 4+i) (bY h p)=((p * 64+(8+i * (aY (bY h p)).toNat):Nat):Int):=by
  have hz:=vM hs hp rfl hi
  have hle:=nI (bY h p)
  unfold gH
  rw [if_pos (by omega)]
  have e1:((p:Int) * 4+i) / 4=p:=by omega
  have e2:((p:Int) * 4+i) % 4=i:=by omega
  rw [e1,e2]
  omega
theorem RW:JY h (p:Int)=some (decide (l9 h p)):=by
  have hb:=hs.1
  have hl:=I4 hs hp
  have e0:aE ((p:Int) * 64)=((p * 64+0:Nat):Int):=by rw [aU (by omega) (by omega)];omega
  have e1:aE (((p * 64+0:Nat):Int)+1)=((p * 64+1:Nat):Int):=by rw [aU (by omega) (by omega)];omega
  have e2:aE (((p * 64+0:Nat):Int)+2)=((p * 64+2:Nat):Int):=by rw [aU (by omega) (by omega)];omega
  have e3:aE (((p * 64+0:Nat):Int)+3)=((p * 64+3:Nat):Int):=by rw [aU (by omega) (by omega)];omega
  have e8:aE (((p * 64+0:Nat):Int)+8)=((p * 64+8:Nat):Int):=by rw [aU (by omega) (by omega)];omega
  have e64:aE (((p * 64+0:Nat):Int)+64)=((p * 64+64:Nat):Int):=by rw [aU (by omega) (by omega)];omega
  unfold JY
  rw [aB0 hs hp]
  simp only [aI]
  by_cases hc:bY h p < 0
  · simp only [hc,decide_true,if_true,e0]
    have key:loop (oK h (p:Int)) (((p * 64+0:Nat)):Int)=some (if ∀x∈dL h p,x=0 then Out.brk () else Out.ret false):=by
      refine iD (f:=oK h (p:Int)) (dL h p) (fun k=>((p * 64+k:Nat):Int)) (fun x=>x=0) _ _ (fun k hk hx=>?_) (fun k hk hx=>?_) ?_
      · simp only [oK,e0,e64]
        rw [if_pos (by simp;omega),aQ (by omega),RV hs hp (by omega),aU (by omega) (by omega)]
        simp only [aI,hx];simp;omega
      · simp only [oK,e0,e64]
        rw [if_pos (by simp;omega),aQ (by omega),RV hs hp (by omega)]
        have hx':((dL h p)[k] != 0)=true:=by simpa using hx
        simp only [aI,hx',if_true]
      · simp only [oK,e0,e64,hl]
        rw [if_neg (by simp)]
    rw [key]
    have hP:l9 h p↔∀x∈dL h p,x=0:=by unfold l9;rw [if_pos hc]
    by_cases h4:∀x∈dL h p,x=0
    · rw [if_pos h4,bL (hP.2 h4)];rfl
    · rw [if_neg h4,bH (fun q=>h4 (hP.1 q))];rfl
  · have hP:l9 h p↔((dL h p).getD 0 0=171∧(dL h p).getD 1 0=bY h p∧(dL h p).getD 2 0=cP (bY h p))∧(∀x∈((dL h p).drop 3).take 5,x=0)∧∀i,i < (cP (bY h p)).toNat→1≤ld h.Bytes (p * 64+8+i * (aY (bY h p)).toNat) 4∧ld h.Bytes (p * 64+8+i * (aY (bY h p)).toNat) 4≤7:=by unfold l9;rw [if_neg hc]
    simp only [hc,decide_false,a9,if_false,e0,e1,e2,aE6 hs hp (show 0 < 64 by omega),aE6 hs hp (show 1 < 64 by omega),aE6 hs hp (show 2 < 64 by omega),aI,hC]
    by_cases a0:(dL h p).getD 0 0=171
    · by_cases a1:(dL h p).getD 1 0=bY h p
      · by_cases a2:(dL h p).getD 2 0=cP (bY h p)
        · have n0:((dL h p).getD 0 0 != 171)=false:=by simp only [bne_eq_false_iff_eq];exact a0
          have n1:((dL h p).getD 1 0 != bY h p)=false:=by simp only [bne_eq_false_iff_eq];exact a1
          have n2:((dL h p).getD 2 0 != cP (bY h p))=false:=by simp only [bne_eq_false_iff_eq];exact a2
          simp only [n0,n1,n2,a9,if_false,jK,e0,e3]
          have hl5:(((dL h p).drop 3).take 5).length=5:=by simp [hl]
          have key:loop (oN h (p:Int)) (((p * 64+3:Nat)):Int)=some (if ∀x∈((dL h p).drop 3).take 5,x=0 then Out.brk () else Out.ret false):=by
            refine iD (f:=oN h (p:Int)) (((dL h p).drop 3).take 5) (fun k=>((p * 64+(3+k):Nat):Int)) (fun x=>x=0) _ _ (fun k hk hx=>?_) (fun k hk hx=>?_) ?_
            · simp only [oN,e0,e8]
              rw [if_pos (by simp;omega),aQ (by omega),RV hs hp (by omega),aU (by omega) (by omega),←aE5 hk (by omega),hx]
              simp;omega
            · simp only [oN,e0,e8]
              rw [if_pos (by simp;omega),aQ (by omega),RV hs hp (by omega),←aE5 hk (by omega)]
              have hx':((((dL h p).drop 3).take 5)[k] != 0)=true:=by simp only [bne_iff_ne];exact hx
              simp only [aI,hx',if_true]
            · simp only [oN,e0,e8,hl5]
              rw [if_neg (by simp)]
          rw [key]
          by_cases h4:∀x∈((dL h p).drop 3).take 5,x=0
          · rw [if_pos h4]
            simp only [aI,QQ,QP]
            have key2:loop (oL h (p:Int) (bY h p)) 0=some (if ∀i,i < (cP (bY h p)).toNat→1≤ld h.Bytes (p * 64+8+i * (aY (bY h p)).toNat) 4∧ld h.Bytes (p * 64+8+i * (aY (bY h p)).toNat) 4≤7 then Out.brk () else Out.ret false):=by
              have hle:=nI (bY h p)
              have hst:∀k:Nat,k < (cP (bY h p)).toNat→oL h (p:Int) (bY h p) (k:Int)=if 1≤ld h.Bytes (p * 64+8+k * (aY (bY h p)).toNat) 4∧ld h.Bytes (p * 64+8+k * (aY (bY h p)).toNat) 4≤7 then some (.next ((k+1:Nat):Int)) else some (.stop (Out.ret false)):=by
                intro k hk
                have hz:=vM hs hp rfl hk
                have s1:pQ (p:Int) (k:Int)=some ((p:Int) * 4+k):=by
                  unfold pQ sS
                  rw [cW,cW]
                  have g1:(0:Int)≤p∧(p:Int)≤5:=by omega
                  have g2:(0:Int)≤k∧(k:Int)≤3:=by omega
                  simp only [aI,g1,g2,and_self,decide_true,eD,a9,if_false]
                  rw [aU (x:=(p:Int) * 4) (by omega) (by omega),aU (by omega) (by omega)]
                have l1:=I3 hs.2.2.1 (a:=p * 64+(8+k * (aY (bY h p)).toNat)) (w:=4) (by omega) (by omega) (by omega)
                simp only [oL,hC,aI]
                rw [if_pos (by simp;omega),s1]
                simp only [aI,xG,aT8 hs hp hk]
                rw [show((4:Nat):Int)=4 from rfl] at l1
                rw [l1,Nat.add_assoc,aU (x:=(k:Int)+1) (by omega) (by omega)]
                simp only [aI,cW]
                by_cases q:1≤ld h.Bytes (p * 64+(8+k * (aY (bY h p)).toNat)) 4∧ld h.Bytes (p * 64+(8+k * (aY (bY h p)).toNat)) 4≤7
                · rw [if_pos q,bL q];rfl
                · rw [if_neg q,bH q];rfl
              refine tY (f:=oL h (p:Int) (bY h p)) (cP (bY h p)).toNat (fun k=>(k:Int)) (fun i=>1≤ld h.Bytes (p * 64+8+i * (aY (bY h p)).toNat) 4∧ld h.Bytes (p * 64+8+i * (aY (bY h p)).toNat) 4≤7) _ _ (fun k hk hx=>?_) (fun k hk hx=>?_) ?_
              · rw [hst k hk,if_pos hx]
              · rw [hst k hk,if_neg hx]
              · simp only [oL,hC,aI]
                rw [if_neg (by simp;omega)]
            rw [key2]
            by_cases h5:∀i,i < (cP (bY h p)).toNat→1≤ld h.Bytes (p * 64+8+i * (aY (bY h p)).toNat) 4∧ld h.Bytes (p * 64+8+i * (aY (bY h p)).toNat) 4≤7
            · rw [if_pos h5,bL (hP.2 ⟨⟨a0,a1,a2⟩,h4,h5⟩)];rfl
            · rw [if_neg h5,bH (fun q=>h5 (hP.1 q).2.2)];rfl
          · rw [if_neg h4,bH (fun q=>h4 (hP.1 q).2.1)];rfl
        · have n0:((dL h p).getD 0 0 != 171)=false:=by simp only [bne_eq_false_iff_eq];exact a0
          have n1:((dL h p).getD 1 0 != bY h p)=false:=by simp only [bne_eq_false_iff_eq];exact a1
          have n2:((dL h p).getD 2 0 != cP (bY h p))=true:=by simp only [bne_iff_ne];exact a2
          simp only [n0,n1,n2,a9,if_false,jK,if_true]
          rw [bH (fun q=>a2 (hP.1 q).1.2.2)]
      · have n0:((dL h p).getD 0 0 != 171)=false:=by simp only [bne_eq_false_iff_eq];exact a0
        have n1:((dL h p).getD 1 0 != bY h p)=true:=by simp only [bne_iff_ne];exact a1
        simp only [n0,n1,a9,if_false,jK,if_true]
        rw [bH (fun q=>a1 (hP.1 q).1.2.1)]
    · have n0:((dL h p).getD 0 0 != 171)=true:=by simp only [bne_iff_ne];exact a0
      simp only [n0,a9,if_false,jK,if_true]
      rw [bH (fun q=>a0 (hP.1 q).1.1)]
end
end Go.Gv
end
noncomputable section
namespace Go.Gv
theorem RX{l:List Int}(hl:l.length≤maxLen):EM l=some (decide (∀x∈l,x=0)):=by
  unfold EM
  have e:(fun y0=>DP y0)=fun y:Int=>some (!decide (y=0)):=by
    funext y;simp [DP,bne];rfl
  rw [e,B6 hl,ED]
  simp
noncomputable section
variable {h:aG} (hs:fQ h) {p:Nat} (hp:p < 6)
include hs hp
theorem aYE:(h.Bytes.take ((p+1) * 64)).drop (p * 64)=dL h p:=by
  unfold dL
  rw [List.drop_take];congr 1;omega
theorem aW3{a:Nat}(ha:a+4≤64):ld (dL h p) a 4=ld h.Bytes (p * 64+a) 4:=by
  unfold ld dL
  rw [List.drop_take,List.take_take,List.drop_drop]
  congr 2;omega
theorem aNH{k:Nat}(hk:k < 64):idx (dL h p) (k:Int)=some ((dL h p).getD k 0):=by
  have:=I4 hs hp
  rw [aQ (by omega),List.getD_eq_getElem?_getD,List.getElem?_eq_getElem (by omega)];rfl
theorem RY:KI h (p:Int)=some (decide (l9 h p)):=by
  have hb:=hs.1
  have hl:=I4 hs hp
  have hm:(dL h p).length≤maxLen:=by rw [hl];simp [maxLen]
  have e0:aE ((p:Int) * 64)=((p * 64:Nat):Int):=by rw [aU (by omega) (by omega)];omega
  have e1:aE (aE ((p:Int)+1) * 64)=(((p+1) * 64:Nat):Int):=by rw [aU (x:=(p:Int)+1) (by omega) (by omega),aU (by omega) (by omega)];omega
  have i0:=aNH hs hp (show 0 < 64 by omega)
  have i1:=aNH hs hp (show 1 < 64 by omega)
  have i2:=aNH hs hp (show 2 < 64 by omega)
  rw [show((0:Nat):Int)=0 from rfl] at i0
  rw [show((1:Nat):Int)=1 from rfl] at i1
  rw [show((2:Nat):Int)=2 from rfl] at i2
  unfold KI
  rw [aB0 hs hp]
  simp only [aI,e0,e1,Int.toNat_natCast,aYE hs hp]
  rw [aP (by omega)]
  by_cases hc:bY h p < 0
  · have hP:l9 h p↔∀x∈dL h p,x=0:=by unfold l9;rw [if_pos hc]
    simp only [hc,decide_true,if_true,RX hm,aI,hP]
  · have hP:l9 h p↔((dL h p).getD 0 0=171∧(dL h p).getD 1 0=bY h p∧(dL h p).getD 2 0=cP (bY h p))∧(∀x∈((dL h p).drop 3).take 5,x=0)∧∀i,i < (cP (bY h p)).toNat→1≤ld h.Bytes (p * 64+8+i * (aY (bY h p)).toNat) 4∧ld h.Bytes (p * 64+8+i * (aY (bY h p)).toNat) 4≤7:=by unfold l9;rw [if_neg hc]
    simp only [hc,decide_false,a9,if_false,i0,i1,i2,aI,yV]
    by_cases a0:(dL h p).getD 0 0=171
    · by_cases a1:(dL h p).getD 1 0=bY h p
      · by_cases a2:(dL h p).getD 2 0=cP (bY h p)
        · have n0:((dL h p).getD 0 0 != 171)=false:=by simp only [bne_eq_false_iff_eq];exact a0
          have n1:((dL h p).getD 1 0 != bY h p)=false:=by simp only [bne_eq_false_iff_eq];exact a1
          have n2:((dL h p).getD 2 0 != cP (bY h p))=false:=by simp only [bne_eq_false_iff_eq];exact a2
          have t8:((dL h p).take (8:Int).toNat).drop (3:Int).toNat=((dL h p).drop 3).take 5:=by
            rw [show(8:Int).toNat=8 from rfl,show(3:Int).toNat=3 from rfl,List.drop_take]
          simp only [n0,n1,n2,a9,if_false,iI,t8]
          rw [aP (by omega),RX (by simp [maxLen];omega)]
          by_cases h4:∀x∈((dL h p).drop 3).take 5,x=0
          · simp only [bL h4,aI,eD,a9,if_false,yV]
            have key2:loop (o5 h (p:Int) (bY h p) (cP (bY h p))) 0=some (if ∀i,i < (cP (bY h p)).toNat→1≤ld h.Bytes (p * 64+8+i * (aY (bY h p)).toNat) 4∧ld h.Bytes (p * 64+8+i * (aY (bY h p)).toNat) 4≤7 then Out.brk () else Out.ret false):=by
              have hle:=nI (bY h p)
              have hst:∀k:Nat,k < (cP (bY h p)).toNat→o5 h (p:Int) (bY h p) (cP (bY h p)) (k:Int)=if 1≤ld h.Bytes (p * 64+8+k * (aY (bY h p)).toNat) 4∧ld h.Bytes (p * 64+8+k * (aY (bY h p)).toNat) 4≤7 then some (.next ((k+1:Nat):Int)) else some (.stop (Out.ret false)):=by
                intro k hk
                have hz:=vM hs hp rfl hk
                have e5:aE (8+aE ((k:Int) * aY (bY h p)))=((8+k * (aY (bY h p)).toNat:Nat):Int):=by
                  rw [aU (x:=(k:Int) * aY (bY h p)) (by omega) (by omega),aU (by omega) (by omega)];omega
                have l1:=yW (aQA hs hp) (a:=8+k * (aY (bY h p)).toNat) (w:=4) (by omega) (by omega) (by omega)
                rw [show((4:Nat):Int)=4 from rfl,aW3 hs hp (by omega)] at l1
                simp only [o5,NH,aI,e0,e1,Int.toNat_natCast,aYE hs hp,e5]
                rw [if_pos (by simp;omega),l1,Nat.add_assoc,aU (x:=(k:Int)+1) (by omega) (by omega)]
                simp only [aI,dO]
                by_cases q:1≤ld h.Bytes (p * 64+(8+k * (aY (bY h p)).toNat)) 4∧ld h.Bytes (p * 64+(8+k * (aY (bY h p)).toNat)) 4≤7
                · rw [if_pos q,bL q];rfl
                · rw [if_neg q,bH q];rfl
              refine tY (f:=o5 h (p:Int) (bY h p) (cP (bY h p))) (cP (bY h p)).toNat (fun k=>(k:Int)) (fun i=>1≤ld h.Bytes (p * 64+8+i * (aY (bY h p)).toNat) 4∧ld h.Bytes (p * 64+8+i * (aY (bY h p)).toNat) 4≤7) _ _ (fun k hk hx=>?_) (fun k hk hx=>?_) ?_
              · rw [hst k hk,if_pos hx]
              · rw [hst k hk,if_neg hx]
              · simp only [o5]
                rw [if_neg (by simp;omega)]
            rw [key2]
            by_cases h5:∀i,i < (cP (bY h p)).toNat→1≤ld h.Bytes (p * 64+8+i * (aY (bY h p)).toNat) 4∧ld h.Bytes (p * 64+8+i * (aY (bY h p)).toNat) 4≤7
            · rw [if_pos h5,bL (hP.2 ⟨⟨a0,a1,a2⟩,h4,h5⟩)];rfl
            · rw [if_neg h5,bH (fun q=>h5 (hP.1 q).2.2)];rfl
          · simp only [bH h4,aI,lJ,if_true]
            rw [bH (fun q=>h4 (hP.1 q).2.1)]
        · have n0:((dL h p).getD 0 0 != 171)=false:=by simp only [bne_eq_false_iff_eq];exact a0
          have n1:((dL h p).getD 1 0 != bY h p)=false:=by simp only [bne_eq_false_iff_eq];exact a1
          have n2:((dL h p).getD 2 0 != cP (bY h p))=true:=by simp only [bne_iff_ne];exact a2
          simp only [n0,n1,n2,a9,if_false,iI,if_true]
          rw [bH (fun q=>a2 (hP.1 q).1.2.2)]
      · have n0:((dL h p).getD 0 0 != 171)=false:=by simp only [bne_eq_false_iff_eq];exact a0
        have n1:((dL h p).getD 1 0 != bY h p)=true:=by simp only [bne_iff_ne];exact a1
        simp only [n0,n1,a9,if_false,iI,if_true]
        rw [bH (fun q=>a1 (hP.1 q).1.2.1)]
    · have n0:((dL h p).getD 0 0 != 171)=true:=by simp only [bne_iff_ne];exact a0
      simp only [n0,a9,if_false,iI,if_true]
      rw [bH (fun q=>a0 (hP.1 q).1.1)]
end
instance (h:aG):Decidable (∀p,p < 6→l9 h p):=Nat.decidableBallLT 6 fun p _=>l9 h p
def YE(h:aG):Prop:=fQ h∧∀p,p < 6→l9 h p
instance (h:aG):Decidable (YE h):=by unfold YE;infer_instance
theorem aE7{h:aG}(hl:h.Bytes.length≤maxLen):JZ h=some (decide (YE h)):=by
  unfold JZ
  rw [aA4 hl]
  by_cases hs:fQ h
  · have key:loop (sT h) 0=some (if ∀p,p < 6→l9 h p then Out.brk () else Out.ret false):=by
      refine tY (f:=sT h) 6 (fun k=>(k:Int)) (fun p=>l9 h p) _ _ (fun k hk hx=>?_) (fun k hk hx=>?_) ?_
      · simp only [sT]
        rw [if_pos (by simp;omega),RW hs hk,aU (by omega) (by omega),bL hx];rfl
      · simp only [sT]
        rw [if_pos (by simp;omega),RW hs hk,bH hx];rfl
      · rfl
    simp only [aI,bL hs,eD,a9,if_false]
    rw [key]
    by_cases h4:∀p,p < 6→l9 h p
    · rw [if_pos h4,bL (show YE h from ⟨hs,h4⟩)];rfl
    · rw [if_neg h4,bH (fun q:YE h=>h4 q.2)];rfl
  · rw [bH (fun q:YE h=>hs q.1),bH hs];rfl
theorem I5{h:aG}(hl:h.Bytes.length≤maxLen):EN h=some (decide (YE h)):=by
  unfold EN
  rw [B7 hl]
  by_cases hs:fQ h
  · have key:loop (tE h) 0=some (if ∀p,p < 6→l9 h p then Out.brk () else Out.ret false):=by
      refine tY (f:=tE h) 6 (fun k=>(k:Int)) (fun p=>l9 h p) _ _ (fun k hk hx=>?_) (fun k hk hx=>?_) ?_
      · simp only [tE]
        rw [if_pos (by simp;omega),RY hs hk,aU (by omega) (by omega),bL hx];rfl
      · simp only [tE]
        rw [if_pos (by simp;omega),RY hs hk,bH hx];rfl
      · rfl
    simp only [aI,bL hs,eD,a9,if_false]
    rw [key]
    by_cases h4:∀p,p < 6→l9 h p
    · rw [if_pos h4,bL (show YE h from ⟨hs,h4⟩)];rfl
    · rw [if_neg h4,bH (fun q:YE h=>h4 q.2)];rfl
  · rw [bH (fun q:YE h=>hs q.1),bH hs];rfl
def bS(h:aG)(s:Int):Int:=if (0≤s∧s≤23)∧s % 4 < cP (bY h (s / 4).toNat) then bY h (s / 4).toNat else -1
theorem HI{h:aG}{s:Int}(hc:0≤bS h s):(0≤s∧s≤23)∧s % 4 < cP (bY h (s / 4).toNat)∧bS h s=bY h (s / 4).toNat:=by
  unfold bS at hc ⊢
  split at hc
  · rename_i h1;exact⟨h1.1,h1.2,by rw [if_pos h1]⟩
  · omega
theorem m3{h:aG}(hs:fQ h)(s:Int):kV h s=some (bS h s):=by
  unfold kV qU bS
  rw [RU,P3]
  by_cases h1:0≤s∧s≤23
  · obtain⟨k,rfl⟩:=Int.eq_ofNat_of_zero_le h1.1
    have hk:k / 4 < 6:=by omega
    have e1:((k:Int) / 4)=((k / 4:Nat):Int):=by omega
    have hi:=aB0 hs hk
    have n1:¬((k / 4:Nat):Int) < 0:=by omega
    simp only [h1,and_self,if_true,aI,e1,n1,decide_false,a9,if_false,hi,Int.toNat_natCast,true_and]
    by_cases h2:bY h (k / 4) < 0
    · have h3:cP (bY h (k / 4))=0:=aJ4 (by omega)
      have h4:¬(k:Int) % 4 < 0:=by omega
      simp [h2,h3,h4]
    · by_cases h3:(k:Int) % 4 < cP (bY h (k / 4))
      · have h4:¬cP (bY h (k / 4))≤(k:Int) % 4:=by omega
        simp [h2,h3,h4,hC]
      · have h4:cP (bY h (k / 4))≤(k:Int) % 4:=by omega
        simp [h2,h3,h4,hC]
  · simp [h1]
theorem kK{h:aG}(hs:fQ h)(s:Int):nB h s=some (bS h s):=by
  unfold nB xZ bS
  rw [tZ]
  by_cases h1:0≤s∧s≤23
  · obtain⟨k,rfl⟩:=Int.eq_ofNat_of_zero_le h1.1
    have hk:k / 4 < 6:=by omega
    have e1:((k:Int) / 4)=((k / 4:Nat):Int):=by omega
    have hi:=aB0 hs hk
    have e2:aE (Int.tdiv (k:Int) 4)=((k / 4:Nat):Int):=by rw [ET (by omega),aU (by omega) (by omega)];omega
    simp only [h1,and_self,decide_true,eD,a9,if_true,aI,e1,e2,if_false,hi,Int.toNat_natCast,true_and,xH]
    by_cases h3:(k:Int) % 4 < cP (bY h (k / 4))
    · have hm:=I2 (c:=bY h (k / 4)) (by omega) h3
      have hg:¬gH (k:Int) (bY h (k / 4)) < 0:=by
        unfold gH;rw [if_pos ⟨h1,h3⟩];omega
      simp [h3,hg]
    · have hg:gH (k:Int) (bY h (k / 4)) < 0:=by
        unfold gH;rw [if_neg (fun q=>h3 q.2)];omega
      simp [h3,hg]
  · simp [h1]
def nP(h:aG)(s:Int):Int:=ld h.Bytes (gH s (bS h s)).toNat 4
theorem OW{h:aG}{s:Int}(hc:0≤bS h s):0≤gH s (bS h s)∧gH s (bS h s)+4≤384:=by
  obtain⟨h1,h2,h3⟩:=HI hc
  rw [h3]
  have hm:=I2 (c:=bY h (s / 4).toNat) (by omega) h2
  have hst:0 < aY (bY h (s / 4).toNat):=by
    have:0≤bY h (s / 4).toNat∧bY h (s / 4).toNat≤2:=nJ.1 (by omega)
    rcases gQ this with e | e | e <;> rw [e] <;> decide
  have:4≤aY (bY h (s / 4).toNat):=by
    have:0≤bY h (s / 4).toNat∧bY h (s / 4).toNat≤2:=nJ.1 (by omega)
    rcases gQ this with e | e | e <;> rw [e] <;> decide
  unfold gH;rw [if_pos ⟨h1,h2⟩];omega
theorem xI{h:aG}(hs:fQ h){s:Int}(hc:0≤bS h s):sU h s=some (nP h s):=by
  have hg:=OW hc
  unfold sU
  rw [m3 hs]
  simp only [aI,xG]
  have l1:=I3 hs.2.2.1 (a:=(gH s (bS h s)).toNat) (w:=4) (by omega) (by have:=hs.1;omega) (by have:=hs.1;omega)
  rw [show((4:Nat):Int)=4 from rfl,Int.toNat_of_nonneg hg.1] at l1
  rw [l1];rfl
theorem EE{h:aG}(hs:fQ h){s:Int}(hc:0≤bS h s):zD h s=some (nP h s):=by
  have hg:=OW hc
  have hm:h.Bytes.length≤maxLen:=by rw [hs.1];simp [maxLen]
  unfold zD p8
  rw [B7 hm,kK hs]
  have l1:=yW hs.2.2.1 (a:=(gH s (bS h s)).toNat) (w:=4) (by omega) (by have:=hs.1;omega) (by have:=hs.1;omega)
  rw [show((4:Nat):Int)=4 from rfl,Int.toNat_of_nonneg hg.1] at l1
  have n1:¬bS h s < 0:=by omega
  simp [hs,n1,xH,l1,nP]
end Go.Gv
end
noncomputable section
namespace Go.Gv
def cV(l:List aH):List Int:=l.flatMap aH.aL
def eC(l:aA):List Int:=cV l.Global++cV l.bQ
def LOk(l:aA):Prop:=l.Global.length=3∧l.bQ.length=9∧(∀s∈l.bQ,s.aL.length≤2)∧(∀x∈eC l,0≤x∧x≤23)∧(eC l).Nodup
instance (l:aA):Decidable (LOk l):=by unfold LOk;infer_instance
theorem NI{l:List aH}{k:Nat}(h:k < l.length):cV (l.take (k+1))=cV (l.take k)++l[k].aL:=by
  unfold cV
  rw [List.take_succ_eq_append_getElem h,List.flatMap_append];simp
theorem aJ6(l:List aH)(k:Nat):(cV (l.take k)).length≤(cV l).length:=by
  have:cV l=cV (l.take k)++cV (l.drop k):=by
    unfold cV;rw [←List.flatMap_append,List.take_append_drop]
  rw [this];simp
theorem RZ(l:List aH){k:Nat}(h:k < l.length):l[k].aL.length≤(cV l).length:=by
  have h1:=aJ6 l (k+1)
  rw [NI h] at h1
  simp at h1;omega
theorem TX{l:aA}(h:(eC l).length≤1073741824)(hg:l.Global.length≤maxLen)(ho:l.bQ.length≤maxLen):H0 l=some (eC l):=by
  have hsum:(cV l.Global).length+(cV l.bQ).length≤1073741824:=by simpa [eC] using h
  unfold H0
  have k1:loop (wE l) ([],0)=some (cV l.Global):=by
    refine gA (f:=wE l) l.Global.length (fun k=>(cV (l.Global.take k),(k:Int))) _ (fun k hk=>?_) ?_
    · have h1:=aJ6 l.Global (k+1)
      rw [NI hk] at h1
      simp only [wE]
      rw [if_pos (by simp;omega),aQ hk]
      simp only [aI]
      rw [aP (by simp at h1;omega),NI hk,cX (eE hk hg)]
    · simp [wE]
  rw [k1]
  simp only [aI,S4,S3]
  have k2:loop (wD l) (cV l.Global,0)=some (eC l):=by
    have:=gA (f:=wD l) l.bQ.length (fun k=>(cV l.Global++cV (l.bQ.take k),(k:Int))) (eC l) (fun k hk=>?_) ?_
    · simpa [cV] using this
    · have h1:=aJ6 l.bQ (k+1)
      rw [NI hk] at h1
      simp only [wD]
      rw [if_pos (by simp;omega),aQ hk]
      simp only [aI]
      rw [aP (by simp at h1 ⊢;omega),NI hk,cX (eE hk ho),List.append_assoc]
    · simp [wD,eC]
  rw [k2];rfl
theorem LR{l:List Int}(hl:l.length≤maxLen)(x:Int):CT l x=some (decide (x∈l)):=by
  unfold CT
  have key:loop (rR l x) 0=some (if ∀y∈l,y≠x then Out.brk () else Out.ret true):=by
    refine iD (f:=rR l x) l (fun k=>(k:Int)) (fun y=>y≠x) _ _ (fun k h hp=>?_) (fun k h hp=>?_) ?_
    · simp only [rR]
      rw [if_pos (by simp;omega),aQ h,cX (eE h hl)]
      have:(l[k] == x)=false:=by simpa using hp
      simp only [aI,this,a9,if_false]
    · simp only [rR]
      rw [if_pos (by simp;omega),aQ h]
      have:(l[k] == x)=true:=by simpa using hp
      simp only [aI,this,if_true]
    · simp [rR]
  rw [key]
  by_cases h:x∈l
  · rw [if_neg (fun q=>q x h rfl),bL h];rfl
  · rw [if_pos (fun y hy (e:y=x)=>h (e ▸ hy)),bH h];rfl
theorem OX(l:List Int):l.Nodup↔∀k (h:k < l.length),l[k]∉l.take k:=by
  unfold List.Nodup
  rw [List.pairwise_iff_getElem]
  constructor
  · intro h k hk hm
    obtain⟨i,hi,he⟩:=List.mem_take_iff_getElem.1 hm
    exact h i k (by omega) hk (by omega) he
  · intro h i j hi hj hij he
    exact h j hj (List.mem_take_iff_getElem.2 ⟨i,by omega,he⟩)
theorem aA5{l:aA}(h:(eC l).length≤1073741824):FU l=some (decide (LOk l)):=by
  unfold FU xP
  by_cases hg:l.Global.length=3
  · by_cases ho:l.bQ.length=9
    · have n1:((l.Global.length:Int) != 3)=false:=by simp;omega
      have n2:((l.bQ.length:Int) != 9)=false:=by simp;omega
      simp only [n1,n2,a9,if_false]
      have k1:loop (mQ l) 0=some (if ∀s∈l.bQ,s.aL.length≤2 then Out.brk () else Out.ret false):=by
        refine iD (f:=mQ l) l.bQ (fun k=>(k:Int)) (fun s=>s.aL.length≤2) _ _ (fun k hk hp=>?_) (fun k hk hp=>?_) ?_
        · simp only [mQ]
          rw [if_pos (by simp;omega),aQ hk,aU (by omega) (by omega)]
          simp only [aI]
          rw [if_neg (by simp;omega)];rfl
        · simp only [mQ]
          rw [if_pos (by simp;omega),aQ hk]
          simp only [aI]
          rw [if_pos (by simp;omega)]
        · simp [mQ]
      rw [k1]
      by_cases h2:∀s∈l.bQ,s.aL.length≤2
      · rw [if_pos h2]
        simp only [aI,O8,O7]
        rw [TX h (by rw [hg];simp [maxLen]) (by rw [ho];simp [maxLen])]
        simp only [aI]
        have k2:loop (mP (eC l)) 0=some (if ∀k,k < (eC l).length→(0≤(eC l).getD k 0∧(eC l).getD k 0≤23)∧(eC l).getD k 0∉(eC l).take k then Out.brk () else Out.ret false):=by
          have hst:∀k,k < (eC l).length→mP (eC l) (k:Int)=if (0≤(eC l).getD k 0∧(eC l).getD k 0≤23)∧(eC l).getD k 0∉(eC l).take k then some (.next ((k+1:Nat):Int)) else some (.stop (Out.ret false)):=by
            intro k hk
            have e:(eC l).getD k 0=(eC l)[k]:=by rw [List.getD_eq_getElem?_getD,List.getElem?_eq_getElem hk];rfl
            rw [e]
            simp only [mP]
            rw [if_pos (by simp;omega),aQ hk]
            simp only [aI,cW,xO]
            by_cases q:0≤(eC l)[k]∧(eC l)[k]≤23
            · rw [bL q]
              simp only [eD,a9,if_false,Int.toNat_natCast,List.drop_zero]
              rw [aP (by omega),LR (by simp [maxLen];omega),aU (by omega) (by omega)]
              by_cases q2:(eC l)[k]∈(eC l).take k
              · rw [if_neg (fun x=>x.2 q2),bL q2];rfl
              · rw [if_pos ⟨q,q2⟩,bH q2];rfl
            · rw [bH q];simp only [lJ,if_true];rw [if_neg (fun x=>q x.1)]
          refine tY (f:=mP (eC l)) (eC l).length (fun k=>(k:Int)) (fun k=>(0≤(eC l).getD k 0∧(eC l).getD k 0≤23)∧(eC l).getD k 0∉(eC l).take k) _ _ (fun k hk hx=>?_) (fun k hk hx=>?_) ?_
          · rw [hst k hk,if_pos hx]
          · rw [hst k hk,if_neg hx]
          · simp [mP]
        rw [k2]
        have hiff:LOk l↔∀k,k < (eC l).length→(0≤(eC l).getD k 0∧(eC l).getD k 0≤23)∧(eC l).getD k 0∉(eC l).take k:=by
          have e:∀k (hk:k < (eC l).length),(eC l).getD k 0=(eC l)[k]:=fun k hk=>by rw [List.getD_eq_getElem?_getD,List.getElem?_eq_getElem hk];rfl
          constructor
          · rintro⟨_,_,_,q1,q2⟩ k hk
            rw [e k hk]
            exact⟨q1 _ (List.getElem_mem hk),(OX _).1 q2 k hk⟩
          · intro q
            refine⟨hg,ho,h2,fun x hx=>?_,(OX _).2 fun k hk=>?_⟩
            · obtain⟨k,hk,rfl⟩:=List.mem_iff_getElem.1 hx
              have:=(q k hk).1;rw [e k hk] at this;exact this
            · have:=(q k hk).2;rw [e k hk] at this;exact this
        by_cases q:LOk l
        · rw [if_pos (hiff.1 q),bL q];rfl
        · rw [if_neg (fun x=>q (hiff.2 x)),bH q];rfl
      · rw [if_neg h2,bH (fun q:LOk l=>h2 q.2.2.1)];rfl
    · have n1:((l.Global.length:Int) != 3)=false:=by simp;omega
      have n2:((l.bQ.length:Int) != 9)=true:=by simp;omega
      simp only [n1,n2,a9,if_false,if_true]
      rw [bH (fun q:LOk l=>ho q.2.1)]
  · have n1:((l.Global.length:Int) != 3)=true:=by simp;omega
    simp only [n1,if_true]
    rw [bH (fun q:LOk l=>hg q.1)]
def xJ:List Bool→List Int→Option (List Bool)
  | met,[]=>some met
  | met,x :: r=>if (0≤x∧x≤23)∧met.getD x.toNat true=false then xJ (met.set x.toNat true) r else none
theorem aH7:∀{xs:List Int} {met m:List Bool},xJ met xs=some m→m.length=met.length
  | [],met,m,h=>by simp [xJ] at h;rw [h]
  | x :: r, met, m, h => by
    simp only [xJ] at h
    split at h
    · have:=aH7 h;simpa using this
    · cases h
theorem WI:∀(a b:List Int) (met:List Bool),xJ met (a++b)=(xJ met a).bind fun m=>xJ m b
  | [],b,met=>rfl
  | x :: r, b, met => by
    simp only [List.cons_append,xJ]
    split
    · exact WI r b _
    · rfl
theorem UZ:∀(xs:List Int) (met:List Bool),met.length=24→((xJ met xs).isSome=true↔(∀x∈xs,0≤x∧x≤23)∧xs.Nodup∧∀x∈xs,met.getD x.toNat true=false)
  | [],met,hm=>by simp [xJ]
  | x :: r, met, hm => by
    simp only [xJ]
    by_cases h:(0≤x∧x≤23)∧met.getD x.toNat true=false
    · rw [if_pos h,UZ r _ (by simpa using hm)]
      have hset:∀y,0≤y∧y≤23→(((met.set x.toNat true).getD y.toNat true=false)↔(y≠x∧met.getD y.toNat true=false)):=by
        intro y hy
        rw [List.getD_eq_getElem?_getD,List.getD_eq_getElem?_getD]
        by_cases e:y=x
        · subst e;rw [List.getElem?_set_self (by omega)];simp
        · rw [List.getElem?_set_ne (by omega)];simp [e]
      constructor
      · rintro⟨q1,q2,q3⟩
        refine⟨fun y hy=>?_,List.nodup_cons.2 ⟨fun hx=>?_,q2⟩,fun y hy=>?_⟩
        · rcases List.mem_cons.1 hy with rfl | hy
          · exact h.1
          · exact q1 y hy
        · exact((hset x h.1).1 (q3 x hx)).1 rfl
        · rcases List.mem_cons.1 hy with rfl | hy
          · exact h.2
          · exact((hset y (q1 y hy)).1 (q3 y hy)).2
      · rintro⟨q1,q2,q3⟩
        have q2:=List.nodup_cons.1 q2
        refine⟨fun y hy=>q1 y (List.mem_cons_of_mem _ hy),q2.2,fun y hy=>(hset y (q1 y (List.mem_cons_of_mem _ hy))).2 ⟨fun e=>q2.1 (e ▸ hy),q3 y (List.mem_cons_of_mem _ hy)⟩⟩
    · rw [if_neg h]
      constructor
      · intro q;cases q
      · rintro⟨q1,q2,q3⟩
        exact(h ⟨q1 x List.mem_cons_self,q3 x List.mem_cons_self⟩).elim
def aJ7:Option (List Bool)→Out (List Bool) Bool
  | some m=>.brk m
  | none=>.ret false
theorem a1P{s:aH}(hl:s.aL.length≤maxLen):∀d k (met:List Bool),k+d=s.aL.length→met.length=24→loop (kD s) ((k:Int),met)=some (aJ7 (xJ met (s.aL.drop k))):=by
  intro d
  induction d with
  | zero =>
    intro k met hk hm
    rw [bZ (r:=Out.brk met) (by simp [kD];omega),List.drop_eq_nil_of_le (by omega)];rfl
  | succ d ih =>
    intro k met hk hm
    have hk':k < s.aL.length:=by omega
    have hd:s.aL.drop k=s.aL[k] :: s.aL.drop (k+1):=List.drop_eq_getElem_cons hk'
    have hst:kD s ((k:Int),met)=if (0≤s.aL[k]∧s.aL[k]≤23)∧met.getD s.aL[k].toNat true=false then some (.next (((k+1:Nat):Int),met.set s.aL[k].toNat true)) else some (.stop (Out.ret false)):=by
      simp only [kD]
      rw [if_pos (by simp;omega),aQ hk']
      simp only [aI,tZ]
      generalize s.aL[k]=x
      by_cases q:0≤x∧x≤23
      · obtain⟨j,rfl⟩:=Int.eq_ofNat_of_zero_le q.1
        have hj:j < met.length:=by omega
        have e:met.getD j true=met[j]:=by rw [List.getD_eq_getElem?_getD,List.getElem?_eq_getElem hj];rfl
        simp only [q,and_self,decide_true,eD,a9,if_false,mW,Int.toNat_natCast,true_and,e]
        rw [aP (by omega),aQ hj]
        simp only [aI]
        cases met[j]
        · simp only [a9,if_false,if_true]
          rw [aP (by omega),cX (eE hk' hl)]
        · simp
      · rw [bH q];simp only [lJ,if_true,mW];rw [if_neg (fun x=>q x.1)]
    rw [hd,xJ]
    by_cases q:(0≤s.aL[k]∧s.aL[k]≤23)∧met.getD s.aL[k].toNat true=false
    · rw [if_pos q] at hst ⊢
      rw [cH hst,ih (k+1) _ (by omega) (by simpa using hm)]
    · rw [if_neg q] at hst ⊢
      rw [bZ hst];rfl
def Y2(l:List aH):Prop:=∀s∈l,s.aL.length≤2
instance (l:List aH):Decidable (Y2 l):=by unfold Y2;infer_instance
theorem a1Q{l:aA}(ho:l.bQ.length=9)(hn:(l.bQ++l.Global).length≤1000)(hs:∀s∈l.bQ++l.Global,s.aL.length≤maxLen):∀d k (met:List Bool),k+d=(l.bQ++l.Global).length→met.length=24 →
    loop (kG l) ((k:Int),met)=some (if Y2 (((l.bQ++l.Global).drop k).take (9 - k))∧(xJ met (cV ((l.bQ++l.Global).drop k))).isSome=true then Out.brk () else Out.ret false):=by
  intro d
  induction d with
  | zero =>
    intro k met hk hm
    rw [List.drop_eq_nil_of_le (by omega),if_pos ⟨by simp [Y2],rfl⟩]
    refine bZ ?_
    simp only [kG]
    rw [if_neg (by simp;simp at hk;omega)]
  | succ d ih =>
    intro k met hk hm
    have hk':k < (l.bQ++l.Global).length:=by omega
    have hd:(l.bQ++l.Global).drop k=(l.bQ++l.Global)[k] :: (l.bQ++l.Global).drop (k+1):=List.drop_eq_getElem_cons hk'
    have hsk:=hs _ (List.getElem_mem hk')
    have hf:cV ((l.bQ++l.Global).drop k)=(l.bQ++l.Global)[k].aL++cV ((l.bQ++l.Global).drop (k+1)):=by unfold cV;rw [hd,List.flatMap_cons]
    have hin:∀b:Bool,kE (k:Int) met (l.bQ++l.Global)[k] b=if b then some (.stop (Out.ret false)) else (match xJ met (l.bQ++l.Global)[k].aL with | some m=>some (.next (((k+1:Nat):Int),m)) | none=>some (.stop (Out.ret false))):=by
      intro b
      have h4:=a1P hsk _ 0 met (Nat.zero_add _) hm
      rw [show((0:Nat):Int)=0 from rfl,List.drop_zero] at h4
      unfold kE
      rw [h4]
      cases b
      · simp only [a9,if_false,aI]
        cases xJ met (l.bQ++l.Global)[k].aL with
        | none=>rfl
        | some m=>simp only [aJ7,PH,xX];rw [aU (by omega) (by omega)];rfl
      · rfl
    have hst:kG l ((k:Int),met)=kE (k:Int) met (l.bQ++l.Global)[k] (decide (k < 9∧2 < (l.bQ++l.Global)[k].aL.length)):=by
      simp only [kG]
      rw [if_pos (by simp;simp at hk';omega),aQ hk']
      simp only [aI]
      by_cases h9:k < 9
      · rw [if_pos (by simp;omega)]
        congr 1
        rw [Bool.eq_iff_iff];simp only [decide_eq_true_eq];omega
      · rw [if_neg (by simp;omega),bH (by omega)]
    rw [hin] at hst
    by_cases h2:k < 9∧2 < (l.bQ++l.Global)[k].aL.length
    · rw [bL h2] at hst
      simp only [if_true] at hst
      rw [bZ hst,if_neg]
      rintro⟨q,_⟩
      have e:9 - k=(9 - (k+1))+1:=by omega
      rw [hd,e,List.take_succ_cons] at q
      have:=q _ List.mem_cons_self
      omega
    · rw [bH h2] at hst
      simp only [a9,if_false] at hst
      have hcond:Y2 (((l.bQ++l.Global).drop k).take (9 - k))↔Y2 (((l.bQ++l.Global).drop (k+1)).take (9 - (k+1))):=by
        unfold Y2
        by_cases h9:k < 9
        · have e:9 - k=(9 - (k+1))+1:=by omega
          rw [hd,e,List.take_succ_cons,List.forall_mem_cons]
          exact⟨fun q=>q.2,fun q=>⟨by omega,q⟩⟩
        · have e:9 - k=0:=by omega
          have e':9 - (k+1)=0:=by omega
          rw [e,e'];simp
      rw [hf,WI]
      cases hg:xJ met (l.bQ++l.Global)[k].aL with
      | none =>
        rw [hg] at hst
        rw [bZ hst,if_neg (by simp)]
      | some m =>
        rw [hg] at hst
        rw [cH hst,ih (k+1) m (by omega) (by rw [aH7 hg];exact hm)]
        simp only [aI,hcond]
theorem P4{l:aA}(h:(eC l).length≤1073741824):jD l=some (decide (LOk l)):=by
  unfold jD rB
  by_cases hg:l.Global.length=3
  · by_cases ho:l.bQ.length=9
    · have n1:((l.Global.length:Int) != 3)=false:=by simp;omega
      have n2:((l.bQ.length:Int) != 9)=false:=by simp;omega
      simp only [n1,n2,a9,if_false]
      rw [aP (by omega)]
      have hsl:∀s∈l.bQ++l.Global,s.aL.length≤maxLen:=by
        intro s hm
        have hsum:(cV l.Global).length+(cV l.bQ).length≤1073741824:=by simpa [eC] using h
        have hb:(1073741824:Nat)≤maxLen:=by simp [maxLen]
        rcases List.mem_append.1 hm with hm | hm
        · obtain⟨k,hk,rfl⟩:=List.mem_iff_getElem.1 hm
          have:=RZ l.bQ hk;omega
        · obtain⟨k,hk,rfl⟩:=List.mem_iff_getElem.1 hm
          have:=RZ l.Global hk;omega
      have key:=a1Q ho (by simp;omega) hsl (l.bQ++l.Global).length 0 [false,false,false,false,false,false,false,false,false,false,false,false,false,false,false,false,false,false,false,false,false,false,false,false] (by omega) rfl
      rw [show((0:Nat):Int)=0 from rfl,List.drop_zero,Nat.sub_zero] at key
      rw [key]
      have et:(l.bQ++l.Global).take 9=l.bQ:=by rw [←ho];simp
      have ef:cV (l.bQ++l.Global)=cV l.bQ++cV l.Global:=by simp [cV]
      have hm0:∀j:Nat,j < 24→[false,false,false,false,false,false,false,false,false,false,false,false,false,false,false,false,false,false,false,false,false,false,false,false].getD j true=false:=by decide
      have hiff:LOk l↔Y2 ((l.bQ++l.Global).take 9)∧(xJ [false,false,false,false,false,false,false,false,false,false,false,false,false,false,false,false,false,false,false,false,false,false,false,false] (cV (l.bQ++l.Global))).isSome=true:=by
        rw [UZ _ _ rfl,et,ef]
        have hp:(cV l.bQ++cV l.Global).Perm (eC l):=List.perm_append_comm
        constructor
        · rintro⟨_,_,q1,q2,q3⟩
          exact⟨q1,fun x hx=>q2 x (hp.mem_iff.1 hx),hp.nodup_iff.2 q3,fun x hx=>hm0 _ (by have:=q2 x (hp.mem_iff.1 hx);omega)⟩
        · rintro⟨q1,q2,q3,_⟩
          exact⟨hg,ho,q1,fun x hx=>q2 x (hp.mem_iff.2 hx),hp.nodup_iff.1 q3⟩
      by_cases q:LOk l
      · rw [if_pos (hiff.1 q),bL q];rfl
      · rw [if_neg (fun x=>q (hiff.2 x)),bH q];rfl
    · have n1:((l.Global.length:Int) != 3)=false:=by simp;omega
      have n2:((l.bQ.length:Int) != 9)=true:=by simp;omega
      simp only [n1,n2,a9,if_false,if_true]
      rw [bH (fun q:LOk l=>ho q.2.1)]
  · have n1:((l.Global.length:Int) != 3)=true:=by simp;omega
    simp only [n1,if_true]
    rw [bH (fun q:LOk l=>hg q.1)]
end Go.Gv
end
noncomputable section
namespace Go.Gv
def B8(h:aG)(l:List Int)(c:Int):Prop:=∀x∈l,bS h x=c∧nP h x≤6
instance (h:aG) (l:List Int) (c:Int):Decidable (B8 h l c):=by unfold B8;infer_instance
theorem NJ{h:aG}(hs:fQ h){l:List Int}(hl:l.length≤maxLen){c:Int}(hc:0≤c):wF h l c=some (decide (B8 h l c)):=by
  unfold wF
  have key:loop (lL h l c) 0=some (if ∀x∈l,bS h x=c∧nP h x≤6 then Out.brk () else Out.ret false):=by
    have hst:∀k (hk:k < l.length),lL h l c (k:Int)=if bS h l[k]=c∧nP h l[k]≤6 then some (.next ((k+1:Nat):Int)) else some (.stop (Out.ret false)):=by
      intro k hk
      simp only [lL]
      rw [if_pos (by simp;omega),aQ hk]
      generalize l[k]=x
      simp only [aI,m3 hs,uI]
      by_cases q:bS h x=c
      · have n1:(bS h x != c)=false:=by simp only [bne_eq_false_iff_eq];exact q
        simp only [n1,a9,if_false,xI hs (show 0≤bS h x by omega),aI,cX (eE hk hl)]
        by_cases q2:nP h x≤6
        · rw [if_neg (by simp;omega),if_pos ⟨q,q2⟩]
        · rw [if_pos (by simp;omega),if_neg (fun x=>q2 x.2)]
      · have n1:(bS h x != c)=true:=by simp only [bne_iff_ne];exact q
        simp only [n1,if_true]
        rw [if_neg (fun x=>q x.1)]
    refine iD (f:=lL h l c) l (fun k=>(k:Int)) (fun x=>bS h x=c∧nP h x≤6) _ _ (fun k hk hp=>?_) (fun k hk hp=>?_) ?_
    · rw [hst k hk,if_pos hp]
    · rw [hst k hk,if_neg hp]
    · simp [lL]
  rw [key]
  by_cases q:∀x∈l,bS h x=c∧nP h x≤6
  · rw [if_pos q,bL (show B8 h l c from q)];rfl
  · rw [if_neg q,bH (show ¬B8 h l c from q)];rfl
theorem NL{h:aG}(hs:fQ h){s:aH}(hl:s.aL.length≤maxLen){c:Int}(hc:0≤c):wQ h s c=some (decide (B8 h s.aL c)):=by
  unfold wQ
  have key:loop (lP h s c) 0=some (if ∀x∈s.aL,bS h x=c∧nP h x≤6 then Out.brk () else Out.ret false):=by
    have hst:∀k (hk:k < s.aL.length),lP h s c (k:Int)=if bS h s.aL[k]=c∧nP h s.aL[k]≤6 then some (.next ((k+1:Nat):Int)) else some (.stop (Out.ret false)):=by
      intro k hk
      simp only [lP]
      rw [if_pos (by simp;omega),aQ hk]
      generalize s.aL[k]=x
      simp only [aI,kK hs,uV]
      by_cases q:bS h x=c
      · have n1:(bS h x != c)=false:=by simp only [bne_eq_false_iff_eq];exact q
        simp only [n1,a9,if_false,EE hs (show 0≤bS h x by omega),aI,cX (eE hk hl)]
        by_cases q2:nP h x≤6
        · rw [if_neg (by simp;omega),if_pos ⟨q,q2⟩]
        · rw [if_pos (by simp;omega),if_neg (fun x=>q2 x.2)]
      · have n1:(bS h x != c)=true:=by simp only [bne_iff_ne];exact q
        simp only [n1,if_true]
        rw [if_neg (fun x=>q x.1)]
    refine iD (f:=lP h s c) s.aL (fun k=>(k:Int)) (fun x=>bS h x=c∧nP h x≤6) _ _ (fun k hk hp=>?_) (fun k hk hp=>?_) ?_
    · rw [hst k hk,if_pos hp]
    · rw [hst k hk,if_neg hp]
    · simp [lP]
  rw [key]
  by_cases q:∀x∈s.aL,bS h x=c∧nP h x≤6
  · rw [if_pos q,bL (show B8 h s.aL c from q)];rfl
  · rw [if_neg q,bH (show ¬B8 h s.aL c from q)];rfl
def j6(l:List aH)(k:Nat):List Int:=(l.getD k ⟨[]⟩).aL
theorem fV{l:List aH}{k:Nat}(h:k < l.length):l[k].aL=j6 l k:=by
  unfold j6;rw [List.getD_eq_getElem?_getD,List.getElem?_eq_getElem h];rfl
def JI(m:Mem)(k:Nat):Prop:=B8 m.aG (j6 m.aA.Global k) (k:Int)
def B9(m:Mem)(k:Nat):Prop:=B8 m.aG (j6 m.aA.bQ k) ((k % 3:Nat):Int)
instance (m:Mem) (k:Nat):Decidable (JI m k):=by unfold JI;infer_instance
instance (m:Mem) (k:Nat):Decidable (B9 m k):=by unfold B9;infer_instance
instance (m:Mem):Decidable (∀k,k < 3→JI m k):=Nat.decidableBallLT 3 fun k _=>JI m k
instance (m:Mem):Decidable (∀k,k < 9→B9 m k):=Nat.decidableBallLT 9 fun k _=>B9 m k
instance (m:Mem) (c:Nat):Decidable (∀w,w < 3→B9 m (w * 3+c)):=Nat.decidableBallLT 3 fun w _=>B9 m (w * 3+c)
instance (m:Mem):Decidable (∀k,k < 3→JI m k∧∀w,w < 3→B9 m (w * 3+k)):=Nat.decidableBallLT 3 fun k _=>JI m k∧∀w,w < 3→B9 m (w * 3+k)
def yX(m:Mem):Prop:=(YE m.aG∧LOk m.aA)∧(∀k,k < 3→JI m k)∧∀k,k < 9→B9 m k
instance (m:Mem):Decidable (yX m):=by unfold yX;infer_instance
theorem LOk.Y3{l:aA}(h:LOk l)(hb:(eC l).length≤1073741824):(∀s∈l.Global,s.aL.length≤1073741824)∧∀s∈l.bQ,s.aL.length≤1073741824:=by
  have hsum:(cV l.Global).length+(cV l.bQ).length≤1073741824:=by simpa [eC] using hb
  constructor
  · intro s hm
    obtain⟨k,hk,rfl⟩:=List.mem_iff_getElem.1 hm
    have:=RZ l.Global hk;omega
  · intro s hm
    obtain⟨k,hk,rfl⟩:=List.mem_iff_getElem.1 hm
    have:=RZ l.bQ hk;omega
theorem aPJ{m:Mem}:(∀k,k < 3→JI m k∧∀w,w < 3→B9 m (w * 3+k))↔(∀k,k < 3→JI m k)∧∀k,k < 9→B9 m k:=by
  constructor
  · intro h
    refine⟨fun k hk=>(h k hk).1,fun k hk=>?_⟩
    have:=(h (k % 3) (by omega)).2 (k / 3) (by omega)
    have e:k / 3 * 3+k % 3=k:=by omega
    rwa [e] at this
  · rintro⟨h1,h2⟩ k hk
    exact⟨h1 k hk,fun w hw=>h2 _ (by omega)⟩
theorem TY{m:Mem}(hb:m.aG.Bytes.length≤maxLen)(hl:(eC m.aA).length≤1073741824):H3 m=some (decide (yX m)):=by
  unfold H3 DC
  rw [aE7 hb,aA5 hl]
  by_cases h1:YE m.aG
  · by_cases h2:LOk m.aA
    · have hmx:(1073741824:Nat)≤maxLen:=by simp [maxLen]
      have hsl:=LOk.Y3 h2 hl
      simp only [bL h1,bL h2,aI,eD,a9,if_false]
      have k3:∀c:Nat,c < 3→loop (wH m (c:Int)) 0=some (if ∀w,w < 3→B9 m (w * 3+c) then Out.brk () else Out.ret false):=by
        intro c hc
        have hst:∀w:Nat,w < 3→wH m (c:Int) (w:Int)=if B9 m (w * 3+c) then some (.next ((w+1:Nat):Int)) else some (.stop (Out.ret false)):=by
          intro w hw
          have hk:w * 3+c < m.aA.bQ.length:=by rw [h2.2.1];omega
          have e:sV (w:Int) (c:Int)=some ((w * 3+c:Nat):Int):=by
            unfold sV wG
            rw [cW,cW,bL (by omega),bL (by omega)]
            simp only [aI,eD,a9,if_false]
            rw [aU (x:=(w:Int) * 3) (by omega) (by omega),aU (by omega) (by omega)];rfl
          have hlen:=hsl.2 _ (List.getElem_mem hk)
          simp only [wH]
          rw [if_pos (by simp;omega),e]
          simp only [aI,aQ hk]
          rw [NJ h1.1 (by omega) (by omega),fV hk]
          have em:(w * 3+c) % 3=c:=by omega
          have ho:B9 m (w * 3+c)↔B8 m.aG (j6 m.aA.bQ (w * 3+c)) (c:Int):=by unfold B9;rw [em]
          rw [aU (by omega) (by omega)]
          by_cases q:B9 m (w * 3+c)
          · rw [if_pos q,bL (ho.1 q)];rfl
          · rw [if_neg q,bH (fun x=>q (ho.2 x))];rfl
        refine tY (f:=wH m (c:Int)) 3 (fun k=>(k:Int)) (fun w=>B9 m (w * 3+c)) _ _ (fun k hk hx=>?_) (fun k hk hx=>?_) ?_
        · rw [hst k hk,if_pos hx]
        · rw [hst k hk,if_neg hx]
        · rfl
      have k2:loop (wI m) 0=some (if ∀k,k < 3→JI m k∧∀w,w < 3→B9 m (w * 3+k) then Out.brk () else Out.ret false):=by
        have hst:∀c:Nat,c < 3→wI m (c:Int)=if JI m c∧∀w,w < 3→B9 m (w * 3+c) then some (.next ((c+1:Nat):Int)) else some (.stop (Out.ret false)):=by
          intro c hc
          have hk:c < m.aA.Global.length:=by rw [h2.1];omega
          have hlen:=hsl.1 _ (List.getElem_mem hk)
          simp only [wI]
          rw [if_pos (by simp;omega)]
          simp only [aI,aQ hk]
          rw [NJ h1.1 (by omega) (by omega),fV hk,k3 c hc]
          by_cases q:JI m c
          · have q':B8 m.aG (j6 m.aA.Global c) (c:Int):=q
            rw [bL q']
            simp only [aI,eD,a9,if_false]
            by_cases q2:∀w,w < 3→B9 m (w * 3+c)
            · rw [if_pos q2,if_pos ⟨q,q2⟩]
              simp only [S6,S5]
              rw [aU (by omega) (by omega)];rfl
            · rw [if_neg q2,if_neg (fun x=>q2 x.2)];rfl
          · have q':¬B8 m.aG (j6 m.aA.Global c) (c:Int):=q
            rw [bH q',if_neg (fun x:JI m c∧_=>q x.1)];rfl
        refine tY (f:=wI m) 3 (fun k=>(k:Int)) (fun k=>JI m k∧∀w,w < 3→B9 m (w * 3+k)) _ _ (fun k hk hx=>?_) (fun k hk hx=>?_) ?_
        · rw [hst k hk,if_pos hx]
        · rw [hst k hk,if_neg hx]
        · rfl
      rw [k2]
      by_cases q:∀k,k < 3→JI m k∧∀w,w < 3→B9 m (w * 3+k)
      · rw [if_pos q,bL (show yX m from ⟨⟨h1,h2⟩,aPJ.1 q⟩)];rfl
      · rw [if_neg q,bH (fun x:yX m=>q (aPJ.2 x.2))];rfl
    · rw [bH (fun q:yX m=>h2 q.1.2),bL h1,bH h2];rfl
  · rw [bH (fun q:yX m=>h1 q.1.1),bH h1];rfl
theorem TZ{m:Mem}(hb:m.aG.Bytes.length≤maxLen)(hl:(eC m.aA).length≤1073741824):II m=some (decide (yX m)):=by
  unfold II DQ
  rw [I5 hb,P4 hl]
  by_cases h1:YE m.aG
  · by_cases h2:LOk m.aA
    · have hmx:(1073741824:Nat)≤maxLen:=by simp [maxLen]
      have hsl:=LOk.Y3 h2 hl
      simp only [bL h1,bL h2,aI,eD,a9,if_false]
      have k3:loop (rU m) 0=some (if ∀k,k < 9→B9 m k then Out.brk () else Out.ret false):=by
        have hst:∀w:Nat,w < 9→rU m (w:Int)=if B9 m w then some (.next ((w+1:Nat):Int)) else some (.stop (Out.ret false)):=by
          intro w hw
          have hk:w < m.aA.bQ.length:=by rw [h2.2.1];omega
          have hlen:=hsl.2 _ (List.getElem_mem hk)
          have em:Int.tmod (w:Int) 3=((w % 3:Nat):Int):=by rw [B5 (by omega)];omega
          simp only [rU]
          rw [if_pos (by simp;omega)]
          simp only [aI,aQ hk,em]
          rw [NL h1.1 (by omega) (by omega),fV hk,aU (by omega) (by omega)]
          by_cases q:B9 m w
          · rw [if_pos q,bL (show B8 m.aG (j6 m.aA.bQ w) ((w % 3:Nat):Int) from q)];rfl
          · rw [if_neg q,bH (show ¬B8 m.aG (j6 m.aA.bQ w) ((w % 3:Nat):Int) from q)];rfl
        refine tY (f:=rU m) 9 (fun k=>(k:Int)) (fun w=>B9 m w) _ _ (fun k hk hx=>?_) (fun k hk hx=>?_) ?_
        · rw [hst k hk,if_pos hx]
        · rw [hst k hk,if_neg hx]
        · simp [rU,h2.2.1]
      have k2:loop (rV m) 0=some (if ∀k,k < 3→JI m k then Out.brk () else Out.ret false):=by
        have hst:∀w:Nat,w < 3→rV m (w:Int)=if JI m w then some (.next ((w+1:Nat):Int)) else some (.stop (Out.ret false)):=by
          intro w hw
          have hk:w < m.aA.Global.length:=by rw [h2.1];omega
          have hlen:=hsl.1 _ (List.getElem_mem hk)
          simp only [rV]
          rw [if_pos (by simp;omega)]
          simp only [aI,aQ hk]
          rw [NL h1.1 (by omega) (by omega),fV hk,aU (by omega) (by omega)]
          by_cases q:JI m w
          · rw [if_pos q,bL (show B8 m.aG (j6 m.aA.Global w) (w:Int) from q)];rfl
          · rw [if_neg q,bH (show ¬B8 m.aG (j6 m.aA.Global w) (w:Int) from q)];rfl
        refine tY (f:=rV m) 3 (fun k=>(k:Int)) (fun w=>JI m w) _ _ (fun k hk hx=>?_) (fun k hk hx=>?_) ?_
        · rw [hst k hk,if_pos hx]
        · rw [hst k hk,if_neg hx]
        · simp [rV,h2.1]
      rw [k2]
      by_cases q:∀k,k < 3→JI m k
      · rw [if_pos q]
        simp only [aI,TG,TF]
        rw [k3]
        by_cases q2:∀k,k < 9→B9 m k
        · rw [if_pos q2,bL (show yX m from ⟨⟨h1,h2⟩,q,q2⟩)];rfl
        · rw [if_neg q2,bH (fun x:yX m=>q2 x.2.2)];rfl
      · rw [if_neg q,bH (fun x:yX m=>q x.2.1)];rfl
    · rw [bH (fun q:yX m=>h2 q.1.2),bL h1,bH h2];rfl
  · rw [bH (fun q:yX m=>h1 q.1.1),bH h1];rfl
end Go.Gv
end
noncomputable section
namespace Go.Gv
theorem xK{l:List aH}{s:aH}(h:s∈l):s.aL.length≤(cV l).length:=by
  obtain⟨k,hk,rfl⟩:=List.mem_iff_getElem.1 h
  exact RZ l hk
theorem mA(l:aA):(eC l).length=(cV l.Global).length+(cV l.bQ).length:=by simp [eC]
def zL(m:Mem):Prop:=m.aG.Bytes.length≤1048576∧m.aG.Class.length≤1048576∧m.aA.Global.length≤1048576∧m.aA.bQ.length≤1048576∧(eC m.aA).length≤1048576
theorem zL.Y3{m:Mem}(h:zL m):(∀s∈m.aA.Global,s.aL.length≤1048576)∧∀s∈m.aA.bQ,s.aL.length≤1048576:=by
  have:=mA m.aA
  have h5:=h.2.2.2.2
  exact⟨fun s hm=>by have:=xK hm;omega,fun s hm=>by have:=xK hm;omega⟩
end Go.Gv
end
noncomputable section
namespace Go.Gv
def POk(e:Int)(p:fO):Prop:=(0≤p.aM∧p.aM≤e)∧(0≤p.Seen∧p.Seen≤2)∧(p.On=false→p=⟨false,0,false,0⟩)
instance (e:Int) (p:fO):Decidable (POk e p):=by unfold POk;infer_instance
def U4(c:aJ):Prop:=(0≤c.aM∧c.aM≤100000)∧c.bD.length=3∧∀p∈c.bD,POk c.aM p
instance (c:aJ):Decidable (U4 c):=by unfold U4;infer_instance
theorem rL(c:aJ):m6 c=some (decide (U4 c)):=by
  unfold m6
  rw [cW]
  by_cases h1:0≤c.aM∧c.aM≤100000
  · by_cases h2:c.bD.length=3
    · simp only [aI,h1,h2,mM]
      have key:∀k:Nat,k≤3→loop (qS c) (k:Int)=some (if ∀p∈c.bD.drop k,POk c.aM p then Out.brk () else Out.ret false):=by
        refine aIS 3 _ fun k hk=>?_
        by_cases h3:k < 3
        · have hd:c.bD.drop k=c.bD[k] :: c.bD.drop (k+1):=List.drop_eq_getElem_cons (by omega)
          simp only [qS]
          rw [if_pos (by simp;omega),aQ (by omega)]
          simp only [aI,cW,kA,hd]
          rw [cX (by simp [maxLen];omega)]
          generalize c.bD[k]=p
          have hp:POk c.aM p↔decide (0≤p.aM∧p.aM≤c.aM)=true∧decide (0≤p.Seen∧p.Seen≤2)=true∧(p.On=false→decide (p=⟨false,0,false,0⟩)=true):=by simp only [POk,decide_eq_true_eq]
          simp only [List.forall_mem_cons,hp]
          generalize decide (0≤p.aM∧p.aM≤c.aM)=b1
          generalize decide (0≤p.Seen∧p.Seen≤2)=b2
          generalize decide (p=⟨false,0,false,0⟩)=b3
          generalize p.On=b4
          cases b1 <;> cases b2 <;> cases b3 <;> cases b4 <;> simp [h3]
        · left
          obtain rfl:k=3:=by omega
          simp [qS,List.drop_eq_nil_of_le (show c.bD.length≤3 by omega)]
      have:=key 0 (by omega)
      simp only [Int.ofNat_zero,List.drop_zero] at this
      have e:decide (U4 c)=if ∀p∈c.bD,POk c.aM p then true else false:=by
        have:U4 c↔∀p∈c.bD,POk c.aM p:=⟨fun h=>h.2.2,fun h=>⟨h1,h2,h⟩⟩
        simp [this]
      rw [e]
      simp only [Int.cast_ofNat_Int] at *
      have t0:loop (qS c) 0=_:=this
      by_cases h5:∀p∈c.bD,POk c.aM p
      · rw [if_pos h5] at t0 ⊢;rw [t0];simp [EX,O5]
      · rw [if_neg h5] at t0 ⊢;rw [t0];simp [EX]
    · simp [h1,h2,mM,U4]
      omega
  · simp [h1,mM,U4]
theorem aLY(p:fO)(c:aJ):tC p c=some (!decide (POk c.aM p)):=by
  unfold tC jY
  rw [dO,dO]
  have hp:decide (POk c.aM p)=(decide (0≤p.aM∧p.aM≤c.aM) && (decide (0≤p.Seen∧p.Seen≤2) && (p.On || decide (p=⟨false,0,false,0⟩)))):=by
    rw [Bool.eq_iff_iff];simp only [POk,decide_eq_true_eq,Bool.and_eq_true,Bool.or_eq_true]
    by_cases h:p.On=true
    · simp [h]
    · simp [(by simpa using h:p.On=false)]
  rw [hp]
  generalize decide (0≤p.aM∧p.aM≤c.aM)=b1
  generalize decide (0≤p.Seen∧p.Seen≤2)=b2
  generalize decide (p=⟨false,0,false,0⟩)=b3
  generalize p.On=b4
  cases b1 <;> cases b2 <;> cases b3 <;> cases b4 <;> rfl
theorem aJ8{l:List fO}(hl:l.length≤maxLen)(f:fO→Bool):jX l (fun x=>some (f x))=some (l.any f):=by
  unfold jX tB
  have key:∀k:Nat,k≤l.length→loop (iA l (fun x=>some (f x))) (k:Int)=some (if (l.drop k).any f then Out.ret ((k+(l.drop k).findIdx f:Nat):Int) else Out.brk ()):=by
    refine aIS l.length _ fun k hk=>?_
    by_cases h3:k < l.length
    · have hd:l.drop k=l[k] :: l.drop (k+1):=List.drop_eq_getElem_cons h3
      simp only [iA]
      rw [if_pos (by simp;omega),aQ h3,cX (eE h3 hl),hd]
      simp only [aI,List.any_cons,List.findIdx_cons]
      by_cases h4:f l[k]=true
      · left;simp [h4]
      · right
        have h4:f l[k]=false:=by simpa using h4
        refine⟨h3,by simp [h4],?_⟩
        simp only [h4,Bool.false_or,cond_false]
        congr 2;omega
    · left
      obtain rfl:k=l.length:=by omega
      simp [iA]
  have t0:loop (iA l (fun x=>some (f x))) 0=_:=key 0 (by omega)
  rw [t0]
  simp only [List.drop_zero]
  by_cases h:l.any f=true
  · simp [h,oY]
  · have h:l.any f=false:=by simpa using h
    simp [h,oY,zV]
theorem rM{c:aJ}(hc:c.bD.length≤maxLen):m9 c=some (decide (U4 c)):=by
  unfold m9 rA
  rw [dO]
  have e:(fun y0=>tC y0 c)=fun y0=>some (!decide (POk c.aM y0)):=funext fun y=>aLY y c
  rw [e,aJ8 hc]
  by_cases h1:0≤c.aM∧c.aM≤100000
  · by_cases h2:c.bD.length=3
    · have:U4 c↔∀p∈c.bD,POk c.aM p:=⟨fun h=>h.2.2,fun h=>⟨h1,h2,h⟩⟩
      have e2:(c.bD.any fun y0=>!decide (POk c.aM y0))=!decide (∀p∈c.bD,POk c.aM p):=by
        rw [Bool.eq_iff_iff];simp
      simp [h1,h2,this,e2]
    · have:¬(c.bD.length:Int)=3:=by omega
      simp [h1,this,h2,U4]
  · simp [h1,U4]
end Go.Gv
end
