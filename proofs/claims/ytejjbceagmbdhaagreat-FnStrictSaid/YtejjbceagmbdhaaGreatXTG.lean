import Derived.Test.YtejjbceagmbdhaaGreatXTF
set_option linter.unusedVariables false
set_option linter.unusedSimpArgs false
set_option linter.unusedSectionVars false
set_option linter.constructorNameAsVariable false
set_option linter.unnecessarySimpa false
noncomputable section
namespace Go.Gv
def st4(b:List Int)(a:Nat)(n:Int):List Int:=(((b.set a 0).set (a+1) 0).set (a+2) 0).set (a+3) n
theorem C6(b:List Int)(a:Nat)(n:Int):(st4 b a n).length=b.length:=by simp [st4]
theorem aIP{b:List Int}(h:oZ b)(a:Nat){n:Int}(hn:0<=n/\n<=255):oZ (st4 b a n):=by
 have key:∀{l:List Int} (i:Nat) (v:Int),oZ l->0<=v/\v<=255->oZ (l.set i v):=fun i v hl hv x hx=>by
  rcases qY hx with h | rfl
  ·exact hl x h
  ·exact hv
 exact key _ _ (key _ _ (key _ _ (key _ _ h (by omega)) (by omega)) (by omega)) hn
theorem aTB{n:Int}(hn:0<=n/\n<=255):((u8 n).toNat:Int)=n:=by
 grind [u8,UInt8.toNat_ofNat']
theorem aIQ{l:List Int}(i:Nat){v:Int}(hl:oZ l)(hv:0<=v/\v<=255):oZ (l.set i v):=fun x hx=>by
 rcases qY hx with h | rfl
 ·exact hl x h
 ·exact hv
def J8(b:List Int)(a:Nat)(n:Int):List Int:=(((b.set a (n / 16777216)).set (a+1) (n / 65536 % 256)).set (a+2) (n / 256 % 256)).set (a+3) (n % 256)
theorem UK(b:List Int)(a:Nat)(n:Int):(J8 b a n).length=b.length:=by simp [J8]
theorem aO7{b:List Int}(h:oZ b)(a:Nat){n:Int}(hn:0<=n/\n<=4294967295):oZ (J8 b a n):=by
 grind [J8,aIQ]
theorem aO8(b:List Int)(a:Nat)(x y z u:Int):(((b.set (a+3) u).set (a+2) z).set (a+1) y).set a x=(((b.set a x).set (a+1) y).set (a+2) z).set (a+3) u:=by
 refine List.ext_getElem (by simp) fun j h1 h2=>?_
 grind
theorem aO9{b:List Int}{a:Nat}(h:a+4<=b.length)(hl:b.length<=100000){n:Int}(hn:0<=n/\n<=4294967295):AW b (a:Int) 4 n=some (J8 b a n):=by
 have st:∀(c:List Int) (m:Int) (i:Nat),c.length=b.length->0<=m->m<=4294967295->i < 4->xF (a:Int) (c,m,(i:Int))=some (.next (c.set (a+i) (m % 256),m / 256,(i:Int) - 1)):=fun c m i hc h0 h1 hi=>by
  simp only [xF]
  rw [if_pos (by simp),aM (x:=(a:Int)+i) (by omega) (by omega),show(a:Int)+i=((a+i:Nat):Int) by omega,aT (by omega),aH,LL h0,aIG h0,aM (x:=m / 256) (by omega) (by omega),aM (x:=(i:Int) - 1) (by omega) (by omega),I6]
 unfold AW
 rw [show aZ (4 - 1)=((3:Nat):Int) from by grind [aM]]
 rw [bL (st b n 3 rfl hn.1 hn.2 (by omega)),show((3:Nat):Int) - 1=((2:Nat):Int) by rfl,
  bL (st _ _ 2 (by simp) (by omega) (by omega) (by omega)),show((2:Nat):Int) - 1=((1:Nat):Int) by rfl,
  bL (st _ _ 1 (by simp) (by omega) (by omega) (by omega)),show((1:Nat):Int) - 1=((0:Nat):Int) by rfl,
  bL (st _ _ 0 (by simp) (by omega) (by omega) (by omega)),bI (r:=J8 b a n)]
 ·rfl
 ·simp only [xF]
  rw [if_neg (by simp)]
  have e1:n / 256 / 256=n / 65536:=by omega
  have e2:n / 256 / 256 / 256=n / 16777216:=by omega
  have e3:n / 16777216 % 256=n / 16777216:=by omega
  simp_all [J8,aO8]
def BP(n:Int):List UInt8:=[u8 (n / 16777216),u8 (n / 65536),u8 (n / 256),u8 n]
theorem M3{n:Int}(hn:0<=n/\n<=4294967295):kH n 4=some (BP n):=by
 have hw:tK 4=some true:=by grind [tK,dY]
 unfold kH
 rw [hw]
 have e1:IntKind.u64.wrap (aZ (8 * 4))=32:=by decide
 have e2:ZN .i64 1 32=4294967296:=by decide
 simp only [aH,jH,bG,if_false,e1,e2]
 rw [if_neg (by simp;omega),aK (by omega),fC (by omega)]
 simp only [qJ,bG,if_false]
 rw [aK (by omega),show aZ (4 - 1)=((3:Nat):Int) from by grind [aM]]
 have st:∀(m:Int) (c:List UInt8) (i:Nat),i < c.length->i < 4->0<=m->m6 (m,c,(i:Int))=some (.next (m / 256,c.set i (u8 m),(i:Int) - 1)):=fun m c i hc hi h0=>by
  simp only [m6]
  rw [if_pos (by simp),aT hc,aH,show(8:Int)=((8:Nat):Int) from rfl,aNH h0 (by omega),aM (by omega) (by omega),I6];rfl
 rw [bL (st n _ 3 (by simp) (by omega) hn.1),show((3:Nat):Int) - 1=((2:Nat):Int) by rfl,
  bL (st _ _ 2 (by simp) (by omega) (by omega)),show((2:Nat):Int) - 1=((1:Nat):Int) by rfl,
  bL (st _ _ 1 (by simp) (by omega) (by omega)),show((1:Nat):Int) - 1=((0:Nat):Int) by rfl,
  bL (st _ _ 0 (by simp) (by omega) (by omega)),bI (r:=BP n)]
 ·rfl
 ·simp only [m6]
  rw [if_neg (by simp)]
  have e1:n / 256 / 256=n / 65536:=by omega
  rw [e1,show n / 65536 / 256=n / 16777216 by omega]
  rfl
theorem aGI{n:Int}(hn:0<=n):((u8 n).toNat:Int)=n % 256:=by
 have:u8 n=u8 (n % 256):=by
  grind [u8]
 grind [aTB]
theorem aK7{b:List Int}{a:Nat}(h:a+4<=b.length)(hl:b.length<=100000){n:Int}(hn:0<=n/\n<=4294967295):lA b (a:Int) (BP n)=some (J8 b a n):=by
 have st:∀(c:List Int) (i:Nat) (v:UInt8),c.length=b.length->i < 4->idx (BP n) (i:Int)=some v->jV b (a:Int) (BP n) (c,(i:Int))=some (.next (c.set (a+i) (v.toNat:Int),((i+1:Nat):Int))):=fun c i v hc hi hv=>by
  simp only [jV]
  rw [aK hc,if_pos (by grind [BP]),hv,aH,aM (x:=(a:Int)+i) (by omega) (by omega),show(a:Int)+i=((a+i:Nat):Int) by omega,aT (by omega),aH,aM (by omega) (by omega),I6];rfl
 unfold lA
 rw [show(0:Int)=((0:Nat):Int) from rfl,bL (st b 0 _ rfl (by omega) rfl),bL (st _ 1 _ (by simp) (by omega) rfl),bL (st _ 2 _ (by simp) (by omega) rfl),bL (st _ 3 _ (by simp) (by omega) rfl),bI (r:=J8 b a n)]
 ·grind [GJ,GI,aK,UK]
 ·simp only [jV]
  rw [aK (by simp),if_neg (by simp [BP])]
  simp only [aGI hn.1,aGI (show 0<=n / 16777216 by omega),aGI (show 0<=n / 65536 by omega),aGI (show 0<=n / 256 by omega)]
  rw [show n / 16777216 % 256=n / 16777216 by omega]
  rfl
theorem aTC{b:List Int}{a:Nat}{n:Int}(hn:0<=n/\n<=255):J8 b a n=st4 b a n:=by
 grind [J8,st4]
theorem EN{b:List Int}{a:Nat}(h:a+4<=b.length)(hl:b.length<=100000){n:Int}(hn:0<=n/\n<=255):AW b (a:Int) 4 n=some (st4 b a n):=by
 grind [aO9,aTC]
theorem a06{n:Int}(hn:0<=n/\n<=255):BP n=[0,0,0,u8 n]:=by
 unfold BP
 rw [show n / 16777216=0 by omega,show n / 65536=0 by omega,show n / 256=0 by omega];rfl
theorem RU{n:Int}(hn:0<=n/\n<=255):kH n 4=some [0,0,0,u8 n]:=by
 grind [M3,a06]
theorem P8{b:List Int}{a:Nat}(h:a+4<=b.length)(hl:b.length<=100000){n:Int}(hn:0<=n/\n<=255):lA b (a:Int) [0,0,0,u8 n]=some (st4 b a n):=by
 rw [<-a06 hn,aK7 h hl ⟨hn.1,by omega⟩,aTC hn]
end Go.Gv
end
noncomputable section
namespace Go.Gv
theorem aXI{x y z:Int}:∀(a:Nat) (l:List Int),a+3<=l.length->cA l a [x,y,z]=((l.set a x).set (a+1) y).set (a+2) z
 | 0, l, h => by
  match l,h with
  | _ :: _ :: _ :: t,_=>simp [cA]
 | a + 1, l, h => by
  match l,h with
  | u :: t, h =>
   have ih:=aXI (x:=x) (y:=y) (z:=z) a t (by grind)
   grind [cA]
def aTD(p k:Nat)(c:Int):Nat:=(iO ((p:Int) * 4+k) c).toNat
def gB(b:List Int)(p:Nat)(c:Int):Nat->List Int
 | 0=>((b.set (p * 64) 171).set (p * 64+1) c).set (p * 64+2) (cV c)
 | k+1=>st4 (gB b p c k) (aTD p k c) 1
theorem J9(b:List Int)(p:Nat)(c:Int):∀k,(gB b p c k).length=b.length
 | 0=>by simp [gB]
 | k+1=>by rw [gB,C6,J9 b p c k]
theorem aBM{l:List Int}(i:Nat){v:Int}(hl:oZ l)(hv:0<=v/\v<=255):oZ (l.set i v):=fun x hx=>by
 rcases qY hx with h | rfl
 ·exact hl x h
 ·exact hv
theorem aGJ{b:List Int}(hb:oZ b)(p:Nat){c:Int}(hc:0<=c/\c<=2):∀k,oZ (gB b p c k)
 | 0 => by
  have:=nP c
  exact aBM _ (aBM _ (aBM _ hb (by omega)) (by omega)) (by omega)
 | k+1=>aIP (aGJ hb p hc k) _ (by omega)
def gS(p:Nat)(n:Nat):List Int:=(List.range n).map fun(i:Nat)=>(p:Int) * 4+(i:Int)
theorem aBN(p n:Nat):(gS p n).length=n:=by simp [gS]
theorem aNN(p n:Nat):gS p (n+1)=gS p n ++ [(p:Int) * 4+(n:Int)]:=by simp [gS,List.range_succ]
theorem aGK{p k:Nat}{c:Int}(hp:p < 6)(hk:(k:Int) < cV c):iO ((p:Int) * 4+k) c=(aTD p k c:Int)/\aTD p k c+4<=384:=by
 have h4:=nP c
 have hm:=MY (c:=c) (i:=(k:Int)) (by omega) hk
 have hst:4<=bD c:=by
  have:0<=c/\c<=2:=sV.1 (by omega)
  rcases uF this with e | e | e <;> rw [e] <;> decide
 have e:iO ((p:Int) * 4+k) c=(p:Int) * 64+8+(k:Int) * bD c:=by
  unfold iO
  grind
 grind [aTD]
theorem aED{p k:Nat}(hp:p < 6)(hk:k < 4):IV (p:Int) (k:Int)=some ((p:Int) * 4+k)/\IN (p:Int) (k:Int)=some ((p:Int) * 4+k):=by
 grind [aM,IV,GP,eI,IN,z5,dY]
noncomputable section
variable {b:List Int} (hb:b.length=384) {p:Nat} (hp:p < 6) {c:Int} (hc:0<=c/\c<=2)
include hb hp hc
theorem aBO:loop (xG c (p:Int)) ([],0,gB b p c 0)=some (gS p (cV c).toNat,gB b p c (cV c).toNat):=by
 have h4:=nP c
 refine gP (cV c).toNat (fun k=>(gS p k,(k:Int),gB b p c k)) _ (fun k hk=>?_) ?_
 ·have ho:=aGK (c:=c) hp (k:=k) (by omega)
  simp only [xG,NY,mK,aH]
  rw [if_pos (by simp;omega),(aED hp (by omega)).1]
  simp only [aH,wC,ho.1]
  rw [EN (by grind [J9]) (by grind [J9]) (by omega)]
  simp only [aH]
  rw [aK (by grind [aBN]),aM (by omega) (by omega),aNN];rfl
 ·simp only [xG,mK,aH]
  grind
theorem aK8:loop (CN c (p:Int) (cV c)) ([],0,gB b p c 0)=some (gS p (cV c).toNat,gB b p c (cV c).toNat):=by
 have h4:=nP c
 refine gP (cV c).toNat (fun k=>(gS p k,(k:Int),gB b p c k)) _ (fun k hk=>?_) ?_
 ·have ho:=aGK (c:=c) hp (k:=k) (by omega)
  simp only [CN,JK]
  rw [if_pos (by simp;omega),(aED hp (by omega)).2]
  simp only [aH,wD,ho.1]
  rw [RU (by omega),aH,P8 (by grind [J9]) (by grind [J9]) (by omega)]
  simp only [aH]
  rw [aK (by grind [aBN]),aM (by omega) (by omega),aNN];rfl
 ·simp only [CN]
  grind
end
theorem aTE{h:Heap}(hh:V1 h){c:Int}(hc:0<=c/\c<=2) :
  (pM h c=some (h,[])/\BY h c=some (h,[])) \/
  ∃p,p < 6/\cK h p < 0/\pM h c=some (⟨gB h.Bytes p c (cV c).toNat,h.Class.set p c⟩,gS p (cV c).toNat)/\BY h c=some (⟨gB h.Bytes p c (cV c).toNat,h.Class.set p c⟩,gS p (cV c).toNat):=by
 have hs:=hh.1
 have h6:=hs.2.1
 have h384:=hs.1
 have hp4:=nP c
 have hcp:=M1 (h:=h) (by omega) (by omega)
 have hne:∀j (hj:j < 6),j < h.Class.findIdx (fun x=>decide (x = -1))->h.Class[j]≠-1:=fun j hj hlt=>by
  grind
 generalize hq:h.Class.findIdx (fun x=>decide (x = -1))=q at hne
 have hq6:q<=6:=by grind
 have s1:∀k (hk:k < q),dW h c (k:Int)=some (.next ((k+1:Nat):Int)):=fun k hk=>by
  have:=hne k (by omega) hk
  have n:(h.Class[k] != -1)=true:=by grind
  simp only [dW,EG]
  rw [if_pos (by simp;omega),aT (by omega),aH,n,if_pos rfl,aM (by omega) (by omega)];rfl
 have s2:∀k (hk:k < q),dQ h.Class (-1) (k:Int)=some (.next ((k+1:Nat):Int)):=fun k hk=>by
  have:=hne k (by omega) hk
  have n:((-1:Int) == h.Class[k])=false:=by grind
  simp only [dQ]
  rw [if_pos (by simp;omega),aT (by omega),aH,n,aM (by omega) (by omega)];rfl
 have hm:h.Bytes.length<=maxLen:=by grind [maxLen]
 by_cases h5:q=6
 ·left
  have a1:loop (dW h c) 0=some (Out.brk ()):=gP q (fun k=>(k:Int)) _ s1 (by simp_all [dW])
  have a2:loop (dQ h.Class (-1)) 0=some (Out.brk ()):=gP q (fun k=>(k:Int)) _ s2 (by simp_all [dQ])
  constructor
  ·unfold pM;rw [a1];rfl
  ·unfold BY lF
   rw [a2,hcp,HB hm,iS,cT hh,cT hc];rfl
 ·right
  have hq5:q < 6:=by omega
  have he:h.Class[q] = -1:=by
   grind
  refine⟨q,hq5,by grind [QQ],?_,?_⟩
  ·have a1:loop (dW h c) 0=some (Out.ret (⟨gB h.Bytes q c (cV c).toNat,h.Class.set q c⟩,gS q (cV c).toNat)):=gP q (fun k=>(k:Int)) _ s1 (by
    have e0:aZ ((q:Int) * 64)=((q * 64:Nat):Int):=by grind [aM]
    have e1:aZ (((q * 64:Nat):Int)+1)=((q * 64+1:Nat):Int):=by grind [aM]
    have e2:aZ (((q * 64:Nat):Int)+2)=((q * 64+2:Nat):Int):=by grind [aM]
    have n:(h.Class[q] != -1)=false:=by grind
    simp only [dW,e0,e1,e2,I6]
    rw [if_pos (by simp;omega),aT (by omega),aH,n,if_neg (by simp),aT (by omega),aH,aT (by simp;omega),aH,mK,aH,aT (by simp;omega),aH]
    have:=aBO h384 hq5 hc
    simp only [gB] at this
    rw [this];rfl)
   unfold pM;rw [a1];rfl
  ·have a2:loop (dQ h.Class (-1)) 0=some (Out.ret (q:Int)):=gP q (fun k=>(k:Int)) _ s2 (by
    have n:((-1:Int) == h.Class[q])=true:=by rw [he];rfl
    simp only [dQ]
    rw [if_pos (by simp;omega),aT (by omega),aH,n];rfl)
   unfold BY lF
   rw [a2,hcp,HB hm,iS,cT hh,cT hc]
   have e0:aZ ((q:Int) * 64)=((q * 64:Nat):Int):=by grind [aM]
   simp only [aH,uU,jH,bG,if_false,vK,e0,xI,JM,I6]
   rw [fC (by omega),if_neg (by simp),aT (by omega),aH,aK (by omega),aXI _ _ (by omega)]
   have:=aK8 h384 hq5 hc
   simp only [gB] at this
   rw [this];rfl
theorem LOk.count{l:aA}(h:LOk l):(lX l).length<=24:=aK6 24 _ h.2.2.2.2 (fun x hx=>by have:=h.2.2.2.1 x hx;omega)
theorem aPA{m:Mem}(hs:fN m.Heap){s:Int}(hc:0<=bS m.Heap s):∃h,vY m s=some h/\CP m s=some h:=by
 unfold vY CP JX JN tY tL
 rw [qQ hs hc,C4 hs hc,aH,aH,eI,eI,sW,dY]
 have h1:=(I2 hc).1
 simp only [cT h1,aH,jH,bG,if_false]
 by_cases q:1<=nD m.Heap s/\nD m.Heap s<=6
 ·simp only [cT q,jH,bG,if_false];exact⟨_,rfl,rfl⟩
 ·simp only [fC q,LW,if_true];exact⟨_,rfl,rfl⟩
theorem SN{l:List aO}{k:Nat}(hk:k < l.length)(t:List Int):(eD (l.set k ⟨l[k].aQ++t⟩)).length=(eD l).length+t.length:=by
 grind [F5,DW]
end Go.Gv
end
noncomputable section
namespace Go.Gv
def bt(b:List Int)(i:Nat):Int:=b.getD i 0
theorem aK9{b:List Int}{i:Nat}(h:i < b.length):b[i]=bt b i:=by
 grind [bt]
theorem ld4{b:List Int}{a:Nat}(h:a+4<=b.length):ld b a 4=((bt b a * 256+bt b (a+1)) * 256+bt b (a+2)) * 256+bt b (a+3):=by
 grind [ld,HW,ldF,aK9]
theorem KA{b:List Int}{i j:Nat}{v:Int}(hi:i < b.length):bt (b.set i v) j=if j=i then v else bt b j:=by
 grind [bt]
theorem EO{b:List Int}{a:Nat}{n:Int}(h:a+4<=b.length)(j:Nat):bt (st4 b a n) j=if j=a+3 then n else if a<=j/\j < a+3 then 0 else bt b j:=by
 unfold st4
 rw [KA (by simp;omega),KA (by simp;omega),KA (by simp;omega),KA (by omega)]
 omega
theorem aLA{b:List Int}{a:Nat}{n:Int}(h:a+4<=b.length):ld (st4 b a n) a 4=n:=by
 simp_all [ld4,C6,EO]
theorem M4{b b':List Int}{a:Nat}(h:a+4<=b.length)(hl:b'.length=b.length)(hs:∀j,a<=j->j < a+4->bt b' j=bt b j):ld b' a 4=ld b a 4:=by
 simp_all [ld4]
def UL(h:Heap)(p:Nat):Prop:=
 if cK h p < 0 then ∀k,k < 64->bt h.Bytes (p * 64+k)=0
 else ((bt h.Bytes (p * 64)=171/\bt h.Bytes (p * 64+1)=cK h p/\bt h.Bytes (p * 64+2)=cV (cK h p))/\(∀k,3<=k->k < 8->bt h.Bytes (p * 64+k)=0)/\∀i,i < (cV (cK h p)).toNat->1<=ld h.Bytes (p * 64+8+i * (bD (cK h p)).toNat) 4/\ld h.Bytes (p * 64+8+i * (bD (cK h p)).toNat) 4<=7)
theorem aEE{h:Heap}(hs:fN h){p:Nat}(hp:p < 6){k:Nat}(hk:k < 64):(jG h p).getD k 0=bt h.Bytes (p * 64+k):=by
 rw [<-aO0 hs hp hk,aK9 (by have:=hs.1;omega)]
theorem UM{l:List Int}{x:Int}:x∈l↔∃k,k < l.length/\l.getD k 0=x:=by
 rw [WH]
 constructor
 ·rintro⟨k,hk,e⟩
  exact⟨k,hk,by grind⟩
 grind
theorem DX{h:Heap}(hs:fN h){p:Nat}(hp:p < 6):A8 h p↔UL h p:=by
 unfold A8 UL
 have hl:=P2 hs hp
 split
 ·constructor
  ·intro q k hk
   rw [<-aEE hs hp hk]
   exact q _ (UM.2 ⟨k,by omega,rfl⟩)
  grind [UM,aEE]
 ·rw [aEE hs hp (by omega),aEE hs hp (by omega),aEE hs hp (by omega)]
  have e:(∀x∈((jG h p).drop 3).take 5,x=0)↔∀k,3<=k->k < 8->bt h.Bytes (p * 64+k)=0:=by
   have g:∀j,j < 5->(((jG h p).drop 3).take 5).getD j 0=bt h.Bytes (p * 64+(3+j)):=fun j hj=>by
    rw [<-aEE hs hp (by omega),WE,WE,BK,if_pos hj,OO]
   constructor
   ·intro q k h3 h8
    have:=q _ (UM.2 ⟨k - 3,by grind,rfl⟩)
    grind
   ·intro q x hx
    obtain⟨k,hk,rfl⟩:=UM.1 hx
    simp [hl] at hk
    rw [g _ hk];exact q _ (by omega) (by omega)
  rw [e];rfl
theorem UL.same{h h':Heap}{p:Nat}(hp:p < 6)(hs:fN h)(hl:h'.Bytes.length=h.Bytes.length)(hc:cK h' p=cK h p)(hb:∀k,k < 64->bt h'.Bytes (p * 64+k)=bt h.Bytes (p * 64+k))(q:UL h p):UL h' p:=by
 have h1:=hs.1
 unfold UL at q ⊢
 rw [hc]
 split
 ·grind
 ·rename_i q0;rw [if_neg q0] at q
  obtain⟨⟨a1,a2,a3⟩,a4,a5⟩:=q
  have b0:=hb 0 (by omega);have b1:=hb 1 (by omega);have b2:=hb 2 (by omega)
  simp only [HX] at b0
  refine⟨⟨by omega,by omega,by omega⟩,fun k k3 k8=>by grind,fun i hi=>?_⟩
  have hz:=y7 hs hp (c:=cK h p) rfl hi
  rw [M4 (b:=h.Bytes) (by omega) hl fun j j1 j2=>by
   have:=hb (j - p * 64) (by omega)
   grind]
  grind
theorem DY{h:Heap}{s:Int}(hc:0<=bS h s):∃p i,p < 6/\i < (cV (cK h p)).toNat/\s=(p:Int) * 4+i/\bS h s=cK h p/\(iO s (bS h s)).toNat=p * 64+8+i * (bD (cK h p)).toNat/\(s / 4).toNat=p:=by
 obtain⟨h1,h2,h3⟩:=I2 hc
 have hle:=nP (cK h (s / 4).toNat)
 refine⟨(s / 4).toNat,(s % 4).toNat,by omega,by omega,by omega,h3,?_,rfl⟩
 rw [h3]
 unfold iO
 rw [if_pos ⟨h1,by omega⟩]
 grind [bD]
theorem M5{c:Int}{i j:Nat}(hi:i < (cV c).toNat)(hj:j < (cV c).toNat)(hn:i≠j):i * (bD c).toNat+4<=j * (bD c).toNat\/j * (bD c).toNat+4<=i * (bD c).toNat:=by
 have hc:0<=c/\c<=2:=sV.1 (by omega)
 have h12:12<=(bD c).toNat:=by rcases uF hc with rfl | rfl | rfl <;> decide
 rcases Nat.lt_or_gt_of_ne hn with q | q
 ·left
  have:(i+1) * (bD c).toNat<=j * (bD c).toNat:=nQ _ q
  rw [fH] at this;omega
 ·right
  have:(j+1) * (bD c).toNat<=i * (bD c).toNat:=nQ _ q
  rw [fH] at this;omega
theorem V1.aZC{h:Heap}(hh:V1 h){s g:Int}(hc:0<=bS h s)(hg:1<=g/\g<=7) :
  V1 ⟨st4 h.Bytes (iO s (bS h s)).toNat g,h.Class⟩/\∀t,0<=bS h t->nD ⟨st4 h.Bytes (iO s (bS h s)).toNat g,h.Class⟩ t=if t=s then g else nD h t:=by
 obtain⟨hs,hp⟩:=hh
 have h384:=hs.1
 have hs':fN ⟨st4 h.Bytes (iO s (bS h s)).toNat g,h.Class⟩:=⟨by grind [C6],hs.2.1,aIP hs.2.2.1 _ (by omega),hs.2.2.2⟩
 obtain⟨p,i,p6,hi,es,ec,eo,ep⟩:=DY hc
 have hz:=y7 hs p6 rfl hi
 have h4:=nP (cK h p)
 refine⟨⟨hs',fun q hq=>?_⟩,fun t ht=>?_⟩
 ·rw [DX hs' hq]
  have hold:=(DX hs hq).1 (hp q hq)
  by_cases e:q=p
  ·subst e
   have hpos:0 < cV (cK h q):=by omega
   have hcl:¬cK h q < 0:=by omega
   unfold UL at hold ⊢
   have hcl':cK ⟨st4 h.Bytes (iO s (bS h s)).toNat g,h.Class⟩ q=cK h q:=rfl
   rw [hcl']
   rw [if_neg hcl] at hold ⊢
   obtain⟨⟨a1,a2,a3⟩,a4,a5⟩:=hold
   have bs:∀k,k < 8->bt (st4 h.Bytes (iO s (bS h s)).toNat g) (q * 64+k)=bt h.Bytes (q * 64+k):=fun k hk=>by
    rw [EO (by omega),if_neg (by omega),if_neg (by omega)]
   have b0:=bs 0 (by omega);have b1:=bs 1 (by omega);have b2:=bs 2 (by omega)
   simp only [HX] at b0
   refine⟨⟨by grind,by grind,by grind⟩,fun k k3 k8=>by grind,fun j hj=>?_⟩
   have hzj:=y7 hs p6 rfl hj
   by_cases ej:j=i
   ·grind [aLA]
   ·rw [M4 (b:=h.Bytes) (by omega) (by grind [C6]) fun k k1 k2=>?_]
    ·grind
    ·simp only [eo]
     have:=M5 hi hj (fun q=>ej q.symm)
     rw [EO (by omega),if_neg (by omega),if_neg (by omega)]
  ·refine UL.same hq hs (by grind [C6]) rfl (fun k hk=>?_) hold
   rw [EO (by omega),if_neg (by omega),if_neg (by omega)]
 ·have e2:bS ⟨st4 h.Bytes (iO s (bS h s)).toNat g,h.Class⟩ t=bS h t:=rfl
  unfold nD
  rw [e2]
  by_cases e:t=s
  ·subst e;rw [if_pos rfl];grind [aLA]
  ·rw [if_neg e]
   obtain⟨p',i',p6',hi',es',ec',eo',ep'⟩:=DY ht
   have hz':=y7 hs p6' rfl hi'
   rw [M4 (b:=h.Bytes) (by omega) (by grind [C6]) fun k k1 k2=>?_]
   simp only
   by_cases ee:p'=p
   ·subst ee
    have:=M5 hi hi' (fun q=>e (by omega))
    rw [EO (by omega),if_neg (by omega),if_neg (by omega)]
   ·have h4':=nP (cK h p')
    rw [EO (by omega),if_neg (by omega),if_neg (by omega)]
theorem Y8{p k:Nat}{c:Int}(hp:p < 6)(hk:(k:Int) < cV c):aTD p k c=p * 64+8+k * (bD c).toNat/\8+k * (bD c).toNat+4<=64:=by
 have hc:0<=c/\c<=2:=sV.1 (by omega)
 have h1:=aGK (c:=c) hp hk
 have hle:=nP c
 have e:=h1.1
 unfold iO at e
 rw [if_pos (by omega)] at e
 grind [bD,cV]
theorem aXJ{b:List Int}{p:Nat}{c:Int}(hl:b.length=384)(hp:p < 6)(hc:0<=c/\c<=2):∀k:Nat,(k:Int)<=cV c->∀j,(j < p * 64\/p * 64+64<=j->bt (gB b p c k) j=bt b j)/\(3<=j->j < 8->bt (gB b p c k) (p * 64+j)=bt b (p * 64+j))/\bt (gB b p c k) (p * 64)=171/\bt (gB b p c k) (p * 64+1)=c/\bt (gB b p c k) (p * 64+2)=cV c
 | 0, hk, j => by
  have key:∀i,bt (gB b p c 0) i=if i=p * 64+2 then cV c else if i=p * 64+1 then c else if i=p * 64 then 171 else bt b i:=fun i=>by
   grind [gB,KA]
  grind
 | k + 1, hk, j => by
  have ih:=aXJ hl hp hc k (by omega)
  have hoff:=Y8 (c:=c) hp (by omega:(k:Int) < cV c)
  have hbl:=J9 b p c k
  unfold gB
  refine⟨fun h=>?_,fun h1 h2=>?_,?_,?_,?_⟩
  ·rw [EO (by omega),if_neg (by omega),if_neg (by omega)];grind
  ·rw [EO (by omega),if_neg (by omega),if_neg (by omega)];grind
  ·rw [EO (by omega),if_neg (by omega),if_neg (by omega)];exact(ih j).2.2.1
  ·rw [EO (by omega),if_neg (by omega),if_neg (by omega)];exact(ih j).2.2.2.1
  ·rw [EO (by omega),if_neg (by omega),if_neg (by omega)];exact(ih j).2.2.2.2
theorem aTF{b:List Int}{p:Nat}{c:Int}(hl:b.length=384)(hp:p < 6):∀k:Nat,(k:Int)<=cV c->∀i,i < k->ld (gB b p c k) (p * 64+8+i * (bD c).toNat) 4=1
 | 0,_,i,h=>absurd h (by omega)
 | k + 1, hk, i, h => by
  have hbl:=J9 b p c k
  have ho:=Y8 (c:=c) hp (by omega:(k:Int) < cV c)
  unfold gB
  by_cases e:i=k
  ·grind [aLA]
  ·have hoi:=Y8 (c:=c) hp (by omega:(i:Int) < cV c)
   have ha:=M5 (c:=c) (i:=i) (j:=k) (by omega) (by omega) e
   rw [M4 (b:=gB b p c k) (by omega) (by rw [C6]) fun j j1 j2=>by rw [EO (by omega),if_neg (by omega),if_neg (by omega)]]
   exact aTF hl hp k (by omega) i (by omega)
theorem UN{h:Heap}(hs:fN h){B:List Int}{p q:Nat}(hq:q < 6){c:Int}:cK ⟨B,h.Class.set p c⟩ q=if q=p then c else cK h q:=by
 have h6:=hs.2.1
 grind [cK]
theorem V1.a07{h:Heap}(hh:V1 h){p:Nat}(hp:p < 6)(hun:cK h p < 0){c:Int}(hc:0<=c/\c<=2) :
  V1 ⟨gB h.Bytes p c (cV c).toNat,h.Class.set p c⟩/\(∀t,(t / 4).toNat≠p->bS ⟨gB h.Bytes p c (cV c).toNat,h.Class.set p c⟩ t=bS h t)/\(∀t,0<=bS h t->(t / 4).toNat≠p/\nD ⟨gB h.Bytes p c (cV c).toNat,h.Class.set p c⟩ t=nD h t) /\
   ∀i,i < (cV c).toNat->bS ⟨gB h.Bytes p c (cV c).toNat,h.Class.set p c⟩ ((p:Int) * 4+i)=c/\nD ⟨gB h.Bytes p c (cV c).toNat,h.Class.set p c⟩ ((p:Int) * 4+i)=1:=by
 obtain⟨hs,hpg⟩:=hh
 have h384:=hs.1
 have hle:=nP c
 have hpn:((cV c).toNat:Int)<=cV c:=by omega
 have hb:=aXJ h384 hp hc (cV c).toNat hpn
 have hbl:=J9 h.Bytes p c (cV c).toNat
 have hs':fN ⟨gB h.Bytes p c (cV c).toNat,h.Class.set p c⟩:=⟨by simp only [hbl];exact h384,by simp only [b9];exact hs.2.1,aGJ hs.2.2.1 p hc _,fun x hx=>by
  rcases qY hx with q | rfl
  ·exact hs.2.2.2 x q
  ·omega⟩
 have hcls:∀t:Int,(t / 4).toNat≠p->bS ⟨gB h.Bytes p c (cV c).toNat,h.Class.set p c⟩ t=bS h t:=fun t ht=>by
  unfold bS
  by_cases q:0<=t/\t<=23
  ·rw [UN hs (by omega),if_neg ht]
  ·rw [if_neg (fun z=>q z.1),if_neg (fun z=>q z.1)]
 refine⟨⟨hs',fun q hq=>?_⟩,hcls,fun t ht=>?_,fun i hi=>?_⟩
 ·rw [DX hs' hq]
  have hold:=(DX hs hq).1 (hpg q hq)
  by_cases e:q=p
  ·subst e
   unfold UL at hold ⊢
   rw [if_pos hun] at hold
   rw [UN hs hq,if_pos rfl,if_neg (by omega)]
   refine⟨(hb 0).2.2,fun k k3 k8=>?_,fun i hi=>?_⟩
   ·simp only;rw [(hb k).2.1 k3 k8];exact hold k (by omega)
   ·simp only;rw [aTF h384 hp _ hpn i hi];omega
  ·refine UL.same hq hs (by simp only [hbl]) (by rw [UN hs hq,if_neg e]) (fun k hk=>?_) hold
   exact(hb _).1 (by omega)
 ·obtain⟨p',i',p6',hi',es',ec',eo',ep'⟩:=DY ht
  have hne:(t / 4).toNat≠p:=fun z=>by rw [ec',<-ep',z] at ht;omega
  refine⟨hne,?_⟩
  have hz':=y7 hs p6' rfl hi'
  unfold nD
  rw [hcls t hne,M4 (b:=h.Bytes) (by omega) (by simp only [hbl]) fun k k1 k2=>(hb k).1 (by omega)]
 ·have e1:((p:Int) * 4+i) / 4=p:=by omega
  have e2:((p:Int) * 4+i) % 4=i:=by omega
  have ec:bS ⟨gB h.Bytes p c (cV c).toNat,h.Class.set p c⟩ ((p:Int) * 4+i)=c:=by
   unfold bS
   rw [e1,e2,I6,UN hs hp,if_pos rfl,if_pos (by omega)]
  refine⟨ec,?_⟩
  unfold nD
  rw [ec]
  have ho:=Y8 (c:=c) hp (by omega:(i:Int) < cV c)
  have:(iO ((p:Int) * 4+i) c).toNat=p * 64+8+i * (bD c).toNat:=ho.1
  rw [this]
  exact aTF h384 hp _ hpn i hi
def sZ(m m':Mem)(k:Int):Prop:=qF m'/\∀s,nE m s=3->s≠k->nE m' s=3/\nD m'.Heap s=nD m.Heap s/\bS m'.Heap s=bS m.Heap s
theorem sZ.refl{m:Mem}(h:qF m)(k:Int):sZ m m k:=⟨h,fun _ h _=>⟨h,rfl,rfl⟩⟩
theorem sZ.live{m m':Mem}{k h:Int}(q:sZ m m' k)(hl:oT m h)(hn:h % 32≠k):oT m' h:=by
 obtain⟨h1,h2,h3⟩:=hl
 obtain⟨a,b,_⟩:=q.2 _ h2 hn
 exact⟨h1,a,by omega⟩
theorem I5{l:List aO}{k j:Nat}(hk:k < l.length){t:aO}:gQ (l.set k t) j=if j=k then t.aQ else gQ l j:=by
 grind [gQ]
theorem aEF{l:List aO}{k:Nat}(hk:k < l.length){t:aO}(ht:t.aQ.Sublist l[k].aQ):(eD (l.set k t)).Sublist (eD l):=by
 grind [F5,DW]
theorem UO{l:List aO}{k:Nat}(hk:k < l.length){xs:List Int}{s:Int}:s∈eD (l.set k ⟨l[k].aQ++xs⟩)↔s∈eD l\/s∈xs:=by
 grind [F5,DW]
theorem P9{l:List aO}{k:Nat}(hk:k < l.length){xs r q:List Int}(h:(q++(eD l++r)).Nodup)(hx:xs.Nodup)(hd:∀x∈xs,x∉q++(eD l++r)):(q++(eD (l.set k ⟨l[k].aQ++xs⟩)++r)).Nodup:=by
 have hp:(q++(eD (l.set k ⟨l[k].aQ++xs⟩)++r)).Perm (xs++(q++(eD l++r))):=by
  rw [F5 hk,DW hk]
  grind
 grind
theorem oV{m:Mem}{s:Int}:nE m s=3↔0<=bS m.Heap s/\s∉lX m.aA/\nD m.Heap s<=6:=by
 unfold nE
 grind
noncomputable section
variable {m:Mem} (hm:qF m)
include hm
theorem qF.aZD{k:Nat}(hk:k < 9){t:aO}(ht:t.aQ.Sublist (gQ m.aA.Own k)):sZ m ⟨m.Heap,⟨m.aA.Global,m.aA.Own.set k t⟩⟩ (-1):=by
 obtain⟨⟨hh,h3,h9,h2,hr,hn⟩,hg,ho⟩:=hm
 have hk':k < m.aA.Own.length:=by omega
 have ht':t.aQ.Sublist m.aA.Own[k].aQ:=by grind [eM]
 have hsub:(lX ⟨m.aA.Global,m.aA.Own.set k t⟩).Sublist (lX m.aA):=(List.Sublist.refl _).append (aEF hk' ht')
 refine⟨⟨⟨hh,h3,by grind,fun s hs=>?_,fun x hx=>hr x (hsub.subset hx),hsub.nodup hn⟩,hg,fun j hj=>?_⟩,fun s hs _=>⟨?_,rfl,rfl⟩⟩
 ·grind
 ·unfold Q6
  simp only [I5 hk']
  split
  ·rename_i e;subst e
   exact fun x hx=>ho j hj x (ht.subset hx)
  ·exact ho j hj
 grind [oV]
theorem qF.aPB{k:Nat}(hk:k < 3){t:aO}(ht:t.aQ.Sublist (gQ m.aA.Global k)):sZ m ⟨m.Heap,⟨m.aA.Global.set k t,m.aA.Own⟩⟩ (-1):=by
 obtain⟨⟨hh,h3,h9,h2,hr,hn⟩,hg,ho⟩:=hm
 have hk':k < m.aA.Global.length:=by omega
 have ht':t.aQ.Sublist m.aA.Global[k].aQ:=by grind [eM]
 have hsub:(lX ⟨m.aA.Global.set k t,m.aA.Own⟩).Sublist (lX m.aA):=(aEF hk' ht').append (List.Sublist.refl _)
 refine⟨⟨⟨hh,by grind,h9,h2,fun x hx=>hr x (hsub.subset hx),hsub.nodup hn⟩,fun j hj=>?_,ho⟩,fun s hs _=>⟨?_,rfl,rfl⟩⟩
 ·unfold UG
  simp only [I5 hk']
  split
  ·rename_i e;subst e
   exact fun x hx=>hg j hj x (ht.subset hx)
  ·exact hg j hj
 grind [oV]
theorem qF.aV9{k:Nat}(hk:k < 9){xs:List Int}(hl:(gQ m.aA.Own k).length+xs.length<=2)(hx:xs.Nodup)(hf:LP m.Heap xs ((k % 3:Nat):Int))(hd:∀x∈xs,x∉lX m.aA)(hk':k < m.aA.Own.length) :
  qF ⟨m.Heap,⟨m.aA.Global,m.aA.Own.set k ⟨m.aA.Own[k].aQ++xs⟩⟩⟩/\∀s,s∉xs->nE m s=3->nE ⟨m.Heap,⟨m.aA.Global,m.aA.Own.set k ⟨m.aA.Own[k].aQ++xs⟩⟩⟩ s=3:=by
 obtain⟨⟨hh,h3,h9,h2,hr,hn⟩,hg,ho⟩:=hm
 have hmem:∀s,s∈lX ⟨m.aA.Global,m.aA.Own.set k ⟨m.aA.Own[k].aQ++xs⟩⟩↔s∈lX m.aA\/s∈xs:=fun s=>by
  simp [lX,UO,or_assoc]
 have hcl:∀x∈xs,0<=x/\x<=23:=fun x h=>by
  have:=(hf x h).1
  exact(I2 (h:=m.Heap) (s:=x) (by omega)).1
 refine⟨⟨⟨hh,h3,by grind,fun s hs=>?_,fun x hx=>?_,?_⟩,hg,fun j hj=>?_⟩,fun s hs h3=>?_⟩
 ·grind [eM]
 ·grind
 ·have:=P9 (q:=eD m.aA.Global) (r:=[]) hk' (by grind [lX]) hx (by grind [lX])
  grind [lX]
 ·unfold Q6
  simp only [I5 hk']
  split
  ·rename_i e;subst e
   intro x hx
   rcases eX.1 hx with q | q
   ·rw [eM hk'] at q;exact ho j hj x q
   ·exact hf x q
  ·exact ho j hj
 grind [oV]
theorem qF.aBP{k:Nat}(hk:k < 3){xs:List Int}(hx:xs.Nodup)(hf:LP m.Heap xs (k:Int))(hd:∀x∈xs,x∉lX m.aA)(hk':k < m.aA.Global.length) :
  qF ⟨m.Heap,⟨m.aA.Global.set k ⟨m.aA.Global[k].aQ++xs⟩,m.aA.Own⟩⟩/\∀s,s∉xs->nE m s=3->nE ⟨m.Heap,⟨m.aA.Global.set k ⟨m.aA.Global[k].aQ++xs⟩,m.aA.Own⟩⟩ s=3:=by
 obtain⟨⟨hh,h3,h9,h2,hr,hn⟩,hg,ho⟩:=hm
 have hmem:∀s,s∈lX ⟨m.aA.Global.set k ⟨m.aA.Global[k].aQ++xs⟩,m.aA.Own⟩↔s∈lX m.aA\/s∈xs:=fun s=>by
  simp [lX,UO,or_right_comm]
 have hcl:∀x∈xs,0<=x/\x<=23:=fun x h=>by
  have:=(hf x h).1
  exact(I2 (h:=m.Heap) (s:=x) (by omega)).1
 refine⟨⟨⟨hh,by grind,h9,h2,fun x hx=>?_,?_⟩,fun j hj=>?_,ho⟩,fun s hs h3=>?_⟩
 ·grind
 ·have:=P9 (q:=[]) (r:=eD m.aA.Own) hk' (by grind [lX]) hx (by grind [lX])
  grind [lX]
 ·unfold UG
  simp only [I5 hk']
  split
  ·rename_i e;subst e
   intro x hx
   rcases eX.1 hx with q | q
   ·rw [eM hk'] at q;exact hg j hj x q
   ·exact hf x q
  ·exact hg j hj
 grind [oV]
theorem qF.QA{x:Int}(hx:x∈lX m.aA):0<=bS m.Heap x/\nD m.Heap x<=6:=by
 obtain⟨⟨hh,h3,h9,h2,hr,hn⟩,hg,ho⟩:=hm
 have key:∀(l:List aO),x∈eD l->∃k,k < l.length/\x∈gQ l k:=fun l h=>by
  grind [QU,WH,eM]
 rcases eX.1 hx with q | q
 ·obtain⟨k,hk,h⟩:=key _ q
  have:=hg k (by omega) x h
  omega
 ·obtain⟨k,hk,h⟩:=key _ q
  have:=ho k (by omega) x h
  omega
theorem qF.heap{h':Heap}(hh:V1 h')(hs:∀x∈lX m.aA,bS h' x=bS m.Heap x/\nD h' x=nD m.Heap x):qF ⟨h',m.aA⟩:=by
 obtain⟨⟨_,hl⟩,hg,ho⟩:=hm
 have key:∀(l:List aO) k x,x∈gQ l k->x∈eD l:=fun l k x h=>by
  grind [gQ,QU]
 refine⟨⟨hh,hl⟩,fun k hk x hx=>?_,fun k hk x hx=>?_⟩
 ·obtain⟨a,b⟩:=hs x (NB _ (key _ k x hx))
  show bS h' x=_/\nD h' x<=6
  rw [a,b];exact hg k hk x hx
 ·obtain⟨a,b⟩:=hs x (List.mem_append_right _ (key _ k x hx))
  show bS h' x=_/\nD h' x<=6
  rw [a,b];exact ho k hk x hx
theorem qF.a2X{s g:Int}(hu:nE m s=3)(hg:1<=g/\g<=7):sZ m ⟨⟨st4 m.Heap.Bytes (iO s (bS m.Heap s)).toNat g,m.Heap.Class⟩,m.aA⟩ s/\nD ⟨st4 m.Heap.Bytes (iO s (bS m.Heap s)).toNat g,m.Heap.Class⟩ s=g:=by
 have hu':=oV.1 hu
 obtain⟨a,b⟩:=V1.aZC hm.1.1 hu'.1 hg
 refine⟨⟨qF.heap hm a fun x hx=>⟨rfl,?_⟩,fun t ht hn=>?_⟩,by grind⟩
 ·rw [b x (qF.QA hm hx).1,if_neg (show ¬x=s from fun e=>hu'.2.1 (e ▸ hx))]
 ·have ht':=oV.1 ht
  have e:nD ⟨st4 m.Heap.Bytes (iO s (bS m.Heap s)).toNat g,m.Heap.Class⟩ t=nD m.Heap t:=by grind
  exact⟨oV.2 ⟨ht'.1,ht'.2.1,by grind⟩,e,rfl⟩
theorem qF.a08{p:Nat}(hp:p < 6)(hun:cK m.Heap p < 0){c:Int}(hc:0<=c/\c<=2){xs:List Int}(hxs:∀x∈xs,∃i,i < (cV c).toNat/\x=(p:Int) * 4+(i:Nat))(hx:xs.Nodup)(hk':c.toNat < m.aA.Global.length) :
  sZ m ⟨⟨gB m.Heap.Bytes p c (cV c).toNat,m.Heap.Class.set p c⟩,⟨m.aA.Global.set c.toNat ⟨m.aA.Global[c.toNat].aQ++xs⟩,m.aA.Own⟩⟩ (-1):=by
 obtain⟨a,b,d,e⟩:=V1.a07 hm.1.1 hp hun hc
 have h1:qF ⟨⟨gB m.Heap.Bytes p c (cV c).toNat,m.Heap.Class.set p c⟩,m.aA⟩:=qF.heap hm a fun x hx=>by
  grind [qF.QA]
 have hno:∀x∈xs,¬0<=bS m.Heap x:=fun x h q=>by
  obtain⟨i,hi,rfl⟩:=hxs x h
  have h4:=nP c
  exact(d _ q).1 (by omega)
 obtain⟨f,g⟩:=qF.aBP h1 (k:=c.toNat) (by omega) hx (fun x h=>by
  obtain⟨i,hi,rfl⟩:=hxs x h
  (simp_all;omega)) (fun x h q=>hno x h (qF.QA hm q).1) hk'
 refine⟨f,fun s hs _=>?_⟩
 grind [oV]
end
end Go.Gv
end
noncomputable section
namespace Go.Gv
theorem aZE{p n:Nat}{x:Int}(h:x∈gS p n):∃i,i < n/\x=(p:Int) * 4+(i:Nat):=by
 grind [gS]
theorem aTG(p n:Nat):(gS p n).Nodup:=by
 grind [gS,List.nodup_range]
theorem aIR{m:Mem}(hm:qF m){c:Int}(hc:0<=c/\c<=2) :
  ∃m' s,AX m c=some (m',s)/\FF m c=some (m',s)/\A9 m'/\(0<=s->fN m'.Heap/\0<=bS m'.Heap s)/\sZ m m' (-1):=by
 have hl:=hm.1.2
 have hcnt:=hl.count
 have hs:=hm.1.1.1
 have hsl:=hl.aIK (by omega)
 have hp4:=nP c
 have hpp:0 < cV c:=sV.2 hc
 have hall:=qG m.aA
 have hsG:∀s∈m.aA.Global,s.aQ.length<=24:=fun s h=>by have:=DS h;omega
 have hsO:∀s∈m.aA.Own,s.aQ.length<=24:=fun s h=>by have:=DS h;omega
 have h3:=hl.1
 have h9:=hl.2.1
 have hcpl:=J7 (l:=m.aA) (by omega) (by omega) (fun s h=>by grind) (fun s h=>by grind)
 unfold AX FF
 rcases aTE hm.1.1 hc with ⟨e1,e2⟩ | ⟨p,hp,hun,e1,e2⟩
 ·rw [e1,e2,hcpl]
  have h1:=hs.1;have h2:=hs.2.1
  exact⟨_,_,rfl,rfl,⟨by grind,by grind,by grind,by grind,by grind⟩,fun h=>absurd h (by omega),sZ.refl hm _⟩
 ·rw [e1,e2,hcpl]
  simp only [aH,D8,D7,EH,aBN]
  have hn:(((cV c).toNat:Int) == 0)=false:=by grind
  have hk:c.toNat < m.aA.Global.length:=by omega
  have hg0:=hsG _ (dJ hk)
  have hx:idx m.aA.Global c=some m.aA.Global[c.toNat]:=gC hc.1 (by omega)
  have hz:idx (gS p (cV c).toNat) 0=some ((p:Int) * 4):=by
   grind [aT,gS]
  have hlen:(List.drop (1:Int).toNat (List.take (cV c).toNat (gS p (cV c).toNat))).length<=4:=by grind
  simp only [hn,bG,if_false,hx,aH,hz]
  rw [aK (by omega),aK (by omega)]
  have hcl:cK ⟨gB m.Heap.Bytes p c (cV c).toNat,m.Heap.Class.set p c⟩ p=c:=by
   grind [cK]
  refine⟨_,_,rfl,rfl,⟨by simp only [J9];have:=hs.1;omega,by simp only [b9];have:=hs.2.1;omega,by grind,by grind,?_⟩,fun _=>⟨⟨by simp only [J9];exact hs.1,by simp only [b9];exact hs.2.1,aGJ hs.2.2.1 p hc _,fun x hx=>?_⟩,?_⟩,?_⟩
  ·grind [qG,SN]
  ·rcases qY hx with h | rfl
   ·exact hs.2.2.2 x h
   ·omega
  ·unfold bS
   (simp_all;omega)
  grind [qF.a08,aZE,aTG]
theorem aLB(n:Int):∃c,AV n=some c/\FC n=some c/\(c = -1\/(0<=c/\c<=2)):=by
 have s1:∀k,0<=k/\k<=2->eP n k=some (if 1<=n/\n<=lW k then .stop (Out.ret k) else .next (k+1)):=fun k hk=>by
  simp only [eP]
  rw [if_pos (by simp;omega),PZ,aH,eI,aH,aM (by omega) (by omega)]
  grind
 have s2:∀k,0<=k/\k<=2->iP n k=some (if 1<=n/\n<=lW k then .stop (Out.ret k) else .next (k+1)):=fun k hk=>by
  simp only [iP,wI]
  rw [if_pos (by simp;omega),P0,aH,aM (by omega) (by omega)]
  grind
 have st:∀k,0<=k/\k<=2->1<=n/\n<=lW k->loop (eP n) k=some (Out.ret k)/\loop (iP n) k=some (Out.ret k):=fun k hk h=>
  ⟨bI (by grind),bI (by grind)⟩
 have nx:∀k,0<=k/\k<=2->¬(1<=n/\n<=lW k)->loop (eP n) k=loop (eP n) (k+1)/\loop (iP n) k=loop (iP n) (k+1):=fun k hk h=>
  ⟨bL (by grind),bL (by grind)⟩
 unfold AV FC
 by_cases q0:1<=n/\n<=lW 0
 ·have:=st 0 (by omega) q0
  rw [this.1,this.2];exact⟨_,rfl,rfl,.inr (by omega)⟩
 ·have h0:=nx 0 (by omega) q0
  rw [h0.1,h0.2,show(0:Int)+1=1 from rfl]
  by_cases q1:1<=n/\n<=lW 1
  ·have:=st 1 (by omega) q1
   rw [this.1,this.2];exact⟨_,rfl,rfl,.inr (by omega)⟩
  ·have h1:=nx 1 (by omega) q1
   rw [h1.1,h1.2,show(1:Int)+1=2 from rfl]
   by_cases q2:1<=n/\n<=lW 2
   ·have:=st 2 (by omega) q2
    rw [this.1,this.2];exact⟨_,rfl,rfl,.inr (by omega)⟩
   ·have h2:=nx 2 (by omega) q2
    rw [h2.1,h2.2,show(2:Int)+1=3 from rfl,bI (body:=eP n) (r:=Out.brk ()) (by simp [eP]),bI (body:=iP n) (r:=Out.brk ()) (by simp [iP])]
    exact⟨_,rfl,rfl,.inl rfl⟩
theorem aTH{s:aO}(hl:s.aQ.length<=1048576):∃t x,pL s=some (t,x)/\rV s=some (x,t)/\t.aQ.length<=s.aQ.length/\(0<=x->x∈s.aQ)/\t.aQ.Sublist s.aQ:=by
 unfold pL rV JW
 rw [aM (by omega) (by omega)]
 by_cases q:s.aQ.length=0
 ·rw [if_pos (by grind),if_pos (by simp;omega)]
  grind
 ·have hx:idx s.aQ ((s.aQ.length:Int) - 1)=some (s.aQ[s.aQ.length - 1]'(by omega)):=by
   grind [aT]
  rw [if_neg (by grind),if_neg (by simp;omega),aK (by omega),hx]
  simp only [aH]
  grind [aK]
theorem LS{w c:Int}(hw:0<=w/\w<=2)(hc:0<=c/\c<=2):MH w c=some (w * 3+c)/\GH w c=some (w * 3+c):=by
 grind [aM,MH,JU,eI,GH,CK,lD,iS]
theorem aBQ{l:List aO}{k:Nat}(hk:k < l.length){t:aO}(ht:t.aQ.length<=l[k].aQ.length):(eD (l.set k t)).length<=(eD l).length:=by
 grind [F5,DW]
noncomputable section
variable {m:Mem} (hm:qF m)
include hm
theorem qF.facts:(lX m.aA).length<=24/\m.aA.Global.length=3/\m.aA.Own.length=9/\m.Heap.Bytes.length=384/\m.Heap.Class.length=6/\A9 m/\gN m.aA=some m.aA/\jJ m.aA=some true /\
  (∀s∈m.aA.Global,s.aQ.length<=24)/\(∀s∈m.aA.Own,s.aQ.length<=24):=by
 have hl:=hm.1.2
 have hcnt:=hl.count
 have hall:=qG m.aA
 have hsG:∀s∈m.aA.Global,s.aQ.length<=24:=fun s h=>by have:=DS h;omega
 have hsO:∀s∈m.aA.Own,s.aQ.length<=24:=fun s h=>by have:=DS h;omega
 have h3:=hl.1;have h9:=hl.2.1
 have h1:=hm.1.1.1.1;have h2:=hm.1.1.1.2.1
 refine⟨hcnt,h3,h9,h1,h2,⟨by omega,by omega,by omega,by omega,by omega⟩,J7 (by omega) (by omega) (fun s h=>by grind) (fun s h=>by grind),by grind [N6],hsG,hsO⟩
theorem aBR{w c:Int}(hw:0<=w/\w<=2)(hc:0<=c/\c<=2) :
  ∃l t x,idx m.aA.Own (w * 3+c)=some l/\pL l=some (t,x)/\FD m.aA w c=some (⟨m.aA.Global,m.aA.Own.set (w * 3+c).toNat t⟩,x) /\
   A9 ⟨m.Heap,⟨m.aA.Global,m.aA.Own.set (w * 3+c).toNat t⟩⟩/\(0<=x->0<=bS m.Heap x)/\sZ m ⟨m.Heap,⟨m.aA.Global,m.aA.Own.set (w * 3+c).toNat t⟩⟩ (-1):=by
 obtain⟨hcnt,h3,h9,h1,h2,hsm,hcp,hlo,hsG,hsO⟩:=qF.facts hm
 have hk:(w * 3+c).toNat < m.aA.Own.length:=by omega
 have hx:idx m.aA.Own (w * 3+c)=some m.aA.Own[(w * 3+c).toNat]:=gC (by omega) (by omega)
 have h24:=hsO _ (dJ hk)
 obtain⟨t,x,e1,e2,ht,hmem,hsub⟩:=aTH (s:=m.aA.Own[(w * 3+c).toNat]) (by omega)
 have hall:=qG m.aA
 refine⟨_,t,x,hx,e1,?_,⟨by grind,by grind,by grind,by grind,?_⟩,fun h0=>?_,qF.aZD hm (by omega) (by grind [eM])⟩
 ·unfold FD wK
  rw [hcp,(LS hw hc).2,hlo]
  grind
 ·grind [aBQ,qG]
 ·have:=hm.2.2 (w * 3+c).toNat (by omega) x (by grind [eM])
  omega
theorem RV{c:Int}(hc:0<=c/\c<=2) :
  ∃l t x,idx m.aA.Global c=some l/\pL l=some (t,x)/\wL m.aA c=some (⟨m.aA.Global.set c.toNat t,m.aA.Own⟩,x) /\
   A9 ⟨m.Heap,⟨m.aA.Global.set c.toNat t,m.aA.Own⟩⟩/\(0<=x->0<=bS m.Heap x)/\sZ m ⟨m.Heap,⟨m.aA.Global.set c.toNat t,m.aA.Own⟩⟩ (-1):=by
 obtain⟨hcnt,h3,h9,h1,h2,hsm,hcp,hlo,hsG,hsO⟩:=qF.facts hm
 have hk:c.toNat < m.aA.Global.length:=by omega
 have hx:idx m.aA.Global c=some m.aA.Global[c.toNat]:=gC (by omega) (by omega)
 have h24:=hsG _ (dJ hk)
 obtain⟨t,x,e1,e2,ht,hmem,hsub⟩:=aTH (s:=m.aA.Global[c.toNat]) (by omega)
 have hall:=qG m.aA
 refine⟨_,t,x,hx,e1,?_,⟨by grind,by grind,by grind,by grind,?_⟩,fun h0=>?_,qF.aPB hm (by omega) (by grind [eM])⟩
 ·simp_all [wL,o7,iS]
 ·grind [aBQ,qG]
 ·have:=hm.2.1 c.toNat (by omega) x (by grind [eM])
  omega
theorem aGL{w h:Int}(hw:0<=w/\w<=2)(hv:oT m h):∃m',DN m w (h % 32)=some m'/\GM m w h=some m'/\A9 m'/\sZ m m' (h % 32):=by
 obtain⟨hcnt,h3,h9,h1,h2,hsm,hcp,hlo,hsG,hsO⟩:=qF.facts hm
 have hs:=hm.1.1.1
 have hh:=hv.1
 have hhm:=hh.mod
 have hcl:=lB hv.2.1
 have hgo:=QT hcl
 have hc2:0<=bS m.Heap (h % 32)/\bS m.Heap (h % 32)<=2:=by
  obtain⟨_,q,e⟩:=I2 hcl
  rw [e];exact sV.1 (by omega)
 have hg6:1<=h / 32/\h / 32<=6:=by grind [mB]
 have hbl:m.Heap.Bytes.length<=maxLen:=by grind [maxLen]
 have hnot:h % 32∉lX m.aA:=fun q=>by
  have:=hv.2.1;simp_all [nE,if_neg]
 have hcpH:=M1 (h:=m.Heap) (by omega) (by omega)
 have eo:iO (h % 32) (bS m.Heap (h % 32))=(((iO (h % 32) (bS m.Heap (h % 32))).toNat:Nat):Int):=by omega
 have ew:aZ (h / 32+1)=h / 32+1:=aM (by omega) (by omega)
 have ed:aZ (Int.tdiv h 32)=h / 32:=by grind [aM]
 have hall:=qG m.aA
 obtain⟨hr1,hr2⟩:=qF.a2X hm hv.2.1 (g:=h / 32+1) (by omega)
 have hu:=oV.1 hv.2.1
 unfold DN GM O8 z6
 rw [hhm.1,xJ hs,hcpH,HA hbl,cT hs,iT hs,ed,ew,hcp]
 simp only [aH,jH,bG,if_false,GL,AG,GK]
 rw [qQ hs hcl,hv.2.2,dY,fC (show ¬bS m.Heap (h % 32) < 0 by omega),cT (show 1<=h / 32+1/\h / 32+1<=7 by omega)]
 simp only [aH,jH,bG,if_false,wC,wD,ew]
 generalize hgn:(iO (h % 32) (bS m.Heap (h % 32))).toNat=a at eo
 rw [hgn] at hr1 hr2
 rw [eo,EN (by omega) (by omega) (by omega),RU (by omega)]
 simp only [aH]
 rw [P8 (by omega) (by omega) (by omega)]
 simp only [aH,GW,JQ,ed,ew,hhm.1]
 by_cases q:h / 32+1<=6
 ·have hk:(w * 3+bS m.Heap (h % 32)).toNat < m.aA.Own.length:=by omega
  have hx:idx m.aA.Own (w * 3+bS m.Heap (h % 32))=some m.aA.Own[(w * 3+bS m.Heap (h % 32)).toNat]:=gC (by omega) (by omega)
  have hk2:(bS m.Heap (h % 32)).toNat < m.aA.Global.length:=by omega
  have hx2:idx m.aA.Global (bS m.Heap (h % 32))=some m.aA.Global[(bS m.Heap (h % 32)).toNat]:=gC (by omega) (by omega)
  have b1:=hsO _ (dJ hk)
  have b2:=hsG _ (dJ hk2)
  rw [cT q,if_pos rfl,if_pos rfl]
  unfold PG VG tO
  rw [iT hs,aH,hcp,(LS hw hc2).1,(LS hw hc2).2,hlo,sW,cT (show 0<=h % 32/\h % 32<=23 by omega),P6 (by omega) (by omega) (by omega),fC hnot]
  simp only [aH,jH,bG,if_false,hx,hx2]
  have nz:¬w * 3+bS m.Heap (h % 32) < 0:=by omega
  simp only [fC nz,bG,if_false]
  by_cases q2:m.aA.Own[(w * 3+bS m.Heap (h % 32)).toNat].aQ.length < 2
  ·have y1:(m.aA.Own[(w * 3+bS m.Heap (h % 32)).toNat].aQ.length:Int) < 2:=by omega
   have y2:¬(2:Int)<=m.aA.Own[(w * 3+bS m.Heap (h % 32)).toNat].aQ.length:=by omega
   simp only [cT y1,fC y2,bG,if_false,if_true]
   rw [aK (by simp;omega),aK (by simp;omega)]
   refine⟨_,rfl,rfl,⟨by grind [C6],by grind,by grind,by grind,?_⟩,?_⟩
   ·grind [qG,SN]
   ·have hmod:((w * 3+bS m.Heap (h % 32)).toNat % 3:Nat)=(bS m.Heap (h % 32)).toNat:=by omega
    obtain⟨z1,z2⟩:=qF.aV9 hr1.1 (k:=(w * 3+bS m.Heap (h % 32)).toNat) (by omega) (xs:=[h % 32]) (by grind [eM]) (by simp) (fun x hx=>by
     simp at hx;subst hx
     exact⟨by rw [hmod];show bS m.Heap (h % 32)=_;omega,by grind⟩) (fun x hx=>by grind) hk
    refine⟨z1,fun s h1 h2=>?_⟩
    obtain⟨y1,y2,y3⟩:=hr1.2 s h1 h2
    grind
  ·have y1:¬(m.aA.Own[(w * 3+bS m.Heap (h % 32)).toNat].aQ.length:Int) < 2:=by omega
   have y2:(2:Int)<=m.aA.Own[(w * 3+bS m.Heap (h % 32)).toNat].aQ.length:=by omega
   simp only [cT y2,fC y1,bG,if_false,if_true]
   rw [aK (by simp;omega),aK (by simp;omega)]
   refine⟨_,rfl,rfl,⟨by grind [C6],by grind,by grind,by grind,?_⟩,?_⟩
   ·grind [qG,SN]
   ·obtain⟨z1,z2⟩:=qF.aBP hr1.1 (k:=(bS m.Heap (h % 32)).toNat) (by omega) (xs:=[h % 32]) (by simp) (fun x hx=>by
     simp at hx;subst hx
     exact⟨by show bS m.Heap (h % 32)=_;omega,by grind⟩) (fun x hx=>by grind) hk2
    refine⟨z1,fun s h1 h2=>?_⟩
    obtain⟨y1,y2,y3⟩:=hr1.2 s h1 h2
    grind
 ·rw [fC q,if_neg (by simp),if_neg (by simp)]
  refine⟨_,rfl,rfl,⟨by grind [C6],by grind,by grind,by grind,by (simp_all;omega)⟩,hr1⟩
end
theorem alloc_eq{b:aB}(hm:qF b.Mem){w:Int}(hw:0<=w/\w<=2)(s:Sub) :
  ∃x y,vZ b w s=some (x,y)/\o8 s b w=some (y,x)/\∃m',x=⟨m',b.aJ,b.bO,b.BW⟩/\A9 m'/\sZ b.Mem m' (-1):=by
 have hsm:=(qF.facts hm).2.2.2.2.2.1
 have hs:=hm.1.1.1
 obtain⟨c,ec,ei,hcc⟩:=aLB s.A
 unfold vZ o8
 rw [ec,ei]
 simp only [aH]
 by_cases c0:c < 0
 ·simp only [cT c0,if_true,bB,aX];exact⟨_,_,rfl,rfl,_,rfl,hsm,sZ.refl hm _⟩
 have hc:0<=c/\c<=2:=by omega
 simp only [fC c0,bG,if_false]
 have fin:∀(m':Mem) (x:Int),A9 m'->sZ b.Mem m' (-1)->(0<=x->fN m'.Heap/\0<=bS m'.Heap x) ->
   ∃X Y,hU s x ⟨m',b.aJ,b.bO,b.BW⟩=some (X,Y)/\gK s x ⟨m',b.aJ,b.bO,b.BW⟩=some (Y,X)/\∃m',X=⟨m',b.aJ,b.bO,b.BW⟩/\A9 m'/\sZ b.Mem m' (-1):=by
  intro m' x hs' hst hx
  unfold hU gK
  simp only [uA,MM,bB,aX]
  by_cases x0:0<=x
  ·obtain⟨h,e1,e2⟩:=aPA (m:=m') (hx x0).1 (hx x0).2
   rw [fC (show ¬x < 0 by omega),cT x0]
   simp only [bG,if_false,if_true,e1,e2,aH]
   grind
  ·rw [cT (show x < 0 by omega),fC x0]
   by_cases p3:s.Pc=3
   ·simp only [p3,beq_self_eq_true,if_true,bG,if_false,aH];grind
   ·have p3':(s.Pc == 3)=false:=by grind
    simp only [p3',if_true,bG,if_false,aH];grind
 by_cases p0:s.Pc=0
 ·obtain⟨l,t,x,e1,e2,e3,h1,h2,h3⟩:=aBR hm hw hc
  simp_all [LS]
 ·have p0':(s.Pc == 0)=false:=by grind
  simp only [p0',bG,if_false,uB,lZ]
  obtain⟨l,t,x,e1,e2,e3,h1,h2,h3⟩:=RV hm hc
  by_cases p1:s.Pc=1
  ·simp_all
  ·have p1':(s.Pc == 1)=false:=by grind
   simp only [p1',bG,if_false]
   by_cases p3:s.Pc=3
   ·simp_all
   ·have p3':(s.Pc == 3)=false:=by grind
    simp only [p3',bG,if_false]
    by_cases p2:s.Pc=2
    ·obtain⟨m',x,e1,e2,h1,h2,h3⟩:=aIR hm hc
     simp_all
    ·have p2':(s.Pc == 2)=false:=by grind
     simp only [p2',bG,if_false,bB,aX];exact⟨_,_,rfl,rfl,_,rfl,hsm,sZ.refl hm _⟩
end Go.Gv
end
noncomputable section
namespace Go.Gv
theorem aNO(r:dI)(e:Int):∃v,FY r e=some v/\K7 r e=some v:=by
 unfold FY K7 FP FH
 by_cases h:2<=e
 ·simp only [cT h,if_true];exact⟨_,rfl,rfl⟩
 ·simp only [fC h,bG,if_false];exact⟨_,rfl,rfl⟩
theorem aWA{b:aB}{w:Int}{l:a8}(hx:idx b.bO w=some l)(hl:l.Rows.length<=1000)(s:Sub) :
  (uC l.Rows s.Row s.E=some (-1)/\mU s b w=(aX s 0).bind fun x=>some (x,b)) \/
  ∃k,∃h:k < l.Rows.length,uC l.Rows s.Row s.E=some (k:Int)/\mU s b w=some (⟨s.Kind,s.A,2,s.E,(k:Int),0,l.Rows[k].Handle,s.Out,s.Code,s.dS⟩,b):=by
 have key:∀d k,k+d=l.Rows.length ->
   (loop (dX l.Rows s.E) (k:Int)=some (Out.brk ())/\loop (eB s b w) (k:Int)=some (Out.brk ())) \/
   ∃j,∃h:j < l.Rows.length,loop (dX l.Rows s.E) (k:Int)=some (Out.ret (j:Int))/\loop (eB s b w) (k:Int)=some (Out.ret (⟨s.Kind,s.A,2,s.E,(j:Int),0,l.Rows[j].Handle,s.Out,s.Code,s.dS⟩,b)):=by
  intro d
  induction d with
  | zero =>
   simp_all [bI,dX,eB]
  | succ d ih =>
   intro k hk
   have hk':k < l.Rows.length:=by omega
   obtain⟨v,e1,e2⟩:=aNO l.Rows[k] s.E
   cases v with
   | true =>
    right
    refine⟨k,hk',bI ?_,bI ?_⟩
    ·simp only [dX]
     rw [if_pos (by simp;omega),aT hk',aH,e1];rfl
    ·simp only [eB,hx,aH]
     rw [if_pos (by simp;omega),aT hk',aH,e2];rfl
   | false =>
    have n1:dX l.Rows s.E (k:Int)=some (.next ((k+1:Nat):Int)):=by
     simp only [dX]
     rw [if_pos (by simp;omega),aT hk',aH,e1,aH,aM (by omega) (by omega)];rfl
    have n2:eB s b w (k:Int)=some (.next ((k+1:Nat):Int)):=by
     simp only [eB,hx,aH]
     rw [if_pos (by simp;omega),aT hk',aH,e2,aH,aM (by omega) (by omega)];rfl
    rw [bL n1,bL n2]
    exact ih (k+1) (by omega)
 unfold uC mU
 have hst:∃i:Nat,(if 0 < s.Row then s.Row else 0)=(i:Int)/\(if s.Row < 0 then 0 else s.Row)=(i:Int):=by
  refine⟨s.Row.toNat,?_,?_⟩ <;> split <;> omega
 obtain⟨i,i1,i2⟩:=hst
 rw [i1,i2]
 by_cases hi:i<=l.Rows.length
 ·rcases key (l.Rows.length - i) i (by omega) with ⟨a,c⟩ | ⟨j,hj,a,c⟩
  ·left;rw [a,c];exact⟨rfl,rfl⟩
  ·right;rw [a,c];exact⟨j,hj,rfl,rfl⟩
 ·left
  rw [bI (body:=dX l.Rows s.E) (r:=Out.brk ()) (by simp only [dX];grind),
   bI (body:=eB s b w) (r:=Out.brk ()) (by simp only [eB,hx,aH];grind)]
  exact⟨rfl,rfl⟩
theorem del_eq{α:Type}{l:List α}{k:Nat}(h:k < l.length):((cA l k (l.drop (k+1))).take (k+(l.length - (k+1)))).drop 0=l.eraseIdx k:=by
 grind [cA,aDR]
theorem aLC{α:Type}{l:List α}{k:Nat}(h:k < l.length):l.Perm (l[k] :: l.eraseIdx k):=by
 grind [HW,RB,List.eraseIdx_eq_take_drop_succ,List.perm_middle]
theorem y8.drop{b:List a8}(hL:y8 b){w:Nat}(hw:w < b.length):∀k (hk:k < b[w].Rows.length),y8 (b.set w ⟨b[w].Rows.eraseIdx k⟩)/\∀r∈dV (b.set w ⟨b[w].Rows.eraseIdx k⟩),r∈dV b/\r.Handle % 32≠b[w].Rows[k].Handle % 32:=by
 intro k hk
 have hsub:(dV (b.set w ⟨b[w].Rows.eraseIdx k⟩)).Sublist (dV b):=by
  grind [LR,I4]
 have hnd:=hL.2.2.2
 refine⟨⟨by simpa using hL.1,qZ hsub.length_le hL.2.1,fun r hr=>hL.2.2.1 r (hsub.subset hr),(hsub.map DT).nodup hnd⟩,fun r hr=>⟨hsub.subset hr,?_⟩⟩
 have hp:(dV b).Perm (b[w].Rows[k] :: dV (b.set w ⟨b[w].Rows.eraseIdx k⟩)):=by
  rw [LR hw,I4 hw]
  refine List.Perm.trans (List.Perm.append_left _ (List.Perm.append_right _ (aLC hk))) ?_
  simp
 grind [DT]
theorem aLD{b:aB}(hb:yJ b){w:Int}(hw:0<=w/\w<=2)(s:Sub) :
  ∃x y,qD b w s=some (x,y)/\mV s b w=some (y,x)/\∃m' L,x=⟨m',b.aJ,L,b.BW⟩/\A9 m'/\qF m'/\y8 L/\∀r∈dV L,oT m' r.Handle/\r.aN<=b.aJ.aN:=by
 have hm:=hb.1.1
 have hL:=hb.1.2.2.1
 have hZ:=hb.1.2.2.2
 have hsm:=(qF.facts hm).2.2.2.2.2.1
 have hlen:w.toNat < b.bO.length:=by have:=hL.1;omega
 have hx:idx b.bO w=some b.bO[w.toNat]:=gC hw.1 (by omega)
 have hrow:=hL.small.2.2.2 _ (dJ hlen)
 have hmemL:b.bO[w.toNat]∈b.bO:=dJ hlen
 have hset:=y8.drop hL hlen
 generalize b.bO[w.toNat]=l at hx hrow hset hmemL
 have done:∀y:Sub,∃x z,(some (b,y):Option (aB×Sub))=some (x,z)/\(some (y,b):Option (Sub×aB))=some (z,x)/\∃m' L,x=⟨m',b.aJ,L,b.BW⟩/\A9 m'/\qF m'/\y8 L/\∀r∈dV L,oT m' r.Handle/\r.aN<=b.aJ.aN:=
  fun y=>⟨_,_,rfl,rfl,b.Mem,b.bO,rfl,hsm,hm,hL,hb.2⟩
 have hw1:aZ ((l.Rows.length:Int) - 1)=(l.Rows.length:Int) - 1:=aM (by omega) (by omega)
 have hhas:DH b.bO w s.Row=some (decide (0<=s.Row/\s.Row<=(l.Rows.length:Int) - 1)):=by
  simp_all [DH,AH,lD,dY]
 unfold qD mV
 rw [hhas,hx]
 simp only [aH,bB,eI,hw1]
 have hat:∃a:Bool,(if decide (0<=s.Row/\s.Row<=(l.Rows.length:Int) - 1)=true then (idx l.Rows s.Row).bind fun x15=>eT s b w (x15.Handle == s.H) else eT s b w false)=eT s b w a /\
   (if (!decide (0<=s.Row/\s.Row<=(l.Rows.length:Int) - 1))=true then eE b s true else (idx l.Rows s.Row).bind fun x11=>eE b s (x11.Handle != s.H))=eE b s (!a) /\
   (a=true->∃r,r∈l.Rows/\idx l.Rows s.Row=some r/\r.Handle=s.H/\0<=s.Row/\s.Row < l.Rows.length) /\
   (a=false->∀f:dI->Option (aB×Sub),(if (!decide (0<=s.Row/\s.Row<=(l.Rows.length:Int) - 1))=true then eF b w s l true else (idx l.Rows s.Row).bind fun x=>if (x.Handle != s.H)=true then eF b w s l true else f x)=eF b w s l true):=by
  by_cases q:0<=s.Row/\s.Row<=(l.Rows.length:Int) - 1
  ·have hr:idx l.Rows s.Row=some (l.Rows[s.Row.toNat]'(by omega)):=gC q.1 (by omega)
   by_cases q2:(l.Rows[s.Row.toNat]'(by omega)).Handle=s.H
   ·refine⟨true,?_,?_,fun _=>⟨_,dJ _,hr,q2,q.1,by omega⟩,fun h=>by cases h⟩
    ·rw [cT q,if_pos rfl,hr,aH,q2,beq_self_eq_true]
    ·rw [cT q,if_neg (by simp),hr,aH,q2,bne_self_eq_false];rfl
   ·have n1:((l.Rows[s.Row.toNat]'(by omega)).Handle == s.H)=false:=by simpa using q2
    have n2:((l.Rows[s.Row.toNat]'(by omega)).Handle != s.H)=true:=by simpa using q2
    refine⟨false,?_,?_,(fun h=>by cases h),fun _ f=>?_⟩
    ·rw [cT q,if_pos rfl,hr,aH,n1]
    ·rw [cT q,if_neg (by simp),hr,aH,n2];rfl
    ·rw [cT q,if_neg (by simp),hr,aH,n2,if_pos rfl]
  simp_all [fC]
 obtain⟨a,ha1,ha2,ha3,ha4⟩:=hat
 rw [ha1,ha2]
 unfold eT
 by_cases p0:s.Pc=0
 ·simp_all
 have p0':(s.Pc == 0)=false:=by grind
 simp only [p0',bG,if_false]
 by_cases p1:s.Pc=1
 ·simp only [p1,beq_self_eq_true,if_true]
  rcases aWA hx (by omega) s with ⟨e1,e2⟩ | ⟨k,hk,e1,e2⟩
  ·simp_all [aX]
  simp_all [if_neg,aT]
 have p1':(s.Pc == 1)=false:=by grind
 simp only [p1',bG,if_false]
 by_cases p2:s.Pc=2
 ·simp only [p2,beq_self_eq_true,if_true,lD,aH]
  by_cases hB:0<=s.B/\s.B<=2
  ·rw [cT hB]
   simp only [jH,bG,if_false,if_true]
   cases a with
   | true =>
    have hz:idx b.BW s.B=some (b.BW[s.B.toNat]'(by have:=hZ.1;omega)):=gC hB.1 (by have:=hZ.1;omega)
    simp only [eE,dO,jH,bG,if_false,if_true,hz,aH,pP]
    by_cases q:(b.BW[s.B.toNat]'(by grind))=s.H
    ·simp_all
    ·have q':((b.BW[s.B.toNat]'(by grind)) == s.H)=false:=by grind
     simp only [q',bG,if_false]
     by_cases q3:aZ (s.B+1)=3
     ·simp_all
     simp_all
   | false =>
    simp_all [eE,dO,cO,bB,aX]
  simp_all [fC,eE,dO,cO,bB,aX]
 have p2':(s.Pc == 2)=false:=by grind
 simp only [p2',bG,if_false,dO]
 by_cases p3:s.Pc=3
 ·simp only [p3,beq_self_eq_true,if_true]
  cases a with
  | false =>
   rw [ha4 rfl]
   simp_all [eF,cO,bB,aX]
  | true =>
   obtain⟨r,hrm,hr,hrH,r0,r1⟩:=ha3 rfl
   obtain⟨v,e1,e2⟩:=aNO r s.E
   rw [cT (show 0<=s.Row/\s.Row<=(l.Rows.length:Int) - 1 by omega)]
   simp only [jH,bG,if_false,if_true,hr,aH,hrH,bne_self_eq_false,hx,e1,e2]
   cases v with
   | false =>
    simp_all [eF,cO,bB,aX]
   | true =>
    have hlive:oT b.Mem s.H:=by
     have:r∈dV b.bO:=aDO.2 ⟨l,hmemL,hrm⟩
     have:=(hb.2 r this).1
     grind
    obtain⟨m',f1,f2,f3,f4⟩:=aGL hm hw hlive
    have ew:aZ (s.Row+1)=s.Row+1:=aM (by omega) (by omega)
    have hdrop:FI b.bO w s.Row=some (b.bO.set w.toNat ⟨((cA l.Rows s.Row.toNat (l.Rows.drop (s.Row+1).toNat)).take (s.Row.toNat+(l.Rows.length - (s.Row+1).toNat))).drop 0⟩,true):=by
     unfold FI wQ
     rw [RT hL.small.2.2.1 (fun s h=>by have:=hL.small.2.2.2 s h;omega),EM hL.small.1,cT hL,hhas,cT (show 0<=s.Row/\s.Row<=(l.Rows.length:Int) - 1 by omega)]
     simp only [aH,jH,bG,if_false,hx,ew]
     unfold xU
     rw [aK (by omega),if_neg (by simp;omega),aK (by omega),aK (by omega),aK (by omega),aK]
     ·rfl
     grind [eG]
    simp only [eF,cO,yG,ew,jH,bG,if_false,if_true]
    rw [aK (by omega),aK (by omega),aK (by omega),gZ,if_pos hlive.1,aH,f1,f2,hdrop]
    have hk:s.Row.toNat < l.Rows.length:=by omega
    have eL:((cA l.Rows s.Row.toNat (l.Rows.drop (s.Row+1).toNat)).take (s.Row.toNat+(l.Rows.length - (s.Row+1).toNat))).drop 0=l.Rows.eraseIdx s.Row.toNat:=by
     rw [show(s.Row+1).toNat=s.Row.toNat+1 by omega];exact del_eq hk
    have er:l.Rows[s.Row.toNat]=r:=by
     grind [aT]
    rw [eL] at hdrop ⊢
    obtain⟨g1,g2⟩:=hset s.Row.toNat hk
    refine⟨_,_,rfl,rfl,m',_,rfl,f3,f4.1,g1,fun q hq=>?_⟩
    obtain⟨g3,g4⟩:=g2 q hq
    obtain⟨g5,g6⟩:=hb.2 q g3
    refine⟨f4.live g5 fun e=>?_,g6⟩
    grind
 simp_all [cO,aX]
end Go.Gv
end
noncomputable section
namespace Go.Gv
theorem step_eq{b:aB}(hb:yJ b)(hs:aK1 b){w:Int}(hw:0<=w/\w<=2)(s:Sub) :
  ∃x y,MN b w s=some (x,y)/\m8 s b w=some (y,x)/\yJ x:=by
 have hz:=hb.1.2.2.2.1
 have hl:=hb.1.2.2.1
 unfold MN m8
 cases hd:s.dS with
 | true=>grind
 | false =>
  simp only [bG,if_false]
  by_cases k1:s.Kind=1
  ·obtain⟨x,y,e1,e2,m,rfl,h1,h2⟩:=alloc_eq hb.1.1 hw s
   simp only [k1,beq_self_eq_true,if_true,e1,e2,aH]
   exact⟨_,_,rfl,rfl,⟨h2.1,hb.1.2⟩,fun r hr=>⟨h2.live (hb.2 r hr).1 (by omega),(hb.2 r hr).2⟩⟩
  have k1':(s.Kind == 1)=false:=by grind
  simp only [k1',bG,if_false]
  by_cases k2:s.Kind=2
  ·obtain⟨x,y,e1,e2,L,rfl,h1,h2⟩:=aO6 hb hs hw s
   simp only [k2,beq_self_eq_true,if_true,e1,e2,aH]
   exact⟨_,_,rfl,rfl,⟨hb.1.1,hb.1.2.1,h1,hb.1.2.2.2⟩,h2⟩
  have k2':(s.Kind == 2)=false:=by grind
  simp only [k2',bG,if_false]
  by_cases k3:s.Kind=3
  ·obtain⟨x,y,e1,e2,c,rfl,h1,h2⟩:=aK5 hb.1.2.1 s
   simp only [k3,beq_self_eq_true,if_true,e1,e2,aH]
   exact⟨_,_,rfl,rfl,⟨hb.1.1,h1,hb.1.2.2⟩,fun r hr=>⟨(hb.2 r hr).1,Int.le_trans (hb.2 r hr).2 h2⟩⟩
  have k3':(s.Kind == 3)=false:=by grind
  simp only [k3',bG,if_false]
  by_cases k4:s.Kind=4
  ·obtain⟨x,y,e1,e2,m,L,rfl,h1,h2,h3,h4⟩:=aLD hb hw s
   simp only [k4,beq_self_eq_true,if_true,e1,e2,aH]
   exact⟨_,_,rfl,rfl,⟨h2,hb.1.2.1,h3,hb.1.2.2.2⟩,h4⟩
  have k4':(s.Kind == 4)=false:=by grind
  simp only [k4',bG,if_false]
  by_cases k5:s.Kind=5
  ·obtain⟨x,y,e1,e2,c,rfl,h1,h2⟩:=aZB hb.1.2.1 hw s
   simp only [k5,beq_self_eq_true,if_true,e1,e2,aH]
   exact⟨_,_,rfl,rfl,⟨hb.1.1,h1,hb.1.2.2⟩,fun r hr=>⟨(hb.2 r hr).1,Int.le_trans (hb.2 r hr).2 h2⟩⟩
  have k5':(s.Kind == 5)=false:=by grind
  simp only [k5',bG,if_false,bB,aX,aH]
  grind
theorem yJ.small{b:aB}(hb:yJ b):aK1 b:=by
 have h1:=hb.1.2.1.2.1;have h2:=hb.1.2.2.1.1;have h3:=hb.1.2.2.1.2.1;have h4:=hb.1.2.2.2.1
 exact⟨(qF.facts hb.1.1).2.2.2.2.2.1,by omega,by omega,by omega,by omega⟩
end Go.Gv
end
noncomputable section
namespace Go.Gv
def KB(s:Sub)(code:Int):Sub:={s with Code:=code,dS:=true}
def HF(n:Int):Int:=if 1<=n/\n<=8 then 0 else if 1<=n/\n<=16 then 1 else if 1<=n/\n<=40 then 2 else -1
theorem aLE(n:Int):-1<=HF n/\HF n<=2:=by grind [HF]
theorem aPC(n:Int):AV n=some (HF n):=by
 have s1:∀k,0<=k/\k<=2->eP n k=some (if 1<=n/\n<=lW k then .stop (Out.ret k) else .next (k+1)):=fun k hk=>by
  simp only [eP]
  rw [if_pos (by simp;omega),PZ,aH,eI,aH,aM (by omega) (by omega)]
  grind
 have z0:lW 0=8:=rfl
 have z1:lW 1=16:=rfl
 have z2:lW 2=40:=rfl
 unfold AV HF
 by_cases q0:1<=n/\n<=8
 ·rw [bI (by rw [s1 0 (by omega),if_pos (by omega)]),if_pos q0];rfl
 ·rw [bL (by rw [s1 0 (by omega),if_neg (by omega)]),if_neg q0,show(0:Int)+1=1 from rfl]
  by_cases q1:1<=n/\n<=16
  ·rw [bI (by rw [s1 1 (by omega),if_pos (by omega)]),if_pos q1];rfl
  ·rw [bL (by rw [s1 1 (by omega),if_neg (by omega)]),if_neg q1,show(1:Int)+1=2 from rfl]
   by_cases q2:1<=n/\n<=40
   ·rw [bI (by rw [s1 2 (by omega),if_pos (by omega)]),if_pos q2];rfl
   ·rw [bL (by rw [s1 2 (by omega),if_neg (by omega)]),if_neg q2,show(2:Int)+1=3 from rfl,bI (body:=eP n) (r:=Out.brk ()) (by simp [eP])];rfl
def aDJ(l:List Int):List Int×Int:=(l.dropLast,l.getLastD (-1))
theorem Y9{s:aO}(h:s.aQ.length<=1048576):pL s=some (⟨(aDJ s.aQ).1⟩,(aDJ s.aQ).2):=by
 unfold pL JW aDJ
 obtain⟨l⟩:=s
 rcases ZF l with rfl | ⟨L,b,rfl⟩
 ·rfl
 ·simp only [ZE] at h ⊢
  have hl:(L ++ [b]).length=L.length+1:=by simp
  rw [hl,aM (by omega) (by omega),show((L.length+1:Nat):Int) - 1=(L.length:Int) by omega,if_neg (by simp;omega),aK (by omega),aT (by omega)]
  simp
def UP(m:Mem)(w c:Int):Mem×Int:=(⟨m.Heap,⟨m.aA.Global,m.aA.Own.set (w * 3+c).toNat ⟨(aDJ (gQ m.aA.Own (w * 3+c).toNat)).1⟩⟩⟩,(aDJ (gQ m.aA.Own (w * 3+c).toNat)).2)
def QW(m:Mem)(c:Int):Mem×Int:=(⟨m.Heap,⟨m.aA.Global.set c.toNat ⟨(aDJ (gQ m.aA.Global c.toNat)).1⟩,m.aA.Own⟩⟩,(aDJ (gQ m.aA.Global c.toNat)).2)
def WW(h:Heap):Nat:=h.Class.findIdx (fun x=>decide (x = -1))
def V3(m:Mem)(c:Int):Mem×Int:=if WW m.Heap=6 then (m,-1) else
 (⟨⟨gB m.Heap.Bytes (WW m.Heap) c (cV c).toNat,m.Heap.Class.set (WW m.Heap) c⟩,⟨m.aA.Global.set c.toNat ⟨gQ m.aA.Global c.toNat++(gS (WW m.Heap) (cV c).toNat).drop 1⟩,m.aA.Own⟩⟩,(WW m.Heap:Int) * 4)
theorem aTI{h:Heap}(hs:fN h):WW h<=6:=by rw [<-hs.2.1];exact List.findIdx_le_length
theorem aZF{h:Heap}(hs:fN h)(hq:WW h≠6):WW h < 6/\cK h (WW h) = -1:=by
 have h6:=hs.2.1
 have hlt:WW h < 6:=by grind [aTI]
 refine⟨hlt,?_⟩
 rw [<-QQ hs hlt]
 have:=List.findIdx_getElem (xs:=h.Class) (p:=fun x=>decide (x = -1)) (w:=by grind [WW])
 exact of_decide_eq_true this
theorem aWB{h:Heap}(hs:fN h):∀j (hj:j < 6),j < WW h->cK h j≠-1:=fun j hj hlt=>by
 have:=List.not_of_lt_findIdx hlt
 grind [QQ]
theorem aZG{h:Heap}(hh:V1 h){c:Int}(hc:0<=c/\c<=2):pM h c=some (if WW h=6 then (h,[]) else (⟨gB h.Bytes (WW h) c (cV c).toNat,h.Class.set (WW h) c⟩,gS (WW h) (cV c).toNat)):=by
 have hs:=hh.1
 have h6:=hs.2.1
 have h384:=hs.1
 have hle:=aTI hs
 have s1:∀k (hk:k < WW h),dW h c (k:Int)=some (.next ((k+1:Nat):Int)):=fun k hk=>by
  have n:(h.Class[k] != -1)=true:=by
   grind [aWB,QQ]
  simp only [dW,EG]
  rw [if_pos (by simp;omega),aT (by omega),aH,n,if_pos rfl,aM (by omega) (by omega)];rfl
 unfold pM
 by_cases hq:WW h=6
 ·have a1:loop (dW h c) 0=some (Out.brk ()):=gP (WW h) (fun k=>(k:Int)) _ s1 (by simp_all [dW])
  rw [a1,if_pos hq];rfl
 ·obtain⟨hlt,he⟩:=aZF hs hq
  rw [<-QQ hs hlt] at he
  generalize hqq:WW h=q at *
  have a1:loop (dW h c) 0=some (Out.ret (⟨gB h.Bytes q c (cV c).toNat,h.Class.set q c⟩,gS q (cV c).toNat)):=gP q (fun k=>(k:Int)) _ s1 (by
   have e0:aZ ((q:Int) * 64)=((q * 64:Nat):Int):=by grind [aM]
   have e1:aZ (((q * 64:Nat):Int)+1)=((q * 64+1:Nat):Int):=by grind [aM]
   have e2:aZ (((q * 64:Nat):Int)+2)=((q * 64+2:Nat):Int):=by grind [aM]
   have n:(h.Class[q] != -1)=false:=by grind
   simp only [dW,e0,e1,e2,I6]
   rw [if_pos (by simp;omega),aT (by omega),aH,n,if_neg (by simp),aT (by omega),aH,aT (by simp;omega),aH,mK,aH,aT (by simp;omega),aH]
   have:=aBO h384 hlt hc
   simp only [gB] at this
   rw [this];rfl)
  rw [a1,if_neg hq];rfl
theorem aPD{m:Mem}(hm:qF m){c:Int}(hc:0<=c/\c<=2):AX m c=some (V3 m c):=by
 have h3:=hm.1.2.1
 have hpp:0 < cV c:=sV.2 hc
 have hp4:=nP c
 obtain⟨_,_,_,_,_,_,_,_,hsG,_⟩:=qF.facts hm
 unfold AX V3
 rw [aZG hm.1.1 hc]
 by_cases hq:WW m.Heap=6
 ·simp_all
 ·have hk:c.toNat < m.aA.Global.length:=by omega
  have hg0:=hsG _ (dJ hk)
  have hx:idx m.aA.Global c=some m.aA.Global[c.toNat]:=gC hc.1 (by omega)
  have hz:idx (gS (WW m.Heap) (cV c).toNat) 0=some ((WW m.Heap:Int) * 4):=by
   grind [aT,gS]
  have hn:(((cV c).toNat:Int) == 0)=false:=by grind
  have ht:(gS (WW m.Heap) (cV c).toNat).take (cV c).toNat=gS (WW m.Heap) (cV c).toNat:=aDR (by grind [aBN])
  have hd:((gS (WW m.Heap) (cV c).toNat).drop 1).length<=4:=by grind
  simp only [if_neg hq,aH,aBN,hn,bG,if_false,hx,hz,EH,ht]
  grind [aK,eM]
def aZH(m:Mem)(s:Int):Int:=if 1<=nD m.Heap s/\nD m.Heap s<=6 then nD m.Heap s * 32+s else 0
theorem aWC{m:Mem}(hs:fN m.Heap){s:Int}(hc:0<=bS m.Heap s):vY m s=some (aZH m s):=by
 unfold vY JX tY aZH
 rw [qQ hs hc,aH,eI,eI]
 have h1:=(I2 hc).1
 simp only [cT h1,aH,jH,bG,if_false]
 by_cases q:1<=nD m.Heap s/\nD m.Heap s<=6
 ·simp only [cT q,jH,bG,if_false,if_pos q]
  grind [aM]
 grind
def V4(b:aB)(s:Sub)(p:Mem×Int):aB×Sub:=
 if 0<=p.2 then ({b with Mem:=p.1},KB {s with Out:=aZH p.1 p.2} 0) else if s.Pc=3 then ({b with Mem:=p.1},KB s 3) else ({b with Mem:=p.1},{s with Pc:=s.Pc+1})
def aLF(b:aB)(w:Int)(s:Sub):aB×Sub:=
 if HF s.A < 0 then (b,KB s 2)
 else if s.Pc=0 then V4 b s (UP b.Mem w (HF s.A))
 else if s.Pc=1\/s.Pc=3 then V4 b s (QW b.Mem (HF s.A))
 else if s.Pc=2 then V4 b s (V3 b.Mem (HF s.A))
 else (b,KB s 1)
theorem aPE{b:aB}(hm:qF b.Mem){w:Int}(hw:0<=w/\w<=2)(s:Sub):vZ b w s=some (aLF b w s):=by
 obtain⟨hcnt,h3,h9,h1,h2,hsm,hcp,hlo,hsG,hsO⟩:=qF.facts hm
 have hs:=hm.1.1.1
 have hr:=aLE s.A
 unfold vZ aLF
 rw [aPC]
 simp only [aH]
 by_cases c0:HF s.A < 0
 ·simp only [cT c0,if_true,bB,if_pos c0];rfl
 generalize HF s.A=c at *
 have hc:0<=c/\c<=2:=by omega
 simp only [fC c0,bG,if_false,if_neg c0]
 have fin:∀(p:Mem×Int),-1<=p.2->(0<=p.2->fN p.1.Heap/\0<=bS p.1.Heap p.2)->s.Pc<=3/\0<=s.Pc->hU s p.2 ⟨p.1,b.aJ,b.bO,b.BW⟩=some (V4 b s p):=by
  intro p hp hx hpc
  unfold hU V4
  simp only [uA,MM,bB]
  by_cases x0:0<=p.2
  ·rw [fC (show ¬p.2 < 0 by omega),cT x0]
   simp only [bG,if_false,if_true,if_pos x0,aWC (hx x0).1 (hx x0).2,aH];rfl
  ·rw [cT (show p.2 < 0 by omega),fC x0]
   by_cases p3:s.Pc=3
   ·have p3':(s.Pc == 3)=true:=by grind
    simp only [p3',if_true,if_neg x0,if_pos p3,aH];rfl
   ·have p3':(s.Pc == 3)=false:=by grind
    have e:aZ (s.Pc+1)=s.Pc+1:=aM (by omega) (by omega)
    grind
 have popL:∀l:List Int,-1<=(aDJ l).2\/(aDJ l).2∈l:=fun l=>by
  unfold aDJ
  grind
 by_cases p0:s.Pc=0
 ·have hk:(w * 3+c).toNat < b.Mem.aA.Own.length:=by omega
  have hx:idx b.Mem.aA.Own (w * 3+c)=some b.Mem.aA.Own[(w * 3+c).toNat]:=gC (by omega) (by omega)
  obtain⟨l,t,x,e1,e2,e3,g1,g2,g3⟩:=aBR hm hw hc
  have hl:=hsO _ (dJ hk)
  rw [hx] at e1;cases e1
  rw [Y9 (by omega)] at e2
  have ep:UP b.Mem w c=(⟨b.Mem.Heap,⟨b.Mem.aA.Global,b.Mem.aA.Own.set (w * 3+c).toNat t⟩⟩,x):=by
   grind [UP,eM]
  have hx0:-1<=x:=by
   injection e2 with e2;injection e2 with e4 e5
   rcases popL b.Mem.aA.Own[(w * 3+c).toNat].aQ with h | h
   ·omega
   ·rw [<-e5];have:=hm.1.2.2.2.2.1 _ (List.mem_append_right _ (aDO.2 ⟨_,dJ hk,h⟩));omega
  have p0':(s.Pc == 0)=true:=by grind
  have:=fin (UP b.Mem w c) (by grind) (by grind) (by omega)
  rw [ep] at this
  simp only [p0',if_true,if_pos p0,(LS hw hc).1,aH,hx]
  grind [Y9]
 ·have p0':(s.Pc == 0)=false:=by grind
  simp only [p0',bG,if_false,uB,if_neg p0]
  have hk:c.toNat < b.Mem.aA.Global.length:=by omega
  have hx:idx b.Mem.aA.Global c=some b.Mem.aA.Global[c.toNat]:=gC (by omega) (by omega)
  obtain⟨l,t,x,e1,e2,e3,g1,g2,g3⟩:=RV hm hc
  have hl:=hsG _ (dJ hk)
  rw [hx] at e1;cases e1
  rw [Y9 (by omega)] at e2
  have ep:QW b.Mem c=(⟨b.Mem.Heap,⟨b.Mem.aA.Global.set c.toNat t,b.Mem.aA.Own⟩⟩,x):=by
   grind [QW,eM]
  have hx0:-1<=x:=by
   injection e2 with e2;injection e2 with e4 e5
   rcases popL b.Mem.aA.Global[c.toNat].aQ with h | h
   ·omega
   ·rw [<-e5];have:=hm.1.2.2.2.2.1 _ (NB _ (aDO.2 ⟨_,dJ hk,h⟩));omega
  have tg:0<=s.Pc/\s.Pc<=3->(idx b.Mem.aA.Global c).bind (fun x13=>(pL x13).bind fun x14=>hU s x14.2 ({b with Mem:=(⟨b.Mem.Heap,(⟨b.Mem.aA.Global.set c.toNat x14.1,b.Mem.aA.Own⟩:aA)⟩:Mem)}:aB))=some (V4 b s (QW b.Mem c)):=fun hpc=>by
   grind [Y9]
  by_cases p1:s.Pc=1
  ·grind
  ·have p1':(s.Pc == 1)=false:=by grind
   simp only [p1',bG,if_false]
   by_cases p3:s.Pc=3
   ·grind
   ·have p3':(s.Pc == 3)=false:=by grind
    have n13:¬(s.Pc=1\/s.Pc=3):=by omega
    simp only [p3',bG,if_false,if_neg n13]
    by_cases p2:s.Pc=2
    ·obtain⟨m',y,f1,f2,k1,k2,k3⟩:=aIR hm hc
     have hg:=aPD hm hc
     rw [f1] at hg
     have hg':V3 b.Mem c=(m',y):=by grind
     have hy:-1<=(V3 b.Mem c).2:=by grind [V3]
     grind
    ·have p2':(s.Pc == 2)=false:=by grind
     simp only [p2',bG,if_false,bB,if_neg p2,aH];rfl
end Go.Gv
end
noncomputable section
namespace Go.Gv
def uO(c:aJ)(w:Int):qT:=c.cN.getD w.toNat ⟨false,0,false,0⟩
theorem LU{c:aJ}(hc:OM c){w:Int}(hw:0<=w/\w<=2):idx c.cN w=some (uO c w):=by
 have:=hc.2.1
 grind [gC,uO]
def aIS(c:aJ)(w e:Int):aJ×Bool:=
 if (uO c w).On=false\/(uO c w).gG=true\/(uO c w).aN=e then (c,true)
 else if (uO c w).Seen=2 then (⟨c.aN,c.cN.set w.toNat {uO c w with gG:=true,Seen:=0}⟩,true)
 else (⟨c.aN,c.cN.set w.toNat {uO c w with Seen:=(uO c w).Seen+1}⟩,false)
theorem aTJ{c:aJ}(hc:OM c){w:Int}(hw:0<=w/\w<=2):POk c.aN (uO c w):=by
 have:=LU hc hw
 have h2:=hc.2.1
 rw [gC hw.1 (by omega)] at this
 injection this with this
 rw [<-this]
 exact hc.2.2 _ (dJ _)
theorem aTK{c:aJ}(hc:OM c){w:Int}(hw:0<=w/\w<=2)(e:Int):DO c w e=some (aIS c w e):=by
 have hp:=aTJ hc hw
 have hx:=LU hc hw
 have hsm:=hc.small
 unfold DO AZ aIS
 rw [lC hsm.1,iU,cT hc,eI,cT hw,hx]
 simp only [aH,jH,bG,if_false,oP,hx]
 generalize uO c w=p at *
 have ew:aZ (p.Seen+1)=p.Seen+1:=aM (by have:=hp.2.1;omega) (by have:=hp.2.1;omega)
 grind
def aIT(c:aJ)(e:Int):aJ×Bool:=if c.aN=e/\e≠100000 then (⟨e+1,c.cN⟩,true) else (c,false)
theorem aTL{c:aJ}(hc:OM c)(e:Int):LF c e=some (aIT c e):=by
 have hsm:=hc.small
 unfold LF A0 aIT
 rw [lC hsm.1,iU,cT hc]
 simp only [aH,jH,bG,if_false]
 by_cases h1:c.aN=e
 ·have he:=hc.1
  grind [aM]
 ·simp [h1]
def V5(c:aJ)(w e:Int):aJ×Bool:=if 0<=e/\e<=c.aN then (⟨c.aN,c.cN.set w.toNat ⟨true,e,false,0⟩⟩,true) else (c,false)
theorem aPF{c:aJ}(hc:OM c){w:Int}(hw:0<=w/\w<=2)(e:Int):GX c w e=some (V5 c w e):=by
 have hsm:=hc.small
 unfold GX v7 V5
 rw [lC hsm.1,iU,cT hc,eI,cT hw,eI]
 simp only [aH,jH,bG,if_false]
 grind [LU]
def aGM(c:aJ)(w:Int):aJ×Bool:=if (uO c w).On then (⟨c.aN,c.cN.set w.toNat ⟨false,0,false,0⟩⟩,true) else (c,false)
theorem aEG{c:aJ}(hc:OM c){w:Int}(hw:0<=w/\w<=2):MO c w=some (aGM c w):=by
 have hsm:=hc.small
 have hx:=LU hc hw
 unfold MO v8 aGM
 rw [lC hsm.1,iU,cT hc,eI,cT hw,hx]
 grind
def aBS(b:aB)(s:Sub):aB×Sub:=
 if s.Pc=0 then (b,{s with Pc:=1,E:=b.aJ.aN,B:=0})
 else if s.Pc=1 then
  if 0<=s.B/\s.B<=2 then
   if (aIS b.aJ s.B s.E).2 then ({b with aJ:=(aIS b.aJ s.B s.E).1},{s with Pc:=if s.B=2 then 2 else 1,B:=s.B+1})
   else ({b with aJ:=(aIS b.aJ s.B s.E).1},KB s 8)
  else (b,KB s 1)
 else if s.Pc=2 then ({b with aJ:=(aIT b.aJ s.E).1},KB {s with Out:=if (aIT b.aJ s.E).2 then 1 else s.Out} 0)
 else (b,KB s 1)
theorem aIU{b:aB}(hc:OM b.aJ)(s:Sub):qC b s=some (aBS b s):=by
 unfold qC aBS
 rw [aTL hc,eI]
 simp only [bB,pN,pO,aH]
 by_cases p0:s.Pc=0
 ·grind
 ·have p0':(s.Pc == 0)=false:=by grind
  simp only [p0',bG,if_false,if_neg p0]
  by_cases p1:s.Pc=1
  ·have p1':(s.Pc == 1)=true:=by grind
   simp only [p1',if_true,if_pos p1]
   by_cases hB:0<=s.B/\s.B<=2
   ·have ew:aZ (s.B+1)=s.B+1:=aM (by omega) (by omega)
    simp only [cT hB,jH,bG,if_false,if_pos hB,aTK hc hB,aH,ew]
    grind [KB]
   ·simp only [fC hB,LW,if_true,if_neg hB];rfl
  ·have p1':(s.Pc == 1)=false:=by grind
   simp only [p1',bG,if_false,if_neg p1]
   by_cases p2:s.Pc=2
   ·have p2':(s.Pc == 2)=true:=by grind
    simp only [p2',if_true,if_pos p2]
    cases h:(aIT b.aJ s.E).2 <;> rfl
   ·have p2':(s.Pc == 2)=false:=by grind
    simp only [p2',bG,if_false,if_neg p2];rfl
def aZI(b:aB)(w:Int)(s:Sub):aB×Sub:=
 if s.Pc=0 then (b,{s with Pc:=1,E:=b.aJ.aN})
 else if s.Pc=1 then
  if (V5 b.aJ w s.E).2 then ({b with aJ:=(V5 b.aJ w s.E).1},{s with Pc:=2}) else ({b with aJ:=(V5 b.aJ w s.E).1},KB s 1)
 else if s.Pc=2 then if b.aJ.aN=s.E then (b,KB s 0) else (b,{s with Pc:=0})
 else (b,KB s 1)
theorem aWD{b:aB}(hc:OM b.aJ){w:Int}(hw:0<=w/\w<=2)(s:Sub):DP b w s=some (aZI b w s):=by
 unfold DP aZI
 rw [aPF hc hw]
 simp only [bB,aH]
 by_cases p0:s.Pc=0
 ·grind
 ·have p0':(s.Pc == 0)=false:=by grind
  simp only [p0',bG,if_false,if_neg p0]
  by_cases p1:s.Pc=1
  ·have p1':(s.Pc == 1)=true:=by grind
   simp only [p1',if_true,if_pos p1]
   cases h:(V5 b.aJ w s.E).2 <;> rfl
  ·have p1':(s.Pc == 1)=false:=by grind
   simp only [p1',bG,if_false,if_neg p1]
   by_cases p2:s.Pc=2
   ·have p2':(s.Pc == 2)=true:=by grind
    simp only [p2',if_true,if_pos p2]
    by_cases q:b.aJ.aN=s.E
    ·have q':(b.aJ.aN == s.E)=true:=by grind
     simp only [q',if_true,if_pos q];rfl
    grind
   ·have p2':(s.Pc == 2)=false:=by grind
    simp only [p2',bG,if_false,if_neg p2];rfl
def yK(l:List a8)(w:Int):List dI:=(l.getD w.toNat ⟨[]⟩).Rows
theorem M6{l:List a8}(hl:y8 l){w:Int}(hw:0<=w/\w<=2):idx l w=some ⟨yK l w⟩:=by
 have:=hl.1
 rw [gC hw.1 (by omega)]
 simp [yK,WE,fO (show w.toNat < l.length by omega)]
theorem aEH{l:List a8}(hl:y8 l){w:Int}(hw:0<=w/\w<=2):(yK l w).length<=24:=by
 have h:=M6 hl hw
 have h3:=hl.1
 rw [gC hw.1 (by omega)] at h
 injection h with h
 have:=hl.small.2.2.2 _ (dJ (show w.toNat < l.length by omega))
 grind
def aGN(b:aB)(w:Int)(s:Sub):aB×Sub:=
 if s.Pc=0 then (b,{s with Pc:=1,E:=b.aJ.aN})
 else if s.Pc=1 then
  if 0<=s.E/\s.E<=b.aJ.aN then
   if oT b.Mem s.A/\¬bR b.bO (s.A % 32) then ({b with bO:=b.bO.set w.toNat ⟨yK b.bO w ++ [⟨s.A,s.E⟩]⟩},KB s 0) else (b,KB s 4)
  else (b,KB s 1)
 else (b,KB s 1)
theorem aLG{b:aB}(hb:yJ b){w:Int}(hw:0<=w/\w<=2)(s:Sub):sN b w s=some (aGN b w s):=by
 have hL:=hb.1.2.2.1
 have hm:=hb.1.1
 obtain⟨h1,h2,h3,_⟩:=qF.facts hm
 have hx:=M6 hL hw
 have hrow:=aEH hL hw
 unfold sN aGN
 rw [eI,N7 hm.1.1.1 (by omega) (by grind [maxLen]) (by grind [maxLen]),gZ]
 simp only [bB,aH,rL,AY]
 by_cases p0:s.Pc=0
 ·grind
 ·have p0':(s.Pc == 0)=false:=by grind
  simp only [p0',bG,if_false,if_neg p0]
  by_cases p1:s.Pc=1
  ·have p1':(s.Pc == 1)=true:=by grind
   simp only [p1',if_true,if_pos p1]
   by_cases q1:0<=s.E/\s.E<=b.aJ.aN
   ·simp only [cT q1,jH,bG,if_false,if_pos q1]
    by_cases q2:oT b.Mem s.A
    ·have hh:=q2.1
     simp only [cT q2,jH,bG,if_false,if_pos hh,N8 hL,aH]
     by_cases q3:bR b.bO (s.A % 32)
     ·simp only [cT q3,if_true,if_neg (show ¬(oT b.Mem s.A/\¬bR b.bO (s.A % 32)) from fun h=>h.2 q3)];rfl
     ·simp only [fC q3,bG,if_false,hx,aH,if_pos (show oT b.Mem s.A/\¬bR b.bO (s.A % 32) from ⟨q2,q3⟩)]
      rw [aK (by simp;omega)];rfl
    ·simp only [fC q2,LW,if_true,if_neg (show ¬(oT b.Mem s.A/\¬bR b.bO (s.A % 32)) from fun h=>q2 h.1)];rfl
   ·simp only [fC q1,LW,if_true,if_neg q1];rfl
  ·have p1':(s.Pc == 1)=false:=by grind
   simp only [p1',bG,if_false,if_neg p1];rfl
def OA(r:dI)(e:Int):Prop:=2<=e/\r.aN<=aZ (e - 2)
instance (r:dI) (e:Int):Decidable (OA r e):=by unfold OA;infer_instance
theorem aBT(r:dI)(e:Int):FY r e=some (decide (OA r e)):=by
 unfold FY FP OA
 grind
def E0(l:List dI)(e:Int)(k:Nat):Nat:=k+(l.drop k).findIdx (fun r=>decide (OA r e))
theorem aTM{l:List dI}(hl:l.length<=1000){from_ e:Int}:uC l from_ e=some (if E0 l e from_.toNat < l.length then (E0 l e from_.toNat:Int) else -1):=by
 have hst:(if 0 < from_ then from_ else 0)=(from_.toNat:Int):=by omega
 unfold uC
 rw [hst]
 have key:∀d k:Nat,l.length<=k+d->loop (dX l e) (k:Int)=some (if E0 l e k < l.length then Out.ret (E0 l e k:Int) else Out.brk ()):=by
  intro d
  induction d with
  | zero =>
   intro k hk
   rw [bI (r:=Out.brk ()) (by simp_all [dX,if_neg]),if_neg (by grind [E0])]
  | succ d ih =>
   intro k hk
   by_cases hkl:k < l.length
   ·have hd:l.drop k=l[k] :: l.drop (k+1):=HW hkl
    by_cases hr:OA l[k] e
    ·have hs:E0 l e k=k:=by grind [E0]
     simp_all [bI,dX,aT,aBT]
    ·have hs:E0 l e k=E0 l e (k+1):=by unfold E0;grind
     rw [bL (s':=((k+1:Nat):Int)) (by simp only [dX];rw [if_pos (by simp;omega),aT hkl,aH,aBT _ e,aH,fC hr,if_neg (by simp),aM (by omega) (by omega)];rfl),ih (k+1) (by omega),hs]
   grind
 rw [key l.length from_.toNat (by omega)]
 split <;> rfl
def aNP(m:Mem)(w h:Int):Mem:=
 if h / 32+1<=6 then
  if (gQ m.aA.Own (w * 3+bS m.Heap (h % 32)).toNat).length < 2 then ⟨⟨st4 m.Heap.Bytes (iO (h % 32) (bS m.Heap (h % 32))).toNat (h / 32+1),m.Heap.Class⟩,⟨m.aA.Global,m.aA.Own.set (w * 3+bS m.Heap (h % 32)).toNat ⟨gQ m.aA.Own (w * 3+bS m.Heap (h % 32)).toNat ++ [h % 32]⟩⟩⟩
  else ⟨⟨st4 m.Heap.Bytes (iO (h % 32) (bS m.Heap (h % 32))).toNat (h / 32+1),m.Heap.Class⟩,⟨m.aA.Global.set (bS m.Heap (h % 32)).toNat ⟨gQ m.aA.Global (bS m.Heap (h % 32)).toNat ++ [h % 32]⟩,m.aA.Own⟩⟩
 else ⟨⟨st4 m.Heap.Bytes (iO (h % 32) (bS m.Heap (h % 32))).toNat (h / 32+1),m.Heap.Class⟩,m.aA⟩
theorem aBU{m:Mem}(hm:qF m){w h:Int}(hw:0<=w/\w<=2)(hv:oT m h):DN m w (h % 32)=some (aNP m w h):=by
 obtain⟨hcnt,h3,h9,h1,h2,hsm,hcp,hlo,hsG,hsO⟩:=qF.facts hm
 have hs:=hm.1.1.1
 have hh:=hv.1
 have hcl:=lB hv.2.1
 have hgo:=QT hcl
 have hc2:0<=bS m.Heap (h % 32)/\bS m.Heap (h % 32)<=2:=by
  obtain⟨_,q,e⟩:=I2 hcl
  rw [e];exact sV.1 (by omega)
 have hg6:1<=h / 32/\h / 32<=6:=by grind [mB]
 have eo:iO (h % 32) (bS m.Heap (h % 32))=(((iO (h % 32) (bS m.Heap (h % 32))).toNat:Nat):Int):=by omega
 have ew:aZ (h / 32+1)=h / 32+1:=aM (by omega) (by omega)
 unfold DN aNP
 rw [xJ hs,aH,qQ hs hcl,hv.2.2,aH,wC,aH,ew]
 generalize hgn:(iO (h % 32) (bS m.Heap (h % 32))).toNat=a at eo
 rw [eo,EN (by omega) (by omega) (by omega)]
 simp only [aH,GW,GV,ew]
 generalize bS m.Heap (h % 32)=c at *
 by_cases q:h / 32+1<=6
 ·have hk:(w * 3+c).toNat < m.aA.Own.length:=by omega
  have hx:idx m.aA.Own (w * 3+c)=some m.aA.Own[(w * 3+c).toNat]:=gC (by omega) (by omega)
  have hk2:c.toNat < m.aA.Global.length:=by omega
  have hx2:idx m.aA.Global c=some m.aA.Global[c.toNat]:=gC (by omega) (by omega)
  have b1:=hsO _ (dJ hk)
  have b2:=hsG _ (dJ hk2)
  rw [cT q,if_pos rfl,if_pos q]
  unfold PG
  rw [(LS hw hc2).1]
  simp only [aH,hx,hx2,GU,PE,PF,<-eM hk,<-eM hk2]
  by_cases q2:m.aA.Own[(w * 3+c).toNat].aQ.length < 2
  ·have y1:(m.aA.Own[(w * 3+c).toNat].aQ.length:Int) < 2:=by omega
   simp only [cT y1,if_true,if_pos q2]
   grind [aK]
  ·have y1:¬(m.aA.Own[(w * 3+c).toNat].aQ.length:Int) < 2:=by omega
   simp only [fC y1,bG,if_false,if_neg q2]
   grind [aK]
 simp_all [if_neg]
def aTN(z:List Int)(w:Int):Int:=z.getD w.toNat 0
theorem aPG{z:List Int}(hz:aK0 z){w:Int}(hw:0<=w/\w<=2):idx z w=some (aTN z w):=by
 have:=hz.1
 grind [gC,aTN]
def QB(l:List dI)(k:Int):dI:=l.getD k.toNat ⟨0,0⟩
theorem UQ{l:List dI}{k:Int}(h:0<=k/\k < l.length):idx l k=some (QB l k):=by
 grind [gC,QB]
def OB(l:List dI)(s:Sub):Prop:=0<=s.Row/\s.Row < l.length/\(QB l s.Row).Handle=s.H
instance (l:List dI) (s:Sub):Decidable (OB l s):=by unfold OB;infer_instance
def aBV(b:aB)(w:Int)(s:Sub):aB×Sub:=
 if s.Pc=0 then (b,{s with Pc:=1,E:=b.aJ.aN,Row:=0})
 else if s.Pc=1 then
  if E0 (yK b.bO w) s.E s.Row.toNat < (yK b.bO w).length then (b,{s with Pc:=2,Row:=(E0 (yK b.bO w) s.E s.Row.toNat:Int),B:=0,H:=(QB (yK b.bO w) (E0 (yK b.bO w) s.E s.Row.toNat:Int)).Handle})
  else (b,KB s 0)
 else if s.Pc=2 then
  if (0<=s.B/\s.B<=2)/\OB (yK b.bO w) s then
   if aTN b.BW s.B=s.H then (b,{s with Pc:=1,Row:=s.Row+1}) else (b,{s with Pc:=if s.B=2 then 3 else 2,B:=s.B+1})
  else (b,KB s 1)
 else if s.Pc=3 then
  if OB (yK b.bO w) s/\OA (QB (yK b.bO w) s.Row) s.E then ({b with Mem:=aNP b.Mem w s.H,bO:=b.bO.set w.toNat ⟨(yK b.bO w).eraseIdx s.Row.toNat⟩},{s with Pc:=1,Out:=aZ (s.Out+1)})
  else (b,KB s 1)
 else (b,KB s 1)
theorem aIV{l:List a8}(hl:y8 l){w:Int}(hw:0<=w/\w<=2){r:dI}(hr:r∈yK l w):r∈dV l:=by
 have h:=M6 hl hw
 have h3:=hl.1
 rw [gC hw.1 (by omega)] at h
 injection h with h
 exact aDO.2 ⟨l[w.toNat],dJ _,by grind⟩
theorem aTO{l:List dI}{k:Int}(h:0<=k/\k < l.length):QB l k∈l:=by
 have:=UQ h
 grind [gC]
theorem aIW{b:aB}(hb:yJ b){w:Int}(hw:0<=w/\w<=2)(s:Sub):qD b w s=some (aBV b w s):=by
 have hL:=hb.1.2.2.1
 have hm:=hb.1.1
 have hx:=M6 hL hw
 have hrow:=aEH hL hw
 have hfl:=fun r hr=>aIV hL hw (r:=r) hr
 unfold qD aBV
 rw [hx]
 simp only [aH,bB]
 generalize yK b.bO w=l at *
 by_cases p0:s.Pc=0
 ·grind
 have p0':(s.Pc == 0)=false:=by grind
 simp only [p0',bG,if_false,if_neg p0]
 by_cases p1:s.Pc=1
 ·have p1':(s.Pc == 1)=true:=by grind
  simp only [p1',if_true,if_pos p1,aTM (show l.length<=1000 by omega),aH]
  by_cases q:E0 l s.E s.Row.toNat < l.length
  ·have n:¬(E0 l s.E s.Row.toNat:Int) < 0:=by omega
   simp only [if_pos q,fC n,bG,if_false,UQ (l:=l) (k:=(E0 l s.E s.Row.toNat:Int)) (by omega),aH]
  ·simp only [if_neg q,cT (show(-1:Int) < 0 by omega),if_true];rfl
 have p1':(s.Pc == 1)=false:=by grind
 simp only [p1',bG,if_false,if_neg p1]
 have el:aZ ((l.length:Int) - 1)=(l.length:Int) - 1:=aM (by omega) (by omega)
 by_cases p2:s.Pc=2
 ·have p2':(s.Pc == 2)=true:=by grind
  simp only [p2',if_true,if_pos p2,eI,el,aH,eE,pP,bB]
  by_cases hB:0<=s.B/\s.B<=2
  ·simp only [cT hB,jH,bG,if_false]
   by_cases hR:0<=s.Row/\s.Row<=(l.length:Int) - 1
   ·simp only [cT hR,jH,bG,if_false,UQ (l:=l) (k:=s.Row) (by omega),aH]
    by_cases hH:(QB l s.Row).Handle=s.H
    ·have hH':((QB l s.Row).Handle != s.H)=false:=by grind
     have ha:(0<=s.B/\s.B<=2)/\OB l s:=⟨hB,hR.1,by omega,hH⟩
     have e1:aZ (s.B+1)=s.B+1:=aM (by omega) (by omega)
     have e2:aZ (s.Row+1)=s.Row+1:=aM (by omega) (by omega)
     simp only [hH',bG,if_false,if_pos ha,aPG hb.1.2.2.2 hB,aH,e1,e2]
     grind
    ·have hH':((QB l s.Row).Handle != s.H)=true:=by grind
     have ha:¬((0<=s.B/\s.B<=2)/\OB l s):=fun h=>hH h.2.2.2
     simp only [hH',if_true,if_neg ha,aH];rfl
   ·have ha:¬((0<=s.B/\s.B<=2)/\OB l s):=fun h=>hR ⟨h.2.1,by have:=h.2.2.1;omega⟩
    simp only [fC hR,LW,if_true,if_neg ha,aH];rfl
  ·have ha:¬((0<=s.B/\s.B<=2)/\OB l s):=fun h=>hB h.1
   simp only [fC hB,LW,if_true,if_neg ha,aH];rfl
 have p2':(s.Pc == 2)=false:=by grind
 simp only [p2',bG,if_false,if_neg p2]
 by_cases p3:s.Pc=3
 ·have p3':(s.Pc == 3)=true:=by grind
  simp only [p3',if_true,if_pos p3,eI,el,aH,eF,yG,bB]
  by_cases hR:0<=s.Row/\s.Row<=(l.length:Int) - 1
  ·simp only [cT hR,jH,bG,if_false,UQ (l:=l) (k:=s.Row) (by omega),aH]
   by_cases hH:(QB l s.Row).Handle=s.H
   ·have hH':((QB l s.Row).Handle != s.H)=false:=by grind
    simp only [hH',bG,if_false,aBT,aH]
    by_cases hr:OA (QB l s.Row) s.E
    ·have ha:OB l s/\OA (QB l s.Row) s.E:=⟨⟨hR.1,by omega,hH⟩,hr⟩
     have e2:aZ (s.Row+1)=s.Row+1:=aM (by omega) (by omega)
     have hlive:=(hb.2 _ (hfl _ (aTO (l:=l) (k:=s.Row) (by omega)))).1
     rw [hH] at hlive
     have et:(s.Row+1).toNat=s.Row.toNat+1:=by omega
     simp only [cT hr,jH,bG,if_false,if_pos ha,e2,gZ,if_pos hlive.1,aH,aBU hm hw hlive,et]
     grind [aK,del_eq]
    ·have ha:¬(OB l s/\OA (QB l s.Row) s.E):=fun h=>hr h.2
     simp only [fC hr,LW,if_true,if_neg ha,aH];rfl
   ·have hH':((QB l s.Row).Handle != s.H)=true:=by grind
    have ha:¬(OB l s/\OA (QB l s.Row) s.E):=fun h=>hH h.1.2.2
    simp only [hH',if_true,if_neg ha,aH];rfl
  ·have ha:¬(OB l s/\OA (QB l s.Row) s.E):=fun h=>hR ⟨h.1.1,by have:=h.1.2.1;omega⟩
   simp only [fC hR,LW,if_true,if_neg ha,aH];rfl
 ·have p3':(s.Pc == 3)=false:=by grind
  simp only [p3',bG,if_false,if_neg p3];rfl
def BU(b:aB)(w:Int)(s:Sub):aB×Sub:=
 if s.dS then (b,s) else if s.Kind=1 then aLF b w s else if s.Kind=2 then aGN b w s else if s.Kind=3 then aBS b s else if s.Kind=4 then aBV b w s else if s.Kind=5 then aZI b w s else (b,KB s 1)
theorem aNQ{b:aB}(hb:yJ b){w:Int}(hw:0<=w/\w<=2)(s:Sub):MN b w s=some (BU b w s):=by
 unfold MN BU
 rw [aPE hb.1.1 hw,aLG hb hw,aIU hb.1.2.1,aIW hb hw,aWD hb.1.2.1 hw]
 simp only [aH,bB]
 cases s.dS
 ·simp only [bG,if_false,beq_iff_eq]
  split <;> (try rfl)
  split <;> (try rfl)
  split <;> (try rfl)
  split <;> (try rfl)
  split <;> rfl
 ·rfl
theorem aWE{b:aB}(hb:yJ b){w:Int}(hw:0<=w/\w<=2)(s:Sub):yJ (BU b w s).1:=by
 obtain⟨x,y,e1,_,h⟩:=step_eq hb hb.small hw s
 grind [aNQ]
end Go.Gv
end
noncomputable section
namespace Go.Gv
theorem ZA{b:List Int}{a:Nat}{n:Int}(h:a+4<=b.length){j:Nat}(hj:j < a\/a+4<=j):bt (J8 b a n) j=bt b j:=by
 unfold J8
 rw [KA (by simp;omega),KA (by simp;omega),KA (by simp;omega),KA (by omega),if_neg (by omega),if_neg (by omega),if_neg (by omega),if_neg (by omega)]
theorem V1.put{h:Heap}(hh:V1 h){s:Int}(hc:0<=bS h s){n:Int}(hn:0<=n/\n<=4294967295) :
  V1 ⟨J8 h.Bytes ((iO s (bS h s)).toNat+4) n,h.Class⟩/\∀t,0<=bS h t->nD ⟨J8 h.Bytes ((iO s (bS h s)).toNat+4) n,h.Class⟩ t=nD h t:=by
 obtain⟨hs,hp⟩:=hh
 have h384:=hs.1
 have hs':fN ⟨J8 h.Bytes ((iO s (bS h s)).toNat+4) n,h.Class⟩:=⟨by grind [UK],hs.2.1,aO7 hs.2.2.1 _ hn,hs.2.2.2⟩
 obtain⟨p,i,p6,hi,es,ec,eo,ep⟩:=DY hc
 have hcl:0<=cK h p/\cK h p<=2:=sV.1 (by omega)
 have hroom:8+i * (bD (cK h p)).toNat+8<=64/\∀j,j < (cV (cK h p)).toNat->j * (bD (cK h p)).toNat+4<=i * (bD (cK h p)).toNat+4\/i * (bD (cK h p)).toNat+12<=j * (bD (cK h p)).toNat:=by
  grind [cV,bD]
 have hgen:∀q j,q < 6->j < (cV (cK h q)).toNat->ld (J8 h.Bytes ((iO s (bS h s)).toNat+4) n) (q * 64+8+j * (bD (cK h q)).toNat) 4=ld h.Bytes (q * 64+8+j * (bD (cK h q)).toNat) 4:=fun q j hq hj=>by
  have hz:=y7 hs hq rfl hj
  refine M4 (by omega) (by grind [UK]) fun k k1 k2=>?_
  by_cases e:q=p
  ·grind [ZA]
  grind [ZA]
 refine⟨⟨hs',fun q hq=>?_⟩,fun t ht=>?_⟩
 ·rw [DX hs' hq]
  have hold:=(DX hs hq).1 (hp q hq)
  by_cases e:q=p
  ·subst e
   have hcl':¬cK h q < 0:=by omega
   unfold UL at hold ⊢
   have hcc:cK ⟨J8 h.Bytes ((iO s (bS h s)).toNat+4) n,h.Class⟩ q=cK h q:=rfl
   rw [hcc]
   rw [if_neg hcl'] at hold ⊢
   obtain⟨⟨a1,a2,a3⟩,a4,a5⟩:=hold
   have bs:∀k,k < 8->bt (J8 h.Bytes ((iO s (bS h s)).toNat+4) n) (q * 64+k)=bt h.Bytes (q * 64+k):=fun k hk=>ZA (by omega) (by omega)
   have b0:=bs 0 (by omega);grind
  ·refine UL.same hq hs (by grind [UK]) rfl (fun k hk=>ZA (by omega) (by omega)) hold
 ·obtain⟨p',i',p6',hi',es',ec',eo',ep'⟩:=DY ht
  have e2:bS ⟨J8 h.Bytes ((iO s (bS h s)).toNat+4) n,h.Class⟩ t=bS h t:=rfl
  grind [nD]
theorem qF.put{m:Mem}(hm:qF m){s:Int}(hc:0<=bS m.Heap s){n:Int}(hn:0<=n/\n<=4294967295):sZ m ⟨⟨J8 m.Heap.Bytes ((iO s (bS m.Heap s)).toNat+4) n,m.Heap.Class⟩,m.aA⟩ (-1):=by
 obtain⟨a,b⟩:=V1.put hm.1.1 hc hn
 refine⟨qF.heap hm a fun x hx=>⟨rfl,b x (qF.QA hm hx).1⟩,fun t ht _=>?_⟩
 have ht':=oV.1 ht
 have e:=b t ht'.1
 exact⟨oV.2 ⟨ht'.1,ht'.2.1,by grind⟩,e,rfl⟩
theorem start_eq{h:Heap}(hs:fN h){s:Int}(hc:0<=bS h s):TX s (bS h s)=some (iO s (bS h s)+4)/\FK s (bS h s)=some (iO s (bS h s)+4):=by
 have hg:=QT hc
 unfold TX FK
 rw [wC,wD,aH,if_neg (by simp;omega),aM (by omega) (by omega)]
 simp
end Go.Gv
end
noncomputable section
namespace Go.Gv
theorem hb0(x:Int):(x == 0)=decide (x=0):=by grind
theorem UR(h:Int):DK h=some (decide (sY h)):=by
 grind [DK,AQ,sY,iA]
end Go.Gv
end
noncomputable section
namespace Go.Gv
theorem aIX{c:aJ}(hc:OM c){w:Int}(hw:0<=w/\w<=2):∃r,MO c w=some r/\MG c w=some r/\OM r.1/\r.1.aN=c.aN:=by
 obtain⟨p,hp,hpk⟩:=aK4 hc hw
 unfold MO MG
 rw [lC hc.small.1,C5 hc.small.1,iU,xK hc.small.2,lD,eI,cT hc,cT hw]
 simp only [aH,jH,bG,if_false,hp,v8,vR]
 cases p.On with
 | true =>
  simp only [jH,bG,if_false]
  have h0:=hc.1
  exact⟨_,rfl,rfl,hc.aGH ⟨by grind,by simp,fun _=>rfl⟩,rfl⟩
 | false=>simp_all
theorem aK0.set{z:List Int}(hz:aK0 z)(k:Nat){h:Int}(hh:sY h):aK0 (z.set k h):=⟨by simpa using hz.1,fun q hq=>(qY hq).elim (hz.2 q) (fun e=>e ▸ hh)⟩
theorem yJ.clock{b:aB}(hb:yJ b){cl:aJ}(h:OM cl)(e:b.aJ.aN<=cl.aN):yJ ⟨b.Mem,cl,b.bO,b.BW⟩:=⟨⟨hb.1.1,h,hb.1.2.2⟩,fun r hr=>⟨(hb.2 r hr).1,Int.le_trans (hb.2 r hr).2 e⟩⟩
theorem yJ.mem{b:aB}(hb:yJ b){m:Mem}(h:sZ b.Mem m (-1)):yJ ⟨m,b.aJ,b.bO,b.BW⟩:=⟨⟨h.1,hb.1.2⟩,fun r hr=>⟨h.live (hb.2 r hr).1 (by omega),(hb.2 r hr).2⟩⟩
end Go.Gv
end
noncomputable section
namespace Go.Gv
def aLH(kind a:Int):Sub:=⟨kind,a,0,0,0,0,0,0,0,false⟩
end Go.Gv
end
noncomputable section
namespace Go.Gv
def rN:List Int->Nat->List UInt8->List Int
 | b,_,[]=>b
 | b,a,c :: t=>rN (b.set a (c.toNat:Int)) (a+1) t
theorem QC:∀(t:List UInt8) (b:List Int) (a:Nat),(rN b a t).length=b.length
 | [],b,a=>rfl
 | c :: t,b,a=>by rw [rN,QC];simp
theorem aEI:∀(t:List UInt8) {b:List Int} (a:Nat),oZ b->oZ (rN b a t)
 | [],b,a,h=>h
 | c :: t,b,a,h=>aEI t (a+1) (aIQ a h ⟨by omega,by have:=c.toNat_lt;omega⟩)
theorem US:∀(t:List UInt8) {b:List Int} {a:Nat},a+t.length<=b.length->∀{j:Nat},(j < a\/a+t.length<=j)->bt (rN b a t) j=bt b j
 | [],b,a,h,j,hj=>rfl
 | c :: t, b, a, h, j, hj => by
  simp only [ER] at h hj
  rw [rN,US t (by simp;omega) (by omega),KA (by omega),if_neg (by omega)]
theorem WX(b:List Int)(a:Nat)(t:List UInt8)(hl:b.length<=100000)(h:a+t.length<=b.length):∀(r:List UInt8) (k:Nat) (c:List Int),c.length=b.length->t.drop k=r->k+r.length=t.length->loop (jV b (a:Int) t) (c,(k:Int))=some (rN c (a+k) r)
 | [], k, c, hc, hr, hk => by
  refine bI ?_
  simp only [jV]
  rw [aK hc,if_neg (by grind)];rfl
 | x :: r, k, c, hc, hr, hk => by
  simp only [ER] at hk
  have hkt:k < t.length:=by omega
  have e:=HW hkt
  rw [hr] at e
  injection e with e1 e2
  have st:jV b (a:Int) t (c,(k:Int))=some (.next (c.set (a+k) (x.toNat:Int),((k+1:Nat):Int))):=by
   simp only [jV]
   rw [aK hc,if_pos (by simp;omega),aT hkt,aH,aM (x:=(a:Int)+k) (by omega) (by omega),show(a:Int)+k=((a+k:Nat):Int) by omega,aT (by omega),aH,aM (by omega) (by omega),<-e1];rfl
  rw [bL st,WX b a t hl h r (k+1) _ (by grind) e2.symm (by omega),rN];rfl
theorem aEJ{b:List Int}{a:Nat}{t:List UInt8}(hl:b.length<=100000)(h:a+t.length<=b.length):lA b (a:Int) t=some (rN b a t):=by
 unfold lA
 rw [show(0:Int)=((0:Nat):Int) from rfl,WX b a t hl h t 0 b rfl rfl (by omega),aH]
 grind [GJ,GI,aK,QC]
theorem V1.rN{h:Heap}(hh:V1 h){s:Int}(hc:0<=bS h s){o:Nat}{t:List UInt8}(ht:((o+t.length:Nat):Int)<=lW (bS h s)) :
  V1 ⟨Gv.rN h.Bytes ((iO s (bS h s)).toNat+4+o) t,h.Class⟩/\∀u,0<=bS h u->nD ⟨Gv.rN h.Bytes ((iO s (bS h s)).toNat+4+o) t,h.Class⟩ u=nD h u:=by
 obtain⟨hs,hp⟩:=hh
 have h384:=hs.1
 have hs':fN ⟨Gv.rN h.Bytes ((iO s (bS h s)).toNat+4+o) t,h.Class⟩:=⟨by grind [QC],hs.2.1,aEI _ _ hs.2.2.1,hs.2.2.2⟩
 obtain⟨p,i,p6,hi,es,ec,eo,ep⟩:=DY hc
 have hcl:0<=cK h p/\cK h p<=2:=sV.1 (by omega)
 rw [ec] at ht
 have hroom:8+i * (bD (cK h p)).toNat+4+(lW (cK h p)).toNat<=64/\∀j,j < (cV (cK h p)).toNat->j * (bD (cK h p)).toNat+4<=i * (bD (cK h p)).toNat+4\/i * (bD (cK h p)).toNat+4+(lW (cK h p)).toNat<=j * (bD (cK h p)).toNat:=by
  grind [cV,bD,lW]
 have hot:o+t.length<=(lW (cK h p)).toNat:=by omega
 have hgen:∀q j,q < 6->j < (cV (cK h q)).toNat->ld (Gv.rN h.Bytes ((iO s (bS h s)).toNat+4+o) t) (q * 64+8+j * (bD (cK h q)).toNat) 4=ld h.Bytes (q * 64+8+j * (bD (cK h q)).toNat) 4:=fun q j hq hj=>by
  have hz:=y7 hs hq rfl hj
  refine M4 (by omega) (by grind [QC]) fun k k1 k2=>?_
  by_cases e:q=p
  ·subst e
   have:=hroom.2 j hj
   exact US _ (by omega) (by omega)
  ·exact US _ (by omega) (by omega)
 refine⟨⟨hs',fun q hq=>?_⟩,fun u hu=>?_⟩
 ·rw [DX hs' hq]
  have hold:=(DX hs hq).1 (hp q hq)
  by_cases e:q=p
  ·subst e
   have hcl':¬cK h q < 0:=by omega
   unfold UL at hold ⊢
   have hcc:cK ⟨Gv.rN h.Bytes ((iO s (bS h s)).toNat+4+o) t,h.Class⟩ q=cK h q:=rfl
   rw [hcc]
   rw [if_neg hcl'] at hold ⊢
   obtain⟨⟨a1,a2,a3⟩,a4,a5⟩:=hold
   have bs:∀k,k < 8->bt (Gv.rN h.Bytes ((iO s (bS h s)).toNat+4+o) t) (q * 64+k)=bt h.Bytes (q * 64+k):=fun k hk=>US _ (by omega) (by omega)
   have b0:=bs 0 (by omega);grind
  ·refine UL.same hq hs (by grind [QC]) rfl (fun k hk=>US _ (by omega) (by omega)) hold
 ·obtain⟨p',i',p6',hi',es',ec',eo',ep'⟩:=DY hu
  have e2:bS ⟨Gv.rN h.Bytes ((iO s (bS h s)).toNat+4+o) t,h.Class⟩ u=bS h u:=rfl
  grind [nD]
theorem qF.rN{m:Mem}(hm:qF m){s:Int}(hc:0<=bS m.Heap s){o:Nat}{t:List UInt8}(ht:((o+t.length:Nat):Int)<=lW (bS m.Heap s)):sZ m ⟨⟨Gv.rN m.Heap.Bytes ((iO s (bS m.Heap s)).toNat+4+o) t,m.Heap.Class⟩,m.aA⟩ (-1):=by
 obtain⟨a,b⟩:=V1.rN hm.1.1 hc ht
 refine⟨qF.heap hm a fun x hx=>⟨rfl,b x (qF.QA hm hx).1⟩,fun t ht _=>?_⟩
 have ht':=oV.1 ht
 have e:=b t ht'.1
 exact⟨oV.2 ⟨ht'.1,ht'.2.1,by grind⟩,e,rfl⟩
def aIY:bN:=⟨0,0,0⟩
def SO(h:Heap)(s:Int):Nat:=(iO s (bS h s)).toNat+4
def aZJ(h:Heap)(s:Int):bN:=⟨ld h.Bytes (SO h s) 2,ld h.Bytes (SO h s+2) 4,ld h.Bytes (SO h s+6) 4⟩
def Q7(h:Heap)(x:Int):bN:=if mB x/\0<=bS h (x % 32)/\10<=lW (bS h (x % 32)) then aZJ h (x % 32) else aIY
theorem V6{h:Heap}{s:Int}(hcl:0<=bS h s)(h10:10<=lW (bS h s)):SO h s+10<=384/\16<=lW (bS h s):=by
 grind [bS,SO,DY,lW,cV,bD]
theorem aBW{h:Heap}(hs:fN h)(s:Int):AL h s=some (decide (10<=lW (bS h s))):=by
 grind [AL,iT,P0]
theorem SP{h:Heap}(hs:fN h){s:Int}(hc:0<=bS h s):tQ h s=some (SO h s:Int):=by
 have:=QT hc
 grind [tQ,SO,iT,start_eq]
theorem aPH{h:Heap}(hs:fN h){s:Int}(hc:0<=bS h s)(h10:10<=lW (bS h s)):IQ h s=some (aZJ h s):=by
 have hr:=(V6 hc h10).1
 have h1:=hs.1
 unfold IQ aZJ
 rw [SP hs hc,aH,show(2:Int)=((2:Nat):Int) from rfl,show(4:Int)=((4:Nat):Int) from rfl,qE hs.2.2.1 (by omega) (by omega) (by omega),aH,
  aM (by omega) (by omega),show(SO h s:Int)+((2:Nat):Int)=((SO h s+2:Nat):Int) by omega,qE hs.2.2.1 (by omega) (by omega) (by omega),aH,
  aM (by omega) (by omega),show(SO h s:Int)+6=((SO h s+6:Nat):Int) by omega,qE hs.2.2.1 (by omega) (by omega) (by omega)];rfl
theorem aEK{m:Mem}(hm:qF m)(x:Int):∃c,DJ m x=some (Q7 m.Heap x,c):=by
 have hs:=hm.1.1.1
 unfold DJ Q7
 rw [iA,aH]
 by_cases hh:mB x
 ·rw [cT hh,if_neg (by simp),(mB.mod hh).1,iT hs,aH]
  unfold AM
  by_cases hc:bS m.Heap (x % 32) < 0
  ·rw [cT hc,if_pos rfl,if_neg (by omega)];exact⟨_,rfl⟩
  ·rw [fC hc,if_neg (by simp),(mB.mod hh).1,aBW hs,aH]
   by_cases h10:10<=lW (bS m.Heap (x % 32))
   ·simp_all [aPH]
   ·rw [fC h10,if_pos (by rfl),if_neg (by omega)];exact⟨_,rfl⟩
 ·rw [fC hh,if_pos (by rfl),if_neg (fun q=>hh q.1)];exact⟨_,rfl⟩
def V7(n:bN):Int:=if mB n.Next then n.Next else 0
theorem aGO(n:bN):fJ n=some (V7 n):=by
 unfold fJ V7
 rw [iA,aH]
 grind
theorem V8(n:bN):sY (V7 n):=by
 unfold V7;split
 ·exact .inr (by assumption)
 ·exact .inl rfl
def aIZ(m:Mem)(x:Int):Prop:=oT m x/\10<=lW (bS m.Heap (x % 32))
instance (m:Mem) (x:Int):Decidable (aIZ m x):=by unfold aIZ;infer_instance
theorem WY{m:Mem}(hm:qF m)(x:Int):∃c,vQ m x=some c/\(c=0↔aIZ m x):=by
 obtain⟨hcnt,h3,h9,h1,h2,hsm,hcp,hlo,hsG,hsO⟩:=qF.facts hm
 have hs:=hm.1.1.1
 unfold vQ aIZ
 rw [HD hs (by omega) (by rw [h3];simp [maxLen]) (by rw [h9];simp [maxLen]),aH]
 by_cases hl:oT m x
 ·rw [cT hl,if_neg (by simp),(mB.mod hl.1).1,aBW hs,aH]
  by_cases h10:10<=lW (bS m.Heap (x % 32))
  ·rw [cT h10,if_neg (by simp)];exact⟨_,rfl,by simp [hl,h10]⟩
  ·rw [fC h10,if_pos (by rfl)];exact⟨_,rfl,by simp [hl,h10]⟩
 simp_all
def aBX(n:Int):List UInt8:=[u8 (n / 256),u8 n]
theorem aLI{n:Int}(hn:0<=n/\n<=65535):kH n 2=some (aBX n):=by
 have hw:tK 2=some true:=by grind [tK,dY]
 unfold kH
 rw [hw]
 have e1:IntKind.u64.wrap (aZ (8 * 2))=16:=by decide
 have e2:ZN .i64 1 16=65536:=by decide
 simp only [aH,jH,bG,if_false,e1,e2]
 rw [if_neg (by simp;omega),aK (by omega),fC (by omega)]
 simp only [qJ,bG,if_false]
 rw [aK (by omega),show aZ (2 - 1)=((1:Nat):Int) from by grind [aM]]
 have st:∀(m:Int) (c:List UInt8) (i:Nat),i < c.length->i < 4->0<=m->m6 (m,c,(i:Int))=some (.next (m / 256,c.set i (u8 m),(i:Int) - 1)):=fun m c i hc hi h0=>by
  simp only [m6]
  rw [if_pos (by simp),aT hc,aH,show(8:Int)=((8:Nat):Int) from rfl,aNH h0 (by omega),aM (by omega) (by omega),I6];rfl
 rw [bL (st n _ 1 (by simp) (by omega) hn.1),show((1:Nat):Int) - 1=((0:Nat):Int) by rfl,
  bL (st _ _ 0 (by simp) (by omega) (by omega)),bI (r:=aBX n)]
 ·rfl
 ·simp only [m6]
  rw [if_neg (by simp)]
  rfl
def a09(n:bN):List UInt8:=aBX n.Key++BP n.eH++BP n.Next
def aPI(n:bN):Prop:=(0<=n.Key/\n.Key<=99)/\(0<=n.eH/\n.eH<=65535)/\sY n.Next
instance (n:bN):Decidable (aPI n):=by unfold aPI;infer_instance
theorem aPJ(n:bN):IT n=some (decide (aPI n)):=by
 grind [IT,aPI,dY,UR,sE]
theorem aI0{x:Int}(h:sY x):0<=x/\x<=223:=by
 rcases h with h | h
 ·omega
 ·have:=h.1;omega
def aI1(m:Mem)(x:Int)(n:bN):Mem:=if aPI n/\aIZ m x then ⟨⟨rN m.Heap.Bytes (SO m.Heap (x % 32)) (a09 n),m.Heap.Class⟩,m.aA⟩ else m
theorem aLJ{m:Mem}(hm:qF m)(x:Int)(n:bN):∃c,FN m x n=some (aI1 m x n,c):=by
 obtain⟨hcnt,h3,h9,h1,h2,hsm,hcp,hlo,hsG,hsO⟩:=qF.facts hm
 have hs:=hm.1.1.1
 have hbl:m.Heap.Bytes.length<=maxLen:=by grind [maxLen]
 unfold FN aI1
 rw [P7 hsm,aH,J5 hbl (by omega),cT hm,aH,if_neg (by simp),aPJ,aH]
 unfold wW
 by_cases hn:aPI n
 ·rw [cT hn,if_neg (by simp)]
  obtain⟨c,e,hc⟩:=WY hm x
  rw [e,aH]
  by_cases hw:aIZ m x
  ·have hcl:=lB hw.1.2.1
   have hr:=(V6 hcl hw.2).1
   have hnx:=aI0 hn.2.2
   have hk1:=hn.1.2
   have hv1:=hn.2.1.2
   obtain rfl:=hc.2 hw
   rw [if_pos (by rfl),(mB.mod hw.1.1).1,SP hs hcl,aH,aLI ⟨hn.1.1,by omega⟩,aH,M3 ⟨hn.2.1.1,by omega⟩,aH,aK (by simp [aBX,BP]),
    M3 ⟨hnx.1,by omega⟩,aH,aK (by simp [aBX,BP]),aEJ (by omega) (by grind [aBX,BP]),aH,if_pos ⟨hn,hw⟩]
   exact⟨_,rfl⟩
  ·rw [if_neg (by grind),if_neg (fun q=>hw q.2)];exact⟨_,rfl⟩
 simp_all
def aI2(m:Mem)(x y:Int):Mem:=if sY y/\aIZ m x then ⟨⟨rN m.Heap.Bytes (SO m.Heap (x % 32)+6) (BP y),m.Heap.Class⟩,m.aA⟩ else m
theorem aPK{m:Mem}(hm:qF m)(x y:Int):∃c,IS m x y=some (Gv.aI2 m x y,c):=by
 obtain⟨hcnt,h3,h9,h1,h2,hsm,hcp,hlo,hsG,hsO⟩:=qF.facts hm
 have hs:=hm.1.1.1
 have hbl:m.Heap.Bytes.length<=maxLen:=by grind [maxLen]
 unfold IS Gv.aI2
 rw [P7 hsm,aH,J5 hbl (by omega),cT hm,aH,if_neg (by simp),UR,aH]
 unfold AR
 by_cases hn:sY y
 ·rw [cT hn,if_neg (by simp)]
  obtain⟨c,e,hc⟩:=WY hm x
  rw [e,aH]
  by_cases hw:aIZ m x
  ·have hcl:=lB hw.1.2.1
   have hr:=(V6 hcl hw.2).1
   have hnx:=aI0 hn
   obtain rfl:=hc.2 hw
   rw [if_pos (by rfl),(mB.mod hw.1.1).1,SP hs hcl,aH,M3 ⟨hnx.1,by omega⟩,aH,aM (by omega) (by omega),show(SO m.Heap (x % 32):Int)+6=((SO m.Heap (x % 32)+6:Nat):Int) by omega,
    aEJ (by omega) (by grind [BP]),aH,if_pos ⟨hn,hw⟩]
   exact⟨_,rfl⟩
  ·rw [if_neg (by grind),if_neg (fun q=>hw q.2)];exact⟨_,rfl⟩
 simp_all
theorem aTP{m:Mem}(hm:qF m)(x:Int)(n:bN):sZ m (aI1 m x n) (-1):=by
 unfold aI1;split
 ·rename_i h
  have:=V6 (lB h.2.1.2.1) h.2.2
  exact qF.rN hm (lB h.2.1.2.1) (o:=0) (by grind [a09,aBX,BP])
 ·exact⟨hm,fun s h _=>⟨h,rfl,rfl⟩⟩
theorem aTQ{m:Mem}(hm:qF m)(x y:Int):sZ m (Gv.aI2 m x y) (-1):=by
 unfold Gv.aI2;split
 ·rename_i h
  have:=V6 (lB h.2.1.2.1) h.2.2
  exact qF.rN hm (lB h.2.1.2.1) (o:=6) (by grind [BP])
 ·exact⟨hm,fun s h _=>⟨h,rfl,rfl⟩⟩
end Go.Gv
end
noncomputable section
namespace Go.Gv
def aTR:Heap:=⟨List.replicate 384 0,[-1,-1,-1,-1,-1,-1]⟩
def aZK:aA:=⟨List.replicate 3 ⟨[]⟩,List.replicate 9 ⟨[]⟩⟩
def aNR:aB:=⟨⟨aTR,aZK⟩,⟨0,List.replicate 3 ⟨false,0,false,0⟩⟩,List.replicate 3 ⟨[]⟩,List.replicate 3 0⟩
theorem YM:E6=some aTR:=by
 unfold E6
 have key:loop pT (0,[])=some (List.replicate 6 (-1)):=gP (f:=pT) 6 (fun k=>((k:Int),List.replicate k (-1))) _ (fun k hk=>by
  simp only [pT]
  rw [if_pos (by simp;omega),aK (by simp;omega),aM (by omega) (by omega),List.replicate_succ'];rfl) (by simp [pT])
 rw [aK (by omega),key];rfl
theorem aZL:rE [-1] 6=some [-1,-1,-1,-1,-1,-1]:=by
 unfold rE
 rw [if_neg (by simp),show JG (IntKind.u64.wrap (([-1]:List Int).length:Int)) (IntKind.u64.wrap 6)=some (0,6) by kernel_rfl]
 simp only [aH]
 rw [if_neg (by simp),fC (by omega)]
 simp only [mP,bG,if_false]
 rw [show IntKind.i64.wrap 6=6 from wrap_i64 (by omega) (by omega),aK (by omega),
  show(cA (List.replicate (Int.toNat 6) 0) 0 [-1],((min ([-1]:List Int).length ((List.replicate (Int.toNat 6) (0:Int)).length - 0):Nat):Int))=([-1,0,0,0,0,0],1) by kernel_rfl,
  bL (body:=jT) (s':=([-1,-1,0,0,0,0],2)) (by kernel_rfl),bL (body:=jT) (s':=([-1,-1,-1,-1,0,0],4)) (by kernel_rfl),
  bL (body:=jT) (s':=([-1,-1,-1,-1,-1,-1],6)) (by kernel_rfl),bI (body:=jT) (r:=[-1,-1,-1,-1,-1,-1]) (by kernel_rfl)]
 rfl
theorem YN:FA=some aTR:=by
 unfold FA
 rw [aK (by omega),aZL];rfl
theorem aBY:E7=some aNR/\FB=some aNR:=by
 unfold E7 FB O1 O5 JD JH JE JI JF JJ O2 O6
 rw [YM,YN,aK (by omega),aK (by omega),aK (by omega),aK (by omega),aK (by omega)]
 exact⟨rfl,rfl⟩
theorem aTS:yJ aNR:=of_decide_eq_true (by kernel_rfl)
end Go.Gv
end
noncomputable section
namespace Go.Gv
def yL{α:Type}(o:Option α)(Q:α->Prop):Prop:=∃x,o=some x/\Q x
abbrev aXK{σ ρ:Type}(I:σ->Prop)(Q:ρ->Prop):Step σ ρ->Prop
 | .next s=>I s
 | .stop r=>Q r
namespace yL
variable {α β σ ρ:Type} {Q:α->Prop}
theorem ret{x:α}(h:Q x):yL (some x) Q:=⟨x,rfl,h⟩
theorem bind{P:β->Prop}{o:Option β}{f:β->Option α}(h:yL o P)(hf:∀x,P x->yL (f x) Q):yL (o.bind f) Q:=by
 obtain⟨x,e,hx⟩:=h
 grind
theorem need{p:Prop}[Decidable p]{k:Option α}(h:p)(hk:yL k Q):yL (Gv.need p k) Q:=by grind [aK]
theorem ite{c:Prop}[Decidable c]{a b:Option α}(h1:c->yL a Q)(h2:¬c->yL b Q):yL (if c then a else b) Q:=by
 grind
theorem mono{P:α->Prop}{o:Option α}(h:yL o P)(hf:∀x,P x->Q x):yL o Q:=by obtain⟨x,e,hx⟩:=h;exact⟨x,e,hf x hx⟩
theorem idx{l:List β}{i:Int}(h:0<=i/\i < l.length):yL (Gv.idx l i) (fun x=>x∈l):=⟨_,gC h.1 h.2,dJ _⟩
theorem loop{Q:ρ->Prop}{f:σ->Option (Step σ ρ)}{s:σ}(μ:σ->Nat)(Inv:σ->Prop)(h0:Inv s)(hb:∀s,Inv s->yL (f s) (aXK (fun s'=>Inv s'/\μ s' < μ s) (fun r=>Q r))):yL (Gv.loop f s) Q:=by
 have key:∀n s,μ s < n->Inv s->yL (Gv.loop f s) Q:=by
  intro n
  induction n with
  | zero=>omega
  | succ n ih =>
   intro s h hs
   obtain⟨q,e,hq⟩:=hb s hs
   cases q with
   | next s'=>grind [bL]
   | stop r=>rw [bI e];exact⟨r,rfl,hq⟩
 exact key _ s (Nat.lt_succ_self _) h0
theorem of{o:Option α}{x:α}(h:o=some x):yL o (fun y=>y=x):=⟨x,h,rfl⟩
end yL
def Cu(b:List UInt8)(i:Int):Prop:=(0<=i/\i<=b.length)/\b.length<=1048576
theorem aTT(x:Int):0<=fU .and .i64 x 255/\fU .and .i64 x 255<=255:=by
 have e:fU .and .i64 x 255=IntKind.i64.wrap ((BitVec.ofInt 64 x &&& BitVec.ofInt 64 255).toNat:Int):=rfl
 grind [Nat.and_le_right,wrap_i64]
noncomputable section
variable {b:List UInt8} {i h:Int} (hc:Cu b i)
include hc
theorem aI3:yL (oY ⟨b,i,h⟩) (fun x=>(0<=x.1/\x.1<=255)/\Cu b x.2.1):=by
 unfold oY zE
 obtain⟨⟨a1,a2⟩,a3⟩:=hc
 refine .ite (fun q=>?_) (fun q=>?_)
 ·have q':=of_decide_eq_true q
  simp only at q'
  refine .bind (.idx ⟨a1,q'⟩) fun x _=>.ret ⟨aTT _,?_⟩
  grind [Cu,aM]
 ·exact .ret ⟨aTT _,⟨a1,a2⟩,a3⟩
theorem below{n:Int}(hn:n<=1000000):yL (eO ⟨b,i,h⟩ n) (fun x=>(0<=x.1/\(x.1 < n\/n<=0/\x.1=0))/\Cu b x.2.1):=by
 unfold eO
 refine .ite (fun q=>?_) (fun q=>?_)
 ·have q':=of_decide_eq_true q
  exact .ret ⟨by simp;omega,hc⟩
 ·have q0:0 < n:=by grind
  refine .ite (fun q=>?_) (fun q=>?_)
  ·refine .bind (aI3 hc) fun x ⟨hx,h1⟩=>.need (by omega) (.ret ⟨?_,h1⟩)
   simp only [LL hx.1]
   exact⟨Int.emod_nonneg _ (by omega),.inl (Int.emod_lt_of_pos _ q0)⟩
  ·refine .bind (aI3 hc) fun x ⟨hx,h1⟩=>.bind (aI3 h1) fun y ⟨hy,h2⟩=>.bind (aI3 h2) fun z ⟨hz,h3⟩=>.bind (aI3 h3) fun w ⟨hw,h4⟩=>.need (by omega) (.ret ⟨?_,h4⟩)
   have e:aZ (aZ (aZ (aZ (x.1 * 16777216)+aZ (y.1 * 65536))+aZ (z.1 * 256))+w.1)=x.1 * 16777216+y.1 * 65536+z.1 * 256+w.1:=by
    grind [aM]
   simp only [e]
   rw [LL (by omega)]
   exact⟨Int.emod_nonneg _ (by omega),.inl (Int.emod_lt_of_pos _ q0)⟩
theorem a1A{n:Int}(hn:n<=1000000):yL (O0 ⟨b,i,h⟩ n) (fun x=>Cu b x.2.1):=
 .bind (below hc hn) fun _ ⟨_,h1⟩=>.ret h1
theorem aEL{l:List Int}(hl:0 < l.length)(hl2:l.length<=1000):yL (lK ⟨b,i,h⟩ l) (fun x=>x.1∈l/\Cu b x.2.1):=
 .bind (below hc (by omega)) fun x ⟨hx,h1⟩=>.bind (.idx (by omega)) fun y hy=>.ret ⟨hy,h1⟩
end
theorem a2Y{code:List UInt8}(hl:code.length<=1048576):yL (L9 code) (fun x=>Cu code x.1):=by
 unfold L9
 refine .bind (P:=fun _=>True) (.loop (fun s=>code.length - s.2.toNat) (fun s=>0<=s.2/\s.2<=code.length) ⟨by simp,by simp⟩ ?_) fun x _=>.ret ⟨⟨by simp,by simp⟩,hl⟩
 rintro⟨a,k⟩ ⟨h1,h2⟩
 simp only [RF,CD]
 simp only at h1 h2
 have nx:k < code.length->yL ((idx code k).bind fun x7=>some (Step.next (fU .and .i64 (aZ ((aZ ((aZ (a * 131))+(x7.toNat:Int)))+7)) 1073741823,aZ (k+1)))) (aXK (ρ:=Int) (fun s'=>(0<=s'.2/\s'.2<=code.length)/\code.length - s'.2.toNat < code.length - k.toNat) (fun r=>True)):=fun hk=>by
  refine .bind (.idx ⟨h1,hk⟩) fun x _=>.ret ?_
  grind [aM]
 refine .ite (fun q=>?_) (fun q=>?_)
 ·have q':=of_decide_eq_true q
  exact .ite (fun _=>nx q') (fun _=>.ret trivial)
 ·rw [if_neg (by simp)];exact .ret trivial
end Go.Gv
end
noncomputable section
namespace Go.Gv
theorem V9{b:aB}(hb:yJ b){w:Int}(hw:0<=w/\w<=2)(s:Sub):m8 s b w=some ((BU b w s).2,(BU b w s).1):=by
 obtain⟨x,y,e1,e2,h⟩:=step_eq hb hb.small hw s
 grind [aNQ]
end Go.Gv
end
noncomputable section
namespace Go.Gv
def KC:aG:=⟨false,⟨false,[]⟩,0,0,0,0,0,0,0,0,aIY,false,0,⟨0,0,0,0,0,0,0,0,0,false⟩,[],[],[],[],[],[]⟩
def uG(k:List bV)(i:Int):bV:=k.getD i.toNat ⟨0,0,0⟩
def SQ(j:aG)(c:Int):aG:={j with Pc:=16,Code:=c}
def YO(a b:Int):Int:=Int.tmod (aZ (a+b)) 65536
def HH(j:aG)(x:aU):Bool×aG:=if 6 < (aBI j.aL x).length then (false,SQ j 1) else (true,{j with aL:=aBI j.aL x})
def aGP(j:aG)(is:Bool)(v:Int):aG:={j with eN:=j.eN ++ [⟨is,v⟩],Pc:=1,At:=j.At+1}
def aTU(j:aG)(c:iD)(v:Int):aG:=if (HH j ⟨c.Key,false,YO v c.eH⟩).1 then aGP (HH j ⟨c.Key,false,YO v c.eH⟩).2 true (YO v c.eH) else (HH j ⟨c.Key,false,YO v c.eH⟩).2
def aBZ(j:aG)(c:iD)(v:Int)(is:Bool):aG:=if c.Kind=4 then aTU j c (if is then v else 0) else aGP j is (if is then v else 0)
def jO(j:aG):iD:=j.Batch.bK.getD j.At.toNat ⟨0,0,0⟩
def M7(j:aG):Prop:=j.At < j.Batch.bK.length
instance (j:aG):Decidable (M7 j):=by unfold M7;infer_instance
def aI4(j:aG):aG:=
 if M7 j then
  if (jO j).Kind=2\/(jO j).Kind=3 then
   if (HH j ⟨(jO j).Key,(jO j).Kind == 3,(jO j).eH⟩).1 then {(HH j ⟨(jO j).Key,(jO j).Kind == 3,(jO j).eH⟩).2 with At:=j.At+1,eN:=j.eN ++ [⟨false,0⟩]}
   else (HH j ⟨(jO j).Key,(jO j).Kind == 3,(jO j).eH⟩).2
  else if (aDH j.aL (jO j).Key).2 then aBZ j (jO j) (aDH j.aL (jO j).Key).1.eH (!(aDH j.aL (jO j).Key).1.HJ)
  else {j with Pc:=2,bV:=HE (jO j).Key}
 else {j with Pc:=6,K:=0,Sub:=aLH 1 16}
def aB0(b:aB)(k:List bV)(w:Int)(j:aG):aG:=
 if j.Pc=2 then
  if (uG k j.bV).jB≠0 then SQ j 7
  else {j with fX:=(uG k j.bV).fX,H:=(uG k j.bV).Head,Found:=false,Node:=aIY,Pc:=if (uG k j.bV).Head=0 then 5 else 3}
 else if j.Pc=3 then {j with Node:=Q7 b.Mem.Heap j.H,Pc:=4}
 else if j.Pc=4 then
  if ¬((uO b.aJ w).On=true/\(uO b.aJ w).gG=false) then SQ j 6
  else if M7 j then {j with Found:=j.Node.Key == (jO j).Key,H:=V7 j.Node,Pc:=if j.Node.Key=(jO j).Key\/V7 j.Node=0 then 5 else 3}
  else SQ j 1
 else
  if (uG k j.bV).jB≠0\/(uG k j.bV).fX≠j.fX then SQ j 7
  else if (EZ j.Reads j.bV j.fX).2=false then SQ {j with Reads:=(EZ j.Reads j.bV j.fX).1} 7
  else if M7 j then aBZ {j with Reads:=(EZ j.Reads j.bV j.fX).1} (jO j) j.Node.eH j.Found
  else SQ {j with Reads:=(EZ j.Reads j.bV j.fX).1} 1
def aI5(b:aB)(w:Int)(j:aG):aB×aG:=
 if DU j.aL j.aL.length<=j.K then (b,{j with Pc:=7,K:=0})
 else ((BU b w j.Sub).1,
  if (BU b w j.Sub).2.dS=false then {j with Sub:=(BU b w j.Sub).2}
  else if (BU b w j.Sub).2.Code≠0\/¬mB (BU b w j.Sub).2.Out\/6<=j.fQ.length then SQ {j with Sub:=(BU b w j.Sub).2} (BU b w j.Sub).2.Code
  else {j with fQ:=j.fQ ++ [(BU b w j.Sub).2.Out],K:=j.K+1,Sub:=aLH 1 16})
def jP(j:aG):Int:=(DV j.aL).getD j.K.toNat 0
def aGQ(j:aG):aG:={j with bR:=if jP j∈j.bR then j.bR else j.bR ++ [jP j],K:=j.K+1}
def aGR(k:List bV)(w:Int)(j:aG):List bV×aG×Bool:=
 if j.K < (DV j.aL).length then
  if (uG k (jP j)).jB≠0\/(j.Reads.any fun s=>s.bV == jP j && s.fX != (uG k (jP j)).fX)=true then (k,SQ j 7,false)
  else if (uG k (jP j)).fX=1000000 then (k,SQ j 3,false)
  else if (DV j.aL).length<=j.K+1 then (k.set (jP j).toNat {uG k (jP j) with jB:=w+1},{aGQ j with Pc:=8,K:=0},true)
  else (k.set (jP j).toNat {uG k (jP j) with jB:=w+1},aGQ j,false)
 else (k,{j with Pc:=8,K:=0},true)
def rdN(j:aG):Seen:=j.Reads.getD j.K.toNat ⟨0,0⟩
def aLK(k:List bV)(w:Int)(j:aG):aG:=
 if j.Reads.length<=j.K then {j with Pc:=9,K:=0}
 else if ((uG k (rdN j).bV).jB≠0/\(uG k (rdN j).bV).jB≠w+1)\/(uG k (rdN j).bV).fX≠(rdN j).fX then SQ j 7
 else {j with K:=j.K+1}
def plF(j:aG)(x:aU):aG:=if x.HJ then {j with Pc:=9,K:=j.K+1} else {j with Pc:=12}
def ZB(j:aG):aU:=j.aL.getD j.K.toNat ⟨0,false,0⟩
def aI6(j:aG):Int:=j.fQ.getD (DU j.aL j.K).toNat 0
def YP(j:aG):aG:=if mB j.H/\j.cE.length < 6 then {j with cE:=j.cE ++ [j.H]} else j
def aGS(b:aB)(k:List bV)(j:aG):aB×List bV×aG:=
 if j.aL.length<=j.K then (b,k,{j with Pc:=14})
 else if j.Pc=9 then (b,k,if (uG k (HE (ZB j).Key)).Head=0 then plF {j with Pc:=10,H:=(uG k (HE (ZB j).Key)).Head,fP:=0} (ZB j) else {j with Pc:=10,H:=(uG k (HE (ZB j).Key)).Head,fP:=0})
 else if j.Pc=10 then
  (b,k,if (Q7 b.Mem.Heap j.H).Key=(ZB j).Key then {j with Pc:=11,Node:=Q7 b.Mem.Heap j.H}
   else if V7 (Q7 b.Mem.Heap j.H)=0 then plF {j with Node:=Q7 b.Mem.Heap j.H} (ZB j)
   else {j with H:=V7 (Q7 b.Mem.Heap j.H),fP:=j.H,Node:=Q7 b.Mem.Heap j.H})
 else if j.Pc=11 then
  if j.fP=0 then (b,k.set (HE (ZB j).Key).toNat {uG k (HE (ZB j).Key) with Head:=V7 j.Node},plF (YP j) (ZB j))
  else ({b with Mem:=Gv.aI2 b.Mem j.fP (V7 j.Node)},k,plF (YP j) (ZB j))
 else if j.fQ.length<=DU j.aL j.K then (b,k,SQ j 1)
 else if j.Pc=12 then ({b with Mem:=aI1 b.Mem (aI6 j) ⟨(ZB j).Key,(ZB j).eH,(uG k (HE (ZB j).Key)).Head⟩},k,{j with Pc:=13})
 else (b,k.set (HE (ZB j).Key).toNat {uG k (HE (ZB j).Key) with Head:=aI6 j},{j with Pc:=9,K:=j.K+1})
def aGT(j:aG):aG:=if j.K < j.cE.length then {j with Sub:=aLH 2 (j.cE.getD j.K.toNat 0)} else j
def RW(j:aG):Int:=j.bR.getD 0 0
def aGU(k:List bV)(j:aG):List bV×aG:=
 if 0 < j.bR.length then
  (k.set (RW j).toNat (if j.Pc=14 then ⟨(uG k (RW j)).Head,if 1000000 < (uG k (RW j)).fX+1 then 1000000 else (uG k (RW j)).fX+1,0⟩ else {uG k (RW j) with jB:=0}),{j with bR:=j.bR.drop 1})
 else if j.Pc=16 then (k,{j with Pc:=17})
 else (k,aGT {j with Pc:=15,K:=0})
def aI7(b:aB)(w:Int)(j:aG):aB×aG:=
 if j.cE.length<=j.K then (b,{j with Pc:=18})
 else ((BU b w j.Sub).1,if (BU b w j.Sub).2.dS then aGT {j with K:=j.K+1,Sub:=(BU b w j.Sub).2} else {j with Sub:=(BU b w j.Sub).2})
def aTV(m:Mem)(w x:Int):Mem:=if oT m x then aNP m w x else m
def aI8(b:aB)(w:Int)(j:aG):aB×aG:=
 if j.fQ.length=0 then (b,{j with Pc:=18})
 else (if bR b.bO (j.fQ.getD 0 0 % 32) then b else {b with Mem:=aTV b.Mem w (j.fQ.getD 0 0)},{j with fQ:=j.fQ.drop 1})
def aGV(b:aB)(w:Int)(j:aG):aB×aG:=
 ((BU b w j.Sub).1, if (BU b w j.Sub).2.dS = false then {j with Sub := (BU b w j.Sub).2}
  else if j.Pc=0 then {j with Pc:=1,Sub:=(BU b w j.Sub).2}
  else if j.Pc=20 then {j with Pc:=21,Sub:=aLH 4 0}
  else {j with Pc:=19,Sub:=(BU b w j.Sub).2})
def tlE(w:Int)(j:aG):jS:=⟨3,w,j.aE,j.Code,[],if j.Code=0 then j.eN else []⟩
structure TR where
 b:aB
 k:List bV
 j:aG
 l:List jS
def doF(b:aB)(k:List bV)(w:Int)(j:aG):TR:=
 if j.Pc=0\/j.Pc=20\/j.Pc=21 then ⟨(aGV b w j).1,k,(aGV b w j).2,[]⟩
 else if j.Pc=1 then ⟨b,k,aI4 j,[]⟩
 else if 2<=j.Pc/\j.Pc<=5 then ⟨b,k,aB0 b k w j,[]⟩
 else if j.Pc=6 then ⟨(aI5 b w j).1,k,(aI5 b w j).2,[]⟩
 else if j.Pc=7 then ⟨b,(aGR k w j).1,(aGR k w j).2.1,if (aGR k w j).2.2 then [⟨2,w,j.aE,0,[],[]⟩] else []⟩
 else if j.Pc=8 then ⟨b,k,aLK k w j,[]⟩
 else if 9<=j.Pc/\j.Pc<=13 then ⟨(aGS b k j).1,(aGS b k j).2.1,(aGS b k j).2.2,[]⟩
 else if j.Pc=14\/j.Pc=16 then ⟨b,(aGU k j).1,(aGU k j).2,[]⟩
 else if j.Pc=15 then ⟨(aI7 b w j).1,k,(aI7 b w j).2,[]⟩
 else if j.Pc=17 then ⟨(aI8 b w j).1,k,(aI8 b w j).2,[]⟩
 else if j.Pc=18 then ⟨{b with aJ:=(aGM b.aJ w).1},k,{j with Pc:=19},[]⟩
 else if j.Pc=19 then ⟨b,k,KC,[tlE w j]⟩
 else ⟨b,k,SQ j 1,[]⟩
def cM(t:Table)(w:Int):aG:=t.aP.getD w.toNat KC
def UT(t:Table)(w:Int):List Batch:=(t.gL.getD w.toNat ⟨[]⟩).List
def HI(b:Batch)(s:Int):aG:=⟨true,b,s,if b.Collect then 20 else 0,0,0,0,0,0,0,aIY,false,0,if b.Collect then aLH 3 0 else aLH 5 0,[],[],[],[],[],[]⟩
def aLL(t:Table)(w:Int)(b:Batch):Table:=⟨t.aB,t.cH,t.aP.set w.toNat (HI b (t.aE+1)),t.gL.set w.toNat ⟨(UT t w).drop 1⟩,t.Log ++ [⟨1,w,t.aE+1,0,b.bK,[]⟩],t.aE+1⟩
def OI(t:Table)(w:Int)(r:TR):Table:=⟨r.b,r.k,t.aP.set w.toNat r.j,t.gL,t.Log++r.l,t.aE⟩
def M8(t:Table)(w:Int):Table:=
 if (cM t w).eA then OI t w (doF t.aB t.cH w (cM t w))
 else if (UT t w).length=0\/t.aE=1000000 then t else aLL t w ((UT t w).getD 0 ⟨false,[]⟩)
def Q8(c:iD):Prop:=(1<=c.Kind/\c.Kind<=4)/\(0<=c.Key/\c.Key<=99)/\(0<=c.eH/\c.eH<=65535)/\(c.Kind=2\/c.Kind=4\/c.eH=0)
instance (c:iD):Decidable (Q8 c):=by unfold Q8;infer_instance
def Q9(b:Batch):Prop:=(b.Collect=true->b.bK=[])/\b.bK.length<=6/\(∀c∈b.bK,Q8 c)/\(b.Collect=false->1<=b.bK.length)
instance (b:Batch):Decidable (Q9 b):=by unfold Q9;infer_instance
def QuV(q:aI):Prop:=q.List.length<=12/\∀b∈q.List,Q9 b
instance (q:aI):Decidable (QuV q):=by unfold QuV;infer_instance
def SR(l:List aI):Prop:=l.length=3/\∀q∈l,QuV q
instance (l:List aI):Decidable (SR l):=by unfold SR;infer_instance
def BkV(b:bV):Prop:=sY b.Head/\(0<=b.fX/\b.fX<=1000000)/\(0<=b.jB/\b.jB<=3)
def WrV(l:List aU):Prop:=l.length<=6/\(∀x∈l,(0<=x.Key/\x.Key<=99)/\(0<=x.eH/\x.eH<=65535))/\l.Pairwise (fun x y=>x.Key < y.Key)
structure JB (j:aG):Prop where
 busy:j.eA=true
 bat:Q9 j.Batch
 h:sY j.H
 prev:sY j.fP
 bkt:0<=j.bV/\j.bV<=1
 at_:0<=j.At/\j.At<=j.Batch.bK.length
 k:0<=j.K/\j.K<=6
 new:j.fQ.length<=6/\∀x∈j.fQ,mB x
 old:j.cE.length<=6/\∀x∈j.cE,mB x
 reads:(∀s∈j.Reads,0<=s.bV/\s.bV<=1)/\(j.Reads.map Seen.bV).Nodup
 wr:WrV j.aL
 held:(∀x∈j.bR,0<=x/\x<=1)/\j.bR.Nodup
 res:(j.eN.length:Int)=j.At
 node:0<=j.Node.eH/\j.Node.eH<=4294967295
structure TV (t:Table):Prop where
 base:yJ t.aB
 bk:t.cH.length=2/\∀x∈t.cH,BkV x
 aJQ:t.aP.length=3/\∀j∈t.aP,j=KC\/JB j
 todo:SR t.gL
 ser:0<=t.aE/\t.aE<=1000000
end Go.Gv
end
noncomputable section
namespace Go.Gv
theorem aEM{j:aG}(hw:j.aL.length<=1000)(x:aU):oG j x=some (HH j x):=by
 unfold oG HH
 rw [V2 hw,aH]
 by_cases h:6 < (aBI j.aL x).length
 ·rw [if_pos (by simp;omega),if_pos h];rfl
 grind
theorem WA(j:aG)(x:aU):(HH j x).2.eN=j.eN/\(HH j x).2.At=j.At:=by
 grind [HH,SQ]
theorem aEN{j:aG}(hw:j.aL.length<=1000)(hr:j.eN.length<=1000)(ha:0<=j.At/\j.At<=1000)(c:iD)(v:Int)(is:Bool):oH j c v is=some (aBZ j c v is):=by
 have key:∀u,kS j c is u=some (if c.Kind=4 then aTU j c u else aGP j is u):=fun u=>by
  unfold kS
  by_cases hk:c.Kind=4
  ·rw [if_pos (by grind),if_pos hk]
   unfold SA aTU
   rw [aH,show Int.tmod (aZ (u+c.eH)) 65536=YO u c.eH from rfl,aEM hw,aH]
   obtain⟨e1,e2⟩:=WA j ⟨c.Key,false,YO u c.eH⟩
   cases h:(HH j ⟨c.Key,false,YO u c.eH⟩).1
   ·simp
   ·rw [if_neg (by simp),if_pos rfl]
    grind [kR,nM,aGP,aK,aM]
  ·rw [if_neg (by grind),if_neg hk]
   grind [kR,nM,aGP,aK,aM]
 unfold oH aBZ
 grind
theorem aB1{j:aG}(hl:j.Batch.bK.length<=1000)(ha:0<=j.At):mW j=some (if M7 j then (jO j,true,j) else (⟨0,0,0⟩,false,j)):=by
 unfold mW jO
 rw [dY,aH,aM (by omega) (by omega)]
 by_cases hc:M7 j
 ·have h:j.At < j.Batch.bK.length:=hc
  rw [cT (by omega),if_neg (by simp),if_pos hc,gC ha h,aH]
  grind
 ·have h:¬j.At < j.Batch.bK.length:=hc
  grind
theorem aTX{j:aG}(hl:j.Batch.bK.length<=1000)(hw:j.aL.length<=1000)(hr:j.eN.length<=1000)(ha:0<=j.At/\j.At<=1000):AK j=some (aI4 j):=by
 unfold AK aI4
 rw [aB1 hl ha.1,aH]
 by_cases h:M7 j
 ·rw [if_pos h,if_pos h]
  have put:iM (jO j,true,j) true j=some (if (HH j ⟨(jO j).Key,(jO j).Kind == 3,(jO j).eH⟩).1 then {(HH j ⟨(jO j).Key,(jO j).Kind == 3,(jO j).eH⟩).2 with At:=j.At+1,eN:=j.eN ++ [⟨false,0⟩]} else (HH j ⟨(jO j).Key,(jO j).Kind == 3,(jO j).eH⟩).2):=by
   unfold iM
   rw [if_pos rfl,aEM hw,aH]
   obtain⟨e1,e2⟩:=WA j ⟨(jO j).Key,(jO j).Kind == 3,(jO j).eH⟩
   cases (HH j ⟨(jO j).Key,(jO j).Kind == 3,(jO j).eH⟩).1
   ·rw [if_neg (by simp),if_neg (by simp)]
   ·rw [if_pos rfl,if_pos rfl,aK (by rw [e1];simp;omega)]
    simp only [e1,e2]
    rw [aM (by omega) (by omega)]
  have get:iM (jO j,true,j) false j=some (if (aDH j.aL (jO j).Key).2 then aBZ j (jO j) (aDH j.aL (jO j).Key).1.eH (!(aDH j.aL (jO j).Key).1.HJ) else {j with Pc:=2,bV:=HE (jO j).Key}):=by
   unfold iM AJ
   rw [if_neg (by simp),YJ hw,aH]
   cases (aDH j.aL (jO j).Key).2
   ·rw [if_neg (by simp),if_neg (by simp),J6];rfl
   ·rw [if_pos rfl,if_pos rfl,aEN hw hr ha];rfl
  grind
 ·rw [if_neg h,if_neg h];rfl
theorem xL{t:Table}{w:Int}(h3:t.aP.length=3)(hw:0<=w/\w<=2):idx t.aP w=some (cM t w):=by
 grind [gC,cM]
theorem WB{k:List bV}{i:Int}(h2:k.length=2)(hi:0<=i/\i<=1):idx k i=some (uG k i):=by
 grind [gC,uG]
theorem UU{α:Type}{l:List α}{i:Int}{x:α}(h:0<=i/\i < l.length):idx (l.set i.toNat x) i=some x:=by
 grind [gC]
theorem aNS{t:Table}{w:Int}(h3:t.aP.length=3)(hw:0<=w/\w<=2):cM t w∈t.aP:=by
 grind [cM]
def aJA(t:Table)(w:Int)(j:aG):Table:={t with aP:=t.aP.set w.toNat j}
noncomputable section
variable {t:Table} {w:Int} (h3:t.aP.length=3) (h2:t.cH.length=2) (hb:yJ t.aB) (hw:0<=w/\w<=2) (hj:JB (cM t w))
include h3 h2 hb hw hj
theorem QD:(cM t w).Batch.bK.length<=1000/\(cM t w).aL.length<=1000/\(cM t w).eN.length<=1000/\(0<=(cM t w).At/\(cM t w).At<=1000)/\(cM t w).Reads.length<=2:=by
 have h1:=hj.bat.2.1;have h4:=hj.at_;have h5:=hj.res;have h6:=hj.wr.1
 refine⟨by omega,by omega,by omega,by omega,?_⟩
 have hn:=hj.reads.2
 have hm:∀x∈(cM t w).Reads.map Seen.bV,x=0\/x=1:=fun x hx=>by
  obtain⟨s,hs,rfl⟩:=List.mem_map.1 hx
  have:=hj.reads.1 s hs;omega
 have hl:((cM t w).Reads.map Seen.bV).length<=2:=by
  match h:(cM t w).Reads.map Seen.bV,hn,hm with
  | [],_,_=>simp
  | [_],_,_=>simp
  | [_,_],_,_=>simp
  | x :: y :: z :: r, hn, hm =>
   (simp_all;omega)
 grind
theorem aWG:wS t w=some (aJA t w (aB0 t.aB t.cH w (cM t w))):=by
 obtain⟨s1,s2,s3,s4,s5⟩:=QD h3 h2 hb hw hj
 have hjob:=xL h3 hw
 unfold wS xZ aB0 aJA
 rw [hjob,aH,WB h2 hj.bkt,aH,aH,aB1 s1 s4.1,aH]
 generalize hjj:cM t w=j at *
 have e62:(if M7 j then (jO j,true,j) else ((⟨0,0,0⟩:iD),false,j)).2.2=j:=by grind
 have set2:∀x y:aG,(t.aP.set w.toNat x).set w.toNat y=t.aP.set w.toNat y:=fun x y=>aDQ ..
 have iset:∀x:aG,idx (t.aP.set w.toNat x) w=some x:=fun x=>UU ⟨hw.1,by omega⟩
 simp only [e62]
 by_cases p2:j.Pc=2
 ·have p2':(j.Pc == 2)=true:=by grind
  simp only [p2',if_true,if_pos p2]
  by_cases hl:(uG t.cH j.bV).jB=0
  ·have e:((uG t.cH j.bV).jB != 0)=false:=by grind
   simp only [e,bG,if_false,if_neg (not_not_intro hl)]
   by_cases hh:(uG t.cH j.bV).Head=0
   ·have e:((uG t.cH j.bV).Head == 0)=true:=by grind
    simp only [e,if_true,if_pos hh];rfl
   ·have e:((uG t.cH j.bV).Head == 0)=false:=by grind
    simp only [e,bG,if_false,if_neg hh];rfl
  ·have e:((uG t.cH j.bV).jB != 0)=true:=by grind
   simp only [e,if_true,if_pos hl];rfl
 ·have p2':(j.Pc == 2)=false:=by grind
  simp only [p2',bG,if_false,if_neg p2]
  by_cases p3:j.Pc=3
  ·have p3':(j.Pc == 3)=true:=by grind
   simp only [p3',if_true,if_pos p3]
   obtain⟨c,e⟩:=aEK hb.1.1 j.H
   rw [e];rfl
  ·have p3':(j.Pc == 3)=false:=by grind
   simp only [p3',bG,if_false,if_neg p3]
   by_cases p4:j.Pc=4
   ·have p4':(j.Pc == 4)=true:=by grind
    simp only [p4',if_true,if_pos p4]
    rw [LU hb.1.2.1 hw,aH]
    simp only [xW,l4]
    have hp:(if (uO t.aB.aJ w).On=true then some (!(uO t.aB.aJ w).gG) else some false)=some (decide ((uO t.aB.aJ w).On=true/\(uO t.aB.aJ w).gG=false)):=by
     cases (uO t.aB.aJ w).On <;> cases (uO t.aB.aJ w).gG <;> rfl
    rw [hp,aH]
    by_cases hpin:(uO t.aB.aJ w).On=true/\(uO t.aB.aJ w).gG=false
    ·simp only [cT hpin,jH,bG,if_false,if_neg (not_not_intro hpin)]
     by_cases hc:M7 j
     ·simp only [if_pos hc,jH,bG,if_false,aGO,aH,xX,pD,iset,set2]
      grind
     ·simp only [if_neg hc,LW,if_true];rfl
    ·simp only [fC hpin,LW,if_true,if_pos hpin];rfl
   ·have p4':(j.Pc == 4)=false:=by grind
    simp only [p4',bG,if_false,if_neg p4]
    have tail:gT t w (if M7 j then (jO j,true,j) else ((⟨0,0,0⟩:iD),false,j)) false=some (aJA t w (if (EZ j.Reads j.bV j.fX).2=false then SQ {j with Reads:=(EZ j.Reads j.bV j.fX).1} 7
      else if M7 j then aBZ {j with Reads:=(EZ j.Reads j.bV j.fX).1} (jO j) j.Node.eH j.Found
      else SQ {j with Reads:=(EZ j.Reads j.bV j.fX).1} 1)):=by
     simp only [gT,xY,e62,iset,aH,set2,bG,if_false]
     rw [YK (by omega),aH]
     cases hs:(EZ j.Reads j.bV j.fX).2
     ·rfl
     ·simp only [jH,bG,if_false,reduceCtorEq]
      by_cases hc:M7 j
      ·simp only [if_pos hc,jH,bG,if_false]
       rw [aEN (j:={j with Reads:=(EZ j.Reads j.bV j.fX).1}) s2 s3 s4];rfl
      ·simp only [if_neg hc,LW,if_true];rfl
    have ab:gT t w (if M7 j then (jO j,true,j) else ((⟨0,0,0⟩:iD),false,j)) true=some (aJA t w (SQ j 7)):=by
     simp only [gT,e62,iset,aH,set2,if_true];rfl
    by_cases hl:(uG t.cH j.bV).jB=0
    ·have e:((uG t.cH j.bV).jB != 0)=false:=by grind
     simp only [e,bG,if_false]
     by_cases hv:(uG t.cH j.bV).fX=j.fX
     ·have e:((uG t.cH j.bV).fX != j.fX)=false:=by grind
      rw [e,tail,if_neg (show ¬((uG t.cH j.bV).jB≠0\/(uG t.cH j.bV).fX≠j.fX) from fun q=>q.elim (fun h=>h hl) fun h=>h hv)];rfl
     ·have e:((uG t.cH j.bV).fX != j.fX)=true:=by grind
      rw [e,ab,if_pos (.inr hv)];rfl
    ·have e:((uG t.cH j.bV).jB != 0)=true:=by grind
     simp only [e,if_true]
     rw [ab,if_pos (.inl hl)];rfl
end
end Go.Gv
end
noncomputable section
namespace Go.Gv
def QE(t:Table)(w:Int)(p:aB×aG):Table:={t with aB:=p.1,aP:=t.aP.set w.toNat p.2}
noncomputable section
variable {t:Table} {w:Int} (h3:t.aP.length=3) (h2:t.cH.length=2) (hb:yJ t.aB) (hw:0<=w/\w<=2) (hj:JB (cM t w))
include h3 h2 hb hw hj
theorem aTY:pC t w=some (QE t w (aGV t.aB w (cM t w))):=by
 unfold pC aGV QE
 rw [xL h3 hw,aH,V9 hb hw,aH]
 generalize cM t w=j at *
 generalize BU t.aB w j.Sub=r
 cases hd:r.2.dS
 ·rfl
 ·simp only [hd,jH,bG,if_false,reduceCtorEq]
  by_cases p0:j.Pc=0
  ·grind
  ·have e:(j.Pc == 0)=false:=by grind
   simp only [e,bG,if_false,if_neg p0]
   by_cases p20:j.Pc=20
   ·have e:(j.Pc == 20)=true:=by grind
    simp only [e,if_true,if_pos p20];rfl
   grind
theorem aPM:tR t w=some (QE t w (aI5 t.aB w (cM t w))):=by
 obtain⟨s1,s2,s3,s4,s5⟩:=QD h3 h2 hb hw hj
 have hjob:=xL h3 hw
 have hk:=hj.k
 have hn:=hj.new.1
 unfold tR aI5 QE
 rw [hjob,aH,UJ s2,aH]
 generalize hjj:cM t w=j at *
 have set2:∀x y:aG,(t.aP.set w.toNat x).set w.toNat y=t.aP.set w.toNat y:=fun x y=>aDQ ..
 have iset:∀x:aG,idx (t.aP.set w.toNat x) w=some x:=fun x=>UU ⟨hw.1,by omega⟩
 unfold uY
 by_cases hp:DU j.aL j.aL.length<=j.K
 ·grind
 ·rw [fC hp,if_neg (by simp),if_neg hp,hjob,aH,V9 hb hw,aH]
  generalize BU t.aB w j.Sub=r
  cases hd:r.2.dS
  ·rfl
  ·have ab:fK w true {t with aB:=r.1,aP:=t.aP.set w.toNat {j with Sub:=r.2}}=some {t with aB:=r.1,aP:=t.aP.set w.toNat (SQ {j with Sub:=r.2} r.2.Code)}:=by
    simp_all [fK,bZ,SQ]
   have go:j.fQ.length < 6->fK w false {t with aB:=r.1,aP:=t.aP.set w.toNat {j with Sub:=r.2}}=some {t with aB:=r.1,aP:=t.aP.set w.toNat {j with fQ:=j.fQ ++ [r.2.Out],K:=j.K+1,Sub:=aLH 1 16}}:=fun h6=>by
    simp only [fK,bG,if_false,iset,aH,set2,uX,jU,uW]
    rw [aK (by simp;omega),aM (by omega) (by omega)];rfl
   simp only [hd,jH,bG,if_false,reduceCtorEq]
   by_cases hc:r.2.Code=0
   ·have e:(r.2.Code != 0)=false:=by grind
    simp only [e,bG,if_false,iA,aH]
    grind
   grind
theorem aTZ:nN t w=some (aJA t w (aLK t.cH w (cM t w))):=by
 have hjob:=xL h3 hw
 have hk:=hj.k
 have hr:=hj.reads.1
 unfold nN pI aLK aJA
 rw [hjob,aH,aH]
 generalize hjj:cM t w=j at *
 by_cases hp:(j.Reads.length:Int)<=j.K
 ·grind
 ·have hi:j.K.toNat < j.Reads.length:=by omega
  have er:rdN j=j.Reads[j.K.toNat]:=by grind [rdN]
  have hbk:=hr j.Reads[j.K.toNat] (dJ hi)
  rw [if_neg (by grind),if_neg hp,aH,gC hk.1 (by omega),aH,<-er]
  rw [<-er] at hbk
  unfold pH pG
  rw [WB h2 hbk,aH,aM (by omega) (by omega)]
  have ab:eC t w true=some {t with aP:=t.aP.set w.toNat (SQ j 7)}:=by
   simp_all [eC,bZ,SQ]
  have go:eC t w false=some {t with aP:=t.aP.set w.toNat {j with K:=j.K+1}}:=by
   simp only [eC,bG,if_false,hjob,aH]
   grind [aM]
  grind
theorem aDK{l:List Seen}(hl:l.length<=1000)(f:Seen->Bool)(g:Seen->Option Bool)(hg:∀x,g x=some (f x)):gO l g=some (l.any f):=by
 have e:g=fun x=>some (f x):=funext hg
 rw [e]
 unfold gO
 rcases WV (s:=l) (p:=f) (by omega) with ⟨j,h,h1,h2,h3⟩ | ⟨h1,h3⟩
 ·rw [h3,aH,cT (by omega)]
  congr 1
  exact(List.any_eq_true.2 ⟨l[j],dJ h,h2⟩).symm
 ·rw [h3,aH,fC (by omega)]
  congr 1
  refine(List.any_eq_false.2 fun x hx=>?_).symm
  obtain⟨i,hi,rfl⟩:=SY hx
  simp [h1 i hi]
def a1C(t:Table)(w:Int)(p:List bV×aG×Bool):Table:={t with cH:=p.1,aP:=t.aP.set w.toNat p.2.1,Log:=t.Log++if p.2.2 then [⟨2,w,(cM t w).aE,0,[],[]⟩] else []}
theorem aWH(hl:t.Log.length<=1000000):wV t w=some (a1C t w (aGR t.cH w (cM t w))):=by
 obtain⟨s1,s2,s3,s4,s5⟩:=QD h3 h2 hb hw hj
 have hjob:=xL h3 hw
 have hk:=hj.k
 have hd:=hj.held
 have hwr:=hj.wr
 unfold wV aGR a1C
 rw [hjob,aH,YL (by have:=hwr.1;omega) (fun x hx=>(hwr.2.1 x hx).1),aH]
 generalize hjj:cM t w=j at *
 have set2:∀x y:aG,(t.aP.set w.toNat x).set w.toNat y=t.aP.set w.toNat y:=fun x y=>aDQ ..
 have iset:∀x:aG,idx (t.aP.set w.toNat x) w=some x:=fun x=>UU ⟨hw.1,by omega⟩
 have hheld:j.bR.length<=2:=by
  match h:j.bR,hd with
  | [],_=>simp
  | [_],_=>simp
  | [_,_],_=>simp
  | x :: y :: z :: r, ⟨hm, hn⟩ =>
   (simp_all;omega)
 by_cases hp:j.K < (DV j.aL).length
 ·have hi:j.K.toNat < (DV j.aL).length:=by omega
  have er:jP j=(DV j.aL)[j.K.toNat]:=by grind [jP]
  have hbk:0<=jP j/\jP j<=1:=by grind [aIO,dJ]
  rw [if_pos (by grind),if_pos hp,gC hk.1 hp,aH,<-er,WB h2 hbk,aH]
  have ab:gA t w (DV j.aL) (jP j) true=some {t with aP:=t.aP.set w.toNat (SQ j 7)}:=by
   simp_all [gA,bZ,SQ]
  have en:∀x:aG,x.K=j.K->x.aE=j.aE->lS t w (DV j.aL) (jP j) (uG t.cH (jP j)) (t.aP.set w.toNat x) =
    some {t with cH:=t.cH.set (jP j).toNat {uG t.cH (jP j) with jB:=w+1},aP:=t.aP.set w.toNat (if (DV j.aL).length<=j.K+1 then {x with K:=0,Pc:=8} else {x with K:=j.K+1}),Log:=t.Log++if (DV j.aL).length<=j.K+1 then [⟨2,w,j.aE,0,[],[]⟩] else []}:=fun x hx hs=>by
   simp only [lS,lR,pE,iset,set2,aH,hx,hs]
   rw [aM (by omega) (by omega),aM (by omega) (by omega)]
   by_cases hq:((DV j.aL).length:Int)<=j.K+1
   ·rw [if_pos (by grind),aK (by simp;omega),if_pos hq,if_pos hq]
   grind
  have go:gA t w (DV j.aL) (jP j) false=some (if (uG t.cH (jP j)).fX=1000000 then {t with aP:=t.aP.set w.toNat (SQ j 3)} else
    {t with cH:=t.cH.set (jP j).toNat {uG t.cH (jP j) with jB:=w+1},aP:=t.aP.set w.toNat (if (DV j.aL).length<=j.K+1 then {aGQ j with K:=0,Pc:=8} else aGQ j),Log:=t.Log++if (DV j.aL).length<=j.K+1 then [⟨2,w,j.aE,0,[],[]⟩] else []}):=by
   unfold gA
   rw [if_neg (by simp),WB h2 hbk,aH]
   by_cases hv:(uG t.cH (jP j)).fX=1000000
   ·simp_all [bZ,SQ]
   ·have e:((uG t.cH (jP j)).fX == 1000000)=false:=by grind
    simp only [e,bG,if_false,if_neg hv,hjob,aH]
    rw [contains_eq (by grind [maxLen]),aH]
    by_cases hm:jP j∈j.bR
    ·rw [cT hm,if_neg (by simp)]
     have:=en j rfl rfl
     rw [show t.aP.set w.toNat j=t.aP by
      rw [<-hjj];unfold cM
      rw [WE,fO (show w.toNat < t.aP.length by omega)]
      simp] at this
     simp_all [aGQ]
    ·rw [fC hm,if_pos (by rfl),aK (by simp;omega)]
     unfold yE
     rw [en {j with bR:=j.bR ++ [jP j]} rfl rfl]
     unfold aGQ
     rw [if_neg hm]
  have fin:∀B:Bool,gA t w (DV j.aL) (jP j) B=some (if B=true then {t with aP:=t.aP.set w.toNat (SQ j 7)} else if (uG t.cH (jP j)).fX=1000000 then {t with aP:=t.aP.set w.toNat (SQ j 3)} else
    {t with cH:=t.cH.set (jP j).toNat {uG t.cH (jP j) with jB:=w+1},aP:=t.aP.set w.toNat (if (DV j.aL).length<=j.K+1 then {aGQ j with K:=0,Pc:=8} else aGQ j),Log:=t.Log++if (DV j.aL).length<=j.K+1 then [⟨2,w,j.aE,0,[],[]⟩] else []}):=fun B=>by
   cases B
   ·simp only [bG,if_false];exact go
   ·simp only [if_true];exact ab
  have cf:gO j.Reads (fun y0=>rG y0 (jP j) (uG t.cH (jP j)))=some (j.Reads.any fun s=>s.bV == jP j && s.fX != (uG t.cH (jP j)).fX):=
   aDK h3 h2 hb hw (by grind) (by omega) _ _ fun x=>by
    unfold rG mX
    cases x.bV == jP j <;> rfl
  by_cases hl0:(uG t.cH (jP j)).jB=0
  ·have e:((uG t.cH (jP j)).jB != 0)=false:=by grind
   simp only [e,bG,if_false]
   rw [cf,aH,fin]
   by_cases hany:(j.Reads.any fun s=>s.bV == jP j && s.fX != (uG t.cH (jP j)).fX)=true
   ·grind
   ·rw [if_neg hany,if_neg (show ¬((uG t.cH (jP j)).jB≠0\/(j.Reads.any fun s=>s.bV == jP j && s.fX != (uG t.cH (jP j)).fX)=true) from fun q=>q.elim (fun a=>a hl0) hany)]
    by_cases hv:(uG t.cH (jP j)).fX=1000000
    ·rw [if_pos hv,if_pos hv];simp
    ·rw [if_neg hv,if_neg hv]
     by_cases hq:((DV j.aL).length:Int)<=j.K+1
     ·simp only [if_pos hq];rfl
     ·simp only [if_neg hq];rfl
  grind
 ·rw [if_neg (by grind),if_neg hp]
  unfold lR pE
  rw [hjob,aH,if_pos (by simp;omega),aK (by simp;omega),aH];rfl
end
end Go.Gv
end
noncomputable section
namespace Go.Gv
def aLM(t:Table)(w:Int)(p:aB×List bV×aG):Table:={t with aB:=p.1,cH:=p.2.1,aP:=t.aP.set w.toNat p.2.2}
theorem aB2{j:aG}(hk:0<=j.K/\j.K<=100)(x:aU):mH j x=some (plF j x):=by
 unfold mH plF
 cases x.HJ
 ·rfl
 ·simp only [if_true];grind [aM]
theorem aT0{j:aG}(hk:0<=j.K):jW j=some (aGT j):=by
 unfold jW aGT
 by_cases h:j.K < j.cE.length
 ·have hi:j.K.toNat < j.cE.length:=by omega
  rw [if_pos (by grind),if_pos h,gC hk h,aH]
  simp only [jU,aH,oJ,WE,fO hi,Option.getD_some];rfl
 grind
theorem aLN{m:Mem}(hm:qF m){w:Int}(hw:0<=w/\w<=2)(x:Int):∃c,FO m w x=some (aTV m w x,c):=by
 obtain⟨hcnt,h3,h9,h1,h2,hsm,hcp,hlo,hsG,hsO⟩:=qF.facts hm
 have hbl:m.Heap.Bytes.length<=maxLen:=by grind [maxLen]
 unfold FO aTV
 rw [J5 hbl (by omega),cT hm,aH,if_neg (by simp),lD,cT hw,aH]
 unfold wX
 rw [if_neg (by simp),HD hm.1.1.1 (by omega) (by omega) (by omega),aH]
 by_cases hl:oT m x
 ·obtain⟨m',e1,e2,_,_⟩:=aGL hm hw hl
  simp_all [aBU]
 simp_all [P7]
theorem aWI{α:Type}{l:List α}{a b:Nat}(hab:a<=b)(hb:b<=l.length):((cA l a (l.drop b)).take (a+(l.length - b))).drop 0=l.take a++l.drop b:=by
 have h1:(l.take a).length=a:=by grind
 have h2:(l.drop b).length=l.length - b:=by simp
 unfold cA
 rw [NA,aDR (l:=l.drop b) (by omega),<-qR,show a+(l.length - b)=(l.take a++l.drop b).length by grind]
 grind
theorem aJB{l:List Int}(h:0 < l.length)(hl:l.length<=1000):mY l 0 1=some (l.drop 1):=by
 unfold mY
 rw [aK (by omega),if_neg (by simp),aK (by omega),aK (by omega),aK (by decide),aWI (by decide) (show Int.toNat 1<=l.length from h),aK]
 ·rfl
 ·rw [eG (by simp)]
  simp only [pS,yN,ES,Int.toNat_zero]
  omega
noncomputable section
variable {t:Table} {w:Int} (h3:t.aP.length=3) (h2:t.cH.length=2) (hb:yJ t.aB) (hw:0<=w/\w<=2) (hj:JB (cM t w))
include h3 h2 hb hw hj
theorem aT1:tT t w=some (aLM t w (aGS t.aB t.cH (cM t w))):=by
 obtain⟨s1,s2,s3,s4,s5⟩:=QD h3 h2 hb hw hj
 have hjob:=xL h3 hw
 have hk:=hj.k
 have hwr:=hj.wr
 have hol:=hj.old.1
 unfold tT vD aGS aLM
 rw [hjob,aH,aH]
 generalize hjj:cM t w=j at *
 have set2:∀x y:aG,(t.aP.set w.toNat x).set w.toNat y=t.aP.set w.toNat y:=fun x y=>aDQ ..
 have iset:∀x:aG,idx (t.aP.set w.toNat x) w=some x:=fun x=>UU ⟨hw.1,by omega⟩
 by_cases hp:(j.aL.length:Int)<=j.K
 ·grind
 ·have hi:j.K.toNat < j.aL.length:=by omega
  have er:ZB j=j.aL[j.K.toNat]:=by grind [ZB]
  have hx:=hwr.2.1 j.aL[j.K.toNat] (dJ hi)
  rw [<-er] at hx
  have hbk:0<=HE (ZB j).Key/\HE (ZB j).Key<=1:=by unfold HE;omega
  rw [if_neg (by grind),if_neg hp,aH,gC hk.1 (by omega),aH,<-er]
  unfold vC
  rw [J6,aH,WB h2 hbk,aH,hjob,aH]
  generalize ZB j=x at *
  generalize hbb:HE x.Key=bi at *
  have ex:(⟨x.Key,x.HJ,x.eH⟩:aU)=x:=rfl
  rw [ex]
  by_cases p9:j.Pc=9
  ·have e:(j.Pc == 9)=true:=by grind
   simp only [e,if_true,if_pos p9]
   by_cases hh:(uG t.cH bi).Head=0
   ·have e:((uG t.cH bi).Head == 0)=true:=by grind
    simp only [e,if_true,if_pos hh]
    grind [aB2]
   grind
  ·have e : (j.Pc == 9) = false := by grind
   simp only [e,bG,if_false,if_neg p9]
   by_cases p10:j.Pc=10
   ·have e:(j.Pc == 10)=true:=by grind
    simp only [e,if_true,if_pos p10]
    obtain⟨c,e⟩:=aEK hb.1.1 j.H
    rw [e,aH]
    simp only
    by_cases hkey:(Q7 t.aB.Mem.Heap j.H).Key=x.Key
    ·grind
    ·have e:((Q7 t.aB.Mem.Heap j.H).Key == x.Key)=false:=by grind
     simp only [e,bG,if_false,if_neg hkey,aGO,aH]
     by_cases hs:V7 (Q7 t.aB.Mem.Heap j.H)=0
     ·have e:(V7 (Q7 t.aB.Mem.Heap j.H) == 0)=true:=by grind
      simp only [e,if_true,if_pos hs]
      grind [aB2]
     simp_all [uZ]
   ·have e:(j.Pc == 10)=false:=by grind
    simp only [e,bG,if_false,if_neg p10]
    by_cases p11:j.Pc=11
    ·have e:(j.Pc == 11)=true:=by grind
     simp only [e,if_true,if_pos p11]
     have cut:∀u:Table,u.aP=t.aP->kU w x.Key x.HJ x.eH u=some {u with aP:=t.aP.set w.toNat (plF (YP j) x)}:=fun u hu=>by
      have hju:idx u.aP w=some j:=by grind
      have last:∀v:Table,∀y:aG,idx v.aP w=some y->(0<=y.K/\y.K<=100)->kT w x.Key x.HJ x.eH v=some {v with aP:=v.aP.set w.toNat (plF y x)}:=fun v y hy hyk=>by
       simp_all [kT,aB2]
      unfold kU nO vA YP
      rw [hju,aH,iA,aH]
      by_cases hh:mB j.H
      ·rw [cT hh,if_pos rfl]
       by_cases h6:j.cE.length < 6
       ·rw [cT (by omega),if_pos rfl,aH,aK (by simp;omega),last _ {j with cE:=j.cE ++ [j.H]} (by grind) (by grind),if_pos ⟨hh,h6⟩]
        grind
       grind
      grind
     by_cases hpv:j.fP=0
     ·simp_all [aGO]
     ·have e:(j.fP == 0)=false:=by grind
      simp only [e,bG,if_false,if_neg hpv,aGO,aH]
      obtain⟨c,e⟩:=aPK hb.1.1 j.fP (V7 j.Node)
      grind [vB]
    ·have e:(j.Pc == 11)=false:=by grind
     simp only [e,bG,if_false,if_neg p11]
     have hpn:0<=DU j.aL j.K:=by grind [DU]
     have hbs:t.cH.set bi.toNat (uG t.cH bi)=t.cH:=by
      grind [uG,aDP]
     unfold EE
     rw [UJ s2,aH]
     by_cases hn:(j.fQ.length:Int)<=DU j.aL j.K
     ·rw [if_pos (by grind),if_pos hn]
      simp only [bZ,aH,hbs];rfl
     ·have hi2:(DU j.aL j.K).toNat < j.fQ.length:=by omega
      have en:aI6 j=j.fQ[(DU j.aL j.K).toNat]:=by grind [aI6]
      rw [if_neg (by grind),if_neg hn,gC hpn (by omega),<-en]
      by_cases p12:j.Pc=12
      ·have e:(j.Pc == 12)=true:=by grind
       simp only [e,if_true,if_pos p12,aH]
       obtain⟨c,e⟩:=aLJ hb.1.1 (aI6 j) ⟨x.Key,x.eH,(uG t.cH bi).Head⟩
       grind [yF]
      ·have e:(j.Pc == 12)=false:=by grind
       simp only [e,bG,if_false,if_neg p12,aH]
       grind [aM]
def aNT(t:Table)(w:Int)(p:List bV×aG):Table:={t with cH:=p.1,aP:=t.aP.set w.toNat p.2}
theorem aPN(hk1:∀x∈t.cH,BkV x):rH t w=some (aNT t w (aGU t.cH (cM t w))):=by
 have hjob:=xL h3 hw
 have hd:=hj.held
 unfold rH aGU aNT
 rw [hjob,aH]
 generalize hjj:cM t w=j at *
 have hheld:j.bR.length<=2:=by
  match h:j.bR,hd with
  | [],_=>simp
  | [_],_=>simp
  | [_,_],_=>simp
  | x :: y :: z :: r, ⟨hm, hn⟩ =>
   (simp_all;omega)
 by_cases hp:0 < j.bR.length
 ·have er:RW j=j.bR[0]:=by grind [RW]
  have hbk:=hd.1 j.bR[0] (dJ hp)
  rw [<-er] at hbk
  have hbv:BkV (uG t.cH (RW j)):=by
   grind [uG]
  have hver:=hbv.2.1
  rw [if_pos (by grind),if_pos hp,show(0:Int)=((0:Nat):Int) from rfl,aT hp,aH,<-er,WB h2 hbk,aH]
  have un:∀k,jX t w k=some {t with cH:=k,aP:=t.aP.set w.toNat {j with bR:=j.bR.drop 1}}:=fun k=>by
   grind [jX,aJB]
  by_cases p14:j.Pc=14
  ·have e:(j.Pc == 14)=true:=by grind
   simp only [e,if_true,if_pos p14]
   grind [aM]
  ·have e:(j.Pc == 14)=false:=by simpa using p14
   simp only [e,bG,if_false,if_neg p14]
   rw [un]
 ·rw [if_neg (by simpa using hp),if_neg hp]
  by_cases p16:j.Pc=16
  ·have e:(j.Pc == 16)=true:=by simpa using p16
   simp only [e,if_true,if_pos p16]
  ·have e:(j.Pc == 16)=false:=by simpa using p16
   simp only [e,bG,if_false,if_neg p16]
   rw [aT0 (j:={j with Pc:=15,K:=0}) (Int.le_refl _)];rfl
theorem aLO:rI t w=some (QE t w (aI7 t.aB w (cM t w))):=by
 have hjob:=xL h3 hw
 have hk:=hj.k
 unfold rI sG aI7 QE
 rw [hjob,aH,aH]
 generalize hjj:cM t w=j at *
 by_cases hp:(j.cE.length:Int)<=j.K
 ·grind
 ·rw [if_neg (by grind),if_neg hp,aH,V9 hb hw,aH]
  generalize BU t.aB w j.Sub=r
  cases hd:r.2.dS
  ·simp
  ·simp only [hd,if_true]
   grind [aM,aT0]
theorem drop_eq:wY t w=some (QE t w (aI8 t.aB w (cM t w))):=by
 have hjob:=xL h3 hw
 have hn:=hj.new
 unfold wY aI8 QE
 rw [hjob,aH]
 generalize hjj:cM t w=j at *
 by_cases hp:j.fQ.length=0
 ·grind
 ·have hp0:0 < j.fQ.length:=by omega
  have er:j.fQ.getD 0 0=j.fQ[0]:=by grind
  have hh:=hn.2 j.fQ[0] (dJ hp0)
  rw [<-er] at hh
  rw [if_neg (by grind),if_neg hp,show(0:Int)=((0:Nat):Int) from rfl,aT hp0,aH,<-er,show((0:Nat):Int)=0 from rfl,aJB hp0 (by omega),aH,(mB.mod hh).1,N9 hb.1.2.2.1,aH]
  by_cases hl:bR t.aB.bO (j.fQ.getD 0 0 % 32)
  ·grind
  ·rw [fC hl,if_pos (by rfl),if_neg hl]
   obtain⟨c,e⟩:=aLN hb.1.1 hw (j.fQ.getD 0 0)
   rw [e];rfl
theorem aLP(hl:t.Log.length<=1000000):pK t w=some {t with aP:=t.aP.set w.toNat KC,Log:=t.Log ++ [tlE w (cM t w)]}:=by
 have hjob:=xL h3 hw
 unfold pK tlE
 rw [hjob,aH]
 generalize hjj:cM t w=j at *
 by_cases hc:j.Code=0
 ·have e:(j.Code == 0)=true:=by grind
  simp only [e,if_true,if_pos hc]
  rw [aK (by simp;omega)];rfl
 ·have e:(j.Code == 0)=false:=by grind
  simp only [e,bG,if_false,if_neg hc]
  rw [aK (by simp;omega)];rfl
end
end Go.Gv
end
noncomputable section
namespace Go.Gv
theorem aPO{b:aB}(hb:yJ b){w:Int}(hw:0<=w/\w<=2):∃c,wZ b w=some (c,{b with aJ:=(aGM b.aJ w).1}):=by
 obtain⟨r,e1,e2,_,_⟩:=aIX hb.1.2.1 hw
 rw [aEG hb.1.2.1 hw] at e1
 simp_all [wZ]
noncomputable section
variable {t:Table} {w:Int} (h3:t.aP.length=3) (h2:t.cH.length=2) (hb:yJ t.aB) (hw:0<=w/\w<=2)
include h3 h2 hb hw
theorem aWJ(hq3:t.gL.length=3)(hqv:∀q∈t.gL,q.List.length<=12/\∀b∈q.List,Q9 b)(hs:0<=t.aE/\t.aE<=1000000)(hl:t.Log.length<=1000000) :
  tJ t w=some (if (UT t w).length=0\/t.aE=1000000 then t else aLL t w ((UT t w).getD 0 ⟨false,[]⟩)):=by
 have hqi:w.toNat < t.gL.length:=by omega
 have hq:idx t.gL w=some ⟨UT t w⟩:=by
  simp_all [gC,UT]
 have hqm:(⟨UT t w⟩:aI)∈t.gL:=by
  unfold UT
  rw [WE,fO hqi]
  exact dJ _
 have hqq:=hqv _ hqm
 simp only at hqq
 unfold tJ
 rw [hq,aH]
 simp only
 by_cases h0:(UT t w).length=0
 ·simp_all [kQ]
 ·have e:(((UT t w).length:Int) == 0)=false:=by grind
  rw [if_neg (by rw [e];simp)]
  unfold kQ
  by_cases hm:t.aE=1000000
  ·grind
  ·have e:(t.aE == 1000000)=false:=by grind
   have hp0:0 < (UT t w).length:=by omega
   have er:(UT t w).getD 0 ⟨false,[]⟩=(UT t w)[0]:=by grind
   have hbv:=hqq.2 (UT t w)[0] (dJ hp0)
   rw [<-er] at hbv
   rw [if_neg (by rw [e];simp),hq,aH]
   simp only
   have i0:idx (UT t w) 0=some ((UT t w)[0]):=aT hp0
   rw [i0,aH,<-er,if_neg (fun q=>q.elim h0 hm)]
   unfold EV
   rw [aK (by omega),aH]
   generalize hbb:(UT t w).getD 0 ⟨false,[]⟩=b at *
   simp only [jU,aH]
   unfold uT
   have fin:∀x:aG,x.aE=t.aE+1->x.Batch.Collect=b.Collect->kP t w ⟨UT t w⟩ b x=some ⟨t.aB,t.cH,t.aP.set w.toNat {x with Batch:=⟨x.Batch.Collect,b.bK⟩,Reads:=[],aL:=[],eN:=[],fQ:=[],bR:=[],cE:=[]},t.gL.set w.toNat ⟨(UT t w).drop 1⟩,t.Log ++ [⟨1,w,t.aE+1,0,b.bK,[]⟩],t.aE+1⟩:=fun x hx _=>by
    unfold kP nY uS
    rw [xL h3 hw,aH,aK (by have:=hbv.2.1;simp;omega),aH,aK (by simp;omega),hx,aM (by omega) (by omega)];rfl
   have e1:aZ (t.aE+1)=t.aE+1:=aM (by omega) (by omega)
   unfold aLL HI
   cases hc:b.Collect
   ·rw [if_neg (by simp),fin _ (by omega) (by grind)]
    simp only [e1,hc,bG,if_false]
    have eb:(⟨false,b.bK⟩:Batch)=b:=by cases b;grind
    rw [eb];rfl
   ·rw [if_pos rfl]
    simp only [jU,aH]
    rw [fin _ (by omega) (by grind)]
    simp only [e1,hc,if_true]
    have eb:(⟨true,b.bK⟩:Batch)=b:=by cases b;grind
    rw [eb];rfl
end
theorem M9(t:Table)(w:Int)(p:aB×aG):OI t w ⟨p.1,t.cH,p.2,[]⟩=QE t w p:=by grind [OI,QE]
theorem aT2{t:Table}(hv:TV t)(hl:t.Log.length<=1000000){w:Int}(hw:0<=w/\w<=2):xA t w=some (M8 t w):=by
 have h3:=hv.aJQ.1
 have h2:=hv.bk.1
 have hb:=hv.base
 have hjob:=xL h3 hw
 have hjv:=hv.aJQ.2 _ (aNS h3 hw)
 unfold xA M8
 rw [hjob,aH]
 cases hbusy:(cM t w).eA
 ·simp only [LW,if_true,bG,if_false]
  rw [aWJ h3 h2 hb hw hv.todo.1 hv.todo.2 hv.ser hl];rfl
 ·have hj : JB (cM t w) := hjv.resolve_left fun e => by rw [e] at hbusy; cases hbusy
  simp only [jH,bG,if_false,if_true]
  unfold doF
  by_cases p0:(cM t w).Pc=0\/(cM t w).Pc=20\/(cM t w).Pc=21
  ·rw [if_pos p0,M9]
   have go:gY t w (cM t w) true=some (QE t w (aGV t.aB w (cM t w))):=by
    simp_all [gY,aTY]
   grind
  ·rw [if_neg p0]
   have e0:((cM t w).Pc == 0)=false:=by simp;omega
   have e20:((cM t w).Pc == 20)=false:=by simp;omega
   have e21:((cM t w).Pc == 21)=false:=by simp;omega
   simp only [e0,e20,e21,bG,if_false]
   unfold gY
   simp only [bG,if_false,dY,aH]
   by_cases p1:(cM t w).Pc=1
   ·have e:((cM t w).Pc == 1)=true:=by grind
    simp_all [QD,aTX,OI]
   ·have e : ((cM t w).Pc == 1) = false := by grind
    simp only [e,bG,if_false,if_neg p1]
    by_cases p2:2<=(cM t w).Pc/\(cM t w).Pc<=5
    ·simp_all [aWG,OI,aJA]
    ·simp only [fC p2,bG,if_false,if_neg p2]
     by_cases p6:(cM t w).Pc=6
     ·simp_all [aPM,M9]
     ·have e : ((cM t w).Pc == 6) = false := by grind
      simp only [e,bG,if_false,if_neg p6]
      by_cases p7:(cM t w).Pc=7
      ·have e:((cM t w).Pc == 7)=true:=by grind
       simp only [e,if_true,if_pos p7]
       rw [aWH h3 h2 hb hw hj hl];rfl
      ·have e : ((cM t w).Pc == 7) = false := by grind
       simp only [e,bG,if_false,if_neg p7]
       by_cases p8:(cM t w).Pc=8
       ·simp_all [aTZ,OI,aJA]
       ·have e : ((cM t w).Pc == 8) = false := by grind
        simp only [e,bG,if_false,if_neg p8]
        by_cases p9:9<=(cM t w).Pc/\(cM t w).Pc<=13
        ·simp_all [aT1,OI,aLM]
        ·simp only [fC p9,bG,if_false,if_neg p9]
         by_cases p14:(cM t w).Pc=14\/(cM t w).Pc=16
         ·rw [if_pos p14]
          have go:jE t w (cM t w) true=some (aNT t w (aGU t.cH (cM t w))):=by
           unfold jE
           rw [if_pos rfl,aPN h3 h2 hb hw hj hv.bk.2];rfl
          grind [aNT,OI]
         ·have e14:((cM t w).Pc == 14)=false:=by simp;omega
          have e16:((cM t w).Pc == 16)=false:=by simp;omega
          simp only [e14,e16,bG,if_false,if_neg p14]
          unfold jE
          simp only [bG,if_false]
          by_cases p15:(cM t w).Pc=15
          ·simp_all [aLO,M9]
          ·have e:((cM t w).Pc == 15)=false:=by grind
           simp only [e,bG,if_false,if_neg p15]
           by_cases p17:(cM t w).Pc=17
           ·simp_all [drop_eq,M9]
           ·have e:((cM t w).Pc == 17)=false:=by grind
            simp only [e,bG,if_false,if_neg p17]
            by_cases p18:(cM t w).Pc=18
            ·have e:((cM t w).Pc == 18)=true:=by grind
             simp only [e,if_true,if_pos p18]
             grind [aPO,OI]
            ·have e:((cM t w).Pc == 18)=false:=by grind
             simp only [e,bG,if_false,if_neg p18]
             by_cases p19:(cM t w).Pc=19
             ·have e:((cM t w).Pc == 19)=true:=by grind
              simp only [e,if_true,if_pos p19]
              rw [aLP h3 h2 hb hw hj hl];rfl
             simp_all [OI,bZ,SQ]
end Go.Gv
end
noncomputable section
namespace Go.Gv
def aJC(o:List aU)(x:aU):List aU:=o.takeWhile (fun y=>!decide (x.Key < y.Key)) ++ [x]++o.dropWhile (fun y=>!decide (x.Key < y.Key))
theorem aEO(y:aU)(r:List aU)(x:aU):aJC (y :: r) x=if x.Key < y.Key then x :: y :: r else y :: aJC r x:=by
 grind [aJC,List.takeWhile_cons,List.dropWhile_cons]
theorem aJD(o:List aU)(x z:aU):z∈aJC o x↔z=x\/z∈o:=by
 induction o with
 | nil=>simp [aJC]
 | cons y r ih =>
  grind [aEO]
theorem aJE{o:List aU}{x:aU}(hs:o.Pairwise (fun a b=>a.Key < b.Key))(hx:∀y∈o,y.Key≠x.Key):(aJC o x).Pairwise (fun a b=>a.Key < b.Key):=by
 induction o with
 | nil=>simp [aJC]
 | cons y r ih =>
  grind [aEO,List.pairwise_cons,aJD]
theorem aT3{l:List aU}(h:WrV l){x:aU}(hx:(0<=x.Key/\x.Key<=99)/\(0<=x.eH/\x.eH<=65535))(hl:(aBI l x).length<=6):WrV (aBI l x):=by
 refine⟨hl,fun y hy=>?_,?_⟩
 ·rcases(aJD _ _ _).1 (show y∈aJC _ x from hy) with rfl | hy
  ·exact hx
  ·exact h.2.1 y (List.mem_filter.1 hy).1
 ·exact aJE (h.2.2.sublist List.filter_sublist) fun y hy=>by
   grind
theorem aT4{a b:Int}(ha:0<=a/\a<=4294967295)(hb:0<=b/\b<=65535):0<=YO a b/\YO a b<=65535:=by
 grind [YO,aM]
noncomputable section
variable {j:aG} (hj:JB j)
include hj
theorem JB.ab(c:Int):JB (SQ j c):=⟨hj.busy,hj.bat,hj.h,hj.prev,hj.bkt,hj.at_,hj.k,hj.new,hj.old,hj.reads,hj.wr,hj.held,hj.res,hj.node⟩
theorem JB.pc(p:Int):JB {j with Pc:=p}:=⟨hj.busy,hj.bat,hj.h,hj.prev,hj.bkt,hj.at_,hj.k,hj.new,hj.old,hj.reads,hj.wr,hj.held,hj.res,hj.node⟩
theorem JB.sub(s:Sub):JB {j with Sub:=s}:=⟨hj.busy,hj.bat,hj.h,hj.prev,hj.bkt,hj.at_,hj.k,hj.new,hj.old,hj.reads,hj.wr,hj.held,hj.res,hj.node⟩
theorem JB.kk{k:Int}(h:0<=k/\k<=6):JB {j with K:=k}:=⟨hj.busy,hj.bat,hj.h,hj.prev,hj.bkt,hj.at_,h,hj.new,hj.old,hj.reads,hj.wr,hj.held,hj.res,hj.node⟩
theorem JB.nd{n:bN}(h:0<=n.eH/\n.eH<=4294967295):JB {j with Node:=n}:=⟨hj.busy,hj.bat,hj.h,hj.prev,hj.bkt,hj.at_,hj.k,hj.new,hj.old,hj.reads,hj.wr,hj.held,hj.res,h⟩
theorem JB.hh{x:Int}(h:sY x):JB {j with H:=x}:=⟨hj.busy,hj.bat,h,hj.prev,hj.bkt,hj.at_,hj.k,hj.new,hj.old,hj.reads,hj.wr,hj.held,hj.res,hj.node⟩
theorem JB.pv{x:Int}(h:sY x):JB {j with fP:=x}:=⟨hj.busy,hj.bat,hj.h,h,hj.bkt,hj.at_,hj.k,hj.new,hj.old,hj.reads,hj.wr,hj.held,hj.res,hj.node⟩
theorem JB.rd2:j.Reads.length<=2:=by
 have hn:=hj.reads.2
 have hm:∀x∈j.Reads.map Seen.bV,x=0\/x=1:=fun x hx=>by
  obtain⟨s,hs,rfl⟩:=List.mem_map.1 hx
  have:=hj.reads.1 s hs;omega
 have hl:(j.Reads.map Seen.bV).length<=2:=by
  match h:j.Reads.map Seen.bV,hn,hm with
  | [],_,_=>simp
  | [_],_,_=>simp
  | [_,_],_,_=>simp
  | x :: y :: z :: r, hn, hm =>
   (simp_all;omega)
 grind
theorem JB.cmd(h:M7 j):Q8 (jO j):=by
 have ha:=hj.at_
 have hi:j.At.toNat < j.Batch.bK.length:=by grind [M7]
 unfold jO
 rw [WE,fO hi]
 exact hj.bat.2.2.1 _ (dJ hi)
theorem JB.aGP(h:M7 j)(is:Bool)(v:Int):JB (Gv.aGP j is v):=by
 have h':j.At < j.Batch.bK.length:=h
 have ha:=hj.at_;have hr:=hj.res
 exact⟨hj.busy,hj.bat,hj.h,hj.prev,hj.bkt,⟨by show 0<=j.At+1;omega,by show j.At+1<=(j.Batch.bK.length:Int);omega⟩,hj.k,hj.new,hj.old,hj.reads,hj.wr,hj.held,by show(((j.eN ++ [_]).length:Nat):Int)=j.At+1;simp;omega,hj.node⟩
theorem JB.rcw{x:aU}(hx:(0<=x.Key/\x.Key<=99)/\(0<=x.eH/\x.eH<=65535)):JB (HH j x).2:=by
 unfold HH
 split
 ·exact hj.ab 1
 ·exact⟨hj.busy,hj.bat,hj.h,hj.prev,hj.bkt,hj.at_,hj.k,hj.new,hj.old,hj.reads,aT3 hj.wr hx (by omega),hj.held,hj.res,hj.node⟩
theorem aB3(x:aU):(HH j x).2.Batch=j.Batch:=by grind [HH,SQ]
theorem JB.ans(h:M7 j){c:iD}(hc:Q8 c){v:Int}(hv:0<=v/\v<=4294967295)(is:Bool):JB (aBZ j c v is):=by
 unfold aBZ
 split
 ·have hv':0<=(if is then v else 0)/\(if is then v else 0)<=4294967295:=by omega
  generalize (if is then v else 0)=u at hv'
  unfold aTU
  have hr:=hj.rcw (x:=⟨c.Key,false,YO u c.eH⟩) ⟨hc.2.1,aT4 hv' hc.2.2.1⟩
  split
  ·refine hr.aGP ?_ _ _
   grind [M7,aB3,WA]
  ·exact hr
 ·exact hj.aGP h _ _
theorem JB.jnx:JB (aI4 j):=by
 unfold aI4
 split
 ·rename_i h
  have hc:=hj.cmd h
  have h':j.At < j.Batch.bK.length:=h
  have ha:=hj.at_;have hr:=hj.res
  split
  ·have hr':=hj.rcw (x:=⟨(jO j).Key,(jO j).Kind == 3,(jO j).eH⟩) ⟨hc.2.1,hc.2.2.1⟩
   split
   ·refine⟨hr'.busy,hr'.bat,hr'.h,hr'.prev,hr'.bkt,⟨by grind,?_⟩,hr'.k,hr'.new,hr'.old,hr'.reads,hr'.wr,hr'.held,by grind,hr'.node⟩
    grind [aB3]
   ·exact hr'
  ·split
   ·refine hj.ans h hc ?_ _
    unfold aDH
    split
    ·rename_i x hf
     have:=hj.wr.2.1 x (List.mem_of_find?_eq_some hf)
     grind
    simp
   ·exact⟨hj.busy,hj.bat,hj.h,hj.prev,by show 0<=HE _/\HE _<=1;unfold HE;rw [if_pos hc.2.1];omega,hj.at_,hj.k,hj.new,hj.old,hj.reads,hj.wr,hj.held,hj.res,hj.node⟩
 ·exact((hj.pc 6).kk (k:=0) (by omega)).sub _
theorem JB.spt(b v:Int)(hb:0<=b/\b<=1):JB {j with Reads:=(EZ j.Reads b v).1}:=by
 refine⟨hj.busy,hj.bat,hj.h,hj.prev,hj.bkt,hj.at_,hj.k,hj.new,hj.old,?_,hj.wr,hj.held,hj.res,hj.node⟩
 show(∀s∈(EZ j.Reads b v).1,0<=s.bV/\s.bV<=1)/\((EZ j.Reads b v).1.map Seen.bV).Nodup
 unfold EZ
 split
 ·exact hj.reads
 ·rename_i hf
  refine⟨fun s hs=>?_,?_⟩
  ·rcases eX.1 hs with hs | hs
   ·exact hj.reads.1 s hs
   grind
  ·rw [uI,List.nodup_append]
   refine⟨hj.reads.2,by simp,fun a ha c hc=>?_⟩
   grind
theorem JB.pl(h:j.K < j.aL.length)(x:aU):JB (plF j x):=by
 have hk:=hj.k;have hw:=hj.wr.1
 unfold plF
 split
 ·exact(hj.pc 9).kk (k:=j.K+1) (by omega)
 ·exact hj.pc 12
theorem JB.a21:JB (YP j):=by
 unfold YP
 split
 ·rename_i h
  refine⟨hj.busy,hj.bat,hj.h,hj.prev,hj.bkt,hj.at_,hj.k,hj.new,⟨by grind,fun x hx=>?_⟩,hj.reads,hj.wr,hj.held,hj.res,hj.node⟩
  rcases eX.1 hx with hx | hx
  ·exact hj.old.2 x hx
  grind
 ·exact hj
theorem JB.rtn:JB (aGT j):=by
 unfold aGT
 split
 ·exact hj.sub _
 ·exact hj
end
theorem aWK{l:List Int}(h:oZ l){a:Nat}(ha:a+4<=l.length):0<=ld l a 4/\ld l a 4<=4294967295:=by
 rw [ld4 ha]
 have b:∀k,k < l.length->0<=bt l k/\bt l k<=255:=fun k hk=>by rw [<-aK9 hk];exact h _ (dJ hk)
 grind
theorem aJF{m:Mem}(hm:qF m)(x:Int):0<=(Q7 m.Heap x).eH/\(Q7 m.Heap x).eH<=4294967295:=by
 unfold Q7
 split
 ·rename_i h
  have hr:=(V6 h.2.1 h.2.2).1
  have h1:=hm.1.1.1.1
  exact aWK hm.1.1.1.2.2.1 (by omega)
 ·show(0:Int)<=0/\(0:Int)<=4294967295;omega
theorem aT5(l:List aU)(n:Int):DU l n<=l.length:=by
 grind [DU]
theorem aWL{k:List bV}{i:Int}(h2:k.length=2)(hi:0<=i/\i<=1):uG k i∈k:=by
 grind [uG]
theorem ZC{k:List bV}(h:k.length=2/\∀x∈k,BkV x)(i:Nat){y:bV}(hy:BkV y):(k.set i y).length=2/\∀x∈k.set i y,BkV x:=
 ⟨by grind,fun x hx=>(qY hx).elim (h.2 x) fun e=>e ▸ hy⟩
theorem aZM{b:aB}(hb:yJ b){w x:Int}(hw:0<=w/\w<=2)(hx:mB x)(hn:¬bR b.bO (x % 32)):yJ {b with Mem:=aTV b.Mem w x}:=by
 unfold aTV
 by_cases hl:oT b.Mem x
 ·obtain⟨m',e1,e2,_,h⟩:=aGL hb.1.1 hw hl
  rw [aBU hb.1.1 hw hl] at e1
  injection e1 with e1
  rw [if_pos hl,e1]
  refine⟨⟨h.1,hb.1.2⟩,fun r hr=>⟨h.live (hb.2 r hr).1 ?_,(hb.2 r hr).2⟩⟩
  intro e
  exact hn ⟨r,hr,(hb.2 r hr).1.1,e⟩
 simp_all
structure TRV (r:TR):Prop where
 b:yJ r.b
 k:r.k.length=2/\∀x∈r.k,BkV x
 j:r.j=KC\/JB r.j
theorem YQ{c:Prop}[Decidable c]{a b:TR}(h1:c->TRV a)(h2:¬c->TRV b):TRV (if c then a else b):=by
 grind
theorem aZN{b:aB}{k:List bV}{w:Int}{j:aG}(hb:yJ b)(hk:k.length=2/\∀x∈k,BkV x)(hw:0<=w/\w<=2)(hj:JB j):TRV (doF b k w j):=by
 have hkk:=hj.k;have hwr:=hj.wr;have hrd:=hj.rd2;have hbs:=aWE hb hw j.Sub
 have bkv:∀{i},0<=i/\i<=1->BkV (uG k i):=fun hi=>hk.2 _ (aWL hk.1 hi)
 unfold doF
 refine YQ (fun _=>?_) fun _=>?_
 ·refine⟨hbs,hk,.inr ?_⟩
  unfold aGV
  split
  ·exact hj.sub _
  ·split
   ·exact(hj.pc 1).sub _
   ·split
    ·exact(hj.pc 21).sub _
    ·exact(hj.pc 19).sub _
 refine YQ (fun _=>?_) fun _=>?_
 ·exact⟨hb,hk,.inr hj.jnx⟩
 refine YQ (fun _=>?_) fun _=>?_
 ·refine ⟨hb, hk, .inr ?_⟩
  unfold aB0
  have hbk:=bkv hj.bkt
  split
  ·split
   ·exact hj.ab _
   ·have h1:JB {j with fX:=(uG k j.bV).fX}:=⟨hj.busy,hj.bat,hj.h,hj.prev,hj.bkt,hj.at_,hj.k,hj.new,hj.old,hj.reads,hj.wr,hj.held,hj.res,hj.node⟩
    have h2:JB {j with fX:=(uG k j.bV).fX,Found:=false}:=⟨hj.busy,hj.bat,hj.h,hj.prev,hj.bkt,hj.at_,hj.k,hj.new,hj.old,hj.reads,hj.wr,hj.held,hj.res,hj.node⟩
    exact((h2.hh hbk.1).nd (n:=aIY) (by show(0:Int)<=0/\(0:Int)<=4294967295;omega)).pc _
  ·split
   ·exact(hj.nd (aJF hb.1.1 _)).pc _
   ·split
    ·split
     ·exact hj.ab _
     ·split
      ·have h1:JB {j with Found:=j.Node.Key == (jO j).Key}:=⟨hj.busy,hj.bat,hj.h,hj.prev,hj.bkt,hj.at_,hj.k,hj.new,hj.old,hj.reads,hj.wr,hj.held,hj.res,hj.node⟩
       exact(h1.hh (V8 _)).pc _
      ·exact hj.ab _
    ·split
     ·exact hj.ab _
     ·have hs:=hj.spt j.bV j.fX hj.bkt
      split
      ·exact hs.ab _
      ·split
       ·rename_i h
        exact hs.ans h (hj.cmd h) hj.node _
       ·exact hs.ab _
 refine YQ (fun _=>?_) fun _=>?_
 ·unfold aI5
  split
  ·exact⟨hb,hk,.inr ((hj.pc 7).kk (k:=0) (by omega))⟩
  ·rename_i hp
   have:=aT5 j.aL j.aL.length
   have:=hwr.1
   refine⟨hbs,hk,.inr ?_⟩
   simp only
   split
   ·exact hj.sub _
   ·split
    ·exact(hj.sub _).ab _
    ·rename_i hq
     have q1:mB (BU b w j.Sub).2.Out:=Classical.byContradiction fun q=>hq (.inr (.inl q))
     have q2:j.fQ.length < 6:=by
      omega
     refine⟨hj.busy,hj.bat,hj.h,hj.prev,hj.bkt,hj.at_,⟨by grind,by grind⟩,⟨by grind,fun x hx=>?_⟩,hj.old,hj.reads,hj.wr,hj.held,hj.res,hj.node⟩
     rcases eX.1 hx with hx | hx
     ·exact hj.new.2 x hx
     grind
 refine YQ (fun _=>?_) fun _=>?_
 ·have ht:=aV7 j.aL
  unfold aGR
  split
  ·rename_i hp
   have hi:j.K.toNat < (DV j.aL).length:=by omega
   have er:jP j=(DV j.aL)[j.K.toNat]:=by grind [jP]
   have hbk:0<=jP j/\jP j<=1:=by grind [aIO,dJ]
   have hbv:=bkv hbk
   have hset:=ZC hk (jP j).toNat (y:={uG k (jP j) with jB:=w+1}) ⟨hbv.1,hbv.2.1,by grind⟩
   have hlh:JB (aGQ j):=by
    refine⟨hj.busy,hj.bat,hj.h,hj.prev,hj.bkt,hj.at_,⟨by show 0<=j.K+1;omega,by show j.K+1<=6;omega⟩,hj.new,hj.old,hj.reads,hj.wr,?_,hj.res,hj.node⟩
    show(∀x∈(if jP j∈j.bR then j.bR else j.bR ++ [jP j]),0<=x/\x<=1)/\(if jP j∈j.bR then j.bR else j.bR ++ [jP j]).Nodup
    split
    ·exact hj.held
    ·rename_i hm
     refine⟨fun x hx=>?_,?_⟩
     ·rcases eX.1 hx with hx | hx
      ·exact hj.held.1 x hx
      grind
     ·rw [List.nodup_append]
      exact⟨hj.held.2,by simp,fun a ha c hc e=>by grind⟩
   split
   ·exact⟨hb,hk,.inr (hj.ab _)⟩
   ·split
    ·exact⟨hb,hk,.inr (hj.ab _)⟩
    ·split
     ·exact⟨hb,hset,.inr ((hlh.pc 8).kk (k:=0) (by omega))⟩
     ·exact⟨hb,hset,.inr hlh⟩
  ·exact⟨hb,hk,.inr ((hj.pc 8).kk (k:=0) (by omega))⟩
 refine YQ (fun _=>?_) fun _=>?_
 ·refine⟨hb,hk,.inr ?_⟩
  unfold aLK
  split
  ·exact(hj.pc 9).kk (k:=0) (by omega)
  ·split
   ·exact hj.ab _
   ·exact hj.kk (k:=j.K+1) (by omega)
 refine YQ (fun _=>?_) fun _=>?_
 ·have hwl:=hwr.1
  unfold aGS
  split
  ·exact⟨hb,hk,.inr (hj.pc 14)⟩
  ·rename_i hp
   have hi:j.K.toNat < j.aL.length:=by omega
   have er:ZB j=j.aL[j.K.toNat]:=by grind [ZB]
   have hx:=hwr.2.1 j.aL[j.K.toNat] (dJ hi)
   rw [<-er] at hx
   have hbk:0<=HE (ZB j).Key/\HE (ZB j).Key<=1:=by unfold HE;omega
   have hbv:=bkv hbk
   have l0:sY 0:=.inl rfl
   split
   ·have h1:=((hj.pc 10).hh hbv.1).pv l0
    refine⟨hb,hk,.inr ?_⟩
    simp only
    split
    ·exact h1.pl (by grind) _
    ·exact h1
   ·split
    ·have h1:=hj.nd (aJF hb.1.1 j.H)
     refine⟨hb,hk,.inr ?_⟩
     simp only
     split
     ·exact h1.pc 11
     ·split
      ·exact h1.pl (by grind) _
      ·exact(h1.hh (V8 _)).pv hj.h
    ·split
     ·have h1:=hj.a21
      have hkl:(YP j).K < (YP j).aL.length:=by
       grind [YP]
      split
      ·exact⟨hb,ZC hk _ ⟨V8 _,hbv.2⟩,.inr (h1.pl hkl _)⟩
      ·exact⟨hb.mem (aTQ hb.1.1 _ _),hk,.inr (h1.pl hkl _)⟩
     ·split
      ·exact⟨hb,hk,.inr (hj.ab _)⟩
      ·rename_i hn
       have hpn:0<=DU j.aL j.K:=by grind [DU]
       have hi2:(DU j.aL j.K).toNat < j.fQ.length:=by omega
       have en:aI6 j=j.fQ[(DU j.aL j.K).toNat]:=by grind [aI6]
       have hnew:mB (aI6 j):=by rw [en];exact hj.new.2 _ (dJ hi2)
       split
       ·exact⟨hb.mem (aTP hb.1.1 _ _),hk,.inr (hj.pc 13)⟩
       ·exact⟨hb,ZC hk _ ⟨.inr hnew,hbv.2⟩,.inr ((hj.pc 9).kk (k:=j.K+1) (by omega))⟩
 refine YQ (fun _=>?_) fun _=>?_
 ·unfold aGU
  split
  ·rename_i hp
   have er:RW j=j.bR[0]:=by grind [RW]
   have hbk:=hj.held.1 j.bR[0] (dJ hp)
   rw [<-er] at hbk
   have hbv:=bkv hbk
   have hver:=hbv.2.1
   refine⟨hb,ZC hk _ ?_,.inr ⟨hj.busy,hj.bat,hj.h,hj.prev,hj.bkt,hj.at_,hj.k,hj.new,hj.old,hj.reads,hj.wr,⟨fun x hx=>hj.held.1 x (ZH hx),hj.held.2.sublist (List.drop_sublist _ _)⟩,hj.res,hj.node⟩⟩
   split
   ·refine⟨hbv.1,?_,by simp⟩
    grind
   ·exact⟨hbv.1,hbv.2.1,by simp⟩
  ·split
   ·exact⟨hb,hk,.inr (hj.pc 17)⟩
   ·exact⟨hb,hk,.inr (((hj.pc 15).kk (k:=0) (by omega)).rtn)⟩
 refine YQ (fun _=>?_) fun _=>?_
 ·have hol:=hj.old.1
  unfold aI7
  split
  ·exact⟨hb,hk,.inr (hj.pc 18)⟩
  ·refine⟨hbs,hk,.inr ?_⟩
   simp only
   split
   ·exact((hj.kk (k:=j.K+1) (by omega)).sub _).rtn
   ·exact hj.sub _
 refine YQ (fun _=>?_) fun _=>?_
 ·unfold aI8
  split
  ·exact⟨hb,hk,.inr (hj.pc 18)⟩
  ·rename_i hp
   have hp0:0 < j.fQ.length:=by omega
   have er:j.fQ.getD 0 0=j.fQ[0]:=by grind
   have hh:=hj.new.2 j.fQ[0] (dJ hp0)
   rw [<-er] at hh
   refine⟨?_,hk,.inr ⟨hj.busy,hj.bat,hj.h,hj.prev,hj.bkt,hj.at_,hj.k,⟨by show(j.fQ.drop 1).length<=6;have:=hj.new.1;simp;omega,fun x hx=>hj.new.2 x (ZH hx)⟩,hj.old,hj.reads,hj.wr,hj.held,hj.res,hj.node⟩⟩
   grind [aZM]
 refine YQ (fun _=>?_) fun _=>?_
 ·obtain⟨r,e1,e2,h1,h2⟩:=aIX hb.1.2.1 hw
  rw [aEG hb.1.2.1 hw] at e1
  injection e1 with e1
  refine⟨hb.clock (by grind) (by grind),hk,.inr (hj.pc 19)⟩
 refine YQ (fun _=>?_) fun _=>?_
 ·exact⟨hb,hk,.inl rfl⟩
 ·exact⟨hb,hk,.inr (hj.ab 1)⟩
theorem aT6{b:Batch}(hb:Q9 b)(s:Int):JB (HI b s):=
 ⟨rfl,hb,.inl rfl,.inl rfl,by simp [HI],by simp [HI],by simp [HI],by simp [HI],by simp [HI],by simp [HI],⟨by simp [HI],by simp [HI],by simp [HI]⟩,by simp [HI],by simp [HI],by show(0:Int)<=0/\(0:Int)<=4294967295;omega⟩
theorem TV.step{t:Table}(hv:TV t){w:Int}(hw:0<=w/\w<=2):TV (M8 t w):=by
 have hjv:=hv.aJQ.2 _ (aNS hv.aJQ.1 hw)
 have setj:∀{x:aG},(x=KC\/JB x)->(t.aP.set w.toNat x).length=3/\∀j∈t.aP.set w.toNat x,j=KC\/JB j:=fun hx=>
  ⟨by simpa using hv.aJQ.1,fun j hj=>(qY hj).elim (hv.aJQ.2 j) fun e=>e ▸ hx⟩
 unfold M8
 split
 ·rename_i hbusy
  have hj:JB (cM t w):=hjv.resolve_left fun e=>by rw [e] at hbusy;cases hbusy
  have h:=aZN hv.base hv.bk hw hj
  exact⟨h.b,h.k,setj h.j,hv.todo,hv.ser⟩
 ·split
  ·exact hv
  ·rename_i hq
   have hqi:w.toNat < t.gL.length:=by have:=hv.todo.1;omega
   have hqm:(⟨UT t w⟩:aI)∈t.gL:=by
    unfold UT
    rw [WE,fO hqi]
    exact dJ _
   have hqq:(UT t w).length<=12/\∀b∈UT t w,Q9 b:=hv.todo.2 _ hqm
   have hp0:0 < (UT t w).length:=by
    omega
   have er:(UT t w).getD 0 ⟨false,[]⟩=(UT t w)[0]:=by grind
   have hbv:=hqq.2 (UT t w)[0] (dJ hp0)
   rw [<-er] at hbv
   have hs:=hv.ser
   have hsn:t.aE≠1000000:=fun e=>hq (.inr e)
   unfold aLL
   refine⟨hv.base,hv.bk,setj (.inr (aT6 hbv _)),⟨by simpa using hv.todo.1,fun q hq'=>?_⟩,⟨by grind,by grind⟩⟩
   rcases qY hq' with h | h
   ·exact hv.todo.2 q h
   ·subst h
    exact⟨by grind,fun b hb=>hqq.2 b (ZH hb)⟩
end Go.Gv
end
noncomputable section
namespace Go.Gv
theorem aLQ(c:iD):MA c=some (decide (Q8 c)):=by
 unfold MA CG CF
 simp only [eI,aH]
 by_cases h1:1<=c.Kind/\c.Kind<=4
 ·by_cases h2:0<=c.Key/\c.Key<=99
  ·simp only [cT h1,cT h2,jH,bG,if_false]
   have dv:(c.Kind=2\/c.Kind=4)->decide (0<=c.eH/\c.eH<=65535)=decide (Q8 c):=fun k=>by
    rw [LX,decide_eq_true_eq,decide_eq_true_eq]
    exact⟨fun h=>⟨h1,h2,h,by omega⟩,fun h=>h.2.2.1⟩
   by_cases k2:c.Kind=2
   ·grind
   ·have e:(c.Kind == 2)=false:=by grind
    by_cases k4:c.Kind=4
    ·grind
    ·have e4:(c.Kind == 4)=false:=by grind
     simp only [e,e4,bG,if_false]
     congr 1
     rw [LX,beq_iff_eq,decide_eq_true_eq]
     constructor
     ·intro h;exact⟨h1,h2,by omega,.inr (.inr h)⟩
     ·rintro⟨_,_,_,h | h | h⟩ <;> omega
  simp_all [fC,Q8]
 ·simp only [fC h1,LW,if_true]
  grind [Q8]
theorem aLR(c:iD):MC c=some (decide (Q8 c)):=by
 have key:∀B:Bool,qI c B=some (decide ((1<=c.Kind/\c.Kind<=4)/\(0<=c.Key/\c.Key<=99)/\((B=true/\(0<=c.eH/\c.eH<=65535))\/c.eH=0))):=fun B=>by
  unfold qI m5
  simp only [dY,aH]
  grind
 unfold MC
 have fin:∀B:Bool,(B=true↔c.Kind=2\/c.Kind=4)->qI c B=some (decide (Q8 c)):=fun B hB=>by
  rw [key]
  congr 1
  rw [LX,decide_eq_true_eq,decide_eq_true_eq]
  grind [Q8]
 grind
theorem aLS{b:Batch}(hl:b.bK.length<=1000):E4 b=some (decide (Q9 b)):=by
 unfold E4
 cases hc:b.Collect
 ·rw [if_neg (by simp)]
  have hs:∀k (hk:k < b.bK.length),mD b (k:Int)=if Q8 b.bK[k] then some (.next ((k+1:Nat):Int)) else some (.stop (Out.ret false)):=fun k hk=>by
   simp only [mD]
   rw [if_pos (by simp;omega),aT hk,aH,aLQ,aH,aM (by omega) (by omega)]
   simp
  have key:loop (mD b) 0=_:=FZ (f:=mD b) b.bK (fun k=>(k:Int)) Q8 (Out.brk ()) (Out.ret false) (fun k hk hp=>by grind) (fun k hk hp=>by grind) (by simp [mD])
  rw [key]
  by_cases q:∀x∈b.bK,Q8 x
  ·rw [if_pos q]
   simp only [aH,NI,NH,eI]
   congr 1;rw [LX,decide_eq_true_eq,decide_eq_true_eq]
   exact⟨fun a=>⟨fun h=>(by grind),by omega,q,fun _=>by omega⟩,fun a=>by have:=a.2.2.2 hc;have:=a.2.1;omega⟩
  ·rw [if_neg q,fC (show ¬Q9 b from fun a=>q a.2.2.1)];rfl
 ·rw [if_pos rfl]
  congr 1;rw [LX,beq_iff_eq,decide_eq_true_eq]
  constructor
  ·intro h
   have h0:b.bK=[]:=kZ (by omega)
   exact⟨fun _=>h0,by omega,by grind,fun h=>by grind⟩
  ·intro h
   rw [h.1 hc];rfl
def BsV(l:List Batch):Prop:=∀b∈l,Q9 b
instance (l:List Batch):Decidable (BsV l):=by unfold BsV;infer_instance
theorem aLT{l:List aI}(hl:l.length<=1000)(hb:∀q∈l,∀b∈q.List,b.bK.length<=1000):E5 l=some (decide (SR l)):=by
 unfold E5
 have inner:∀k (hk:k < l.length),l[k].List.length<=12->loop (mE l (k:Int)) 0=some (if BsV l[k].List then Out.brk () else Out.ret false):=by
  intro k hk h12
  have hs:∀j (hj:j < l[k].List.length),mE l (k:Int) (j:Int)=if Q9 l[k].List[j] then some (.next ((j+1:Nat):Int)) else some (.stop (Out.ret false)):=by
   intro j hj
   simp only [mE]
   rw [aT hk,aH,if_pos (by simp;omega),aH,aT hj,aH,aLS (hb _ (dJ hk) _ (dJ hj)),aH,aM (by omega) (by omega)]
   simp
  have:=FZ (f:=mE l (k:Int)) l[k].List (fun j=>(j:Int)) Q9 (Out.brk ()) (Out.ret false) (fun j hj hp=>by grind) (fun j hj hp=>by grind) (by
   simp_all [mE,aT])
  refine Eq.trans this ?_
  congr 1
 have hs:∀k (hk:k < l.length),mF l (k:Int)=if QuV l[k] then some (.next ((k+1:Nat):Int)) else some (.stop (Out.ret false)):=by
  intro k hk
  simp only [mF]
  rw [if_pos (by simp;omega),aT hk,aH]
  by_cases h12:l[k].List.length<=12
  ·rw [if_neg (by simp;omega),inner k hk h12]
   by_cases q:BsV l[k].List
   ·rw [if_pos q,if_pos (show QuV l[k] from ⟨h12,q⟩)]
    simp only [aH,NM,NL]
    grind [aM]
   ·rw [if_neg q,if_neg (show ¬QuV l[k] from fun a=>q a.2)];rfl
  ·rw [if_pos (by simp;omega),if_neg (show ¬QuV l[k] from fun a=>h12 a.1)]
 have key:loop (mF l) 0=_:=FZ (f:=mF l) l (fun k=>(k:Int)) QuV (Out.brk ()) (Out.ret false) (fun k hk hp=>by grind) (fun k hk hp=>by grind) (by simp [mF])
 rw [key]
 by_cases q:∀x∈l,QuV x
 ·rw [if_pos q]
  simp only [aH,NN,NJ]
  congr 1;rw [LX];simp only [beq_iff_eq,decide_eq_true_eq]
  exact⟨fun a=>⟨by omega,q⟩,fun a=>by have:=a.1;omega⟩
 ·rw [if_neg q,fC (show ¬SR l from fun a=>q a.2)];rfl
theorem WC{α:Type}{l:List α}{f:Int->Option (Step Int (Out Unit Int))}{p:α->Bool}{m:(Out Unit Int)->Option Int}(hl:l.length<=4611686018427387904)
  (hf:∀k:Nat,f (k:Int)=if h:k < l.length then (if p l[k] then some (.stop (Out.ret (k:Int))) else some (.next ((k+1:Nat):Int))) else some (.stop (Out.brk ()))) (m1:∀r,m (.ret r)=some r) (m2:m (.brk ())=some (-1)) :
  ((loop f 0).bind m).bind (fun x1=>some (decide (0<=x1)))=some (l.any p):=by
 rcases LM (f:=f) (p:=p) hl hf l.length 0 (by omega) with ⟨j,h,_,h2,h3,h4⟩ | ⟨h1,h2⟩
 ·rw [show(0:Int)=((0:Nat):Int) from rfl,h4,aH,m1,aH,cT (by omega)]
  grind
 ·rw [show(0:Int)=((0:Nat):Int) from rfl,h2,aH,m2,aH,fC (by omega)]
  congr 1
  refine(List.any_eq_false.2 fun x hx=>?_).symm
  obtain⟨i,hi,rfl⟩:=SY hx
  grind
theorem aGW{l:List iD}(hl:l.length<=1000){f:iD->Bool}{g:iD->Option Bool}(hg:∀x∈l,g x=some (f x)):nX l g=some (l.any f):=
 WC (f:=nW l g) (m:=yU) (by omega) (fun k=>by
  simp only [nW]
  by_cases h:k < l.length
  ·rw [dif_pos h,if_pos (by simp;omega),aT h,aH,hg _ (dJ h),aH,aM (by omega) (by omega)];rfl
  grind) (fun _=>rfl) rfl
theorem aB4{l:List Batch}(hl:l.length<=1000){f:Batch->Bool}{g:Batch->Option Bool}(hg:∀x∈l,g x=some (f x)):l8 l g=some (l.any f):=
 WC (f:=l7 l g) (m:=uJ) (by omega) (fun k=>by
  simp only [l7]
  by_cases h:k < l.length
  ·rw [dif_pos h,if_pos (by simp;omega),aT h,aH,hg _ (dJ h),aH,aM (by omega) (by omega)];rfl
  grind) (fun _=>rfl) rfl
theorem YR{l:List aI}(hl:l.length<=1000){f:aI->Bool}{g:aI->Option Bool}(hg:∀x∈l,g x=some (f x)):lM l g=some (l.any f):=
 WC (f:=lL l g) (m:=rU) (by omega) (fun k=>by
  simp only [lL]
  by_cases h:k < l.length
  ·rw [dif_pos h,if_pos (by simp;omega),aT h,aH,hg _ (dJ h),aH,aM (by omega) (by omega)];rfl
  grind) (fun _=>rfl) rfl
theorem aGX{α:Type}{l:List α}{P:α->Prop}[DecidablePred P]:(!(l.any fun x=>!decide (P x)))=decide (∀x∈l,P x):=by
 grind
theorem aLU{b:Batch}(hl:b.bK.length<=1000):E8 b=some (decide (Q9 b)):=by
 unfold E8
 cases hc:b.Collect
 ·rw [if_neg (by simp),dY,aH]
  by_cases h:1<=(b.bK.length:Int)/\(b.bK.length:Int)<=6
  ·rw [cT h,if_pos rfl,aGW hl (f:=fun x=>!decide (Q8 x)) (fun x _=>by grind [GG,aLR]),aH,aGX]
   unfold pU
   congr 1;rw [LX,decide_eq_true_eq,decide_eq_true_eq]
   exact⟨fun a=>⟨fun h=>(by grind),by omega,a,fun _=>by omega⟩,fun a=>a.2.2.1⟩
  ·rw [fC h,if_neg (by simp)]
   grind [pU,Q9]
 ·rw [if_pos rfl]
  congr 1;rw [LX,beq_iff_eq,decide_eq_true_eq]
  constructor
  ·intro h
   have h0:b.bK=[]:=kZ (by omega)
   exact⟨fun _=>h0,by omega,by grind,fun h=>by grind⟩
  ·intro h
   rw [h.1 hc];rfl
theorem aLV{l:List aI}(hl:l.length<=1000)(hq:∀q∈l,q.List.length<=1000)(hb:∀q∈l,∀b∈q.List,b.bK.length<=1000):E9 l=some (decide (SR l)):=by
 have e1:∀q∈l,zO q=some (!decide (QuV q)):=fun q hm=>by
  unfold zO rD
  by_cases h:q.List.length<=12
  ·rw [if_neg (by simp;omega),aB4 (hq q hm) (f:=fun x=>!decide (Q9 x)) (fun x hx=>by grind [BX,aLU]),aH]
   congr 1
   rw [<-Bool.not_not ((q.List.any fun x=>!decide (Q9 x))),aGX]
   congr 1
   rw [LX,decide_eq_true_eq,decide_eq_true_eq]
   exact⟨fun a=>⟨h,a⟩,fun a=>a.2⟩
  ·rw [if_pos (by simp;omega),fC (show ¬QuV q from fun a=>h a.1)];rfl
 unfold E9 wH
 by_cases h:l.length=3
 ·rw [if_pos (by simp;omega),YR hl e1,aH,aGX]
  congr 1;rw [LX,decide_eq_true_eq,decide_eq_true_eq]
  exact⟨fun a=>⟨h,a⟩,fun a=>a.2⟩
 ·rw [if_neg (by simp;omega),fC (show ¬SR l from fun a=>h a.1)]
theorem aNU{b:Batch}(h:b.bK.length<=1000):CH b=some b/\zP b=some b:=by
 unfold CH zP MB nY
 rw [aK (by simp;omega)]
 simp
theorem aJG{l:List aI}(hl:l.length<=1000)(hq:∀q∈l,q.List.length<=1000)(hb:∀q∈l,∀b∈q.List,b.bK.length<=1000):zL l=some l/\zT l=some l:=by
 constructor
 ·unfold zL
  rw [aBK l]
  ·rfl
  ·intro k hk
   have h1:=hq _ (dJ hk)
   simp only [zK]
   rw [if_pos (by simp;omega),QV l[k].List]
   ·simp only [aH,IG,IF]
    rw [aK (by simp;omega),aM (by omega) (by omega)];rfl
   ·intro i hi
    simp only [zJ,zI]
    rw [aT hk,aH,if_pos (by simp;omega),aH,aT hi,aH,(aNU (hb _ (dJ hk) _ (dJ hi))).1,aH,aK (by simp;omega),aM (by omega) (by omega)];rfl
   simp_all [zJ,aT]
  grind [zK]
 ·unfold zT
  rw [aBK l]
  ·rfl
  ·intro k hk
   have h1:=hq _ (dJ hk)
   simp only [zS]
   rw [if_pos (by simp;omega),aT hk,aH,QV l[k].List]
   ·simp only [aH,IJ,II]
    rw [aK (by simp;omega),aM (by omega) (by omega)];rfl
   ·intro i hi
    simp only [zR,zQ]
    rw [if_pos (by simp;omega),aT hi,aH,(aNU (hb _ (dJ hk) _ (dJ hi))).2,aH,aK (by simp;omega),aM (by omega) (by omega)];rfl
   grind [zR]
  grind [zS]
def aNV:Table:=⟨⟨⟨⟨[],[]⟩,⟨[],[]⟩⟩,⟨0,[]⟩,[],[]⟩,[],[],[],[],0⟩
def CA(t:List aI):Table:=⟨aNR,List.replicate 2 ⟨0,0,0⟩,List.replicate 3 KC,t,[],0⟩
theorem WZ{t:List aI}(hl:t.length<=1000)(hq:∀q∈t,q.List.length<=1000)(hb:∀q∈t,∀b∈q.List,b.bK.length<=1000):CI t=some (if SR t then CA t else aNV)/\CJ t=some (if SR t then CA t else aNV):=by
 unfold CI CJ
 rw [aLT hl hb,aLV hl hq hb]
 simp only [aH]
 by_cases h:SR t
 ·simp only [cT h,jH,bG,if_false,if_pos h,aBY.1,aBY.2,aH,(aJG hl hq hb).1,(aJG hl hq hb).2]
  rw [aK (by omega),aK (by omega)]
  exact⟨rfl,rfl⟩
 ·simp only [fC h,LW,if_true,if_neg h]
  exact⟨rfl,rfl⟩
theorem aEP{t:List aI}(h:SR t):TV (CA t):=
 ⟨aTS,⟨rfl,fun x hx=>by simp [CA] at hx;subst hx;exact⟨.inl rfl,by simp,by simp⟩⟩,⟨rfl,fun j hj=>by grind [CA]⟩,h,by show(0:Int)<=0/\(0:Int)<=1000000;omega⟩
def UW(t:Table)(p:Int):Table:=if 0<=p/\p<=2 then M8 t p else t
def aEQ(t:Table)(l:List Int):Table:=l.foldl UW t
theorem rO{P:TR->Prop}{c:Prop}[Decidable c]{a b:TR}(h1:c->P a)(h2:¬c->P b):P (if c then a else b):=by
 grind
theorem aWM(b:aB)(k:List bV)(w:Int)(j:aG):(doF b k w j).l.length<=1:=by
 unfold doF
 refine rO (P:=fun r=>r.l.length<=1) (fun _=>gR _) fun _=>rO (P:=fun r=>r.l.length<=1) (fun _=>gR _) fun _=>rO (P:=fun r=>r.l.length<=1) (fun _=>gR _) fun _=>rO (P:=fun r=>r.l.length<=1) (fun _=>gR _) fun _=>rO (P:=fun r=>r.l.length<=1) (fun _=>?_) fun _=>rO (P:=fun r=>r.l.length<=1) (fun _=>gR _) fun _=>rO (P:=fun r=>r.l.length<=1) (fun _=>gR _) fun _=>rO (P:=fun r=>r.l.length<=1) (fun _=>gR _) fun _=>rO (P:=fun r=>r.l.length<=1) (fun _=>gR _) fun _=>rO (P:=fun r=>r.l.length<=1) (fun _=>gR _) fun _=>rO (P:=fun r=>r.l.length<=1) (fun _=>gR _) fun _=>rO (P:=fun r=>r.l.length<=1) (fun _=>iC _) fun _=>gR _
 grind
theorem aER(t:Table)(p:Int):(UW t p).Log.length<=t.Log.length+1:=by
 unfold UW M8
 split
 ·split
  ·have:=aWM t.aB t.cH p (cM t p)
   show(t.Log++_).length<=_
   grind
  ·split
   ·omega
   ·show(t.Log++_).length<=_
    simp
 ·omega
theorem aJH{t:Table}(h:TV t)(p:Int):TV (UW t p):=by
 unfold UW
 split
 ·exact h.step (by assumption)
 ·exact h
theorem aB5{P:Table->Prop}(hs:∀t w,TV t->(0<=w/\w<=2)->P t->P (M8 t w)):∀(l:List Int) {t:Table},TV t->P t->TV (aEQ t l)/\P (aEQ t l)
 | [],t,h,hp=>⟨h,hp⟩
 | p :: l,t,h,hp=>aB5 hs l (aJH h p) (by grind [UW])
theorem aES{x:tI}{n:Nat}(hn:((x.iI.take ((if 400 < (x.iI.length:Int) then 400 else (x.iI.length:Int)).toNat)).drop 0)=x.iI.take n)(h400:(x.iI.take n).length<=400):∀(d k:Nat) (t:Table),k+d=(x.iI.take n).length->TV t->t.Log.length<=k->loop (mZ x) ((k:Int),t)=some (aEQ t ((x.iI.take n).drop k))
 | 0, k, t, hk, hv, hl => by
  rw [List.drop_of_length_le (by omega)]
  refine bI ?_
  simp only [mZ,hn]
  rw [if_neg (by grind)];rfl
 | d + 1, k, t, hk, hv, hl => by
  have hkl:k < (x.iI.take n).length:=by omega
  have st:mZ x ((k:Int),t)=some (.next (((k+1:Nat):Int),UW t (x.iI.take n)[k])):=by
   simp only [mZ,hn]
   rw [if_pos (by grind),aT hkl,aH,lD,aH]
   unfold rJ UW
   rw [aM (by omega) (by omega)]
   by_cases hp:0<=(x.iI.take n)[k]/\(x.iI.take n)[k]<=2
   ·rw [cT hp,if_pos rfl,aT2 hv (by omega) hp,if_pos hp];rfl
   grind
  rw [bL st,aES hn h400 d (k+1) _ (by omega) (aJH hv _) (by grind [aER]),HW hkl];rfl
theorem aGY{x:tI}(hl:x.gL.length<=1000)(hq:∀q∈x.gL,q.List.length<=1000)(hb:∀q∈x.gL,∀b∈q.List,b.bK.length<=1000)(ht:SR x.gL):AS x=some (aEQ (CA x.gL) (x.iI.take 400)):=by
 unfold AS
 rw [(WZ hl hq hb).2,if_pos ht,aH,if_neg (by simp [CA])]
 have hn:((x.iI.take ((if 400 < (x.iI.length:Int) then 400 else (x.iI.length:Int)).toNat)).drop 0)=x.iI.take 400:=by
  (simp_all;omega)
 rw [aK (by omega),show(0:Int)=((0:Nat):Int) from rfl,aES hn (by grind) (x.iI.take 400).length 0 _ (by omega) (aEP ht) (by simp [CA]),aH]
 rfl
end Go.Gv
end
noncomputable section
namespace Go.Gv
def aB6(l:List jS):Prop:=∀A e B,l=A++e :: B->e.Kind=2->(∃c∈A,c.Kind=1/\c.aE=e.aE)/\∀x∈A,x.Kind=3->x.aE≠e.aE
theorem aB6.nil:aB6 []:=fun A e B h=>by simp_all
theorem aLW{α:Type}{l A B:List α}{x e:α}(h:l ++ [x]=A++e :: B):(l=A/\x=e/\B=[])\/∃B',B=B' ++ [x]/\l=A++e :: B':=by
 rcases ZF B with rfl | ⟨B',y,hB⟩
 ·have:=List.append_inj' h rfl
  simp at this
  exact .inl ⟨this.1,this.2,rfl⟩
 ·rw [ZE] at hB
  subst hB
  rw [<-ON,<-qR] at h
  have:=List.append_inj' h rfl
  simp at this
  exact .inr ⟨B',by rw [this.2],this.1⟩
theorem aB6.app{l:List jS}(h:aB6 l){x:jS}(hx:x.Kind=2->(∃c∈l,c.Kind=1/\c.aE=x.aE)/\∀y∈l,y.Kind=3->y.aE≠x.aE):aB6 (l ++ [x]):=fun A e B he hk=>by
 rcases aLW he with ⟨rfl,rfl,_⟩ | ⟨B',_,h2⟩
 ·exact hx hk
 ·exact h A e B' h2 hk
structure JL (l:List jS) (s:Int):Prop where
 call:∃c∈l,c.Kind=1/\c.aE=s
 tell:∀x∈l,x.Kind=3->x.aE≠s
structure aLX (t:Table):Prop where
 le:∀e∈t.Log,e.aE<=t.aE
 jle:∀w,0<=w/\w<=2->(cM t w).eA=true->(cM t w).aE<=t.aE
 job:∀w,0<=w/\w<=2->(cM t w).eA=true->JL t.Log (cM t w).aE
 ne:∀v w,0<=v/\v<=2->0<=w/\w<=2->v≠w->(cM t v).eA=true->(cM t w).eA=true->(cM t v).aE≠(cM t w).aE
 pt:aB6 t.Log
theorem aNW(j:aG)(x:aU):(HH j x).2.aE=j.aE/\(HH j x).2.eA=j.eA:=by grind [HH,SQ]
theorem aNX(j:aG)(c:iD)(v:Int)(is:Bool):(aBZ j c v is).aE=j.aE/\(aBZ j c v is).eA=j.eA:=by
 unfold aBZ
 split
 ·generalize (if is then v else 0)=u
  unfold aTU
  have h:=aNW j ⟨c.Key,false,YO u c.eH⟩
  split
  ·exact h
  ·exact h
 ·exact⟨rfl,rfl⟩
theorem aNY(j:aG):(aI4 j).aE=j.aE/\(aI4 j).eA=j.eA:=by
 grind [aI4,aNW,aNX]
theorem aJI(b:aB)(k:List bV)(w:Int)(j:aG):(aB0 b k w j).aE=j.aE/\(aB0 b k w j).eA=j.eA:=by
 unfold aB0
 split
 ·split <;> exact⟨rfl,rfl⟩
 ·split
  ·simp
  ·split
   ·split
    ·exact⟨rfl,rfl⟩
    ·split <;> exact⟨rfl,rfl⟩
   ·split
    ·exact⟨rfl,rfl⟩
    ·split
     ·exact⟨rfl,rfl⟩
     ·split
      ·grind [aNX]
      ·exact⟨rfl,rfl⟩
theorem aNZ(b:aB)(w:Int)(j:aG):(aI5 b w j).2.aE=j.aE/\(aI5 b w j).2.eA=j.eA:=by
 unfold aI5
 split
 ·simp
 ·simp only
  split
  ·simp
  ·split <;> exact⟨rfl,rfl⟩
theorem aN0(k:List bV)(w:Int)(j:aG):(aGR k w j).2.1.aE=j.aE/\(aGR k w j).2.1.eA=j.eA:=by
 unfold aGR
 split
 ·split
  ·exact⟨rfl,rfl⟩
  ·split
   ·exact⟨rfl,rfl⟩
   ·split <;> exact⟨rfl,rfl⟩
 simp
theorem aN1(k:List bV)(w:Int)(j:aG):(aLK k w j).aE=j.aE/\(aLK k w j).eA=j.eA:=by
 unfold aLK
 split
 ·simp
 ·split <;> exact⟨rfl,rfl⟩
theorem aLY(j:aG)(x:aU):(plF j x).aE=j.aE/\(plF j x).eA=j.eA:=by grind [plF]
theorem aWN(j:aG):(YP j).aE=j.aE/\(YP j).eA=j.eA:=by grind [YP]
theorem aN2(b:aB)(k:List bV)(j:aG):(aGS b k j).2.2.aE=j.aE/\(aGS b k j).2.2.eA=j.eA:=by
 unfold aGS
 split
 ·simp
 ·split
  ·grind [aLY]
  ·split
   ·grind [aLY]
   ·split
    ·grind [aLY,aWN]
    ·split
     ·exact⟨rfl,rfl⟩
     grind
theorem aN3(j:aG):(aGT j).aE=j.aE/\(aGT j).eA=j.eA:=by grind [aGT]
theorem aN4(k:List bV)(j:aG):(aGU k j).2.aE=j.aE/\(aGU k j).2.eA=j.eA:=by
 grind [aGU,aN3]
theorem aN5(b:aB)(w:Int)(j:aG):(aI7 b w j).2.aE=j.aE/\(aI7 b w j).2.eA=j.eA:=by
 grind [aI7,aN3]
theorem aN6(b:aB)(w:Int)(j:aG):(aI8 b w j).2.aE=j.aE/\(aI8 b w j).2.eA=j.eA:=by grind [aI8]
theorem aN7(b:aB)(w:Int)(j:aG):(aGV b w j).2.aE=j.aE/\(aGV b w j).2.eA=j.eA:=by
 grind [aGV]
def LV(w:Int)(j:aG)(r:TR):Prop:=
 (r.j.aE=j.aE/\r.j.eA=j.eA/\(r.l=[]\/r.l=[⟨2,w,j.aE,0,[],[]⟩]))\/(r.j=KC/\r.l=[tlE w j])
theorem aT7(b:aB)(k:List bV)(w:Int)(j:aG):LV w j (doF b k w j):=by
 unfold doF
 refine rO (P:=LV w j) (fun _=>.inl ⟨(aN7 b w j).1,(aN7 b w j).2,.inl rfl⟩) fun _=>rO (P:=LV w j) (fun _=>.inl ⟨(aNY j).1,(aNY j).2,.inl rfl⟩) fun _=>
  rO (P:=LV w j) (fun _=>.inl ⟨(aJI b k w j).1,(aJI b k w j).2,.inl rfl⟩) fun _=>rO (P:=LV w j) (fun _=>.inl ⟨(aNZ b w j).1,(aNZ b w j).2,.inl rfl⟩) fun _=>
  rO (P:=LV w j) (fun _=>.inl ⟨(aN0 k w j).1,(aN0 k w j).2,?_⟩) fun _=>rO (P:=LV w j) (fun _=>.inl ⟨(aN1 k w j).1,(aN1 k w j).2,.inl rfl⟩) fun _=>
  rO (P:=LV w j) (fun _=>.inl ⟨(aN2 b k j).1,(aN2 b k j).2,.inl rfl⟩) fun _=>rO (P:=LV w j) (fun _=>.inl ⟨(aN4 k j).1,(aN4 k j).2,.inl rfl⟩) fun _=>
  rO (P:=LV w j) (fun _=>.inl ⟨(aN5 b w j).1,(aN5 b w j).2,.inl rfl⟩) fun _=>rO (P:=LV w j) (fun _=>.inl ⟨(aN6 b w j).1,(aN6 b w j).2,.inl rfl⟩) fun _=>
  rO (P:=LV w j) (fun _=>.inl ⟨rfl,rfl,.inl rfl⟩) fun _=>rO (P:=LV w j) (fun _=>.inr ⟨rfl,rfl⟩) fun _=>.inl ⟨rfl,rfl,.inl rfl⟩
 simp
theorem aWO{t:Table}{l:List aG}{w v:Int}{x:aG}(h3:t.aP.length=3)(hl:l=t.aP.set w.toNat x)(hw:0<=w/\w<=2)(hv:0<=v/\v<=2):l.getD v.toNat KC=if v=w then x else cM t v:=by
 subst hl
 unfold cM
 grind
theorem aLX.step{t:Table}(hv:TV t){w:Int}(hw:0<=w/\w<=2)(h:aLX t):aLX (M8 t w):=by
 have h3:=hv.aJQ.1
 unfold M8
 split
 ·rename_i hb
  have hJ:=h.job w hw hb
  have hS:=h.jle w hw hb
  rcases aT7 t.aB t.cH w (cM t w) with ⟨s1,s2,hl⟩ | ⟨s1,hl⟩
  ·
   have hjob:∀v,0<=v/\v<=2->(cM (OI t w (doF t.aB t.cH w (cM t w))) v).aE=(cM t v).aE/\(cM (OI t w (doF t.aB t.cH w (cM t w))) v).eA=(cM t v).eA:=fun v hv'=>by
    grind [cM,OI]
   have hnot:∀x∈(doF t.aB t.cH w (cM t w)).l,x.Kind=2/\x.aE=(cM t w).aE:=fun x hx=>by
    grind
   have keepJ:∀s,JL t.Log s->JL (t.Log++(doF t.aB t.cH w (cM t w)).l) s:=fun s ⟨⟨c,hc,h1⟩,h2⟩=>⟨⟨c,NB _ hc,h1⟩,fun x hx hk=>by
    grind⟩
   refine⟨fun e he=>?_,fun v hv' hb'=>?_,fun v hv' hb'=>?_,fun v u hv' hu hne hb1 hb2=>?_,?_⟩
   ·rcases eX.1 he with he | he
    ·exact h.le e he
    ·rw [(hnot e he).2];exact hS
   ·rw [(hjob v hv').1];exact h.jle v hv' (by grind)
   ·rw [(hjob v hv').1];exact keepJ _ (h.job v hv' (by grind))
   ·rw [(hjob v hv').1,(hjob u hu).1];exact h.ne v u hv' hu hne (by grind) (by grind)
   ·show aB6 (t.Log++_)
    rcases hl with hl | hl
    ·rw [hl,uH];exact h.pt
    ·rw [hl];exact h.pt.app fun _=>⟨hJ.call,hJ.tell⟩
  ·
   have hjob:∀v,0<=v/\v<=2->v≠w->cM (OI t w (doF t.aB t.cH w (cM t w))) v=cM t v:=fun v hv' hne=>by
    unfold cM OI
    grind
   have hidle:(cM (OI t w (doF t.aB t.cH w (cM t w))) w).eA=false:=by
    have e:cM (OI t w (doF t.aB t.cH w (cM t w))) w=(doF t.aB t.cH w (cM t w)).j:=(aWO h3 rfl hw hw).trans (if_pos rfl)
    rw [e,s1];rfl
   have hne':∀v,(cM (OI t w (doF t.aB t.cH w (cM t w))) v).eA=true->v≠w:=fun v hb' e=>by grind
   refine⟨fun e he=>?_,fun v hv' hb'=>?_,fun v hv' hb'=>?_,fun v u hv' hu hne hb1 hb2=>?_,?_⟩
   ·rcases eX.1 he with he | he
    ·exact h.le e he
    ·rw [hl,ZI] at he;rw [he];exact hS
   ·have hn:=hne' v hb'
    rw [hjob v hv' hn] at hb' ⊢
    exact h.jle v hv' hb'
   ·have hn:=hne' v hb'
    rw [hjob v hv' hn] at hb' ⊢
    obtain⟨⟨c,hc,h1⟩,h2⟩:=h.job v hv' hb'
    refine⟨⟨c,NB _ hc,h1⟩,fun x hx hk=>?_⟩
    rcases eX.1 hx with hx | hx
    ·grind
    ·rw [hl,ZI] at hx
     rw [hx]
     exact h.ne w v hw hv' (fun e=>hn e.symm) hb hb'
   ·have hn1:=hne' v hb1
    have hn2:=hne' u hb2
    rw [hjob v hv' hn1] at hb1 ⊢
    rw [hjob u hu hn2] at hb2 ⊢
    exact h.ne v u hv' hu hne hb1 hb2
   ·show aB6 (t.Log++_)
    rw [hl];exact h.pt.app fun q=>by simp [tlE] at q
 ·split
  ·exact h
  ·rename_i hb hq
   have hfresh:∀e∈t.Log,e.aE≠t.aE+1:=fun e he q=>by have:=h.le e he;omega
   generalize (UT t w).getD 0 ⟨false,[]⟩=b
   have hjob:∀v,0<=v/\v<=2->cM (aLL t w b) v=if v=w then HI b (t.aE+1) else cM t v:=fun v hv'=>by
    grind [cM,aLL]
   have hser:(aLL t w b).aE=t.aE+1:=rfl
   refine⟨fun e he=>?_,fun v hv' hb'=>?_,fun v hv' hb'=>?_,fun v u hv' hu hne hb1 hb2=>?_,?_⟩
   ·rw [hser]
    rcases eX.1 he with he | he
    ·have:=h.le e he;omega
    grind
   ·rw [hjob v hv'] at hb' ⊢
    rw [hser]
    split
    ·exact Int.le_refl _
    ·rename_i e
     rw [if_neg e] at hb'
     have:=h.jle v hv' hb';omega
   ·rw [hjob v hv'] at hb' ⊢
    split
    ·refine⟨⟨_,List.mem_append_right _ (ZI.2 rfl),rfl,rfl⟩,fun x hx hk=>?_⟩
     rcases eX.1 hx with hx | hx
     ·exact hfresh x hx
     ·rw [ZI] at hx;rw [hx] at hk;cases hk
    ·rename_i e
     rw [if_neg e] at hb'
     obtain⟨⟨c,hc,h1⟩,h2⟩:=h.job v hv' hb'
     refine⟨⟨c,NB _ hc,h1⟩,fun x hx hk=>?_⟩
     rcases eX.1 hx with hx | hx
     ·exact h2 x hx hk
     ·rw [ZI] at hx;rw [hx] at hk;cases hk
   ·rw [hjob v hv'] at hb1 ⊢
    rw [hjob u hu] at hb2 ⊢
    by_cases e1:v=w
    ·rw [if_pos e1]
     have e2:u≠w:=fun e=>hne (e1.trans e.symm)
     rw [if_neg e2] at hb2 ⊢
     have:=h.jle u hu hb2
     show t.aE+1≠_
     omega
    ·rw [if_neg e1] at hb1 ⊢
     by_cases e2:u=w
     ·rw [if_pos e2]
      have:=h.jle v hv' hb1
      show _≠t.aE+1
      omega
     ·rw [if_neg e2] at hb2 ⊢
      exact h.ne v u hv' hu hne hb1 hb2
   ·exact h.pt.app fun q=>by cases q
theorem aLX.zero(l:List aI):aLX (CA l):=by
 have hj:∀w,0<=w/\w<=2->(cM (CA l) w).eA=false:=fun w hw=>by
  have:w=0\/w=1\/w=2:=by omega
  rcases this with rfl | rfl | rfl <;> rfl
 exact⟨fun e he=>(by grind [CA]),fun w hw h=>(by grind),fun w hw h=>(by grind),fun v w hv _ _ h=>(by grind),aB6.nil⟩
theorem aET:∀(l:List Int) (t:Table),(aEQ t l).Log.length<=t.Log.length+l.length
 | [],t=>iC _
 | p :: l, t => by
  have h1:=aET l (UW t p)
  grind [aER,aEQ]
end Go.Gv
end
noncomputable section
namespace Go.Gv
def QuS(m:Int)(q:aI):Prop:=(q.List.length:Int)<=m/\∀x∈q.List,x.bK.length<=1000
noncomputable section
variable {b:List UInt8} {i h:Int} (hc:Cu b i)
include hc
theorem a1D:yL (DB ⟨b,i,h⟩) (fun x=>Cu b x.2.1):=by
 unfold DB zG zF
 refine .bind (aEL hc (by decide) (by decide)) fun x1 ⟨_,h1⟩=>.bind (below h1 (by omega)) fun x2 ⟨_,h2⟩=>.ite (fun _=>.ite (fun _=>?_) fun _=>.ret h2) fun _=>.ite (fun _=>?_) fun _=>.ret h2
 ·exact .bind (below h2 (by omega)) fun x7 ⟨_,h7⟩=>.bind (aEL h7 (by simp) (by simp)) fun x8 ⟨_,h8⟩=>.ret h8
 ·exact .bind (below h2 (by omega)) fun x7 ⟨_,h7⟩=>.bind (aEL h7 (by simp) (by simp)) fun x8 ⟨_,h8⟩=>.ret h8
theorem aWP:yL (IE ⟨b,i,h⟩) (fun x=>Cu b x.2.1):=by
 unfold IE nU
 refine .bind (a1D hc) fun x1 h1=>.bind (below h1 (by omega)) fun x7 ⟨_,h7⟩=>.ite (fun _=>?_) fun _=>.ite (fun _=>?_) fun _=>.ite (fun _=>?_) fun _=>.ret h7
 ·exact .bind (aEL h7 (by decide) (by decide)) fun x8 ⟨_,h8⟩=>.ret h8
 ·exact .bind (aEL h7 (by decide) (by decide)) fun x8 ⟨_,h8⟩=>.ret h8
 ·exact .bind (aEL h7 (by decide) (by decide)) fun x8 ⟨_,h8⟩=>.ret h8
theorem aZO:yL (E2 ⟨b,i,h⟩) (fun x=>x.1.bK.length<=1000/\Cu b x.2.1):=by
 unfold E2
 refine .bind (a1A hc (by omega)) fun x1 h1=>.ite (fun _=>.ret ⟨by simp,h1⟩) fun _=>.bind (below h1 (by omega)) fun x2 ⟨hx,h2⟩=>?_
 rw [aM (by omega) (by omega)]
 refine .bind (P:=fun x=>x.2.2.length<=1000/\Cu b x.1) (.loop (fun s=>s.1.toNat) (fun s=>(0<=s.1/\s.1+s.2.2.2.length<=10)/\Cu b s.2.1) ⟨⟨by omega,by simp;omega⟩,h2⟩ ?_) fun x hx=>.ret hx
 rintro⟨n,i1,h1,l⟩ ⟨⟨n0,n1⟩,hi1⟩
 simp only at n0 n1 hi1
 simp only [NG,D5]
 refine .ite (fun q=>?_) (fun q=>.ret ⟨by grind,hi1⟩)
 have q1:=of_decide_eq_true q
 refine .bind (a1D hi1) fun o h3=>.need (by simp;omega) (.ret ?_)
 grind [aM]
theorem aJJ{m:Int}(hm:0<=m/\m<=12):yL (rT ⟨b,i,h⟩ m) (fun x=>(x.1.length=3/\∀q∈x.1,QuS m q)/\Cu b x.2.1):=by
 unfold rT
 refine .bind (P:=fun x=>(x.1.length=3/\∀q∈x.1,QuS m q)/\Cu b x.2.1) (.loop (fun s=>3 - s.2.1.toNat) (fun s=>((s.1.length:Int)=s.2.1/\s.2.1<=3/\∀q∈s.1,QuS m q)/\Cu b s.2.2.1) ⟨⟨rfl,by simp,by simp⟩,hc⟩ ?_) fun x hx=>.ret hx
 rintro⟨l,k,i',h'⟩ ⟨⟨e,k3,hq⟩,hi⟩
 simp only at e k3 hq hi
 simp only [ID]
 refine .ite (fun q=>?_) (fun q=>?_)
 ·have q':=of_decide_eq_true q
  rw [aM (x:=m+1) (by omega) (by omega)]
  refine .bind (below hi (by omega)) fun n ⟨hn,h1⟩=>?_
  refine .bind (P:=fun x=>QuS m ⟨x.2.2⟩/\Cu b x.1) (.loop (fun s=>s.1.toNat) (fun s=>(0<=s.1/\s.1+s.2.2.2.length<=m/\∀o∈s.2.2.2,o.bK.length<=1000)/\Cu b s.2.1) ⟨⟨hn.1,by simp;omega,by simp⟩,h1⟩ ?_) ?_
  ·rintro⟨n,i1,h1,ops⟩ ⟨⟨n0,n1,ho⟩,hi1⟩
   simp only at n0 n1 ho hi1
   simp only [IB,zH]
   refine .ite (fun q=>?_) (fun q=>?_)
   ·have q1:=of_decide_eq_true q
    refine .bind (aZO hi1) fun o ⟨h2,h3⟩=>.need (by simp;omega) (.ret ?_)
    grind [aM]
   ·have q1:¬0 < n:=by grind
    exact .ret ⟨⟨by grind,ho⟩,hi1⟩
  ·rintro⟨i1,h1,ops⟩ ⟨ho,hi1⟩
   simp only [IC,IA]
   refine .need (by simp;omega) (.ret ?_)
   grind [aM]
 ·have q':¬k < 3:=by grind
  exact .ret ⟨⟨by grind,hq⟩,hi⟩
def aDL(l:List aI):Prop:=l.length<=3/\∀q∈l,QuS 100 q
omit hc in
theorem aJK{l:List aI}(hl:aDL l)(k:Nat){q:aI}(hq:QuS 100 q):aDL (l.set k q):=⟨by simpa using hl.1,fun x hx=>(qY hx).elim (hl.2 x) (fun e=>e ▸ hq)⟩
omit hc in
theorem aGZ{l:List Batch}{m n:Int}(h:QuS m ⟨l⟩)(hm:m+1<=n){x:Batch}(hx:x.bK.length<=1000):QuS n ⟨l ++ [x]⟩:=⟨by have:=h.1;grind,fun y hy=>by
 rcases eX.1 hy with hy | hy
 ·exact h.2 y hy
 grind⟩
omit hc in
theorem UX{m n:Int}{q:aI}(h:QuS m q)(hm:m<=n):QuS n q:=⟨by have:=h.1;omega,h.2⟩
theorem aPP:yL (wG ⟨b,i,h⟩) (fun x=>aDL x.1/\Cu b x.2.1):=by
 unfold wG
 refine .bind (aJJ hc (by omega)) fun x1 ⟨⟨l3,hq⟩,h1⟩=>.bind (below h1 (by omega)) fun x5 ⟨_,h5⟩=>?_
 have hT:aDL x1.1:=⟨by omega,fun q hq'=>UX (hq q hq') (by omega)⟩
 simp only [jC,GC,xS]
 refine .ite (fun _=>?_) fun _=>.ite (fun _=>?_) fun _=>.ite (fun _=>?_) fun _=>.ite (fun _=>?_) fun _=>?_
 ·exact .need (by omega) (.ret ⟨⟨by simp;omega,fun q hq'=>hT.2 q (List.mem_of_mem_take (by simpa using hq'))⟩,h5⟩)
 ·refine .bind (.idx (by omega)) fun x6 h6=>?_
  have h7:=hq _ h6
  have:=h7.1
  exact .need (by simp;omega) (.ret ⟨aJK hT _ (aGZ (m:=5) (l:=x6.List) h7 (by omega) (by simp)),h5⟩)
 ·refine .bind (P:=fun x=>aDL x.1/\Cu b x.2.1) (.loop (fun s=>20 - ((s.1.getD 1 ⟨[]⟩).List.length)) (fun s=>(s.1.length=3/\∀q∈s.1,QuS 13 q)/\Cu b s.2.1) ⟨⟨l3,fun q hq'=>UX (hq q hq') (by omega)⟩,h5⟩ ?_) ?_
  ·rintro⟨l,i1,h1⟩ ⟨⟨l3,hq⟩,hi1⟩
   simp only at l3 hq hi1
   simp only [GD,xR]
   have hx:idx l 1=some l[1]:=aT (k:=1) (by omega)
   have hm:=hq _ (dJ (show 1 < l.length by omega))
   have hm1:=hm.1
   rw [hx]
   simp only [aH]
   refine .bind (below hi1 (by omega)) fun x ⟨hx2,hi2⟩=>.ite (fun q=>?_) (fun q=>?_)
   ·have q':=of_decide_eq_true q
    rw [aM (by omega) (by omega)] at q'
    refine .need (by simp;omega) (.ret ?_)
    refine⟨⟨⟨by simp [l3],fun x hx=>?_⟩,hi2⟩,?_⟩
    ·rcases qY hx with hx | hx
     ·grind
     ·rw [hx];exact⟨by simp;omega,(aGZ (m:=13) (n:=14) (l:=l[1].List) hm (by omega) (x:=⟨true,[]⟩) (by simp)).2⟩
    grind
   ·exact .ret ⟨⟨by grind,fun q hq'=>UX (hq q hq') (by omega)⟩,hi2⟩
  ·rintro⟨l,i1,h1⟩ hx
   exact .ret hx
 ·refine .bind (.idx (by omega)) fun x25 h25=>.bind (aWP h5) fun x26 h26=>?_
  have h7:=hq _ h25
  have:=h7.1
  exact .need (by simp;omega) (.ret ⟨aJK hT _ (aGZ (m:=5) (l:=x25.List) h7 (by omega) (by simp)),h26⟩)
 ·exact .ret ⟨hT,h5⟩
theorem aWQ{m:Int}(hm:m<=100):yL (CE ⟨b,i,h⟩ m) (fun x=>x.1.length<=4000/\Cu b x.2.1):=by
 unfold CE
 refine .bind (below hc (by omega)) fun x1 ⟨hx1,h1⟩=>?_
 refine .bind (P:=fun x=>x.1.length<=4000/\Cu b x.2.1) (.loop (fun s=>s.2.1.toNat) (fun s=>(0<=s.2.1/\s.1.length+8 * s.2.1<=4000)/\Cu b s.2.2.1) ⟨⟨hx1.1,by simp;omega⟩,h1⟩ ?_) fun x hx=>.ret hx
 rintro⟨l,n,i1,h1⟩ ⟨⟨n0,n1⟩,hi1⟩
 simp only at n0 n1 hi1
 simp only [K0]
 refine .ite (fun q=>?_) (fun q=>?_)
 ·have q':=of_decide_eq_true q
  refine .bind (below hi1 (by omega)) fun x13 ⟨_,h13⟩=>.bind (below h13 (by omega)) fun x14 ⟨hx14,h14⟩=>?_
  rw [aM (by omega) (by omega)]
  refine .bind (P:=fun x=>(x.length:Int)<=l.length+8) (.loop (fun s=>s.2.toNat) (fun s=>0<=s.2/\(s.1.length:Int)+s.2<=l.length+8) ⟨by omega,by grind⟩ ?_) ?_
  ·rintro⟨r,k⟩ ⟨k0,k1⟩
   simp only at k0 k1
   simp only [KY]
   refine .ite (fun q=>?_) (fun q=>?_)
   ·have q2:=of_decide_eq_true q
    refine .need (by simp;omega) (.ret ?_)
    grind [aM]
   ·exact .ret (by omega)
  ·intro r hr
   simp only [KZ,KX]
   refine .ret ?_
   grind [aM]
 ·exact .ret ⟨by grind,hi1⟩
end
theorem aLZ{code:List UInt8}(hl:code.length<=1048576):yL (o5 code) (fun x=>aDL x.gL/\x.iI.length<=5000):=by
 unfold o5
 refine .bind (a2Y hl) fun x1 h1=>.bind (aJJ h1 (by omega)) fun x2 ⟨⟨l3,hq⟩,h2⟩=>.bind (aWQ h2 (by omega)) fun x3 ⟨p,h3⟩=>.bind (below h3 (by omega)) fun x6 ⟨_,h6⟩=>?_
 have hT:aDL x2.1:=⟨by omega,fun q hq'=>UX (hq q hq') (by omega)⟩
 simp only [i6]
 refine .ite (fun _=>.bind (aPP h6) fun x7 ⟨h7,_⟩=>.ret ⟨h7,by grind⟩) fun _=>.ite (fun _=>.need (by simp;omega) (.ret ⟨hT,by simp;omega⟩)) fun _=>.ret ⟨hT,by grind⟩
theorem aDL.fit{l:List aI}(h:aDL l):l.length<=1000/\(∀q∈l,q.List.length<=1000)/\∀q∈l,∀b∈q.List,b.bK.length<=1000:=
 ⟨by have:=h.1;omega,fun q hq=>by have:=(h.2 q hq).1;omega,fun q hq=>(h.2 q hq).2⟩
theorem aPQ{x:tI}(hx:aDL x.gL):IH x=some (decide (SR x.gL)):=by
 obtain⟨h1,h2,h3⟩:=hx.fit
 unfold IH
 rw [(WZ h1 h2 h3).1,aH]
 by_cases h:SR x.gL
 ·rw [if_pos h,cT h];rfl
 ·rw [if_neg h,fC h];rfl
end Go.Gv
end
noncomputable section
namespace Go.Gv
def isE(kind s:Int)(e:jS):Bool:=e.Kind == kind && e.aE == s
def FW(l:List jS)(kind s:Int):Int:=if l.findIdx (isE kind s) < l.length then (l.findIdx (isE kind s):Int) else -1
theorem aJL{l:List jS}{p:jS->Bool}{f:Int->Option (Step Int (Out Unit Int))}{m:(Out Unit Int)->Option Int}(hl:l.length<=1000000)
  (hf:∀k:Nat,f (k:Int)=if h:k < l.length then (if p l[k] then some (.stop (Out.ret (k:Int))) else some (.next ((k+1:Nat):Int))) else some (.stop (Out.brk ()))) (m1:∀r,m (.ret r)=some r) (m2:m (.brk ())=some (-1)) :
  (loop f 0).bind m=some (if l.findIdx p < l.length then (l.findIdx p:Int) else -1):=by
 rcases LM (f:=f) (p:=p) (by omega) hf l.length 0 (by omega) with ⟨j,h,_,h2,h3,h4⟩ | ⟨h1,h2⟩
 ·have e:l.findIdx p=j:=by
   rw [List.findIdx_eq h]
   exact⟨h3,fun i hi=>h2 i (by omega) (gR _) hi⟩
  rw [show(0:Int)=((0:Nat):Int) from rfl,h4,aH,m1,e,if_pos h]
 ·have e:¬l.findIdx p < l.length:=fun q=>by
   have:=List.findIdx_getElem (w:=q)
   rw [h1 _ q (gR _)] at this;cases this
  rw [show(0:Int)=((0:Nat):Int) from rfl,h2,aH,m2,if_neg e]
theorem UY{l:List jS}(hl:l.length<=1000000)(kind s:Int):tX l kind s=some (FW l kind s):=by
 unfold tX FW
 refine aJL hl (fun k=>?_) (fun _=>rfl) rfl
 simp only [NX,xD]
 by_cases h:k < l.length
 ·rw [dif_pos h,if_pos (by simp;omega),aT h]
  grind [aM,isE]
 grind
theorem UZ{l:List jS}(hl:l.length<=1000000)(kind s:Int):tW l kind s=some (FW l kind s):=by
 unfold tW FW sJ
 rw [aJL (l:=l) (p:=isE kind s) hl (fun k=>?_) (fun _=>rfl) rfl]
 ·rfl
 ·simp only [yZ,GS,rK]
  by_cases h:k < l.length
  ·rw [dif_pos h,if_pos (by simp;omega),aT h]
   grind [aM,isE]
  grind
def aJM(l:List jS)(a b:Int):Bool:=decide (0<=FW l 3 a) && (decide (0<=FW l 1 b) && decide (FW l 3 a < FW l 1 b))
theorem WD{l:List jS}(hl:l.length<=1000000)(a b:Int):IW l a b=some (aJM l a b)/\DM l a b=some (aJM l a b):=by
 unfold IW DM aJM
 grind [UY,UZ,sK,sL,decide]
def aG0(l:List jS)(s:Int):Bool:=decide (0<=FW l 3 s) && ((l.getD (FW l 3 s).toNat ⟨0,0,0,0,[],[]⟩).Code == 0)
def qX(l:List jS)(out:List Int)(e:jS):List Int:=if e.Kind=2/\e.aE∉out/\aG0 l e.aE=true then out ++ [e.aE] else out
def EP(l:List jS):List Int:=l.foldl (qX l) []
theorem aT9(l:List jS)(out:List Int)(e:jS):(qX l out e).length<=out.length+1:=by grind [qX]
theorem aB7(l:List jS):∀(es:List jS) (out:List Int),(es.foldl (qX l) out).length<=out.length+es.length
 | [],out=>iC _
 | e :: es, out => by
  have h1:=aB7 l es (qX l out e)
  grind [aT9]
theorem aUA{l:List jS}{k s:Int}(h:0<=FW l k s):(FW l k s).toNat < l.length:=by
 unfold FW at h ⊢
 omega
theorem aN8{l:List jS}{k s:Int}(h:0<=FW l k s):idx l (FW l k s)=some (l.getD (FW l k s).toNat ⟨0,0,0,0,[],[]⟩):=by
 grind [aUA,gC]
theorem aB8{l:List jS}(hl:l.length<=1000000):MK l=some (EP l)/\B7 l=some (EP l):=by
 have hlen:∀k,((l.take k).foldl (qX l) []).length<=1000000:=fun k=>by
  grind [aB7]
 have ht:∀k (h:k < l.length),(l.take (k+1)).foldl (qX l) []=qX l ((l.take k).foldl (qX l) []) l[k]:=fun k h=>by
  grind [RC]
 unfold EP
 constructor
 ·have hs:∀k,k < l.length->vX l ((l.take k).foldl (qX l) [],(k:Int))=some (.next ((l.take (k+1)).foldl (qX l) [],((k+1:Nat):Int))):=fun k hk=>by
   have h1:=hlen k
   rw [ht k hk]
   generalize (l.take k).foldl (qX l) []=out at h1 ⊢
   unfold qX
   simp only [vX,C0,CZ,vW]
   rw [if_pos (by simp;omega),aT hk]
   simp only [aH]
   by_cases hk2:l[k].Kind=2
   ·have e:(l[k].Kind != 2)=false:=by grind
    simp only [e,bG,if_false]
    rw [RS (by grind [maxLen]),aH]
    by_cases hm:l[k].aE∈out
    ·rw [cT hm,if_pos rfl,aM (by omega) (by omega),if_neg (fun q=>q.2.1 hm)];rfl
    ·rw [fC hm,if_neg (by simp),UY hl,aH]
     by_cases hp:0<=FW l 3 l[k].aE
     ·rw [cT hp,if_pos rfl,aN8 hp,aH]
      by_cases hc:((l.getD (FW l 3 l[k].aE).toNat ⟨0,0,0,0,[],[]⟩).Code == 0)=true
      ·rw [if_pos hc,aK (by simp;omega),aM (by omega) (by omega),if_pos ⟨hk2,hm,by grind [aG0]⟩];rfl
      ·have hc':=by omega
       rw [if_neg hc,aM (by omega) (by omega),if_neg (fun q=>by simp_all [aG0])];rfl
     ·rw [fC hp]
      simp only [bG,if_false]
      rw [aM (by omega) (by omega),if_neg (show ¬(l[k].Kind=2/\l[k].aE∉out/\aG0 l l[k].aE=true) from fun q=>by grind [aG0])];rfl
   ·have e:(l[k].Kind != 2)=true:=by grind
    simp only [e,if_true]
    rw [aM (by omega) (by omega),if_neg (fun q=>hk2 q.1)];rfl
  have he:vX l ((l.take l.length).foldl (qX l) [],(l.length:Int))=some (.stop (l.foldl (qX l) [])):=by
   simp [vX]
  unfold MK
  rw [show(([]:List Int),(0:Int))=((l.take 0).foldl (qX l) [],((0:Nat):Int)) from rfl,gP l.length (fun k=>((l.take k).foldl (qX l) [],(k:Int))) (l.foldl (qX l) []) hs he]
  rfl
 ·have hs:∀k,k < l.length->vV l ((l.take k).foldl (qX l) [],(k:Int))=some (.next ((l.take (k+1)).foldl (qX l) [],((k+1:Nat):Int))):=fun k hk=>by
   have h1:=hlen k
   rw [ht k hk]
   generalize (l.take k).foldl (qX l) []=out at h1 ⊢
   unfold qX
   simp only [vV,CV,CU,vU]
   rw [if_pos (by simp;omega),aT hk]
   simp only [aH]
   by_cases hk2:l[k].Kind=2
   ·have e:(l[k].Kind != 2)=false:=by grind
    simp only [e,bG,if_false]
    rw [contains_eq (by grind [maxLen]),aH]
    by_cases hm:l[k].aE∈out
    ·rw [cT hm,if_pos rfl,aM (by omega) (by omega),if_neg (fun q=>q.2.1 hm)];rfl
    ·rw [fC hm,if_neg (by simp),UZ hl,aH]
     by_cases hp:0<=FW l 3 l[k].aE
     ·rw [cT hp,if_pos rfl,aN8 hp,aH]
      by_cases hc:((l.getD (FW l 3 l[k].aE).toNat ⟨0,0,0,0,[],[]⟩).Code == 0)=true
      ·rw [if_pos hc,aK (by simp;omega),aM (by omega) (by omega),if_pos ⟨hk2,hm,by grind [aG0]⟩];rfl
      ·rw [if_neg hc,aM (by omega) (by omega),if_neg (fun q=>by simp_all [aG0])];rfl
     ·rw [fC hp]
      simp only [bG,if_false]
      rw [aM (by omega) (by omega),if_neg (show ¬(l[k].Kind=2/\l[k].aE∉out/\aG0 l l[k].aE=true) from fun q=>by grind [aG0])];rfl
   ·have e:(l[k].Kind != 2)=true:=by grind
    simp only [e,if_true]
    rw [aM (by omega) (by omega),if_neg (fun q=>hk2 q.1)];rfl
  have he:vV l ((l.take l.length).foldl (qX l) [],(l.length:Int))=some (.stop (l.foldl (qX l) [])):=by
   simp [vV]
  unfold B7
  rw [show(([]:List Int),(0:Int))=((l.take 0).foldl (qX l) [],((0:Nat):Int)) from rfl,gP l.length (fun k=>((l.take k).foldl (qX l) [],(k:Int))) (l.foldl (qX l) []) hs he]
  rfl
def aJN(A:List jS)(s:Int):Prop:=∃e∈A,e.Kind=2/\e.aE=s
def aJO(A:List jS)(a b:Int):Prop:=∃A1 e A2,A=A1++e :: A2/\e.Kind=2/\e.aE=b/\aJN A1 a
theorem aB9(l:List jS):∀(n:Nat) (A:List jS),A.length=n->(A.foldl (qX l) []).Nodup/\(∀s∈A.foldl (qX l) [],aJN A s)/\(A.foldl (qX l) []).Pairwise (aJO A)
 | 0, A, h => by
  obtain rfl:A=[]:=kZ h
  exact⟨List.nodup_nil,fun s hs=>(by cases hs),List.Pairwise.nil⟩
 | n + 1, A, h => by
  obtain⟨A,e,rfl⟩:∃A' e,A=A' ++ [e]:=by
   rcases ZF A with h0 | ⟨L,z,h0⟩
   ·rw [h0] at h;cases h
   ·exact⟨L,z,by rw [h0,ZE]⟩
  obtain⟨i1,i2,i3⟩:=aB9 l n A (by grind)
  have up1:∀s,aJN A s->aJN (A ++ [e]) s:=fun s ⟨x,hx,a⟩=>⟨x,NB _ hx,a⟩
  have up2:∀a b,aJO A a b->aJO (A ++ [e]) a b:=fun a b ⟨A1,x,A2,h1,h2⟩=>⟨A1,x,A2 ++ [e],by grind,h2⟩
  rw [List.foldl_append]
  show(qX l (A.foldl (qX l) []) e).Nodup/\(∀s∈qX l (A.foldl (qX l) []) e,aJN (A ++ [e]) s)/\(qX l (A.foldl (qX l) []) e).Pairwise (aJO (A ++ [e]))
  unfold qX
  split
  ·rename_i q
   refine⟨?_,fun s hs=>?_,?_⟩
   ·rw [List.nodup_append]
    exact⟨i1,by simp,fun a ha c hc e=>by grind⟩
   ·rcases eX.1 hs with hs | hs
    ·exact up1 s (i2 s hs)
    ·rw [ZI.1 hs];exact⟨e,by simp,q.1,rfl⟩
   ·rw [List.pairwise_append]
    refine⟨i3.imp fun{a b} h=>up2 a b h,List.pairwise_singleton _ _,fun a ha b hb=>?_⟩
    rw [ZI.1 hb]
    exact⟨A,e,[],rfl,q.1,rfl,i2 a ha⟩
  ·exact⟨i1,fun s hs=>up1 s (i2 s hs),i3.imp fun{a b} h=>up2 a b h⟩
theorem a1E{p:jS->Bool}:∀{A R:List jS},(∀x∈A,p x=false)->A.length<=(A++R).findIdx p
 | [],R,_=>gR _
 | y :: A, R, h => by
  grind
theorem aJP{l:List jS}(h:aB6 l){a b:Int}(hp:aJO l a b):aJM l b a=false:=by
 obtain⟨A1,e,A2,rfl,k2,rfl,e',he',k',rfl⟩:=hp
 obtain⟨C,D,rfl⟩:=List.append_of_mem he'
 have h1:=(h C e' (D++e :: A2) (by simp) k').1
 have h2:=(h (C++e' :: D) e A2 rfl k2).2
 have f1:((C++e' :: D)++e :: A2).findIdx (isE 1 e'.aE) < C.length:=by
  grind [isE]
 have f2:(C++e' :: D).length<=((C++e' :: D)++e :: A2).findIdx (isE 3 e.aE):=a1E fun x hx=>by
  grind [isE]
 unfold aJM
 cases h0:decide (0<=FW ((C++e' :: D)++e :: A2) 3 e.aE)
 ·rfl
 ·have g0:=of_decide_eq_true h0
  have hlt:¬FW ((C++e' :: D)++e :: A2) 3 e.aE < FW ((C++e' :: D)++e :: A2) 1 e'.aE:=by
   unfold FW at g0 ⊢
   grind
  grind
theorem aDM{l:List Int}(hl:l.length<=1000000)(f:Int->Bool):dA l (fun y=>some (f y))=some (l.any f):=by
 unfold dA
 rcases aKU (s:=l) (p:=f) (by omega) with ⟨j,h,h1,h2,h3⟩ | ⟨h1,h3⟩
 ·rw [h3,aH,cT (by omega)]
  congr 1
  exact(List.any_eq_true.2 ⟨l[j],dJ h,h2⟩).symm
 ·rw [h3,aH,fC (by omega)]
  congr 1
  refine(List.any_eq_false.2 fun x hx=>?_).symm
  obtain⟨i,hi,rfl⟩:=SY hx
  simp [h1 i hi]
theorem aL0{l:List Int}(hl:l.length<=1000000000):CY l l=some true:=by
 unfold CY
 rw [if_neg (by simp)]
 have key:loop (oK l l) 0=some (Out.brk ()):=gP (f:=oK l l) l.length (fun k=>(k:Int)) _ (fun k hk=>by
  simp only [oK]
  rw [if_pos (by simp;omega),aT hk]
  simp only [aH,bne_self_eq_false,bG,if_false]
  grind [aM]) (by simp [oK])
 rw [key];rfl
theorem aL1{t:Table}(hl:t.Log.length<=100000)(h3:t.aP.length=3)(hp:aB6 t.Log):(B7 t.Log).bind (fun x5=>(loop (lI x5) (0,t)).bind (B8 x5))=some true:=by
 have hl':t.Log.length<=1000000:=by omega
 rw [(aB8 hl').2,aH]
 obtain⟨n1,n2,n3⟩:=aB9 t.Log _ t.Log rfl
 have hol:(EP t.Log).length<=100000:=by
  grind [aB7,EP]
 have pair:∀i k (hi:i < (EP t.Log).length) (hk:k < i),aJM t.Log (EP t.Log)[i] (EP t.Log)[k]=false/\(EP t.Log)[i]≠(EP t.Log)[k]:=fun i k hi hk=>
  ⟨aJP hp (List.pairwise_iff_getElem.1 n3 k i (by grind [EP]) hi hk),fun e=>by
   grind [List.pairwise_iff_getElem,EP]⟩
 have st:IX t.Log=some true:=by
  unfold IX
  rw [(aB8 hl').2,aH]
  have key:loop (sM t.Log (EP t.Log)) 0=some (Out.brk ()):=gP (f:=sM t.Log (EP t.Log)) (EP t.Log).length (fun k=>(k:Int)) _ (fun k hk=>by
   simp only [sM]
   rw [if_pos (by simp;omega),aT hk,aH,aK (by omega),I6,NA]
   have e:(fun y0=>CX y0 t.Log (EP t.Log)[k])=fun y=>some (aJM t.Log (EP t.Log)[k] y):=by
    simp_all [CX,WD]
   rw [e,aDM (by grind),aH]
   have ha:((EP t.Log).take k).any (aJM t.Log (EP t.Log)[k])=false:=List.any_eq_false.2 fun x hx=>by
    grind [SY]
   rw [ha,if_neg (by simp),aM (by omega) (by omega)];rfl) (by simp [sM])
  rw [key];rfl
 have inner:∀i (hi:i < (EP t.Log).length),loop (oO (EP t.Log) (i:Int)) (0,t)=some (Out.brk t):=fun i hi=>
  gP (f:=oO (EP t.Log) (i:Int)) i (fun k=>((k:Int),t)) _ (fun k hk=>by
   obtain⟨p1,p2⟩:=pair i k hi hk
   simp only [oO,oN]
   rw [if_pos (by simp;omega),aT hi,aH,aT (by omega),aH,if_neg (by grind),(WD hl' _ _).1,(WD hl' _ _).2,aH,p1,if_neg (by simp),aH,if_neg (by simp),aM (by omega) (by omega)];rfl) (by
   simp [oO])
 have outer:loop (lI (EP t.Log)) (0,t)=some (Out.brk t):=gP (f:=lI (EP t.Log)) (EP t.Log).length (fun k=>((k:Int),t)) _ (fun k hk=>by
  simp only [lI]
  rw [if_pos (by simp;omega),inner k hk]
  grind [LD,LC,aM]) (by
  simp [lI])
 rw [outer]
 simp only [aH,B8,LB,oL]
 rw [st,aH,if_pos rfl,(aB8 hl').1,aH,aL0 (by omega),aH,if_pos rfl,h3];rfl
theorem aG1{code:List UInt8}(_:fit code):JV code=some true:=by
 unfold JV aAC
 rw [aH]
 by_cases hb:(1048576:Int) < code.length
 ·grind
 ·rw [if_neg (by grind)]
  obtain⟨x,e,hx,hp⟩:=aLZ (code:=code) (by omega)
  rw [e,aH,aPQ hx,aH]
  by_cases ht:SR x.gL
  ·obtain⟨f1,f2,f3⟩:=hx.fit
   rw [cT ht,if_neg (by simp),aGY f1 f2 f3 ht,aH]
   obtain⟨v,g⟩:=aB5 (P:=aLX) (fun t w hv hw h=>h.step hv hw) (x.iI.take 400) (aEP ht) (aLX.zero _)
   have hlen:=aET (x.iI.take 400) (CA x.gL)
   refine aL1 ?_ v.aJQ.1 g.pt
   grind [CA]
  grind
end Go.Gv
end
