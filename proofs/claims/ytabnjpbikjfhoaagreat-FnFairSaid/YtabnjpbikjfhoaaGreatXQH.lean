import Derived.Test.YtabnjpbikjfhoaaGreatXQG
set_option linter.unusedVariables false
set_option linter.unusedSimpArgs false
set_option linter.unusedSectionVars false
set_option linter.constructorNameAsVariable false
set_option linter.unnecessarySimpa false
noncomputable section
namespace Go.Gv
def DR{α:Type}(o:Option α)(Q:α→Prop):Prop:=∃x,o=some x∧Q x
abbrev aT3{σ ρ:Type}(I:σ→Prop)(Q:ρ→Prop):Step σ ρ→Prop
  | .next s=>I s
  | .stop r=>Q r
namespace DR
variable {α β σ ρ:Type} {Q:α→Prop}
theorem ret{x:α}(h:Q x):DR (some x) Q:=⟨x,rfl,h⟩
theorem bind{P:β→Prop}{o:Option β}{f:β→Option α}(h:DR o P)(hf:∀x,P x→DR (f x) Q):DR (o.bind f) Q:=by
  obtain⟨x,e,hx⟩:=h
  rw [e];exact hf x hx
theorem need{p:Prop}[Decidable p]{k:Option α}(h:p)(hk:DR k Q):DR (Gv.need p k) Q:=by rw [aO h];exact hk
theorem ite{c:Prop}[Decidable c]{a b:Option α}(h1:c→DR a Q)(h2:¬c→DR b Q):DR (if c then a else b) Q:=by
  by_cases h:c
  · rw [if_pos h];exact h1 h
  · rw [if_neg h];exact h2 h
theorem mono{P:α→Prop}{o:Option α}(h:DR o P)(hf:∀x,P x→Q x):DR o Q:=by obtain⟨x,e,hx⟩:=h;exact⟨x,e,hf x hx⟩
theorem idx{l:List β}{i:Int}(h:0≤i∧i < l.length):DR (Gv.idx l i) (fun x=>x∈l):=⟨_,fL h.1 h.2,dP _⟩
theorem loop{Q:ρ→Prop}{f:σ→Option (Step σ ρ)}{s:σ}(μ:σ→Nat)(Inv:σ→Prop)(h0:Inv s)(hb:∀s,Inv s→DR (f s) (aT3 (fun s'=>Inv s'∧μ s' < μ s) (fun r=>Q r))):DR (Gv.loop f s) Q:=by
  have key:∀n s,μ s < n→Inv s→DR (Gv.loop f s) Q:=by
    intro n
    induction n with
    | zero=>intro s h;omega
    | succ n ih =>
      intro s h hs
      obtain⟨q,e,hq⟩:=hb s hs
      cases q with
      | next s'=>rw [bX e];exact ih s' (by have:=hq.2;omega) hq.1
      | stop r=>rw [bM e];exact⟨r,rfl,hq⟩
  exact key _ s (Nat.lt_succ_self _) h0
theorem of{o:Option α}{x:α}(h:o=some x):DR o (fun y=>y=x):=⟨x,h,rfl⟩
end DR
def Cu(b:List UInt8)(i:Int):Prop:=(0≤i∧i≤b.length)∧b.length≤1048576
theorem aT4(x:Int):0≤gL .and .i64 x 255∧gL .and .i64 x 255≤255:=by
  have e:gL .and .i64 x 255=IntKind.i64.wrap ((BitVec.ofInt 64 x &&& BitVec.ofInt 64 255).toNat:Int):=rfl
  have h:(BitVec.ofInt 64 x &&& BitVec.ofInt 64 255).toNat≤255:=by
    rw [BitVec.toNat_and];exact FV Nat.and_le_right (by decide)
  rw [e,wrap_i64 (by omega) (by omega)];omega
noncomputable section
variable {b:List UInt8} {i h:Int} (hc:Cu b i)
include hc
theorem aK9:DR (qW ⟨b,i,h⟩) (fun x=>(0≤x.1∧x.1≤255)∧Cu b x.2.1):=by
  unfold qW BO
  obtain⟨⟨a1,a2⟩,a3⟩:=hc
  refine .ite (fun q=>?_) (fun q=>?_)
  · have q':=of_decide_eq_true q
    simp only at q'
    refine .bind (.idx ⟨a1,q'⟩) fun x _=>.ret ⟨aT4 _,?_⟩
    show Cu b (aV (i+1))
    rw [aP (by omega) (by omega)]
    exact⟨by omega,a3⟩
  · exact .ret ⟨aT4 _,⟨a1,a2⟩,a3⟩
theorem below{n:Int}(hn:n≤1000000):DR (gY ⟨b,i,h⟩ n) (fun x=>(0≤x.1∧(x.1 < n∨n≤0∧x.1=0))∧Cu b x.2.1):=by
  unfold gY
  refine .ite (fun q=>?_) (fun q=>?_)
  · have q':=of_decide_eq_true q
    exact .ret ⟨by simp;omega,hc⟩
  · have q0:0 < n:=by simpa using q
    refine .ite (fun q=>?_) (fun q=>?_)
    · refine .bind (aK9 hc) fun x ⟨hx,h1⟩=>.need (by omega) (.ret ⟨?_,h1⟩)
      simp only [y6 hx.1]
      exact⟨Int.emod_nonneg _ (by omega),.inl (Int.emod_lt_of_pos _ q0)⟩
    · refine .bind (aK9 hc) fun x ⟨hx,h1⟩=>.bind (aK9 h1) fun y ⟨hy,h2⟩=>.bind (aK9 h2) fun z ⟨hz,h3⟩=>.bind (aK9 h3) fun w ⟨hw,h4⟩=>.need (by omega) (.ret ⟨?_,h4⟩)
      have e:aV (aV (aV (aV (x.1 * 16777216)+aV (y.1 * 65536))+aV (z.1 * 256))+w.1)=x.1 * 16777216+y.1 * 65536+z.1 * 256+w.1:=by
        rw [aP (x:=x.1 * 16777216) (by omega) (by omega),aP (x:=y.1 * 65536) (by omega) (by omega),aP (x:=z.1 * 256) (by omega) (by omega),aP (x:=x.1 * 16777216+y.1 * 65536) (by omega) (by omega),aP (x:=x.1 * 16777216+y.1 * 65536+z.1 * 256) (by omega) (by omega),aP (by omega) (by omega)]
      simp only [e]
      rw [y6 (by omega)]
      exact⟨Int.emod_nonneg _ (by omega),.inl (Int.emod_lt_of_pos _ q0)⟩
theorem a0N{n:Int}(hn:n≤1000000):DR (QE ⟨b,i,h⟩ n) (fun x=>Cu b x.2.1):=
  .bind (below hc hn) fun _ ⟨_,h1⟩=>.ret h1
end
theorem a0O{code:List UInt8}(hl:code.length≤1048576):DR (I2 code) (fun x=>Cu code x.1):=by
  unfold I2
  refine .bind (P:=fun _=>True) (.loop (fun s=>code.length - s.2.toNat) (fun s=>0≤s.2∧s.2≤code.length) ⟨by simp,by simp⟩ ?_) fun x _=>.ret ⟨⟨by simp,by simp⟩,hl⟩
  rintro⟨a,k⟩ ⟨h1,h2⟩
  simp only [SX,ER]
  simp only at h1 h2
  have nx:k < code.length→DR ((idx code k).bind fun x7=>some (Step.next (gL .and .i64 (aV ((aV ((aV (a * 131))+(x7.toNat:Int)))+7)) 1073741823,aV (k+1)))) (aT3 (ρ:=Int) (fun s'=>(0≤s'.2∧s'.2≤code.length)∧code.length - s'.2.toNat < code.length - k.toNat) (fun r=>True)):=fun hk=>by
    refine .bind (.idx ⟨h1,hk⟩) fun x _=>.ret ?_
    rw [aP (x:=k+1) (by omega) (by omega)]
    refine⟨⟨?_,?_⟩,?_⟩ <;> (try simp only) <;> omega
  refine .ite (fun q=>?_) (fun q=>?_)
  · have q':=of_decide_eq_true q
    exact .ite (fun _=>nx q') (fun _=>.ret trivial)
  · rw [if_neg (by simp)];exact .ret trivial
end Go.Gv
end
noncomputable section
namespace Go.Gv
theorem WV{ρ:Type}{f:Int→Option (Step Int ρ)}{n:Nat}{r:ρ}(hn:n≤1073741824)(hs:∀k:Nat,k < n→f (k:Int)=some (.next (aV ((k:Int)+1))))(he:f (n:Int)=some (.stop r)):loop f 0=some r:=
  gD (f:=f) n (fun k=>(k:Int)) r (fun k hk=>by rw [hs k hk,aP (by omega) (by omega)];rfl) he
theorem wC{l:List Int}(hl:l.length≤1073741824):kL l l=some true:=by
  unfold kL
  rw [if_neg (by simp),WV (r:=Out.brk ()) hl (fun k hk=>by
    simp only [C5]
    rw [if_pos (by simp;omega),aR hk]
    simp only [aG,bne_self_eq_false,aN,if_false]) (by simp [C5])];rfl
theorem Y3{l:List aK}(hl:l.length≤1073741824)(hs:∀s∈l,s.aM.length≤1073741824):GC l l=some true:=by
  unfold GC
  rw [if_neg (by simp),WV (r:=Out.brk ()) hl (fun k hk=>by
    simp only [JD]
    rw [if_pos (by simp;omega),aR hk]
    simp only [aG,wC (hs _ (dP hk)),dA,aN,if_false]) (by simp [JD])];rfl
theorem aJG{m:Mem}(h:xW m):II m m=some true:=by
  obtain⟨s1,s2⟩:=h.WG
  obtain⟨h1,h2,h3,h4,h5⟩:=h
  unfold II LR JE
  rw [wC (by omega),wC (by omega),Y3 (by omega) (fun s h=>by have:=s1 s h;omega),Y3 (by omega) (fun s h=>by have:=s2 s h;omega)];rfl
theorem aEY{c:aH}(h:c.bO.length≤1048576):C8 c c=some true:=by
  unfold C8
  simp only [bne_self_eq_false,aN,if_false,tY]
  rw [WV (r:=Out.brk ()) (n:=c.bO.length) (by omega) (fun k hk=>by
    simp only [C7]
    rw [if_pos (by simp;omega),aR hk]
    simp only [aG,decide_true,dA,aN,if_false]) (by simp [C7])];rfl
theorem aEZ{l:List aS}(hl:l.length≤1048576)(hs:∀s∈l,s.Rows.length≤1048576):DA l l=some true:=by
  unfold DA
  rw [if_neg (by simp),WV (r:=Out.brk ()) (n:=l.length) (by omega) (fun k hk=>by
    have hr:=hs _ (dP hk)
    have hi:loop (tZ l l (k:Int)) 0=some (Out.brk ()):=WV (n:=l[k].Rows.length) (by omega) (fun j hj=>by
      simp only [tZ,aR hk,aG]
      rw [if_pos (by simp;omega),aR hj]
      simp only [aG,decide_true,dA,aN,if_false]) (by simp [tZ,aR hk])
    simp only [C9]
    rw [if_pos (by simp;omega),aR hk]
    simp only [aG,bne_self_eq_false,aN,if_false,hi,KZ,KY]) (by simp [C9])];rfl
theorem aGO{b:aD}(h:JW b):FG b b=some true:=by
  have hr:=h.rows
  obtain⟨h1,h2,h3,h4,h5⟩:=h
  unfold FG
  rw [aJG h1,aEY h2,aEZ h3 hr,wC (by omega)];rfl
theorem RV{s:aA}(h:FR s):vL s s=some true:=by
  obtain⟨hb,c1,c2,c3,c4,c5⟩:=h
  unfold vL
  rw [aGO hb,wC (by omega)]
  simp only [aG,dA,bne_self_eq_false,aN,if_false,iC]
  rw [WV (r:=Out.brk ()) (n:=s.aQ.length) (by omega) (fun k hk=>by
    simp only [DD]
    rw [if_pos (by simp;omega),aR hk]
    simp only [aG,decide_true,dA,aN,if_false]) (by simp [DD])]
  simp only [aG,K5,K4]
  rw [WV (r:=Out.brk ()) (n:=s.cE.length) (by omega) (fun k hk=>by
    have hr:=c4 _ (dP hk)
    have hi:loop (uA s s (k:Int)) 0=some (Out.brk ()):=WV (n:=s.cE[k].jJ.length) (by omega) (fun j hj=>by
      simp only [uA,aR hk,aG]
      rw [if_pos (by simp;omega),aR hj]
      simp only [aG,decide_true,dA,aN,if_false]) (by simp [uA,aR hk])
    simp only [DC]
    rw [if_pos (by simp;omega),aR hk]
    simp only [aG,bne_self_eq_false,aN,if_false,hi,K2,K1]) (by simp [DC])]
  simp only [aG,K3,K0]
  rw [WV (r:=Out.brk ()) (n:=s.Log.length) (by omega) (fun k hk=>by
    simp only [DB]
    rw [if_pos (by simp;omega),aR hk]
    simp only [aG,decide_true,dA,aN,if_false]) (by simp [DB])];rfl
end Go.Gv
end
noncomputable section
namespace Go.Gv
theorem aP5(h:aE):JC h=kH h:=rfl
theorem aLA{h:aE}(hl:h.Class.length≤1000):kH h=some ((h.Class.countP (fun x=>decide (x = -1)):Nat):Int):=by
  unfold kH
  have key:=gD (f:=nY h) h.Class.length (fun k=>((((h.Class.take k).countP (fun x=>decide (x = -1)):Nat):Int),(k:Int))) (((h.Class.countP (fun x=>decide (x = -1)):Nat):Int)) (fun k hk=>by
    have hc:(h.Class.take k).countP (fun x=>decide (x = -1))≤1000:=FV List.countP_le_length (by rw [xZ];omega)
    simp only [nY,tV]
    rw [if_pos (by simp;omega),aR hk,aG,SQ hk,List.countP_append,aP (by omega) (by omega),aP (by omega) (by omega)]
    by_cases q:h.Class[k] = -1
    · simp [q]
    · simp [q]) (by simp [nY])
  have key':loop (nY h) (0,0)=_:=key
  rw [key'];rfl
theorem aP6{h:aE}(hl:h.Class.length≤1000):∃u,kH h=some u:=⟨_,aLA hl⟩
noncomputable section
variable {s:aA} (h:xX s) {w:Nat} (hw:w < 3)
include h hw
theorem aHM{c:Int}(hc:0≤c∧c≤2):∃v,oC s (w:Int) c=some v:=by
  have hm:=h.1.1.1
  have h3:=hm.1.2.1;have h9:=hm.1.2.2.1;have h6:=hm.1.1.1.2.1
  unfold oC lI
  rw [fL hc.1 (by omega),aG,(zD (by omega) hc).1,aG,fL (by omega) (by omega),aG]
  obtain⟨u,hu⟩:=aP6 (h:=s.aD.Mem.aE) (by omega)
  rw [hu]
  split
  · split
    · exact⟨_,rfl⟩
    · exact⟨_,rfl⟩
  · exact⟨_,rfl⟩
def YF(j:bR)(c:Int):Prop:=j.fV=true∧j.Op.Kind=1∧0≤c
theorem aJH{j:bR}(hj:idx s.aQ (w:Int)=some j){c:Int}(hc:j6 j.Op.dU=some c)(hp:YF j c):kJ s (w:Int)=oC s (w:Int) c:=by
  obtain⟨c',e1,e2,hcc⟩:=AM j.Op.dU
  obtain rfl:c'=c:=by rw [e1] at hc;exact Option.some.inj hc
  have hc2:0≤c'∧c'≤2:=by have:=hp.2.2;omega
  unfold kJ rU oT oC oF lI
  simp only [hj,aG,hp.1,hp.2.1,e2,beq_self_eq_true,if_true,bD hc2.1,dA,aN,if_false,(zD (w:=(w:Int)) (by omega) hc2).1,(zD (w:=(w:Int)) (by omega) hc2).2,aP5]
theorem aBN{j:bR}(hj:idx s.aQ (w:Int)=some j){c:Int}(hc:j6 j.Op.dU=some c)(hp:¬YF j c):rU j=some false∧kJ s (w:Int)=some false:=by
  obtain⟨c',e1,e2,hcc⟩:=AM j.Op.dU
  obtain rfl:c'=c:=by rw [e1] at hc;exact Option.some.inj hc
  have key:rU j=some false:=by
    unfold rU oT
    by_cases b:j.fV=true
    · rw [if_pos b]
      by_cases k:j.Op.Kind=1
      · rw [if_pos (by simpa using k),e2,aG,bQ (fun q=>hp ⟨b,k,q⟩)]
      · rw [if_neg (by simpa using k)]
    · rw [if_neg b]
  refine⟨key,?_⟩
  unfold kJ
  rw [hj,aG,key];rfl
end
theorem aHN(P:Nat→Prop):∀n,(∀k,k < n→P k)∨∃q,q < n∧¬P q∧∀k,k < q→P k
  | 0=>.inl fun k hk=>absurd hk (by omega)
  | n + 1 => by
    rcases aHN P n with h | ⟨q,h1,h2,h3⟩
    · by_cases hp:P n
      · exact .inl fun k hk=>by
          by_cases e:k=n
          · subst e;exact hp
          · exact h k (by omega)
      · exact .inr ⟨n,by omega,hp,h⟩
    · exact .inr ⟨q,by omega,h2,h3⟩
def fN(l:List aA)(i w:Nat):bR:=(l.getD i default).aQ.getD w TR
def exB(s:aA)(w:Nat):Bool:=(kJ s (w:Int)).getD false
def bB(l:List aA):Nat→Nat→Bool
  | 0,w=>exB (l.getD 0 default) w
  | i+1,w=>((fN l (i+1) w).fV && decide ((fN l i w).aJ=(fN l (i+1) w).aJ) && bB l i w) || exB (l.getD (i+1) default) w
noncomputable section
variable {l:List aA} (hl:l.length≤1048576)
include hl
theorem aLB{i:Nat}(hi:i < l.length):idx l (i:Int)=some (l.getD i default):=by
  rw [aR hi,iX,eI hi];rfl
theorem OL{i w:Nat}(h:xX (l.getD i default))(hw:w < 3):idx (l.getD i default).aQ (w:Int)=some (fN l i w):=by
  have h3:=h.2.2.1
  unfold fN
  rw [aR (by omega),iX (l:=(l.getD i default).aQ),eI (by omega)];rfl
theorem aWF{i w:Nat}(h:xX (l.getD i default))(hw:w < 3)(hb:(fN l i w).fV=false):exB (l.getD i default) w=false:=by
  obtain⟨c,e1,e2,_⟩:=AM (fN l i w).Op.dU
  have:=aBN h hw (OL hl h hw) e1 (fun q=>by rw [q.1] at hb;cases hb)
  unfold exB;rw [this.2];rfl
theorem aY7{i w:Nat}(h:xX (l.getD i default))(hw:w < 3):kJ (l.getD i default) (w:Int)=some (exB (l.getD i default) w):=by
  obtain⟨c,e1,e2,hcc⟩:=AM (fN l i w).Op.dU
  by_cases hp:YF (fN l i w) c
  · have:=aJH h hw (OL hl h hw) e1 hp
    obtain⟨v,hv⟩:=aHM h hw (c:=c) (by have:=hp.2.2;omega)
    unfold exB;rw [this,hv];rfl
  · have:=aBN h hw (OL hl h hw) e1 hp
    unfold exB;rw [this.2];rfl
theorem aWG{i w:Nat}(h:xX (l.getD i default))(hw:w < 3)(hb:(fN l i w).fV=false):bB l i w=false:=by
  have:=aWF hl h hw hb
  cases i with
  | zero=>exact this
  | succ i=>simp only [bB,hb,this];rfl
theorem aHO{w:Nat}(hw:w < 3){x:bR}{n:Nat}(hn:n < l.length){k:Nat}(hk:k≤n)(hS:xX (l.getD k default)) :
    kK (l.take (n+1)) (w:Int) x (k:Int)=some (if (fN l k w).fV=true∧(fN l k w).aJ=x.aJ then (if exB (l.getD k default) w then .stop (Out.ret true) else .next ((k:Int) - 1)) else .stop (Out.brk ())):=by
  have hi:idx (l.take (n+1)) (k:Int)=some (l.getD k default):=by
    rw [aR (by simp;omega),List.getElem_take,iX,eI (by omega)];rfl
  have hj:=OL hl hS hw
  simp only [kK,iS,hi,hj,aG,aY7 hl hS hw]
  rw [if_pos (by simp),aP (by omega) (by omega)]
  cases hb:(fN l k w).fV
  · simp
  · by_cases q:(fN l k w).aJ=x.aJ
    · cases he:exB (l.getD k default) w <;> simp [q]
    · have q':((fN l k w).aJ == x.aJ)=false:=by simpa using q
      simp [q,q']
theorem back_eq{w:Nat}(hw:w < 3){x:bR}{n:Nat}(hn:n < l.length):∀k,k≤n→(∀i,i≤k→xX (l.getD i default)) →
    loop (kK (l.take (n+1)) (w:Int) x) (k:Int)=some (if (fN l k w).fV=true∧(fN l k w).aJ=x.aJ∧bB l k w=true then Out.ret true else Out.brk ()):=by
  intro k
  induction k with
  | zero =>
    intro hk hS
    have st:=aHO hl hw (x:=x) hn hk (hS 0 (iW _))
    by_cases q:(fN l 0 w).fV=true∧(fN l 0 w).aJ=x.aJ
    · rw [if_pos q] at st
      cases he:exB (l.getD 0 default) w
      · rw [he,if_neg (by simp)] at st
        rw [bX st,bM (r:=Out.brk ()) (by simp [kK,iS]),if_neg (fun a=>by have:=a.2.2;simp only [bB] at this;rw [he] at this;cases this)]
      · rw [he,if_pos rfl] at st
        rw [bM st,if_pos ⟨q.1,q.2,he⟩]
    · rw [if_neg q] at st
      rw [bM st,if_neg (fun a=>q ⟨a.1,a.2.1⟩)]
  | succ k ih =>
    intro hk hS
    have st:=aHO hl hw (x:=x) hn hk (hS (k+1) (iW _))
    have ih:=ih (by omega) (fun i hi=>hS i (by omega))
    by_cases q:(fN l (k+1) w).fV=true∧(fN l (k+1) w).aJ=x.aJ
    · rw [if_pos q] at st
      cases he:exB (l.getD (k+1) default) w
      · rw [he,if_neg (by simp),show(((k+1:Nat):Int) - 1)=(k:Int) by omega] at st
        rw [bX st,ih]
        have e:bB l (k+1) w=(decide ((fN l k w).aJ=x.aJ) && bB l k w):=by
          simp only [bB,he,q.1,q.2,Bool.true_and,Bool.or_false]
        congr 1
        by_cases c:(fN l k w).aJ=x.aJ∧bB l k w=true
        · have hb:(fN l k w).fV=true:=by
            cases hb:(fN l k w).fV
            · rw [aWG hl (hS k (by omega)) hw hb] at c;exact absurd c.2 (by simp)
            · rfl
          rw [if_pos ⟨hb,c⟩,if_pos ⟨q.1,q.2,by rw [e];simp [c.1,c.2]⟩]
        · rw [if_neg (fun a=>c a.2),if_neg (fun a=>c (by have:=a.2.2;rw [e] at this;simpa using this))]
      · rw [he,if_pos rfl] at st
        rw [bM st,if_pos ⟨q.1,q.2,by simp only [bB,he,Bool.or_true]⟩]
    · rw [if_neg q] at st
      rw [bM st,if_neg (fun a=>q ⟨a.1,a.2.1⟩)]
theorem aY8{w:Nat}(hw:w < 3){n:Nat}(hn:n < l.length)(hS:∀i,i≤n→xX (l.getD i default))(hb:(fN l n w).fV=true):tX (l.take (n+1)) (w:Int)=some (bB l n w):=by
  have hi:idx (l.take (n+1)) (n:Int)=some (l.getD n default):=by
    rw [aR (by simp;omega),List.getElem_take,iX,eI (by omega)];rfl
  have hlen:(l.take (n+1)).length=n+1:=by rw [xZ];omega
  unfold tX
  rw [hlen,show aV (((n+1:Nat):Int) - 1)=(n:Int) by rw [aP (by omega) (by omega)];omega,hi,aG,OL hl (hS n (iW _)) hw,aG,back_eq hl hw hn n (iW _) hS]
  cases hv:bB l n w
  · rw [if_neg (by simp)];rfl
  · rw [if_pos ⟨hb,rfl,rfl⟩];rfl
def EM(l:List aA)(n w:Nat):Prop:=(∃c,j6 (fN l n w).Op.dU=some c∧YF (fN l n w) c)∧(fN l n w).Code=3∧bB l n w=false
theorem aE0{w:Nat}(hw:w < 3){n:Nat}(hn:n < l.length)(hS:∀i,i≤n→xX (l.getD i default)) :
    (EM l n w→rV l (n:Int) (l.getD n default) (w:Int)=some (.stop (Out.ret false)))∧(¬EM l n w→rV l (n:Int) (l.getD n default) (w:Int)=some (.next ((w+1:Nat):Int))):=by
  have h3:=(hS n (iW _)).2.2.1
  have hj:=OL hl (hS n (iW _)) hw
  obtain⟨c,e1,e2,hcc⟩:=AM (fN l n w).Op.dU
  have ew:aV ((w:Int)+1)=((w+1:Nat):Int):=by rw [aP (by omega) (by omega)];rfl
  have en:aV ((n:Int)+1)=((n+1:Nat):Int):=by rw [aP (by omega) (by omega)];rfl
  have hlt:decide ((w:Int) < ((l.getD n default).aQ.length:Int))=true:=by rw [h3];simp;omega
  obtain⟨r,hr⟩:∃r,rV l (n:Int) (l.getD n default) (w:Int)=r:=⟨_,rfl⟩
  rw [hr]
  simp only [rV,C4,hj,aG,hlt,if_true,ew,en] at hr
  by_cases hp:YF (fN l n w) c
  · have hset:rU (fN l n w)=some true:=by
      unfold rU oT
      rw [if_pos hp.1,if_pos (by simpa using hp.2.1),e2,aG,bD hp.2.2]
    simp only [hset,aG,if_true] at hr
    by_cases hc:(fN l n w).Code=3
    · simp only [hc,beq_self_eq_true,if_true,K9,BH] at hr
      rw [aO (by omega),aY8 hl hw hn hS hp.1] at hr
      cases hv:bB l n w
      · rw [hv] at hr;exact⟨fun _=>hr.symm,fun q=>absurd (show EM l n w from ⟨⟨c,e1,hp⟩,hc,hv⟩) q⟩
      · rw [hv] at hr;exact⟨fun q=>absurd q.2.2 (by rw [hv];simp),fun _=>hr.symm⟩
    · have hc':((fN l n w).Code == 3)=false:=by simpa using hc
      simp only [hc',aN,if_false] at hr
      exact⟨fun q=>absurd q.2.1 hc,fun _=>hr.symm⟩
  · have:=aBN (hS n (iW _)) hw hj e1 hp
    simp only [this.1,aG,aN,if_false] at hr
    refine⟨fun q=>?_,fun _=>hr.symm⟩
    obtain⟨c',d1,d2⟩:=q.1
    rw [e1] at d1;cases d1;exact absurd d2 hp
theorem aE1{w:Nat}(hw:w < 3){n:Nat}(hn:n < l.length)(hS:∀i,i≤n→xX (l.getD i default)){v:List Bool}(hv:v.length=3)(hpv:n=0∨v[w]?=some (bB l (n - 1) w)) :
    (EM l n w→rT l (n:Int) (v,(w:Int))=some (.stop (Out.ret false)))∧(¬EM l n w→rT l (n:Int) (v,(w:Int))=some (.next (v.set w (bB l n w),((w+1:Nat):Int)))):=by
  have hSn:=hS n (iW _)
  have hj:=OL hl hSn hw
  obtain⟨c,e1,e2,hcc⟩:=AM (fN l n w).Op.dU
  have ew:aV ((w:Int)+1)=((w+1:Nat):Int):=by rw [aP (by omega) (by omega)];rfl
  have hlt:decide ((w:Int) < 3)=true:=by simp;omega
  have keep:∃p:Bool,rT l (n:Int) (v,(w:Int))=oD l (n:Int) (w:Int) (fN l n w) c (v.set w p)∧bB l n w=(p || exB (l.getD n default) w):=by
    have hvi:idx v (w:Int)=some (v[w]'(by omega)):=aR (by omega)
    simp only [rT,C2,hlt,if_true,aLB hl hn,aG,hj,e1,hvi,K9]
    cases n with
    | zero=>exact⟨false,by simp,by simp [bB]⟩
    | succ n =>
      have hz:(((n+1:Nat):Int) == 0)=false:=by simp;omega
      have hp:v[w]'(by omega)=bB l n w:=by
        rcases hpv with q | q
        · omega
        · rw [eI (by omega)] at q;exact Option.some.inj q
      simp only [hz,aN,if_false]
      cases hb:(fN l (n+1) w).fV
      · exact⟨false,by simp,by simp [bB,hb]⟩
      · have ei:aV (((n+1:Nat):Int) - 1)=(n:Int):=by rw [aP (by omega) (by omega)];omega
        simp only [dA,aN,if_false,ei,aLB hl (show n < l.length by omega),aG,OL hl (hS n (by omega)) hw]
        by_cases q:(fN l n w).aJ=(fN l (n+1) w).aJ
        · refine⟨bB l n w,?_,by simp [bB,hb,q]⟩
          have q':((fN l n w).aJ != (fN l (n+1) w).aJ)=false:=by simpa using q
          rw [q',if_neg (by simp),←hp,aBT]
        · refine⟨false,?_,by simp [bB,hb,q]⟩
          have q':((fN l n w).aJ != (fN l (n+1) w).aJ)=true:=by simpa using q
          rw [q',if_pos rfl]
  obtain⟨p,k1,k2⟩:=keep
  rw [k1]
  have hx:idx (v.set w p) (w:Int)=some p:=by rw [aR (by simp;omega)];simp
  by_cases hp:YF (fN l n w) c
  · obtain⟨u,hu⟩:=aHM hSn hw (c:=c) (by have:=hp.2.2;omega)
    have hex:exB (l.getD n default) w=u:=by unfold exB;rw [aJH hSn hw hj e1 hp,hu];rfl
    have hk:((fN l n w).Op.Kind != 1)=false:=by simpa using hp.2.1
    have hc0:decide (c < 0)=false:=by have:=hp.2.2;simp;omega
    have main:oD l (n:Int) (w:Int) (fN l n w) c (v.set w p)=xG (w:Int) (fN l n w) (v.set w (bB l n w)):=by
      simp only [oD,xH,hp.1,dA,aN,if_false,hk,hc0,hx,aG,aLB hl hn,hu,K9,KC]
      cases p
      · rw [k2,hex];simp only [aN,if_false,Bool.false_or]
      · rw [k2];simp only [if_true,Bool.true_or]
    have hy:idx (v.set w (bB l n w)) (w:Int)=some (bB l n w):=by rw [aR (by simp;omega)];simp
    rw [main]
    obtain⟨r,hr⟩:∃r,xG (w:Int) (fN l n w) (v.set w (bB l n w))=r:=⟨_,rfl⟩
    rw [hr]
    simp only [xG,IH,xF,hy,aG,ew] at hr
    by_cases hc:(fN l n w).Code=3
    · simp only [hc,beq_self_eq_true,if_true] at hr
      cases hb:bB l n w
      · rw [hb] at hr;exact⟨fun _=>hr.symm,fun q=>absurd (show EM l n w from ⟨⟨c,e1,hp⟩,hc,hb⟩) q⟩
      · rw [hb] at hr;exact⟨fun q=>absurd q.2.2 (by rw [hb];simp),fun _=>hr.symm⟩
    · have hc':((fN l n w).Code == 3)=false:=by simpa using hc
      simp only [hc',aN,if_false] at hr
      exact⟨fun q=>absurd q.2.1 hc,fun _=>hr.symm⟩
  · have hex:exB (l.getD n default) w=false:=by unfold exB;rw [(aBN hSn hw hj e1 hp).2];rfl
    have main:oD l (n:Int) (w:Int) (fN l n w) c (v.set w p)=xF (w:Int) (v.set w p):=by
      simp only [oD,xH]
      cases hb:(fN l n w).fV
      · rfl
      · by_cases hk:(fN l n w).Op.Kind=1
        · have hk':((fN l n w).Op.Kind != 1)=false:=by simpa using hk
          have hc0:decide (c < 0)=true:=by
            have:¬0≤c:=fun q=>hp ⟨hb,hk,q⟩
            simp;omega
          simp only [dA,aN,if_false,hk',hc0,if_true]
        · have hk':((fN l n w).Op.Kind != 1)=true:=by simpa using hk
          simp only [dA,aN,if_false,hk',if_true]
    rw [main,xF,ew,k2,hex,Bool.or_false]
    refine⟨fun q=>?_,fun _=>rfl⟩
    obtain⟨c',d1,d2⟩:=q.1
    rw [e1] at d1;cases d1;exact absurd d2 hp
end
def aE2(l:List aA)(i:Nat):Prop:=xX (l.getD i default)∧¬EM l i 0∧¬EM l i 1∧¬EM l i 2
def bV(l:List aA):Nat→List Bool
  | 0=>[false,false,false]
  | i+1=>[bB l i 0,bB l i 1,bB l i 2]
theorem aT5(l:List aA)(i w:Nat)(hw:w < 3):i=0∨(bV l i)[w]?=some (bB l (i - 1) w):=by
  cases i with
  | zero=>exact .inl rfl
  | succ i =>
    right
    have:w=0∨w=1∨w=2:=by omega
    rcases this with rfl | rfl | rfl <;> rfl
theorem aNC(l:List aA)(i:Nat):(bV l i).length=3:=by cases i <;> rfl
noncomputable section
variable {l:List aA} (hl:l.length≤1048576) (he:∀i,i < l.length→wW (l.getD i default)=some (decide (xX (l.getD i default)))∧wI (l.getD i default)=some (decide (xX (l.getD i default))))
include hl he
theorem IU{i:Nat}(hi:i < l.length)(hS:∀k,k < i→xX (l.getD k default)) :
    (aE2 l i→oE l (bV l i,(i:Int))=some (.next (bV l (i+1),((i+1:Nat):Int)))∧oG l (i:Int)=some (.next ((i+1:Nat):Int))) ∧
    (¬aE2 l i→oE l (bV l i,(i:Int))=some (.stop (Out.ret false))∧oG l (i:Int)=some (.stop (Out.ret false))):=by
  have ew:aV ((i:Int)+1)=((i+1:Nat):Int):=by rw [aP (by omega) (by omega)];rfl
  obtain⟨r1,hr1⟩:∃r,oE l (bV l i,(i:Int))=r:=⟨_,rfl⟩
  obtain⟨r2,hr2⟩:∃r,oG l (i:Int)=r:=⟨_,rfl⟩
  rw [hr1,hr2]
  have hlt:decide ((i:Int) < (l.length:Int))=true:=by simp;omega
  simp only [oE,hlt,if_true,aLB hl hi,aG,(he i hi).1] at hr1
  simp only [oG,hlt,if_true,aLB hl hi,aG,(he i hi).2] at hr2
  by_cases hs:xX (l.getD i default)
  · rw [bD hs] at hr1 hr2
    simp only [dA,aN,if_false] at hr1 hr2
    have hS':∀k,k≤i→xX (l.getD k default):=fun k hk=>by
      by_cases e:k=i
      · subst e;exact hs
      · exact hS k (by omega)
    have i0:=aE0 hl (w:=0) (by omega) hi hS'
    have i1:=aE0 hl (w:=1) (by omega) hi hS'
    have i2:=aE0 hl (w:=2) (by omega) hi hS'
    have s0:=aE1 hl (w:=0) (by omega) hi hS' (aNC l i) (aT5 l i 0 (by omega))
    have s1:=aE1 hl (w:=1) (by omega) hi hS' (v:=(bV l i).set 0 (bB l i 0)) (by rw [b9];exact aNC l i) (by rw [OM (by omega)];exact aT5 l i 1 (by omega))
    have s2:=aE1 hl (w:=2) (by omega) hi hS' (v:=((bV l i).set 0 (bB l i 0)).set 1 (bB l i 1)) (by rw [b9,b9];exact aNC l i) (by rw [OM (by omega),OM (by omega)];exact aT5 l i 2 (by omega))
    have h3:=hs.2.2.1
    have ie:rV l (i:Int) (l.getD i default) ((3:Nat):Int)=some (.stop (Out.brk ())):=by
      simp only [rV];rw [if_neg (by rw [h3];simp)]
    have se:∀v,rT l (i:Int) (v,((3:Nat):Int))=some (.stop (Out.brk v)):=fun v=>by
      simp only [rT];rw [if_neg (by simp)]
    have hv:(((bV l i).set 0 (bB l i 0)).set 1 (bB l i 1)).set 2 (bB l i 2)=bV l (i+1):=by cases i <;> rfl
    rw [show(0:Int)=((0:Nat):Int) from rfl] at hr1 hr2
    by_cases f0:EM l i 0
    · rw [bM (s0.1 f0)] at hr1;rw [bM (i0.1 f0)] at hr2
      exact⟨fun g=>absurd f0 g.2.1,fun _=>⟨hr1.symm,hr2.symm⟩⟩
    · rw [bX (s0.2 f0)] at hr1;rw [bX (i0.2 f0)] at hr2
      by_cases f1:EM l i 1
      · rw [bM (s1.1 f1)] at hr1;rw [bM (i1.1 f1)] at hr2
        exact⟨fun g=>absurd f1 g.2.2.1,fun _=>⟨hr1.symm,hr2.symm⟩⟩
      · rw [bX (s1.2 f1)] at hr1;rw [bX (i1.2 f1)] at hr2
        by_cases f2:EM l i 2
        · rw [bM (s2.1 f2)] at hr1;rw [bM (i2.1 f2)] at hr2
          exact⟨fun g=>absurd f2 g.2.2.2,fun _=>⟨hr1.symm,hr2.symm⟩⟩
        · rw [bX (s2.2 f2),bM (se _),hv] at hr1;rw [bX (i2.2 f2),bM ie] at hr2
          simp only [aG,VD,VC,ew] at hr1
          simp only [aG,VI,VH,ew] at hr2
          exact⟨fun _=>⟨hr1.symm,hr2.symm⟩,fun g=>absurd ⟨hs,f0,f1,f2⟩ g⟩
  · rw [bQ hs] at hr1 hr2
    exact⟨fun g=>absurd g.1 hs,fun _=>⟨hr1.symm,hr2.symm⟩⟩
theorem aOX:∃v,M1 l=some v∧M3 l=some v∧((∀i,i < l.length→aE2 l i)→v=true):=by
  unfold M1 M3
  rw [aO (by omega)]
  have h0:List.replicate (3:Int).toNat false=bV l 0:=rfl
  rw [h0]
  rcases aHN (aE2 l) l.length with h | ⟨q,hq,hn,h⟩
  · have a1:loop (oE l) (bV l 0,((0:Nat):Int))=some (Out.brk ()):=gD l.length (fun k=>(bV l k,(k:Int))) _ (fun k hk=>((IU hl he hk (fun j hj=>(h j (by omega)).1)).1 (h k hk)).1) (by simp [oE])
    have a2:loop (oG l) ((0:Nat):Int)=some (Out.brk ()):=gD l.length (fun k=>(k:Int)) _ (fun k hk=>((IU hl he hk (fun j hj=>(h j (by omega)).1)).1 (h k hk)).2) (by simp [oG])
    rw [show(0:Int)=((0:Nat):Int) from rfl,a1,a2];exact⟨_,rfl,rfl,fun _=>rfl⟩
  · have a1:loop (oE l) (bV l 0,((0:Nat):Int))=some (Out.ret false):=gD q (fun k=>(bV l k,(k:Int))) _ (fun k hk=>((IU hl he (by omega) (fun j hj=>(h j (by omega)).1)).1 (h k hk)).1) ((IU hl he hq (fun j hj=>(h j hj).1)).2 hn).1
    have a2:loop (oG l) ((0:Nat):Int)=some (Out.ret false):=gD q (fun k=>(k:Int)) _ (fun k hk=>((IU hl he (by omega) (fun j hj=>(h j (by omega)).1)).1 (h k hk)).2) ((IU hl he hq (fun j hj=>(h j hj).1)).2 hn).2
    rw [show(0:Int)=((0:Nat):Int) from rfl,a1,a2];exact⟨_,rfl,rfl,fun g=>absurd (g q hq) hn⟩
end
end Go.Gv
end
noncomputable section
set_option maxRecDepth 20000
namespace Go.Gv
def Mo(m m':Mem):Prop:=(∀k,eD m.aB.Own k=[]→eD m'.aB.Own k=[])∧(SC m.aE=6→SC m'.aE=6∧(eD m.aB.Global 2=[]→eD m'.aB.Global 2=[]))
def Dry(m:Mem)(v:Int):Prop:=eD m.aB.Own (v * 3+2).toNat=[]∧SC m.aE=6∧eD m.aB.Global 2=[]
theorem aE3(m:Mem):Mo m m:=⟨fun _ h=>h,fun h=>⟨h,fun h=>h⟩⟩
def aT6(m:Mem)(v:Int)(s:Sub):Prop:=s.Kind=1∧s.cS=false∧s.Code≠3∧AO s.A=2∧(1≤s.Pc→eD m.aB.Own (v * 3+2).toNat=[])∧(2 < s.Pc→SC m.aE=6)
def JI(m:Mem)(v:Int)(j:bR):Prop:=(j.Op.Kind=1∧AO j.Op.dU=2)∧(j.Code=3→Dry m v)∧(j.Pc=0→aT6 m v j.Sub)∧(j.Pc=3→j.Sub.Kind=2∧j.Sub.Code≠3)
theorem Mo.dry{m m':Mem}(h:Mo m m'){v:Int}(d:Dry m v):Dry m' v:=⟨h.1 _ d.1,(h.2 d.2.1).1,(h.2 d.2.1).2 d.2.2⟩
theorem Mo.sub{m m':Mem}(h:Mo m m'){v:Int}{s:Sub}(d:aT6 m v s):aT6 m' v s:=⟨d.1,d.2.1,d.2.2.1,d.2.2.2.1,fun p=>h.1 _ (d.2.2.2.2.1 p),fun p=>(h.2 (d.2.2.2.2.2 p)).1⟩
theorem Mo.job{m m':Mem}(h:Mo m m'){v:Int}{j:bR}(d:JI m v j):JI m' v j:=⟨d.1,fun p=>h.dry (d.2.1 p),fun p=>h.sub (d.2.2.1 p),d.2.2.2⟩
theorem aOY{l:List Int}(hl:∀x∈l,0≤x)(h:¬0≤(YC l).2):l=[]:=by
  rcases List.eq_nil_or_concat l with rfl | ⟨L,b,rfl⟩
  · rfl
  · exact absurd (hl b (by simp)) (by simpa [YC] using h)
theorem aWH{m:Mem}(hm:tK m){k:Nat}(hk:k < 9):∀x∈eD m.aB.Own k,0≤x:=fun x hx=>by
  have h9:=hm.1.2.2.1
  rw [←dM (by omega)] at hx
  exact(hm.1.2.2.2.2.1 x (YL _ (SP.2 ⟨_,dP _,hx⟩))).1
theorem aT7{m:Mem}(hm:tK m){k:Nat}(hk:k < 3):∀x∈eD m.aB.Global k,0≤x:=fun x hx=>by
  have h3:=hm.1.2.1
  rw [←dM (by omega)] at hx
  exact(hm.1.2.2.2.2.1 x (P2 _ (SP.2 ⟨_,dP _,hx⟩))).1
theorem aOZ{l:List Int}(h:l=[]):(YC l).1=[]:=by rw [h];rfl
theorem aY9{b:aD}(hm:tK b.Mem){w:Int}(hw:0≤w∧w≤2){s:Sub}(h:aT6 b.Mem w s) :
    Mo b.Mem (J0 b w s).1.Mem∧((J0 b w s).2.cS=false→aT6 (J0 b w s).1.Mem w (J0 b w s).2)∧((J0 b w s).2.Code=3→Dry (J0 b w s).1.Mem w):=by
  have h3:=hm.1.2.1
  have h9:=hm.1.2.2.1
  obtain⟨k1,hd,hc,ha,hp1,hp2⟩:=h
  unfold J0
  rw [ha,if_neg (by omega)]
  by_cases p0:s.Pc=0
  · rw [if_pos p0]
    have hk:(w * 3+2).toNat < b.Mem.aB.Own.length:=by omega
    have mo:Mo b.Mem (JZ b.Mem w 2).1:=by
      refine⟨fun k hk0=>?_,fun q=>⟨q,fun q=>q⟩⟩
      unfold JZ
      rw [BC hk]
      split
      · rename_i e;subst e;exact aOZ hk0
      · exact hk0
    unfold OH
    by_cases q:0≤(JZ b.Mem w 2).2
    · rw [if_pos q];exact⟨mo,fun z=>by simp [AN] at z,fun z=>by simp [AN] at z⟩
    · rw [if_neg q,if_neg (by omega)]
      have e:=aOY (aWH hm (by omega)) q
      exact⟨mo,fun _=>⟨k1,hd,hc,ha,fun _=>mo.1 _ e,fun z=>by simp only at z;omega⟩,fun z=>absurd z hc⟩
  · rw [if_neg p0]
    have hk:(2:Int).toNat < b.Mem.aB.Global.length:=by rw [h3];decide
    by_cases p1:s.Pc=1∨s.Pc=3
    · rw [if_pos p1]
      have mo:Mo b.Mem (BD b.Mem 2).1:=by
        refine⟨fun k q=>q,fun q=>⟨q,fun q=>?_⟩⟩
        unfold BD
        rw [BC hk];exact(if_pos rfl).trans (aOZ q)
      unfold OH
      by_cases q:0≤(BD b.Mem 2).2
      · rw [if_pos q];exact⟨mo,fun z=>by simp [AN] at z,fun z=>by simp [AN] at z⟩
      · rw [if_neg q]
        have e:=aOY (aT7 hm (by decide)) q
        by_cases p3:s.Pc=3
        · rw [if_pos p3]
          exact⟨mo,fun z=>by simp [AN] at z,fun _=>mo.dry ⟨hp1 (by omega),hp2 (by omega),e⟩⟩
        · rw [if_neg p3]
          exact⟨mo,fun _=>⟨k1,hd,hc,ha,fun _=>mo.1 _ (hp1 (by omega)),fun z=>by simp only at z;omega⟩,fun z=>absurd z hc⟩
    · rw [if_neg p1]
      by_cases p2:s.Pc=2
      · rw [if_pos p2]
        unfold OH RT
        by_cases q:SC b.Mem.aE=6
        · rw [if_pos q,if_neg (by simp),if_neg (by omega)]
          exact⟨aE3 _,fun _=>⟨k1,hd,hc,ha,fun _=>hp1 (by omega),fun _=>q⟩,fun z=>absurd z hc⟩
        · rw [if_neg q,if_pos (by simp only;omega)]
          exact⟨⟨fun k q=>q,fun z=>absurd z q⟩,fun z=>by simp [AN] at z,fun z=>by simp [AN] at z⟩
      · rw [if_neg p2]
        exact⟨aE3 _,fun z=>by simp [AN] at z,fun z=>by simp [AN] at z⟩
theorem aWI(b:aD)(w:Int){s:Sub}(h:s.Kind=2∧s.Code≠3):(OJ b w s).1.Mem=b.Mem∧(OJ b w s).2.Kind=2∧(OJ b w s).2.Code≠3:=by
  unfold OJ AN
  split
  · exact⟨rfl,h⟩
  · split
    · split
      · split
        · exact⟨rfl,h.1,by simp⟩
        · exact⟨rfl,h.1,by simp⟩
      · exact⟨rfl,h.1,by simp⟩
    · exact⟨rfl,h.1,by simp⟩
theorem a1J{s:aA}(hs:xX s){w:Int}(hw:0≤w∧w≤2){j:bR}(h:JI s.aD.Mem w j) :
    Mo s.aD.Mem (aJD s w j).b.Mem∧JI (aJD s w j).b.Mem w (aJD s w j).j∧∀e∈(aJD s w j).l,e.Kind≠4:=by
  have hm:=hs.1.1.1
  obtain⟨hk,hc,h0,h3⟩:=h
  unfold aJD
  by_cases p0:j.Pc=0
  · obtain⟨k1,hd,_⟩:=h0 p0
    have e:jH s.aD w j.Sub=J0 s.aD w j.Sub:=by unfold jH;rw [if_neg (by simp [hd]),if_pos k1]
    obtain⟨mo,i1,i2⟩:=aY9 hm hw (h0 p0)
    rw [if_pos p0,e]
    split
    · split
      · exact⟨mo,⟨hk,i2,fun z=>by simp [lK] at z,fun z=>by simp [lK] at z⟩,by simp⟩
      · split
        · exact⟨mo,⟨hk,fun z=>by simp [lK] at z,fun z=>by simp [lK] at z,fun z=>by simp [lK] at z⟩,by simp⟩
        · exact⟨mo,⟨hk,fun z=>by simp [lK] at z,fun z=>by simp [lK] at z,fun z=>by simp [lK] at z⟩,by simp⟩
    · rename_i q
      exact⟨mo,⟨hk,fun z=>mo.dry (hc z),fun _=>i1 (by simpa using q),fun z=>by simp only at z;omega⟩,by simp⟩
  · rw [if_neg p0]
    by_cases p1:j.Pc=1
    · rw [if_pos p1]
      have mo:Mo s.aD.Mem (G7 s.aD.Mem j.H j.Op.eH).1:=by
        unfold G7
        split
        · exact aE3 _
        · exact aE3 _
      have hcode:(G7 s.aD.Mem j.H j.Op.eH).2≠3:=by unfold G7;split <;> simp
      refine⟨mo,?_,by simp⟩
      split
      · exact⟨hk,fun z=>by simp [lK] at z,fun z=>by simp [lK] at z,fun z=>by simp [lK] at z⟩
      · exact⟨hk,fun z=>absurd z hcode,fun z=>by simp [lK] at z,fun z=>by simp [lK] at z⟩
    · rw [if_neg p1]
      by_cases p2:j.Pc=2
      · rw [if_pos p2]
        refine⟨aE3 _,?_,by simp⟩
        split
        · exact⟨hk,fun z=>by simp [lK] at z,fun z=>by simp [lK] at z,fun z=>by simp [lK] at z⟩
        · exact⟨hk,fun z=>by simp [lK] at z,fun z=>by simp [lK] at z,fun _=>⟨rfl,by simp [lK,SN]⟩⟩
      · rw [if_neg p2]
        by_cases p3:j.Pc=3
        · rw [if_pos p3]
          have hq:(jH s.aD w j.Sub).1.Mem=s.aD.Mem∧(jH s.aD w j.Sub).2.Kind=2∧(jH s.aD w j.Sub).2.Code≠3:=by
            unfold jH
            split
            · exact⟨rfl,h3 p3⟩
            · rw [if_neg (by rw [(h3 p3).1];decide),if_pos (h3 p3).1];exact aWI _ _ (h3 p3)
          refine⟨by rw [hq.1];exact aE3 _,?_,by simp⟩
          rw [hq.1]
          split
          · exact⟨hk,fun z=>absurd z hq.2.2,fun z=>by simp [lK] at z,fun z=>by simp [lK] at z⟩
          · exact⟨hk,hc,fun z=>by simp only at z;omega,fun _=>hq.2⟩
        · rw [if_neg p3]
          exact⟨aE3 _,⟨hk,fun z=>by simp [lK] at z,fun z=>by simp [lK] at z,fun z=>by simp [lK] at z⟩,by simp⟩
theorem aE4{s:aA}(h3:s.aQ.length=3){w v:Int}(hw:0≤w∧w≤2)(hv:0≤v∧v≤2)(b:aD)(c:List Int)(j:bR)(t:List Queue)(l:List Ev)(n:Int):kW ⟨b,c,s.aQ.set w.toNat j,t,l,n⟩ v=if v=w then j else kW s v:=by
  unfold kW
  simp only [iX,List.getElem?_set]
  by_cases q:v=w
  · subst q;simp [show v.toNat < s.aQ.length by omega]
  · rw [if_neg q,if_neg (by omega)]
theorem aT8{t:List Queue}(h3:t.length=3){w v:Int}(hw:0≤w∧w≤2)(hv:0≤v∧v≤2)(r:List eU):PT (t.set w.toNat ⟨r⟩) v=if v=w then r else PT t v:=by
  unfold PT
  simp only [iX,List.getElem?_set]
  by_cases q:v=w
  · subst q;simp [show v.toNat < t.length by omega]
  · rw [if_neg q,if_neg (by omega)]
def aO0(o:eU):Prop:=o.Kind=1∧AO o.dU=2
def FI(s:aA):Prop:=(∀v,0≤v∧v≤2→(∀o∈PT s.cE v,aO0 o)∧((kW s v).fV=true→JI s.aD.Mem v (kW s v)))∧∀e∈s.Log,e.Kind=4→e.Code=3→SC s.aD.Mem.aE=6
theorem aWJ{s:aA}(hs:xX s){w:Int}(hw:0≤w∧w≤2)(h:FI s):FI (WU s w):=by
  have j3:=hs.2.2.1
  have t3:=hs.2.2.2.1.1
  have hjw:=h.1 w hw
  unfold WU
  by_cases hb:(kW s w).fV=false
  · rw [if_pos hb]
    unfold aJF
    split
    · exact h
    · rename_i o r eo
      split
      · exact h
      · have ho:=hjw.1 o (by rw [eo];simp)
        refine⟨fun v hv=>⟨?_,?_⟩,?_⟩
        · show ∀o'∈PT (s.cE.set w.toNat ⟨r⟩) v,aO0 o'
          rw [aT8 t3 hw hv]
          split
          · exact fun o' ho'=>hjw.1 o' (by rw [eo];exact jV _ ho')
          · exact(h.1 v hv).1
        · rw [aE4 j3 hw hv]
          split
          · rename_i e;subst e
            intro _
            have es:aJE s.aD.aH v o (s.aJ+1)=⟨true,o,s.aJ+1,0,SN 1 o.dU,0,0,0,0⟩:=by unfold aJE;rw [if_pos ho.1]
            rw [es]
            exact⟨ho,fun z=>by simp at z,fun _=>⟨rfl,rfl,by simp [SN],ho.2,fun z=>by simp [SN] at z,fun z=>by simp [SN] at z⟩,fun z=>by simp at z⟩
          · exact(h.1 v hv).2
        · intro e he k4 c3
          rcases gK.1 he with he | he
          · exact h.2 e he k4 c3
          · rw [aJO.1 he] at k4;simp at k4
  · rw [if_neg hb]
    have hb':(kW s w).fV=true:=by simpa using hb
    have hj:=hjw.2 hb'
    by_cases p9:(kW s w).Pc=9
    · rw [if_pos p9]
      refine⟨fun v hv=>⟨(h.1 v hv).1,?_⟩,?_⟩
      · rw [aE4 j3 hw hv]
        split
        · intro z;simp [TR] at z
        · exact(h.1 v hv).2
      · intro e he k4 c3
        rcases gK.1 he with he | he
        · exact h.2 e he k4 c3
        · rw [aJO.1 he] at c3
          exact(hj.2.1 c3).2.1
    · rw [if_neg p9]
      have ej:aWB s w (kW s w)=aJD s w (kW s w):=by unfold aWB;rw [if_pos hj.1.1]
      obtain⟨mo,hj',hl⟩:=a1J hs hw hj
      rw [ej]
      unfold lP
      refine⟨fun v hv=>⟨(h.1 v hv).1,?_⟩,?_⟩
      · rw [aE4 j3 hw hv]
        split
        · rename_i e;subst e;exact fun _=>hj'
        · exact fun z=>mo.job ((h.1 v hv).2 z)
      · intro e he k4 c3
        rcases gK.1 he with he | he
        · exact(mo.2 (h.2 e he k4 c3)).1
        · exact absurd k4 (hl e he)
theorem aHP{h:aE}(hs:eZ h)(hp:SC h=6):kH h=some 0:=by
  have h6:=hs.2.1
  rw [aLA (by omega)]
  have:h.Class.countP (fun x=>decide (x = -1))=0:=by
    rw [List.countP_eq_zero]
    intro x hx
    obtain⟨i,hi,e⟩:=List.getElem_of_mem hx
    have:=aOS hs i (by omega) (by omega)
    rw [←OB hs (by omega)] at this
    rw [←e];simpa using this
  rw [this];rfl
theorem aT9{s:aA}(h:xX s){w:Nat}(hw:w < 3)(d:Dry s.aD.Mem (w:Int)):oC s (w:Int) 2=some true:=by
  have hm:=h.1.1.1
  have h3:=hm.1.2.1
  have h9:=hm.1.2.2.1
  unfold oC lI
  have e1:s.aD.Mem.aB.Global[(2:Int).toNat]'(by rw [h3];decide)=⟨[]⟩:=by
    have d3:eD s.aD.Mem.aB.Global (2:Int).toNat=[]:=d.2.2
    have:=dM (l:=s.aD.Mem.aB.Global) (k:=(2:Int).toNat) (by rw [h3];decide)
    rw [d3] at this
    generalize s.aD.Mem.aB.Global[(2:Int).toNat]'(by rw [h3];decide)=q at this
    cases q;simp only at this;rw [this]
  have e2:s.aD.Mem.aB.Own[((w:Int) * 3+2).toNat]'(by omega)=⟨[]⟩:=by
    have:=dM (l:=s.aD.Mem.aB.Own) (k:=((w:Int) * 3+2).toNat) (by omega)
    rw [d.1] at this
    generalize s.aD.Mem.aB.Own[((w:Int) * 3+2).toNat]=q at this
    cases q;simp only at this;rw [this]
  rw [fL (by omega) (by omega),aG,(zD (by omega) (by omega)).1,aG,fL (by omega) (by omega),aG,aHP hm.1.1.1 d.2.1,e1,e2]
  rfl
theorem aWK{l:List aA}(hl:l.length≤1048576){i:Nat}(hi:i < l.length)(hS:xX (l.getD i default))(hF:FI (l.getD i default)):aE2 l i:=by
  have key:∀w:Nat,w < 3→¬EM l i w:=fun w hw ⟨⟨c,hc,hp⟩,c3,hb⟩=>by
    have hj:=(hF.1 (w:Int) (by omega)).2 hp.1
    have hd:=hj.2.1 c3
    have e2:c=2:=by
      rw [aHI] at hc
      have:=hj.1.2
      rw [←Option.some.inj hc];exact this
    subst e2
    have hx:exB (l.getD i default) w=true:=by
      unfold exB
      rw [aJH hS hw (OL hl hS hw) hc hp,aT9 hS hw hd];rfl
    cases i with
    | zero=>rw [bB,hx] at hb;cases hb
    | succ i=>rw [bB,hx,Bool.or_true] at hb;cases hb
  exact⟨hS,key 0 (by omega),key 1 (by omega),key 2 (by omega)⟩
def WY(t:List Queue)(P:List Int)(k:Nat):aA:=(P.take k).foldl WU (wB t)
theorem aLC(t:List Queue){P:List Int}{k:Nat}(hk:k < P.length):WY t P (k+1)=WU (WY t P k) P[k]:=by
  unfold WY;rw [SQ hk,List.foldl_append];rfl
def aLD(x:fQ):Prop:=RR x.cE∧(∀q∈x.cE,∀o∈q.jJ,aO0 o)∧(∀p∈x.aY,0≤p∧p≤2)∧x.aY.length≤1000
noncomputable section
variable {x:fQ} (hx:aLD x)
include hx
theorem fi0:FI (wB x.cE):=by
  have t3:=hx.1.1
  refine⟨fun v hv=>⟨fun o ho=>?_,fun z=>?_⟩,fun e he=>by simp [wB] at he⟩
  · have ho':o∈PT x.cE v:=ho
    unfold PT at ho'
    rw [iX,eI (by omega)] at ho'
    exact hx.2.1 _ (dP (show v.toNat < x.cE.length by omega)) o ho'
  · have:kW (wB x.cE) v=TR:=by
      have:v=0∨v=1∨v=2:=by omega
      rcases this with rfl | rfl | rfl <;> rfl
    rw [this] at z;cases z
theorem YG:∀k,k≤x.aY.length→xX (WY x.cE x.aY k)∧(WY x.cE x.aY k).Log.length≤k∧FI (WY x.cE x.aY k)
  | 0,_=>⟨aP0 hx.1,iW _,fi0 hx⟩
  | k + 1, hk => by
    obtain⟨a,b,c⟩:=YG k (by omega)
    have hp:=hx.2.2.1 _ (dP (show k < x.aY.length by omega))
    have hl:=hx.2.2.2
    obtain⟨_,o1,o2⟩:=aK8 a (by omega) hp
    rw [aLC x.cE (by omega)]
    exact⟨o1,by omega,aWJ a hp c⟩
theorem WW{k:Nat}(hk:k < x.aY.length):vK (WY x.cE x.aY k) x.aY[k]=some (WY x.cE x.aY (k+1))∧lF (WY x.cE x.aY k) x.aY[k]=some (WY x.cE x.aY (k+1)):=by
  obtain⟨a,b,c⟩:=YG hx k (by omega)
  have hp:=hx.2.2.1 _ (dP hk)
  have hl:=hx.2.2.2
  rw [aLC x.cE hk]
  exact⟨aK7 a (by omega) hp,(aK8 a (by omega) hp).1⟩
theorem aLE:sT x.cE=some (wB x.cE)∧sZ x.cE=some (wB x.cE):=by
  have:=aK4 (t:=x.cE) (by have:=hx.1.1;omega) (fun q hq=>by have:=(hx.1.2 q hq).1;omega)
  rw [if_pos hx.1] at this;exact this
theorem YH:vM x=some (WY x.cE x.aY (min x.aY.length 400))∧CR x=some (WY x.cE x.aY (min x.aY.length 400)):=by
  have hl:=hx.2.2.2
  obtain⟨n1,n2⟩:=aLE hx
  have hN:(if 400 < (x.aY.length:Int) then (400:Int) else (x.aY.length:Int)).toNat=min x.aY.length 400:=by split <;> omega
  have hlen:(x.aY.take (min x.aY.length 400)).length=min x.aY.length 400:=by rw [xZ];omega
  have hj:(((wB x.cE).aQ.length:Int) == 0)=false:=rfl
  generalize hm:min x.aY.length 400=m at hN hlen
  have a1:loop (oJ x) (((0:Nat):Int),WY x.cE x.aY 0)=some (WY x.cE x.aY m):=gD (f:=oJ x) m (fun k=>((k:Int),WY x.cE x.aY k)) _ (fun k hk=>by
    have hp:=hx.2.2.1 _ (dP (show k < x.aY.length by omega))
    have ew:aV ((k:Int)+1)=((k+1:Nat):Int):=by rw [aP (by omega) (by omega)];rfl
    simp only [oJ,oH,uB]
    rw [if_pos (by simp;omega),if_pos (by simp;omega),aR (show k < x.aY.length by omega),aG,b7,aG,bD hp,if_pos rfl,aG,(WW hx (by omega)).1,aG,ew]) (by
    simp only [oJ,oH]
    by_cases q:m < x.aY.length
    · rw [if_pos (by simp;omega),if_neg (by simp;omega)]
    · rw [if_neg (by simp;omega),if_neg (by simp)])
  have a2:loop (nV x) (((0:Nat):Int),WY x.cE x.aY 0)=some (WY x.cE x.aY m):=gD (f:=nV x) m (fun k=>((k:Int),WY x.cE x.aY k)) _ (fun k hk=>by
    have hp:=hx.2.2.1 _ (dP (show k < x.aY.length by omega))
    have ew:aV ((k:Int)+1)=((k+1:Nat):Int):=by rw [aP (by omega) (by omega)];rfl
    simp only [nV,tT,hN,BH,hlen]
    rw [if_pos (by simp;omega),aR (by omega),aG,List.getElem_take,jG,aG,bD hp,if_pos rfl,(WW hx (by omega)).2,aG,ew]) (by
    simp only [nV,hN,BH,hlen]
    rw [if_neg (by simp)])
  unfold vM CR
  rw [n1,n2,aG,aG,hj,if_neg (by simp),if_neg (by simp),aO (by split <;> omega)]
  rw [show((0:Nat):Int)=0 from rfl] at a1 a2
  have e0:WY x.cE x.aY 0=wB x.cE:=rfl
  rw [e0] at a1 a2
  rw [a1,a2];exact⟨rfl,rfl⟩
def stL(x:fQ)(k:Nat):List aA:=(List.range (k+1)).map (WY x.cE x.aY)
omit hx in
theorem aBO(x:fQ)(k:Nat):(stL x k).length=k+1:=by simp [stL]
omit hx in
theorem aLF(x:fQ)(k:Nat):stL x (k+1)=stL x k ++ [WY x.cE x.aY (k+1)]:=by unfold stL;rw [List.range_succ,BJ];rfl
theorem Y4(h4:x.aY.length≤400):FE x=some (stL x x.aY.length)∧E9 x=some (stL x x.aY.length):=by
  obtain⟨n1,n2⟩:=aLE hx
  have hN:(if 400 < (x.aY.length:Int) then (400:Int) else (x.aY.length:Int)).toNat=x.aY.length:=by split <;> omega
  have hj:(((wB x.cE).aQ.length:Int) == 0)=false:=rfl
  have hsm:∀k,k≤x.aY.length→FR (WY x.cE x.aY k):=fun k hk=>by
    obtain⟨a,b,c⟩:=YG hx k hk
    exact GK a (by omega)
  have a1:loop (qF x) (stL x 0,((0:Nat):Int),WY x.cE x.aY 0)=some (stL x x.aY.length):=gD (f:=qF x) x.aY.length (fun k=>(stL x k,(k:Int),WY x.cE x.aY k)) _ (fun k hk=>by
    have hp:=hx.2.2.1 _ (dP hk)
    have ew:aV ((k:Int)+1)=((k+1:Nat):Int):=by rw [aP (by omega) (by omega)];rfl
    have hll:=aBO x k
    simp only [qF,qE,xD]
    rw [if_pos (by simp;omega),if_pos (by simp;omega),aR hk,aG,b7,aG,bD hp,if_pos rfl,aG,(WW hx hk).1,aG,TU (hsm (k+1) (by omega)),aG,aO (by simp only [KA,SO];omega),ew,aLF]) (by
    simp only [qF,qE]
    rw [if_neg (by simp),if_neg (by simp)])
  have a2:loop (p5 x) (stL x 0,((0:Nat):Int),WY x.cE x.aY 0)=some (stL x x.aY.length):=gD (f:=p5 x) x.aY.length (fun k=>(stL x k,(k:Int),WY x.cE x.aY k)) _ (fun k hk=>by
    have hp:=hx.2.2.1 _ (dP hk)
    have ew:aV ((k:Int)+1)=((k+1:Nat):Int):=by rw [aP (by omega) (by omega)];rfl
    have hll:=aBO x k
    simp only [p5,wX,hN,BH,IV]
    rw [if_pos (by simp;omega),aR hk,aG,jG,aG,bD hp,if_pos rfl,(WW hx hk).2,aG,TV (hsm (k+1) (by omega)),aG,aO (by simp only [KA,SO];omega),ew,aLF]) (by
    simp only [p5,hN,BH,IV]
    rw [if_neg (by simp)])
  have e0:WY x.cE x.aY 0=wB x.cE:=rfl
  have e1:stL x 0=[wB x.cE]:=rfl
  have h0:=hsm 0 (by omega)
  rw [e0] at h0
  rw [show((0:Nat):Int)=0 from rfl,e0,e1] at a1 a2
  unfold FE E9
  rw [n1,n2,aG,aG,hj,if_neg (by simp),if_neg (by simp),TU h0,TV h0,aG,aG,aO (by simp),aO (by split <;> omega),aGP,a1,a2]
  exact⟨rfl,rfl⟩
end
end Go.Gv
end
noncomputable section
set_option maxRecDepth 20000
namespace Go.Gv
def FO(o:eU):Prop:=uF o∧aO0 o
theorem a0Q{c z v:Int}(hc:0≤c∧c≤1)(hz:17≤z∧z≤40)(hv:0≤v∧v≤100):FO ⟨1,c,z,v⟩:=by
  refine⟨⟨⟨by simp,by simp⟩,.inl (.inl rfl),hc,?_⟩,rfl,?_⟩
  · rw [if_pos rfl];exact⟨⟨by (try simp only);omega,by (try simp only);omega⟩,hv.1,by (try simp only);omega⟩
  · unfold AO
    simp only
    rw [if_neg (by omega),if_neg (by omega),if_pos (by omega)]
noncomputable section
variable {b:List UInt8} {i h:Int} (hc:Cu b i)
include hc
theorem aWL{m:Int}(hm:0≤m∧m≤240):DR (ES ⟨b,i,h⟩ m) (fun x=>((∀p∈x.1,0≤p∧p≤2)∧(x.1.length:Int)≤4 * m)∧Cu b x.2.1):=by
  unfold ES
  refine .bind (below hc (by omega)) fun x1 ⟨hx1,h1⟩=>?_
  refine .bind (P:=fun x=>((∀p∈x.1,0≤p∧p≤2)∧(x.1.length:Int)≤4 * m)∧Cu b x.2.1) (.loop (fun s=>s.2.1.toNat) (fun s=>((∀p∈s.1,0≤p∧p≤2)∧0≤s.2.1∧s.1.length+4 * s.2.1≤4 * m)∧Cu b s.2.2.1) ⟨⟨by simp,hx1.1,by simp;omega⟩,h1⟩ ?_) fun x hx=>.ret hx
  rintro⟨l,n,i1,h1⟩ ⟨⟨hl,n0,n1⟩,hi1⟩
  simp only at hl n0 n1 hi1
  simp only [MT]
  refine .ite (fun q=>?_) (fun q=>?_)
  · have q':=of_decide_eq_true q
    refine .bind (below hi1 (by omega)) fun x13 ⟨hx13,h13⟩=>.bind (below h13 (by omega)) fun x14 ⟨hx14,h14⟩=>?_
    rw [aP (by omega) (by omega)]
    refine .bind (P:=fun x=>(∀p∈x,0≤p∧p≤2)∧(x.length:Int)≤l.length+4) (.loop (fun s=>s.2.toNat) (fun s=>(∀p∈s.1,0≤p∧p≤2)∧0≤s.2∧(s.1.length:Int)+s.2≤l.length+4) ⟨hl,by (try simp only);omega,by (try simp only);omega⟩ ?_) ?_
    · rintro⟨r,k⟩ ⟨hr,k0,k1⟩
      simp only at hr k0 k1
      simp only [MR]
      refine .ite (fun q=>?_) (fun q=>?_)
      · have q2:=of_decide_eq_true q
        refine .need (by simp;omega) (.ret ?_)
        rw [aP (by omega) (by omega)]
        have e:(r ++ [x13.1]).length=r.length+1:=by simp
        refine⟨⟨fun p hp=>?_,by (try simp only);omega,by (try simp only);omega⟩,by (try simp only);omega⟩
        rcases gK.1 hp with hp | hp
        · exact hr p hp
        · rw [aJO.1 hp];omega
      · exact .ret ⟨hr,by (try simp only);omega⟩
    · intro r hr
      simp only [MS,MQ]
      refine .ret ?_
      rw [aP (by omega) (by omega)]
      have:=hr.2
      exact⟨⟨⟨hr.1,by (try simp only);omega,by (try simp only);omega⟩,h14⟩,by (try simp only);omega⟩
  · exact .ret ⟨⟨hl,by (try simp only);omega⟩,hi1⟩
theorem aUA{m:Int}(hm:0≤m∧m≤240):DR (CU ⟨b,i,h⟩ m) (fun x=>(aLD x.1∧(x.1.aY.length:Int)≤4 * m)∧Cu b x.2.1):=by
  unfold CU
  refine .bind (aWL hc hm) fun x1 ⟨⟨hp,hl⟩,h1⟩=>?_
  refine .bind (P:=fun x=>(x.2.2.length=3∧∀q∈x.2.2,q.jJ.length≤8∧∀o∈q.jJ,FO o)∧Cu b x.1) (.loop (fun s=>3 - s.1.toNat) (fun s=>(((s.2.2.2.length:Int)=s.1∧s.1≤3)∧∀q∈s.2.2.2,q.jJ.length≤8∧∀o∈q.jJ,FO o)∧Cu b s.2.1) ⟨⟨by simp,by simp⟩,h1⟩ ?_) ?_
  · rintro⟨k,i1,h1,l⟩ ⟨⟨⟨e,k3⟩,hq⟩,hi1⟩
    simp only at e k3 hq hi1
    simp only [PC]
    refine .ite (fun q=>?_) (fun q=>?_)
    · have q':=of_decide_eq_true q
      refine .bind (below hi1 (by omega)) fun n ⟨hn,h2⟩=>?_
      rw [aP (x:=3+n.1) (by omega) (by omega)]
      refine .bind (P:=fun x=>((x.2.2.length:Int)≤8∧∀o∈x.2.2,FO o)∧Cu b x.1) (.loop (fun s=>s.1.toNat) (fun s=>(0≤s.1∧s.1+s.2.2.2.length≤8∧∀o∈s.2.2.2,FO o)∧Cu b s.2.1) ⟨⟨by (try simp only);omega,by simp;omega,by simp⟩,h2⟩ ?_) ?_
      · rintro⟨n,i3,h3,ops⟩ ⟨⟨n0,n1,ho⟩,hi3⟩
        simp only at n0 n1 ho hi3
        simp only [PA,GW]
        refine .ite (fun q=>?_) (fun q=>?_)
        · have q1:=of_decide_eq_true q
          refine .bind (below hi3 (by omega)) fun x28 ⟨hx28,h28⟩=>.bind (below h28 (by omega)) fun x29 ⟨hx29,h29⟩=>.need (by simp;omega) (.ret ?_)
          rw [aP (x:=n - 1) (by omega) (by omega),aP (x:=17+x29.1) (by omega) (by omega)]
          refine⟨⟨⟨by (try simp only);omega,by simp;omega,fun o ho'=>?_⟩,h29⟩,by (try simp only);omega⟩
          rcases gK.1 ho' with ho' | ho'
          · exact ho o ho'
          · rw [aJO.1 ho'];exact a0Q (by omega) (by omega) (by omega)
        · exact .ret ⟨⟨by (try simp only);omega,ho⟩,hi3⟩
      · rintro⟨i3,h3,ops⟩ ⟨⟨o1,o2⟩,hi3⟩
        simp only at o1 o2 hi3
        simp only [PB,O9]
        refine .need (by simp;omega) (.ret ?_)
        rw [aP (by omega) (by omega)]
        refine⟨⟨⟨⟨by simp;omega,by (try simp only);omega⟩,fun x hx=>?_⟩,hi3⟩,by (try simp only);omega⟩
        rcases gK.1 hx with hx | hx
        · exact hq x hx
        · rw [aJO.1 hx];exact⟨by (try simp only);omega,o2⟩
    · have q':¬k < 3:=by simpa using q
      exact .ret ⟨⟨by (try simp only);omega,hq⟩,hi1⟩
  · rintro⟨i1,h1,l⟩ ⟨⟨l3,hq⟩,hi1⟩
    simp only at l3 hq hi1
    simp only [PD,O8]
    exact .ret ⟨⟨⟨⟨l3,fun q hq'=>⟨by have:=(hq q hq').1;omega,fun o ho=>((hq q hq').2 o ho).1⟩⟩,fun q hq' o ho=>((hq q hq').2 o ho).2,hp,by (try simp only);omega⟩,hl⟩,hi1⟩
end
def SmJ(s:aA):Prop:=FR s∧s.aQ.length=3
theorem aHQ{code:List UInt8}{x2:fQ×(Int×Int)}(hc:Cu code x2.2.1){l:List aA}(h0:0 < l.length)(h1:l.length≤401)(hs:∀y∈l,SmJ y):DR (qG code x2 l) (fun l=>l.length≤401∧∀y∈l,SmJ y):=by
  unfold qG
  refine .bind (below hc (by omega)) fun x5 ⟨h5,c5⟩=>.bind (below c5 (by omega)) fun x6 ⟨h6,c6⟩=>.bind (below c6 (by omega)) fun x8 ⟨h8,c8⟩=>?_
  refine .ite (fun _=>?_) fun _=>.ite (fun _=>?_) fun _=>.ret ⟨h1,hs⟩
  · refine .bind (P:=fun l=>l.length≤401∧∀y∈l,SmJ y) (.loop (fun s=>l.length - s.2.toNat) (fun s=>(0≤s.2∧s.1.length=l.length)∧∀y∈s.1,SmJ y) ⟨⟨h5.1,rfl⟩,hs⟩ ?_) fun x hx=>.ret hx
    rintro⟨r,k⟩ ⟨⟨k0,e⟩,hr⟩
    simp only at k0 e hr
    have fin:∀z,DR (mI x6 r k z) (aT3 (fun s'=>((0≤s'.2∧s'.1.length=l.length)∧∀y∈s'.1,SmJ y)∧(k < r.length→l.length - s'.2.toNat < l.length - k.toNat)) (fun r=>r.length≤401∧∀y∈r,SmJ y))∨¬(k < r.length):=fun z=>by
      by_cases q:k < r.length
      · left
        simp only [mI,xE]
        refine .ite (fun _=>?_) (fun _=>.ret ⟨by omega,hr⟩)
        refine .bind (.idx ⟨k0,q⟩) fun x16 h16=>.bind (.idx ⟨h6.1,by have:=(hr _ h16).2;omega⟩) fun x17 h17=>?_
        refine .ite (fun _=>.ret ?_) (fun _=>.ret ?_)
        · rw [aP (by omega) (by omega)]
          refine⟨⟨⟨by (try simp only);omega,by simpa using e⟩,fun y hy=>?_⟩,fun _=>by (try simp only);omega⟩
          rcases oW hy with hy | hy
          · exact hr y hy
          · obtain⟨⟨a1,a2,a3,a4⟩,a5⟩:=hr _ h16
            rw [hy]
            exact⟨⟨a1,a2,by simpa using a3,a4⟩,by simpa using a5⟩
        · rw [aP (by omega) (by omega)]
          exact⟨⟨⟨by (try simp only);omega,e⟩,hr⟩,fun _=>by (try simp only);omega⟩
      · exact .inr q
    simp only [M0]
    refine .ite (fun q=>?_) (fun q=>?_)
    · have q':=of_decide_eq_true q
      refine .bind (.idx ⟨k0,q'⟩) fun x18 h18=>.bind (.idx ⟨h6.1,by have:=(hr _ h18).2;omega⟩) fun x19 _=>.bind (.idx ⟨h5.1,by omega⟩) fun x20 h20=>.bind (.idx ⟨h6.1,by have:=(hr _ h20).2;omega⟩) fun x21 _=>?_
      rcases fin (x19.aJ == x21.aJ) with f | f
      · refine f.mono fun s hs'=>?_
        cases s with
        | next s'=>exact⟨hs'.1,hs'.2 q'⟩
        | stop r=>exact hs'
      · exact absurd q' f
    · simp only [mI]
      exact .ret ⟨by omega,hr⟩
  · refine .bind (a0N c8 (by omega)) fun x23 _=>.ite (fun _=>?_) (fun _=>?_)
    · refine .bind (.idx ⟨h5.1,by omega⟩) fun x24 h24=>.need (by simp;omega) (.ret ?_)
      refine⟨by simp;omega,fun y hy=>?_⟩
      have hy:=aBS (aBR hy)
      rcases oW hy with hy | hy
      · exact hs y hy
      · rw [hy];exact⟨(hs _ h24).1,(hs _ h24).2⟩
    · refine .need (by omega) (.ret ⟨by simp;omega,fun y hy=>hs y (aBS (aBR hy))⟩)
theorem aO1{x:fQ}(hx:aLD x){k:Nat}(hk:k≤x.aY.length):∀y∈stL x k,xX y∧FI y∧y.Log.length≤1000:=fun y hy=>by
  unfold stL at hy
  obtain⟨i,hi,e⟩:=List.mem_map.1 hy
  have hi:=List.mem_range.1 hi
  obtain⟨a,b,c⟩:=YG hx i (by omega)
  have:=hx.2.2.2
  rw [←e];exact⟨a,c,by omega⟩
theorem aZA{code:List UInt8}(hl:code.length≤1048576):DR (FF code) (fun l=>l.length≤401∧∀y∈l,SmJ y):=by
  unfold FF
  refine .bind (a0O hl) fun x1 h1=>.bind (aUA h1 (by omega)) fun x2 ⟨⟨hF,hp⟩,h2⟩=>?_
  have hn:x2.1.aY.length≤240:=by omega
  rw [(Y4 hF (by omega)).1,aG]
  have hs:∀y∈stL x2.1 x2.1.aY.length,SmJ y:=fun y hy=>by
    obtain⟨a,b,c⟩:=aO1 hF (iW _) y hy
    exact⟨GK a (by omega),a.2.2.1⟩
  have hlen:=aBO x2.1 x2.1.aY.length
  generalize stL x2.1 x2.1.aY.length=l at hs hlen
  refine .ite (fun q=>?_) (fun q=>?_)
  · have q':=of_decide_eq_true q
    rw [aP (by omega) (by omega)]
    refine .need (by omega) (aHQ h2 (by simp;omega) (by simp;omega) fun y hy=>hs y (aBS (aBR hy)))
  · exact aHQ h2 (by omega) (by omega) hs
def mZ(l:List Ev):List Ev:=l.filter fun e=>e.Kind == 4
theorem aND{s:aA}(hl:s.Log.length≤1000000):N0 s=some (mZ s.Log):=by
  unfold N0
  have key:loop (yY s) ([],0)=some (mZ s.Log):=by
    have:=gD (f:=yY s) s.Log.length (fun k=>(mZ (s.Log.take k),(k:Int))) (mZ s.Log) (fun k hk=>by
      have hle:(mZ (s.Log.take k)).length≤k:=FV (List.length_filter_le _ _) (by rw [xZ];omega)
      have ew:aV ((k:Int)+1)=((k+1:Nat):Int):=by rw [aP (by omega) (by omega)];rfl
      have e:mZ (s.Log.take (k+1))=if (s.Log[k].Kind == 4)=true then mZ (s.Log.take k) ++ [s.Log[k]] else mZ (s.Log.take k):=by
        unfold mZ
        rw [SQ hk,List.filter_append]
        cases q:(s.Log[k].Kind == 4) <;> simp [List.filter,q]
      simp only [yY,E8]
      rw [if_pos (by simp;omega),aR hk,aG,ew,e]
      by_cases q:(s.Log[k].Kind == 4)=true
      · rw [if_pos q,aO (by simp;omega),if_pos q]
      · rw [if_neg q,if_neg q]) (by
        simp only [yY]
        rw [if_neg (by simp),IV])
    exact this
  rw [key];rfl
theorem aP7{code:List UInt8}{x:fQ}{s:aA}(hs:xX s)(hf:FI s)(hl:s.Log.length≤1000):(loop (mS (mZ s.Log)) (0,s)).bind (QX code x)=JF code x s:=by
  have hle:(mZ s.Log).length≤1000:=FV (List.length_filter_le _ _) hl
  have key:loop (mS (mZ s.Log)) (((0:Nat):Int),s)=some (Out.brk s):=gD (f:=mS (mZ s.Log)) (mZ s.Log).length (fun k=>((k:Int),s)) _ (fun k hk=>by
    have ew:aV ((k:Int)+1)=((k+1:Nat):Int):=by rw [aP (by omega) (by omega)];rfl
    have hm:=List.mem_filter.1 (dP hk)
    have nx:vN (k:Int) false s=some (.next (((k+1:Nat):Int),s)):=by simp only [vN];rw [if_neg (by simp),ew]
    simp only [mS]
    rw [if_pos (by simp;omega),aR hk,aG]
    by_cases c3:(mZ s.Log)[k].Code=3
    · have z:((mZ s.Log)[k].Code == 3)=true:=by simpa using c3
      rw [z,if_pos rfl,aHP hs.1.1.1.1.1.1 (hf.2 _ hm.1 (by simpa using hm.2) c3),aG]
      exact nx
    · have z:((mZ s.Log)[k].Code == 3)=false:=by simpa using c3
      rw [z,if_neg (by simp)];exact nx) (by
    simp only [mS]
    rw [if_neg (by simp)])
  have key':loop (mS (mZ s.Log)) (0,s)=some (Out.brk s):=key
  rw [key'];rfl
theorem aE6{l:List aA}{i:Nat}(hi:i < l.length):l.getD i default∈l:=by
  rw [iX,eI hi];exact dP hi
theorem aNE{code:List UInt8}(_:fit code):QY code=some true:=by
  unfold QY aCN
  rw [aG]
  by_cases hcl:1048576 < (code.length:Int)
  · rw [if_pos (by simpa using hcl)]
  rw [if_neg (by simpa using hcl)]
  have hc:code.length≤1048576:=by omega
  obtain⟨x,ex,hF⟩:DR (tU code) aLD:=by
    unfold tU
    exact .bind (a0O hc) fun x1 h1=>.bind (aUA h1 (by omega)) fun x2 h2=>.ret h2.1.1
  have hlen:=hF.2.2.2
  obtain⟨s1,s2,s3⟩:=YG hF (min x.aY.length 400) (by omega)
  rw [ex,aG,(YH hF).2,aG,aND (by omega),aG,aP7 s1 s3 (by omega)]
  unfold JF
  have hN:(if 60 < (x.aY.length:Int) then (60:Int) else (x.aY.length:Int)).toNat=min x.aY.length 60:=by split <;> omega
  rw [aO (by split <;> omega),hN,BH]
  generalize hy:(⟨x.cE,x.aY.take (min x.aY.length 60)⟩:fQ)=y
  have ep:x.aY.take (min x.aY.length 60)=y.aY:=by rw [←hy]
  rw [ep]
  have hyF:aLD y:=by rw [←hy];exact⟨hF.1,hF.2.1,fun p hp=>hF.2.2.1 p (aBS hp),by simp;omega⟩
  have hyl:y.aY.length≤60:=by rw [←ep,xZ];omega
  obtain⟨d,ed,d1,d2⟩:=aZA hc
  have hL:=aBO y y.aY.length
  have hmem:=aO1 hyF (iW _)
  obtain⟨v,v1,v2,v3⟩:=aOX (l:=stL y y.aY.length) (by omega) (fun i hi=>by
    obtain⟨a,b,c⟩:=hmem _ (aE6 hi)
    have hsm:=GK a (by omega)
    exact⟨aOV hsm,aOW hsm⟩)
  have hv:v=true:=v3 fun i hi=>by
    obtain⟨a,b,c⟩:=hmem _ (aE6 hi)
    exact aWK (by omega) hi a b
  obtain⟨u,u1,u2,_⟩:=aOX (l:=d) (by omega) (fun i hi=>by
    have hsm:=(d2 _ (aE6 hi)).1
    exact⟨aOV hsm,aOW hsm⟩)
  subst hv
  have elast:idx (stL y y.aY.length) (aV (((stL y y.aY.length).length:Int) - 1))=some (WY y.cE y.aY y.aY.length):=by
    rw [hL,aP (by omega) (by omega),show((y.aY.length+1:Nat):Int) - 1=(y.aY.length:Int) by omega,aR (by omega)]
    simp [stL]
  have emin:min y.aY.length 400=y.aY.length:=by omega
  obtain⟨t1,t2,t3⟩:=YG hyF y.aY.length (iW _)
  have hk:(((stL y y.aY.length).length:Int) == aV ((y.aY.length:Int)+1))=true:=by
    rw [hL,aP (by omega) (by omega)];simp
  rw [(Y4 hyF (by omega)).2,aG,ed,aG,if_pos hk,v1,aG,if_pos rfl,v2,aG,if_pos rfl,u2,aG,u1,aG,if_pos (by simp),(YH hF).1,aG,
    RV (GK s1 (by omega)),aG,if_pos rfl,elast,aG,(YH hyF).1,emin,aG,RV (GK t1 (by omega))]
  rfl
end Go.Gv
end
