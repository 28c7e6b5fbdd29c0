import Derived.Test.YtkinioiglogchaaGreatXUF
set_option linter.unusedVariables false
set_option linter.unusedSimpArgs false
set_option linter.unusedSectionVars false
set_option linter.constructorNameAsVariable false
set_option linter.unnecessarySimpa false
noncomputable section
namespace Go.Gv
variable{n:Int}{L:List KV}{l:List aO}{e t:Table}
def cmE(e:Table)(s:Int):List iB:=(e.Log.getD (sG e.Log 1 s).toNat ⟨0,0,0,0,[],[]⟩).bM
theorem bA2{l m:List iD}(el:e.Log=l++m){s:Int}{P:List iB->Prop}(h:TlJ l s P):0<=sG e.Log 1 s/\P (cmE e s):=by
 obtain⟨x,hx,k,es⟩:=h.call;have hlt:l.findIdx (isE 1 s)<l.length:=aTH ⟨x,hx,by grind[isE]⟩;have ef:(l++m).findIdx (isE 1 s)=l.findIdx (isE 1 s):=aj
 have ep:sG (l++m) 1 s=sG l 1 s:=by unfold sG;grind
 grind[aWQ,aM5,cmE]
theorem bFI(r:Rn t e)(h:Bz n t){w:Int}(hw:fC w)(hB:(aE t w).bU=true):cmE e (aE t w).aG=(aE t w).Batch.bM:=by obtain⟨m,el⟩:=r.log;exact(bA2 el (h.pl.1.job w hw hB).2).2
section
variable {F:Int->Bool} {cm:Int->List iB} {n:Int} {t:Table} {u:Int} (hu:fC u) (h:Bz n t) {c:Int->List Int} {q:Int->Nat} (sv:sB Ky7 t.aA t.aS c q (aE t)) (I:IvC F cm t c)
include hu h sv I
theorem IvC.begin(hn:aE t u=cZ){x:Batch}(hx:x∈rZ t u)(ej:∀v,fC v->aE (sA t u x) v=zQ (aE t) u (jG x (t.aG+1)) v):sB Ky7 (sA t u x).aA (sA t u x).aS c q (aE (sA t u x))/\IvC F cm (sA t u x) c:=by
 obtain⟨_,q0,hs⟩:=h.pl;have hJ:∀v,fC v->(aE t v).bU=true->JB (aE t v):=λv hv hb=>h.jb hv hb;have ew:aE (sA t u x) u=jG x (t.aG+1):=by grind[iN]
 have eo:∀v,fC v->v≠u->aE (sA t u x) v=aE t v:=λv hv hn=>by grind[uB]
 have hd:∀v i,fC v->oS i->(Holds F (sA t u x) v i↔Holds F t v i):=λv i hv hi=>by
  by_cases z:v=u
  ·subst z;have nl:(dW t.aS i).eI≠v+1:=λy=>by have:=(D3 h hv hi y).1;rw[hn] at this;cases this
   exact⟨λk=>absurd k.1 nl,λk=>absurd k.1 nl⟩
  ·unfold Holds;rw[eo v hv z];exact Iff.rfl
 have cl:∀i,oS i->(Clr F (sA t u x) i↔Clr F t i):=λi hi=>⟨λk v hv a=>k v hv ((hd v i hv hi).2 a),λk v hv a=>k v hv ((hd v i hv hi).1 a)⟩;have hp:pts F (sA t u x).Log=pts F t.Log:=by show pts F (t.Log++_)=_;grind[a2D,bAY]
 have em:MT F cm (sA t u x)=MT F cm t:=by grind[MT]
 have er:RT F cm (sA t u x)=RT F cm t:=by unfold RT;rw[hp]
 have npc:(jG x (t.aG+1)).Pc=0\/(jG x (t.aG+1)).Pc=20:=by unfold jG;simp only;split<;>simp
 have new:∀y∈(sA t u x).Log,y.Kind≠1->y∈t.Log:=λy hy k=>by
  rcases dE.1 hy with hy|hy
  ·exact hy
  ·rw[jO.1 hy] at k;exact absurd rfl k
 refine⟨(aV8 sv hs.lk hu h.v.base.1.2.1 hJ hn (hs.qk u hu x hx) _).congr ej,λi hi k=>?_,λi hi v hv k=>?_,λw hw hb hc a=>?_,λw hw hb a b=>?_,λw hw hb a b d hcl=>?_,λy hy k a b=>?_,λy hy k=>?_,?_,λy hy k=>?_⟩
 ·rw[em];exact I.free i hi ((cl i hi).1 k)
 ·have k':=(hd v i hv hi).1 k;have z:v≠u:=λz=>by have:=k'.2.2;rw[z,hn] at this;exact absurd this ai
  rw[em,eo v hv z];exact I.held i hi v hv k'
 ·by_cases z:w=u
  ·rw[z,ew];exact⟨[],λM _=>rfl,λg hg=>by cases hg⟩
  ·rw[eo w hw z] at hb hc a ⊢;obtain⟨G,d,g⟩:=I.job w hw hb hc a;refine⟨G,d,λy hy=>?_⟩;obtain⟨s,hs,hsb,hk⟩:=g y hy;exact⟨s,hs,hsb,λa b=>by rw[em];exact hk a ((cl _ ((h.jb hw hb).reads.1 s hs)).1 b)⟩
 ·by_cases z:w=u
  ·grind
  ·rw[eo w hw z] at hb a b ⊢;obtain⟨i1,i2⟩:=I.walk w hw hb a b;exact⟨i1,i2.mono λp=>⟨⟨p.1,(cl _ (h.jb hw hb).bkt).1 p.2⟩,rfl,λ_ _=>rfl⟩⟩
 ·by_cases z:w=u
  ·grind
  ·rw[eo w hw z] at hb a b d hcl ⊢;rw[er];exact I.res w hw hb a b d hcl
 ·rw[er];exact I.tel y (new y hy aa) k a b
 ·have hm:=new y hy aa;obtain⟨p1,p2⟩:=I.pt y hm k;refine⟨p1,λv hv hb es=>?_⟩;by_cases z:v=u
  ·rw[z,ew] at es;have:=h.lg.le y hm;have es:t.aG+1=y.aG:=es;omega
  grind
 ·show((t.Log++[_]).filter _ |>.map _).Nodup;rw[List.filter_append];simpa using I.pu
 ·rcases dE.1 hy with hy|hy
  ·exact I.cv y hy k
  ·rw[jO.1 hy];have hq:QuV ⟨rZ t u⟩:=by
    have hi:u.toNat<t.eF.length:=by have:=h.v.todo.1;omega
    have e:(⟨rZ t u⟩:aO)=t.eF[u.toNat]:=by simp_all[rZ]
    rw[e];exact h.v.todo.2 _ (dB hi)
   have:=hq.2 x hx;exact⟨this.2.1,this.2.2.1⟩
end
theorem bJI(r:Rn t e)(he:∀v,fC v->(aE e v).bU=false)(h:Bz n t)(k:∃c q,sB Ky7 t.aA t.aS c q (aE t)/\IvC (vI e) (cmE e) t c):Bz n e/\∃c q,sB Ky7 e.aA e.aS c q (aE e)/\IvC (vI e) (cmE e) e c:=by
 induction r with
 |refl=>grind
 |step hu r ih=>
  rename_i t e u;refine ih he (h.step hu) ?_;obtain⟨c,q,sv,I⟩:=k;by_cases hB:(aE t u).bU=true
  ·exact I.bLX hu r he h hB (λw hw hb=>bFI (.step hu r) h hw hb) sv
  ·obtain⟨hn,z|⟨x,hx,z,ej⟩⟩:=IH h hu hB
   ·grind
   ·rw[z] at ej ⊢;obtain⟨a,b⟩:=I.begin hu h sv hn hx ej;grind
theorem bz0(hd:aB2 l)(ht:S4 l):Bz (MQ (OC (dC l))) (dC l):=by
 refine⟨aF1 ht,⟨.zero rfl,_,bJE hd ht⟩,.zero l,λi hi k=>?_,λw hw s hs=>?_,λx hx=>by cases hx⟩
 ·rcases(by omega:i=0\/i=1) with rfl|rfl<;>exact absurd rfl k
 ·rcases(by omega:w=0\/w=1\/w=2) with rfl|rfl|rfl<;>cases hs
theorem iv0{F:Int->Bool}{cm:Int->List iB}(hd:aB2 l)(ht:S4 l):∃c q,sB Ky7 (dC l).aA (dC l).aS c q (aE (dC l))/\IvC F cm (dC l) c:=by
 obtain⟨c,sv⟩:=(bJE hd ht).sv;have hb:∀i,oS i->dW (dC l).aS i=⟨0,0,0⟩:=λi hi=>by rcases(by omega:i=0\/i=1) with rfl|rfl<;>rfl
 have hj:∀w,fC w->aE (dC l) w=cZ:=λw hw=>by rcases(by omega:w=0\/w=1\/w=2) with rfl|rfl|rfl<;>rfl
 have nb:∀{P:Prop} {w:Int},fC w->(aE (dC l) w).bU=true->P:=λhw b=>by rw[hj _ hw] at b;cases b
 refine⟨c,_,sv,λi hi _ k hk=>?_,λi hi v hv k=>?_,λw hw b=>nb hw b,λw hw b=>nb hw b,λw hw b=>nb hw b,λx hx=>(by cases hx),λx hx=>(by cases hx),List.nodup_nil,λx hx=>(by cases hx)⟩
 ·have hc:=sv.ch i hi;rw[hb i hi] at hc
  match c i,hc with
  |[],_=>rfl
  |x::r,hc=>exact absurd hc.1.symm hc.2.1.ne
 ·have:=k.1;grind
theorem bFJ(hu:∀x∈e.Log,∀y∈e.Log,x.Kind=3->y.Kind=3->x.aG=y.aG->x=y)(hp:((e.Log.filter λx=>x.Kind == 2).map iD.aG).Nodup):qM e.Log=pts (vI e) e.Log:=by
 have ok:∀s,aM4 e.Log s=vI e s:=λs=>by
  rw[HP,aEK];unfold aM4;rw[wS,decide_eq_true_eq,beq_iff_eq];have at_:0<=sG e.Log 3 s->(e.Log.getD (sG e.Log 3 s).toNat ⟨0,0,0,0,[],[]⟩)∈e.Log/\(e.Log.getD (sG e.Log 3 s).toNat ⟨0,0,0,0,[],[]⟩).Kind=3/\(e.Log.getD (sG e.Log 3 s).toNat ⟨0,0,0,0,[],[]⟩).aG=s:=λh=>by
   have hlt:=aM5 h;unfold sG at h hlt ⊢;split at h
   ·rename_i q;rw[aN q] at hlt ⊢;rw[JM,DN,iS q];have:=aJ0 (w:=q);simp_all[isE]
   ·omega
  constructor
  ·grind
  ·rintro⟨x,m,k,z,b⟩;have hlt:e.Log.findIdx (isE 3 s)<e.Log.length:=aTH ⟨x,m,by grind[isE]⟩;have h0:0<=sG e.Log 3 s:=by simp_all[sG]
   grind
 have key:∀(es:List iD) (out:List Int),(out++(es.filter λx=>x.Kind == 2).map iD.aG).Nodup->es.foldl (BQ e.Log) out=out++pts (vI e) es:=λes=>by
  induction es with
  |nil=>grind[pts]
  |cons x es ih=>
   intro out hn;rw[List.foldl_cons];by_cases k:x.Kind=2
   ·rw[List.filter_cons_of_pos aj,D9] at hn;have hx:x.aG∉out:=λm=>(aJ2.1 hn).2.2 _ m _ (aAB ..) rfl;cases hf:vI e x.aG
    ·have e1:BQ e.Log out x=out:=by simp_all[BQ]
     grind[pts]
    simp_all[BQ,pts]
   simp_all[BQ,pts]
 grind[qM]
theorem bN1(hd:aB2 l)(ht:S4 l)(p:List Int)(hp:p.length<=400)(ee:e=S7 3000 0 (HO (dC l) p)):(m8 (HO (dC l) p)=some e/\(∀w,fC w->Y3 e w)/\e.Log.length<=3400)/\Bz (MQ (OC (dC l))) e/\qM e.Log=pts (vI e) e.Log/\∃c q,sB Ky7 e.aA e.aS c q (aE e)/\IvC (vI e) (cmE e) e c/\∀i,oS i->∀k,jD k=i->MT (vI e) (cmE e) e k=lkp e.aA.Mem (c i) k:=by
 obtain⟨e1,hi,v,_,hl⟩:=bNY hd ht p hp;rw[<-ee] at e1 hi v hl;have hid:=(aWI v).1 hi;have he:∀v,fC v->(aE e v).bU=false:=λv hv=>(hid v hv).1;have r:Rn (dC l) e:=by rw[ee];exact(a2B p _).trans (bAW 3000 0 _)
 obtain⟨hz,c,q,sv,I⟩:=bJI r he (bz0 hd ht) (iv0 hd ht);refine⟨⟨e1,hid,hl⟩,hz,bFJ hz.tu I.pu,c,q,sv,I,λi hi k hk=>I.free i hi (λv hv a=>?_) k hk⟩;have:=(D3 hz hv hi a.1).1;grind
def OD(L:List KV):MS:=λk=>(L.find? λx=>x.Key == k).map KV.dM
structure II (L:List KV):Prop where
 srt:L.Pairwise λx y=>x.Key<y.Key
 rng:∀x∈L,(0<=x.Key/\x.Key<=99)/\0<=x.dM/\x.dM<=65535
theorem II.len(h:II L):L.length<=100:=by
 have:=yO (l:=L.map KV.Key) (m:=(List.range 100).map Int.ofNat) (by
  unfold List.Nodup;exact List.pairwise_map.2 (h.srt.imp λa b=>aa)) λx hx=>by
  obtain⟨y,hy,rfl⟩:=AR.1 hx;have:=(h.rng y hy).1;exact AR.2 ⟨y.Key.toNat,List.mem_range.2 aa,ah⟩
 grind
theorem BR(x:KV)(L:List KV)(k:Int):OD (x::L) k=if x.Key=k then some x.dM else OD L k:=by unfold OD;grind
theorem aNU{k:Int}(h:∀x∈L,x.Key≠k):OD L k=none:=by grind[OD]
theorem II.tail{x:KV}(h:II (x::L)):II L/\∀y∈L,x.Key<y.Key:=⟨⟨(aJ3.1 h.srt).2,λy hy=>h.rng y (lE _ hy)⟩,(aJ3.1 h.srt).1⟩
theorem bA3:∀{L M:List KV},II L->II M->OD L=OD M->L=M
 |[],[],_,_,_=>rfl
 |[],y::M,_,_,e=>by have:=congrFun e y.Key;rw[BR,aN rfl] at this;cases this
 |x::L,[],_,_,e=>by have:=congrFun e x.Key;rw[BR,aN rfl] at this;cases this
 |x::L,y::M,h,k,e=>by
  obtain⟨h1,h2⟩:=h.tail;obtain⟨k1,k2⟩:=k.tail;have ex:=congrFun e x.Key;have ey:=congrFun e y.Key;rw[BR,BR,aN rfl] at ex;rw[BR,BR,aN rfl] at ey;have hk:x.Key=y.Key:=Classical.byContradiction λz=>by
   rcases(by omega:x.Key<y.Key\/y.Key<x.Key) with q|q
   ·rw[gR,aNU λa ha=>aj] at ex;cases ex
   ·rw[gR,aNU λa ha=>aj] at ey;cases ey
  rw[aN hk.symm] at ex;have hx:x=y:=by obtain⟨a,b⟩:=x;simp_all
  rw[hx,bA3 h1 k1 (funext λz=>by
   by_cases q:z=x.Key
   ·grind[aNU]
   ·have:=congrFun e z;rw[BR,BR,aP λy=>q y.symm,gR] at this;exact this)]
theorem a2H(h:II L)(k:Int):II (L.filter λx=>!(x.Key == k))/\OD (L.filter λx=>!(x.Key == k))=upM (OD L) k none:=by
 refine⟨⟨h.srt.sublist List.filter_sublist,λx hx=>h.rng x (aJ1.1 hx).1⟩,funext λz=>?_⟩;unfold upM;by_cases q:z=k
 ·simp_all[aNU]
 ·rw[aP q];grind[OD]
theorem bA4{k:Int}:∀{D:List KV},D.Pairwise (λx y=>x.Key<y.Key)->(∀x∈D,x.Key≠k)->(∀x∈D.takeWhile (λx=>!decide (k<x.Key)),x.Key<k)/\∀x∈D.dropWhile (λx=>!decide (k<x.Key)),k<x.Key
 |[],_,_=>⟨λx hx=>(by cases hx),λx hx=>(by cases hx)⟩
 |y::D,hs,hn=>by
  obtain⟨h1,h2⟩:=aJ3.1 hs;have hy:=hn y (aAB ..);by_cases q:k<y.Key
  ·grind[List.takeWhile_cons_of_neg,List.dropWhile_cons_of_neg]
  ·obtain⟨i1,i2⟩:=bA4 h2 λx hx=>hn x (lE _ hx)
   (simp_all;omega)
theorem aS9(h:II L){k v:Int}(hk:0<=k/\k<=99)(hv:0<=v/\v<=65535):II (mpF L k v)/\OD (mpF L k v)=upM (OD L) k (some v):=by
 obtain⟨d1,d2⟩:=a2H h k;have hne:∀x∈L.filter λx=>!(x.Key == k),x.Key≠k:=λx hx=>aj
 unfold mpF;generalize (L.filter λx=>!(x.Key == k))=D at d1 d2 hne;have e:=aTK (p:=λx:KV=>!decide (k<x.Key)) (l:=D);obtain⟨ht,hd⟩:=bA4 d1.srt hne;refine⟨⟨?_,λx hx=>?_⟩,funext λz=>?_⟩
 ·have hs:=d1.srt;grind[aJ3]
 ·rcases dE.1 hx with hx|hx
  ·exact d1.rng x ((List.takeWhile_sublist _).subset hx)
  ·rcases j3.1 hx with rfl|hx
   ·grind
   ·exact d1.rng x ((List.dropWhile_sublist _).subset hx)
 ·unfold upM;by_cases q:z=k
  ·rw[aN q,q];grind[OD]
  ·rw[aP q];have hz:(k == z)=false:=aj
   have:OD D z=OD L z:=by rw[d2];exact aP q
   grind[OD]
theorem bFK(hl:L.length<=1000)(k:Int):PJ L k=some ((OD L k).getD 0,(OD L k).isSome):=by
 have key:∀(r a:List KV),L=a++r->loop (xT L k) (a.length:Int)=some (match OD r k with|some v=>.ret (v,true)|none=>.brk ()):=λr=>by
  induction r with
  |nil=>
   intro a e;refine aZ ?_;simp only[xT];rw[aP (by rw[e];simp)];rfl
  |cons x r ih=>
   intro a e;have hi:a.length<L.length:=by rw[e];simp
   have ex:L[a.length]=x:=by simp[e]
   by_cases q:x.Key=k
   ·refine aZ ?_;simp only[xT];rw[eG,aW hi,aL,ex,aN aj,BR,aN q]
   ·rw[bS (s':=((a++[x]).length:Int)) (by
     simp only[xT];rw[eG,aW hi,aL,ex,aP aj,dU];simp),ih (a++[x]) (by rw[e];simp),BR,aP q]
 unfold PJ;have:=key L [] rfl;rw[show(([]:List KV).length:Int)=0 from rfl] at this;rw[this];cases OD L k<;>rfl
theorem aZN(h:II L):T4 L=some true:=by
 have hl:=h.len;unfold T4;have key:loop (A7 L) 0=some (Out.brk ()):=gT (f:=A7 L) L.length (λk=>(k:Int)) _ (λk hk=>by
  have hr:=h.rng _ (dB hk);simp only[A7,vQ];rw[eG,aW hk,aL,cV,aL,cN hr.1,gI,cV,aL,cN hr.2,gI];by_cases k0:k=0
  ·simp_all[cQ]
  ·have hlt:=a5D.1 h.srt (k-1) k aa hk aa;rw[eG,dU,show(k:Int)-1=((k-1:Nat):Int) by omega,WL,aL,aIH,dU];rfl) (by simp[A7])
 rw[key];rfl
theorem aZO{c:iB}(h:RJ c):C2 c=some true:=by obtain⟨h1,h2,h3,h4⟩:=h;grind[C2,pY,cV,mW]
theorem bJJ{a b:Int}(ha:0<=a/\a<=65535)(hb:0<=b/\b<=65535):0<=G5 a b/\G5 a b<=65535:=by grind[G5,cQ]
theorem bJK(h:II L)(k:Int):0<=(OD L k).getD 0/\(OD L k).getD 0<=65535:=by
 unfold OD;cases e:L.find? λx=>x.Key == k with
 |none=>simp
 |some x=>exact(h.rng x (List.mem_of_find?_eq_some e)).2
theorem bA5(h:II L){c:iB}(hc:RJ c):∃L',T5 L c=some (L',(aF6 (OD L) c).2)/\OD L'=(aF6 (OD L) c).1/\II L':=by
 have hl:=h.len;unfold T5 JD kK;rw[OE,aL,OU,aZN h,aL,gI,aZO hc,aL,gI,bFK aa,aL];unfold aF6;have hk:=hc.1;rcases(by omega:c.Kind=1\/c.Kind=2\/c.Kind=3\/c.Kind=4) with k|k|k|k
 ·grind
 ·obtain⟨p1,p2⟩:=aS9 h hc.2.1 hc.2.2.1;simp only[k];refine⟨_,?_,p2,p1⟩;rw[aP ai,aN ai,aF5 aa];rfl
 ·obtain⟨p1,p2⟩:=a2H h c.Key;simp only[k];refine⟨_,?_,p2,p1⟩;rw[aP ai,aP ai,aN ai];unfold J2 kK;rw[OE,aL,OU,show(λy0=>JC y0 c.Key)=(λy=>some (y.Key == c.Key)) from rfl,aNO aa];rfl
 ·obtain⟨p1,p2⟩:=aS9 h hc.2.1 (bJJ (bJK h c.Key) hc.2.2.1);simp only[k];refine⟨_,?_,p2,p1⟩;rw[aP ai,aP ai,aP ai];grind[NG,G5,aF5]
theorem a4W{cmds:List iB}(hn:cmds.length<=1000)(hc:∀c∈cmds,RJ c)(h:II L):∃L',PK L cmds=some (L',(D2 (OD L) cmds).2)/\OD L'=(D2 (OD L) cmds).1/\II L':=by
 have hl:=h.len;have key:∀(r a:List iB) (L:List KV) (R:List fV),cmds=a++r->R.length=a.length->II L->∃L',loop (F9 cmds) (L,R,(a.length:Int))=some (L',R++(D2 (OD L) r).2)/\OD L'=(D2 (OD L) r).1/\II L':=λr=>by
  induction r with
  |nil=>
   simp_all[aZ,F9,D2]
  |cons x r ih=>
   intro a L R e hR h;have hi:a.length<cmds.length:=by rw[e];simp
   have ex:cmds[a.length]=x:=by simp[e]
   obtain⟨L1,d1,d2,d3⟩:=bA5 h (hc x (by rw[e];simp));obtain⟨L',l1,l2,l3⟩:=ih (a++[x]) L1 (R++[(aF6 (OD L) x).2]) (by rw[e];simp) (by simp[hR]) d3;refine⟨L',?_,by rw[l2,d2];rfl,l3⟩;rw[bS (s':=(L1,R++[(aF6 (OD L) x).2],((a++[x]).length:Int))) (by
    simp only[F9];rw[eG,aW hi,aL,ex,d1,aL,OE,dU];simp),l1,d2]
   simp[D2]
 unfold PK kK;rw[OE,aL,OU];obtain⟨L',l1,l2,l3⟩:=key cmds [] L [] rfl rfl h;grind[XQ,XP]
theorem aZP{l:List fV}(hl:l.length<=1000):lA l l=some true:=by
 unfold lA;rw[gI];have key:loop (kD l l) 0=some (Out.brk ()):=gT (f:=kD l l) l.length (λk=>(k:Int)) _ (λk hk=>by
  simp only[kD];rw[eG,aW hk,aL,aL,gI,dU];rfl) (by simp[kD])
 rw[key];rfl
theorem a2I(cm:Int->List iB)(p:List Int):(rpS cm p).2.map Prod.fst=p:=by
 have:∀(p:List Int) (a:MS×List (Int×List fV)),(p.foldl (rpF cm) a).2.map Prod.fst=a.2.map Prod.fst++p:=λp=>by
  induction p with
  |nil=>simp
  |cons s p ih=>grind[rpF]
 exact this p _
theorem a4X(l:List iB):∀M:MS,(D2 M l).2.length=l.length:=by
 induction l with
 |nil=>intro _;rfl
 |cons c l ih=>grind[D2]
theorem aWW(hl:e.Log.length<=3400)(hord:qM e.Log=pts (vI e) e.Log)(hpu:((e.Log.filter λx=>x.Kind == 2).map iD.aG).Nodup)(hcall:∀s∈qM e.Log,(0<=sG e.Log 1 s/\(e.Log.getD (sG e.Log 1 s).toNat ⟨0,0,0,0,[],[]⟩).bM=cmE e s)/\(cmE e s).length<=6/\∀c∈cmE e s,RJ c)
  (htell:∀s∈qM e.Log,0<=sG e.Log 3 s/\(s,(e.Log.getD (sG e.Log 3 s).toNat ⟨0,0,0,0,[],[]⟩).fV)∈RT (vI e) (cmE e) e):∃L,J3 e.Log ((qM e.Log).length:Int)=some (L,true)/\OD L=MT (vI e) (cmE e) e/\II L:=by
 have hol:(qM e.Log).length<=3400:=by grind[aEA,qM]
 have hnd:(qM e.Log).Nodup:=by
  rw[hord];unfold pts;have:(e.Log.filter λx=>x.Kind == 2 && vI e x.aG).Sublist (e.Log.filter λx=>x.Kind == 2):=by rw[show(λx:iD=>x.Kind == 2 && vI e x.aG)=(λx:iD=>vI e x.aG && x.Kind == 2) by grind,<-List.filter_filter];exact List.filter_sublist
  grind
 unfold MT RT at *;rw[<-hord] at htell ⊢;have hkeys:=a2I (cmE e) (qM e.Log);have key:∀(r a:List Int) (L:List KV),qM e.Log=a++r->II L->OD L=(rpS (cmE e) a).1->∃L',loop (GA e.Log ((qM e.Log).length:Int) (qM e.Log)) (L,true,(a.length:Int))=some (L',true)/\OD L'=(rpS (cmE e) (qM e.Log)).1/\II L':=λr=>by
  have hclamp:((qM e.Log).take ((if(if((qM e.Log).length:Int)<((qM e.Log).length:Int) then((qM e.Log).length:Int) else((qM e.Log).length:Int))<0 then 0 else(if((qM e.Log).length:Int)<((qM e.Log).length:Int) then((qM e.Log).length:Int) else((qM e.Log).length:Int))).toNat)).drop 0=qM e.Log:=by grind[aB9]
  induction r with
  |nil=>
   simp_all[aZ,GA,aP]
  |cons s r ih=>
   intro a L ea h hk;have hi:a.length<(qM e.Log).length:=aj
   have ex:(qM e.Log)[a.length]=s:=by simp[ea]
   have hs:s∈qM e.Log:=aj
   obtain⟨⟨c0,c1⟩,c2,c3⟩:=hcall s hs;obtain⟨t0,t1⟩:=htell s hs;obtain⟨L1,d1,d2,d3⟩:=a4W (cmds:=cmE e s) aa c3 h;have hres:(e.Log.getD (sG e.Log 3 s).toNat ⟨0,0,0,0,[],[]⟩).fV=(D2 (OD L) (cmE e s)).2:=by
    have hm:(s,(D2 (OD L) (cmE e s)).2)∈(rpS (cmE e) (qM e.Log)).2:=by
     rw[ea,show a++s::r=(a++[s])++r by simp];have:∀(r:List Int) (z:MS×List (Int×List fV)),∀x∈z.2,x∈(r.foldl (rpF (cmE e)) z).2:=λr=>by
      induction r with
      |nil=>simp
      |cons y r ih=>intro z x hx;exact ih _ x (U7 _ hx)
     unfold rpS;rw[List.foldl_append];refine this r _ _ ?_;have e2:=aNR (cmE e) a s;unfold rpS at e2 hk;rw[e2,hk];unfold rpF;simp
    have h1:((rpS (cmE e) (qM e.Log)).2.map Prod.fst).Nodup:=by rw[hkeys];exact hnd
    have uniq:∀(l:List (Int×List fV)),(l.map Prod.fst).Nodup->∀x∈l,∀y∈l,x.1=y.1->x=y:=λl=>by
     induction l with
     |nil=>intro _ x hx;cases hx
     |cons z l ih=>
      intro hn x hx y hy e;rw[D9,WU] at hn;rcases j3.1 hx with q|q<;>rcases j3.1 hy with z|z
      ·rw[q,z]
      ·exact absurd (AR.2 ⟨y,z,by rw[<-e,q]⟩) hn.1
      ·exact absurd (AR.2 ⟨x,q,by rw[e,z]⟩) hn.1
      ·exact ih hn.2 x q y z e
    grind
   obtain⟨L',l1,l2⟩:=ih (a++[s]) L1 aj d3 (by grind[aNR,rpF]);refine⟨L',?_,l2⟩;rw[bS (s':=(L1,true,((a++[s]).length:Int))) (by
    simp only[GA,xU,hclamp];rw[eG,aW hi,aL,ex,UZ aa,aL,aP aj,aEB c0,aL,c1,d1,aL,aN trivial,UZ aa,aL,aEB t0,aL,hres,aZP (by grind[a4X]),aL,dU];simp),l1]
 obtain⟨L',l1,l2,l3⟩:=key (qM e.Log) [] [] rfl ⟨List.Pairwise.nil,λx hx=>by cases hx⟩ (by funext k;rfl);refine⟨L',?_,l2,l3⟩;unfold J3;rw[(aVZ aa).2,aL,TA];rw[show(([]:List Int).length:Int)=0 from rfl] at l1;rw[l1];rfl
theorem aWX(h:Bz n t){c:Int->List Int}{q:Int->Nat}(sv:sB Ky7 t.aA t.aS c q (aE t)):II (a4S t.aA.Mem c)/\∀k,OD (a4S t.aA.Mem c) k=((lkp t.aA.Mem (c 1) k).or (lkp t.aA.Mem (c 0) k)):=by
 have one:∀(l:List Int) (a:List KV),II a->(∀x∈l,aBX (cG t.aA.Mem x))->II (chF t.aA.Mem l a)/\∀k,OD (chF t.aA.Mem l a) k=(lkp t.aA.Mem l k).or (OD a k):=λl=>by
  induction l with
  |nil=>intro a ha _;exact⟨ha,λk=>rfl⟩
  |cons x l ih=>
   intro a ha hx;obtain⟨i1,i2⟩:=ih a ha λy hy=>hx y (lE _ hy);have nx:=hx x (aAB ..);obtain⟨p1,p2⟩:=aS9 i1 nx.1 nx.2.1;refine⟨p1,λk=>?_⟩;show OD (mpF (chF t.aA.Mem l a) _ _) k=_;rw[p2];unfold upM lkp;rw[List.find?_cons];by_cases z:k=(cG t.aA.Mem x).Key
   ·grind
   ·rw[aP z,i2,show((cG t.aA.Mem x).Key == k)=false by grind];rfl
 have nd:∀i,oS i->∀x∈c i,aBX (cG t.aA.Mem x):=λi hi x hx=>((sv.ch i hi).all x hx).2;obtain⟨a1,a2⟩:=one (c 0) [] ⟨List.Pairwise.nil,λx hx=>by cases hx⟩ (nd 0 (by simp[oS]));obtain⟨b1,b2⟩:=one (c 1) (chF t.aA.Mem (c 0) []) a1 (nd 1 (by simp[oS]));refine⟨b1,λk=>?_⟩;show OD (chF _ _ _) k=_;grind[OD]
theorem bA6(h:Bz n t){c:Int->List Int}{q:Int->Nat}(sv:sB Ky7 t.aA t.aS c q (aE t))(hL:II L)(hm:∀i,oS i->∀k,jD k=i->OD L k=lkp t.aA.Mem (c i) k):L=a4S t.aA.Mem c:=by
 obtain⟨m1,m2⟩:=aWX h sv;refine bA3 hL m1 (funext λk=>?_);rw[m2];have miss:∀i,oS i->jD k≠i->lkp t.aA.Mem (c i) k=none:=λi hi z=>aNG λa ha y=>by have:=((sv.key i hi).2 _ (AR.2 ⟨a,ha,rfl⟩)).1;grind
 by_cases h0:jD k=0
 ·grind
 ·rw[miss 0 (by simp[oS]) h0,Option.or_none];by_cases h1:jD k=1
  ·grind
  ·rw[miss 1 (by simp[oS]) h1];refine aNU λx hx y=>?_;have:=(hL.rng x hx).1;rw[y] at this;unfold jD at h0 h1;omega
theorem bFL{l:List KV}(hl:l.length<=1000):MG l l=some true:=by
 unfold MG;rw[gI];have key:loop (uV l l) 0=some (Out.brk ()):=gT (f:=uV l l) l.length (λk=>(k:Int)) _ (λk hk=>by
  simp only[uV];rw[eG,aW hk,aL,aL,gI,dU];rfl) (by simp[uV])
 rw[key];rfl
section
variable {n:Int} {e:Table} (h:Bz n e) {c:Int->List Int} (I:IvC (vI e) (cmE e) e c) (ho:qM e.Log=pts (vI e) e.Log)
include h I ho
theorem aTA{s:Int}(hs:s∈qM e.Log):∃x∈e.Log,x.Kind=2/\x.aG=s/\vI e s=true/\cmE e s≠[]:=by rw[ho] at hs;obtain⟨x,hx,rfl⟩:=AR.1 hs;obtain⟨a,b⟩:=aJ1.1 hx;rw[wS,beq_iff_eq] at b;exact⟨x,a,b.1,rfl,b.2,(I.pt x a b.1).1⟩
theorem bFM{x:iD}(hx:x∈e.Log)(kx:x.Kind=3):x.aG∈qM e.Log↔x.Code=0/\cmE e x.aG≠[]:=by
 constructor
 ·intro hs;obtain⟨_,_,_,_,f,m⟩:=aTA h I ho hs;obtain⟨y,hy,ky,es,cy⟩:=aEK.1 f;rw[h.tu x hx y hy kx ky es.symm];grind
 ·rintro⟨a,b⟩;have:=I.tel x hx kx a b;grind[RT,a2I]
theorem bFN(hl:e.Log.length<=3400):∃L,J3 e.Log ((qM e.Log).length:Int)=some (L,true)/\OD L=MT (vI e) (cmE e) e/\II L:=by
 refine aWW hl ho I.pu (λs hs=>?_) λs hs=>?_
 ·obtain⟨x,hx,kx,es,_⟩:=aTA h I ho hs;obtain⟨A,B,hAB⟩:=List.append_of_mem hx;obtain⟨⟨y,hy,ky,ey⟩,_⟩:=h.lg.pt A x B hAB kx;have hy':y∈e.Log:=aj
  have hlt:e.Log.findIdx (isE 1 s)<e.Log.length:=aTH ⟨y,hy',by grind[isE]⟩;have h0:0<=sG e.Log 1 s:=by simp_all[sG]
  refine⟨⟨h0,rfl⟩,?_⟩;have ep:sG e.Log 1 s=(e.Log.findIdx (isE 1 s):Int):=aN hlt;unfold cmE;rw[ep,JM,DN,iS hlt];have:=aJ0 (w:=hlt);unfold isE at this;rw[wS,beq_iff_eq,beq_iff_eq] at this;exact I.cv _ (dB hlt) this.1
 ·obtain⟨_,_,_,_,f,m⟩:=aTA h I ho hs;obtain⟨y,hy,ky,es,cy⟩:=aEK.1 f;have hlt:e.Log.findIdx (isE 3 s)<e.Log.length:=aTH ⟨y,hy,by grind[isE]⟩;have ep:sG e.Log 3 s=(e.Log.findIdx (isE 3 s):Int):=aN hlt;refine⟨aa,?_⟩;rw[ep,JM,DN,iS hlt,aCC];have:=aJ0 (w:=hlt);unfold isE at this;rw[wS,beq_iff_eq,beq_iff_eq] at this;have ey:=h.tu _ (dB hlt) y hy this.1 ky (this.2.trans es.symm);have ht:=I.tel y hy ky cy aj;grind
end
theorem aPM{code:List UInt8}(_:fit code):NM code=some true:=by
 unfold NM aKV;rw[aL];by_cases hcl:1048576<(code.length:Int)
 ·grind
 rw[aP aj];obtain⟨x,ex,hd,hp⟩:=aWM (code:=code) aa;rw[ex,aL,a36 hd.bLQ,aL];obtain⟨f1,f2,f3⟩:=hd.bLQ.fit;by_cases ht:S4 x.eF
 ·rw[cN ht,gI,aSW f1 f2 f3 ht,aL];obtain⟨⟨e1,hid,hl⟩,hz,ho,c,q,sv,I,hm⟩:=bN1 hd ht (x.kH.take 400) ah rfl;generalize S7 3000 0 (HO (dC x.eF) (x.kH.take 400))=e at *;have hol:(qM e.Log).length<=3400:=by grind[aEA,qM]
  obtain⟨L,r1,r2,r3⟩:=bFN hz I ho hl;rw[e1,aL,(aVZ aa).2,aL,a4O aa λx hx=>(hz.pl.1.ev x hx).1,aL];have hlt:(aF4 e.Log).length<=3400:=lW (aTI _ _) hl;have lp:loop (pO (qM e.Log) (aF4 e.Log)) (0,e)=some (Out.brk e):=
   gT (f:=pO (qM e.Log) (aF4 e.Log)) (aF4 e.Log).length (λk=>((k : Int),e)) (Out.brk e) (λk hk=>by
    have hm':=aJ1.1 (dB hk);have k3:(aF4 e.Log)[k].Kind=3:=aj
    obtain⟨hc,hj⟩:=hz.pl.1.tell _ hm'.1 k3;obtain⟨p0,_⟩:=aWQ hj;have hx:=aEB p0;have io:=bFM hz I ho hm'.1 k3;unfold cmE at io;simp only[pO,GC,pN];rw[eG,aW hk,aL,aD9 aa,aL,aP aj,has_eq aa,aL,hx,aL,dU];by_cases c0:(aF4 e.Log)[k].Code=0
    ·have hpos:∀l:List iB,(0<(l.length:Int))↔l≠[]:=λl=>by cases l<;>simp
     grind
    grind) (by simp[pO])
  rw[lp,aL];simp only[PM,PL,wM];have em:=bA6 hz sv r3 (λi hi k hk=>by rw[r2];grind);have hlen:=(aWX hz sv).1.len;rw[aN (by simp[hz.v.yN.1])];unfold QP;rw[r1,aL,aL,(bFB hz.v sv).1,aL,em];grind[bFL]
 grind
end Go.Gv
end
