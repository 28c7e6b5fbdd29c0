import Derived.Test.YtdooodokcphomaaGreatXWD
import Derived.Test.YtdooodokcphomaaGreatProg
set_option linter.unusedVariables false
set_option linter.unusedSimpArgs false
set_option linter.unusedSectionVars false
set_option linter.constructorNameAsVariable false
set_option linter.unnecessarySimpa false
set_option linter.defProp false
noncomputable section
set_option maxHeartbeats 4000000
set_option maxRecDepth 100000
namespace Go.Proofs.YtdooodokcphomaaGreat
open Go.Gv Tryz
def aX:XE prog 3 1 (.int .i64 0):=tC (b:=8) (by kernel_rfl) rfl
def xT:XE prog 72 1 (.agg #[.slice none 0 0]):=tC (b:=24) (by kernel_rfl) rfl
def mO:XE prog 74 4 (.agg #[.int .i64 0,.int .i64 0,.int .i64 0,.int .i64 0]):=tC (b:=32) (by kernel_rfl) rfl
def iT:XE prog 292 1 (.agg #[.slice none 0 0]):=tC (b:=24) (by kernel_rfl) rfl
def IV:XE prog 227 4 (.agg #[.bool false,.int .i64 0,.bool false,.int .i64 0]):=tC (b:=32) (by kernel_rfl) rfl
def wQ:XE prog 183 1 (.agg #[.slice none 0 0]):=tC (b:=24) (by kernel_rfl) rfl
def pH:XE prog 176 21 (.agg #[.bool false,.int .i64 0,.int .i64 0,.int .i64 0,.int .i64 0,.int .i64 0,.int .i64 0,.int .i64 0,.int .i64 0,.int .i64 0,.int .i64 0,.int .i64 0,.int .i64 0,.int .i64 0,.int .i64 0,.int .i64 0,.bool false,.int .i64 0,.int .i64 0,.int .i64 0,.int .i64 0]):=tC (b:=168) (by kernel_rfl) rfl
def iB:XE prog 178 7 (.agg #[.int .i64 0,.int .i64 0,.int .i64 0,.int .i64 0,.int .i64 0,.int .i64 0,.int .i64 0]):=tC (b:=56) (by kernel_rfl) rfl
def nF:XE prog 190 2 (.agg #[.int .i64 0,.int .i64 0]):=tC (b:=16) (by kernel_rfl) rfl
def aWN:XE prog 5 1 (.int .u8 0):=tC (b:=1) (by kernel_rfl) rfl
def a4R:XE prog 32 1 (.slice none 0 0):=tC (b:=24) (by kernel_rfl) rfl
def CC:XE prog 65 13 (.agg #[.slice none 0 0,.slice none 0 0,.slice none 0 0,.slice none 0 0,.int .i64 0,.slice none 0 0,.slice none 0 0,.slice none 0 0,.slice none 0 0,.slice none 0 0,.slice none 0 0,.slice none 0 0,.int .i64 0]):=tC (b:=280) (by kernel_rfl) rfl
def nG:XE prog 132 3 (.agg #[.int .i64 0,.int .i64 0,.int .i64 0]):=tC (b:=24) (by kernel_rfl) rfl
def sY:XE prog 105 1 (.agg #[.slice none 0 0]):=tC (b:=24) (by kernel_rfl) rfl
def gC:XE prog 93 2 (.agg #[.bool false,.slice none 0 0]):=tC (b:=32) (by kernel_rfl) rfl
def aMA:XE prog 142 3 (.agg #[.int .i64 0,.int .i64 0,.int .i64 0]):=tC (b:=24) (by kernel_rfl) rfl
def aMB:XE prog 102 32 (.agg #[.bool false,.bool false,.slice none 0 0,.int .i64 0,.int .i64 0,.int .i64 0,.int .i64 0,.int .i64 0,.int .i64 0,.int .i64 0,.int .i64 0,.int .i64 0,.int .i64 0,.int .i64 0,.bool false,.int .i64 0,.int .i64 0,.int .i64 0,.int .i64 0,.int .i64 0,.int .i64 0,.int .i64 0,.int .i64 0,.int .i64 0,.int .i64 0,.bool false,.slice none 0 0,.slice none 0 0,.slice none 0 0,.slice none 0 0,.slice none 0 0,.slice none 0 0]):=tC (b:=368) (by kernel_rfl) rfl
def fK:XE prog 145 6 (.agg #[.int .i64 0,.int .i64 0,.int .i64 0,.int .i64 0,.slice none 0 0,.slice none 0 0]):=tC (b:=80) (by kernel_rfl) rfl
def j6:XE prog 217 3 (.agg #[.int .i64 0,.bool false,.int .i64 0]):=tC (b:=24) (by kernel_rfl) rfl
def pI:XE prog 219 2 (.agg #[.bool false,.int .i64 0]):=tC (b:=16) (by kernel_rfl) rfl
def wR:XE prog 237 2 (.agg #[.int .i64 0,.int .i64 0]):=tC (b:=16) (by kernel_rfl) rfl
def aC:prog.follows .mixedOrders=true:=by kernel_rfl
def aMC(D:Nat)(d a:xZ)(w:World):(Op.eqFields (D+2) #[.bool (d.On),.int .i64 (d.aP),.bool (d.gU),.int .i64 (d.Seen)] #[.bool (a.On),.int .i64 (a.aP),.bool (a.gU),.int .i64 (a.Seen)] (match prog.underlying 227 with|some (.struct fs)=>fs|_=>#[]).toList).run prog w=.ok (decide (d=a)) w:=by
 rw[underlying227];have h:(d.On == a.On && (d.aP == a.aP && (d.gU == a.gU && (d.Seen == a.Seen && true))))=decide (d=a):=by cases d;cases a;rw[XA];simp
 rw[<-h];exact aHM _ _ _ _ _ rfl (aL4 isAgg4 rfl) (aL4 isAgg4 rfl) (a6G underlying4)<|
  aHM _ _ _ _ _ rfl (aL4 isAgg3 rfl) (aL4 isAgg3 rfl) (bA6 underlying3)<|
  aHM _ _ _ _ _ rfl (aL4 isAgg4 rfl) (aL4 isAgg4 rfl) (a6G underlying4)<|
  aHM _ _ _ _ _ rfl (aL4 isAgg3 rfl) (aL4 isAgg3 rfl) (bA6 underlying3)<|
  bGO _ _ _
section
open Go.RowKit Go.Shelf Go.Lib Go.Gv
set_option maxRecDepth 100000
set_option maxHeartbeats 4000000
def a1K(b off n c i d:Nat)(cs vs:ao)(w:World)(hi:i<n)(A:n+1<=c)(U:c<=9223372036854775807)(r:d≠b)(L:cs.length=n*3)(C:vs.length=3)
  (K:bU w b off cs) (l:∀j,j<c*3->(w.cell? ⟨b,off+j,none⟩).isSome=true) (t:∀j,j<c*3->w.frozen? ⟨b,off+j,none⟩=false)
  (B:bU w d 0 vs) (O:∀v∈cs,v.oneCell'=true) (N:∀v∈vs,v.oneCell'=true)
  (X V:TypeId) (S R:Nat) (E:w.shape? d=some (X,S)) (D:w.shape? b=some (V,R)) (G:R≠0) (I:w.frozen? ⟨d,0,none⟩=false) (H:w.frozen? ⟨d,S,none⟩=false) :
  Calls prog 433 #[.slice (some ⟨b,off,none⟩) n c,.int .i64 i,.slice (some ⟨d,0,none⟩) 1 1] w λe w'=>
   e=.returned (.slice (some ⟨b,off,none⟩) (n+1) c)/\w'=(w.drew.setCells b (off+(i+1)*3) (cs.drop (i*3))).setCells b (off+i*3) vs:=by
 have u0:=run_underlying underlying99;have Y:¬((i:Int)=(n:Int)):=aa
 have s:(prog.info? 217).map (·.size)=some 3:=by kernel_rfl
 have F:∀Q T,(callFunc 480 #[.slice (some ⟨d,0,none⟩) 1 1,.slice (some ⟨b,off+(i+1)*3,none⟩) Q T]).run prog w=.ok (.value (.bool false)) w:=λQ T=>by
  rw[run_callFunc_extern func480 (by kernel_rfl) (by kernel_rfl) (by kernel_rfl) (e:=Extern.SlicesOverlaps.overlaps #[99,99] #[4]) (by kernel_rfl),
   Lib.run_overlaps_apart w 99 4 217 underlying99 3 sizeOf217 ⟨d,0,none⟩ ⟨b,off+(i+1)*3,none⟩ 1 1 Q T r X V S R E D G I H]
  rfl
 have J:(cs.drop (i*3)).length=(n-i)*3:=by rw[aHG,L];omega
 have z:=aC;have hw1:IntKind.i64.wrap ((i:Int)+1)=(i:Int)+1:=by rw[IntKind.wrap_i64];omega
 have Z:IntKind.i64.wrap ((n:Int)+1)=(n:Int)+1:=by rw[IntKind.wrap_i64];omega
 have hb1:(0:Int)<=(i:Int)+1:=aa
 have hin:i<=n:=aa
 have htn:((i:Int)+1).toNat=i+1:=aa
 have htm:((n:Int)+1).toNat=n+1:=aa
 have hb2:¬(c=i+1):=aa
 have hb3:(i:Int)<=(n:Int)+1:=aa
 have hb4:¬(c=i):=aa
 have f:∀m o P,(Builtin.copy_ #[99,99] m #[.slice (some ⟨b,off+(i+1)*3,none⟩) (n-i) o,.slice (some ⟨b,off+i*3,none⟩) (n+1-i) P]).run prog w.drew=.ok (goInt (n-i:Nat)) (w.drew.setCells b (off+(i+1)*3) (cs.drop (i*3))):=λm o P=>
  ZF w.drew _ _ m 217 3 b (off+(i+1)*3) (n-i) o ⟨b,off+i*3,none⟩ (n+1-i) P (n-i) (cs.drop (i*3)) underlying99 s (by simp only[Nat.min_def];split<;>omega) J
   (λj v g=>by rw[Addr.add_lit,aCO];exact K (i*3+j) v (by rwa [List.getElem?_drop] at g))
   (λj g=>by rw[aCO];exact l _ aa) (λj g=>by rw[aCO];exact t _ aa) (λv hv=>O v (aHH hv))
 obtain⟨y,a⟩:∃y,y=w.drew.setCells b (off+(i+1)*3) (cs.drop (i*3)):=⟨_,rfl⟩;have p:∀k,k<c*3->(y.cell? ⟨b,off+k,none⟩).isSome=true:=λk hk=>by rw[a];exact isSome_setCells b _ _ _ (λj g=>by rw[aCO];exact l _ aa) _ (l k hk)
 have q:∀(W:World),(∀x,W.cell? x=y.cell? x)->(∀x,W.frozen? x=y.frozen? x)->∀m o,(Builtin.copy_ #[99,99] m #[.slice (some ⟨b,off+i*3,none⟩) (n+1-i) o,.slice (some ⟨d,0,none⟩) 1 1]).run prog W=.ok (goInt 1) (W.setCells b (off+i*3) vs):=λW u M m o=>
  ZF W _ _ m 217 3 b (off+i*3) (n+1-i) o ⟨d,0,none⟩ 1 1 1 vs underlying99 s (by simp only[Nat.min_def];split<;>omega) (by rw[C])
   (λj v g=>by
    rw[Addr.add_lit,u,a,World.cell?_setCells_out b _ _ _ _ (λh _=>absurd h r)];exact B j v g)
   (λj g=>by rw[u,aCO];exact p _ aa) (λj g=>by rw[M,a,World.frozen?_setCells,aCO];exact t _ aa) N
 rw[<-a] at f
 go_enter func433,ntmps433
 go_wp2_with (simp only[F])
 go_region_law_o (refine step_copy_runI rfl _ _ 99 99 rfl _ _ (by simp[Act.eval,Act.put]) (by simp[Act.eval,Act.put]) (f _ _ _) ?_)
 go_wp2_with (at_builtin;refine wpList_copy_runI _ rfl _ _ 99 99 rfl _ _ rfl rfl (q _ (λ_=>rfl) (λ_=>rfl) _ _) ?_)
 go_ret
 first|exact⟨rfl,rfl⟩|exact⟨rfl,by rw[a]⟩
end
section
open Go.RowKit Go.Shelf Go.Lib Go.Gv
set_option maxRecDepth 100000
set_option maxHeartbeats 4000000
def a4S(b off n c i:Nat)(vs:ao)(w:World)(f:n+1<=c)(s:c<=9223372036854775807)(h:vs.length=3)
  (m:∀j,j<c*3->(w.cell? ⟨b,off+j,none⟩).isSome=true) (p:∀j,j<c*3->w.frozen? ⟨b,off+j,none⟩=false) (l:bU w i 0 vs) (q:∀v∈vs,v.oneCell'=true) :
  Calls prog 433 #[.slice (some ⟨b,off,none⟩) n c,.int .i64 n,.slice (some ⟨i,0,none⟩) 1 1] w λe w'=>
   e=.returned (.slice (some ⟨b,off,none⟩) (n+1) c)/\w'=w.setCells b (off+n*3) vs:=by
 have z:=run_underlying underlying99;have k:=aC;obtain⟨t,o,y,a,x⟩:=j6;have g:Src prog t.size 99 (.slice (some ⟨i,0,none⟩) 1 1) 1 vs w:=by rw[a];exact Src.ofSlice w underlying99 ⟨i,0,none⟩ 1 1 vs aa (λj u r=>by rw[Addr.add_lit];exact l j u r) q
 have d:=run_append_room_src w 99 99 99 217 t underlying99 o b off n c (.slice (some ⟨i,0,none⟩) 1 1) 1 vs g f (by rw[a,h];exact λj r=>by rw[aCO];exact m _ aa) (by rw[a,h];exact λj r=>by rw[aCO];exact p _ aa);rw[a] at d
 go_enter func433,ntmps433
 go_wp2_with (at_builtin;refine Lib.wpList_append_run _ rfl _ _ _ _ rfl _ _ rfl rfl _ _ d ?_)
 go_ret
 exact⟨rfl,rfl⟩
def a88(base:Option Addr)(n c m:Nat)(cs vs:ao)(w:World)(D:n<=c)(b:c<n+1)(k:n+1<=1073741824)(y:cs.length=n*3)(C:vs.length=3)(f:base=none->n=0)
  (x:∀a,base=some a->∀j v,cs[j]?=some v->w.cell? (a.add j)=some v) (s:bU w m 0 vs) (z:∀v∈vs,v.oneCell'=true) :
  Calls prog 433 #[.slice base n c,.int .i64 n,.slice (some ⟨m,0,none⟩) 1 1] w λe w'=>
   e=.returned (.slice (some ⟨w.heap.size,0,none⟩) (n+1) (grownCap w (n+1) c 217)) /\
   w'=w.drew.alloc (.cells ((cs++vs).toArray++Builtin.zeroCells (.agg #[.int .i64 0,.bool false,.int .i64 0]:Value).cells (grownCap w (n+1) c 217-(n+1))) 217):=by
 have F:=run_underlying underlying99;have p:=aC;obtain⟨o,t,r,l,q⟩:=j6;have g:Src prog o.size 99 (.slice (some ⟨m,0,none⟩) 1 1) 1 vs w:=by rw[l];exact Src.ofSlice w underlying99 ⟨m,0,none⟩ 1 1 vs aa (λj u A=>by rw[Addr.add_lit];exact s j u A) z
 have h:(Builtin.firstCells o.size n (.slice base n c)).run prog w.drew=.ok cs.toArray w.drew:=by
  rw[l];cases base with
  |none=>
   have B:=f rfl;subst B;rw[List.length_eq_zero_iff.1 (by omega:cs.length=0)];exact run_firstCells_none w.drew 3 0 0 c
  |some a=>exact run_firstCells_some w.drew 3 n a n c cs y (λj v A=>x a rfl j v A)
 have i:Builtin.nextslicecap (n+1) c*o.bytes<=281474976710656:=growslice_fits b (wI (Nat.mul_le_mul k q) ai);have d:=run_append_grow_src w 99 99 99 217 o _ underlying99 t r base n c cs h _ 1 vs g b aa i
 go_enter func433,ntmps433
 cases base with
 |none=>
  have B:=f rfl;subst B
  go_wp2_with (at_builtin;refine Lib.wpList_append_run _ rfl _ _ _ _ rfl _ _ rfl rfl _ _ d ?_)
  go_ret
  exact⟨rfl,rfl⟩
 |some a=>
  obtain⟨ab,G,E⟩:=a
  go_wp2_with (at_builtin;refine Lib.wpList_append_run _ rfl _ _ _ _ rfl _ _ rfl rfl _ _ d ?_)
  all_goals (go_ret;exact⟨rfl,rfl⟩)
def a4T(b off n c i r:Nat)(cs vs:ao)(w:World)(hi:i<n)(hnc:n<=c)(s:c<n+1)(E:n+1<=1073741824)(T:cs.length=n*3)(R:vs.length=3)
  (z:bU w b off cs) (I:bU w r 0 vs) (h1c:∀v∈cs,v.oneCell'=true) (h1v:∀v∈vs,v.oneCell'=true) :
  Calls prog 433 #[.slice (some ⟨b,off,none⟩) n c,.int .i64 i,.slice (some ⟨r,0,none⟩) 1 1] w λe w'=>
   e=.returned (.slice (some ⟨w.heap.size,0,none⟩) (n+1) (grownCap w (n+1) c 217)) /\
   w'=(((w.alloc (.cells ((cs.take (i*3)).toArray++Builtin.zeroCells (.agg #[.int .i64 0,.bool false,.int .i64 0]:Value).cells (n+1-i)++Builtin.zeroCells (.agg #[.int .i64 0,.bool false,.int .i64 0]:Value).cells (grownCap w (n+1) c 217-(n+1))) 217)).drew.setCells w.heap.size (i*3) vs).drew).setCells w.heap.size ((i+1)*3) (cs.drop (i*3)):=by
 have u0:=run_underlying underlying99;have u3:=run_underlying underlying3;have O:=aC;obtain⟨i0,L,P,F,H⟩:=j6;have hz2:¬((i:Int)=(n:Int)):=aa
 have hz3:(c:Int)<(n:Int)+1:=aa
 have J:(prog.info? 217).map (·.size)=some 3:=by rw[L];simp[F]
 have U:b<w.heap.size:=block_lt_of_cell (z 0 _ (mA aa));have Q:r<w.heap.size:=block_lt_of_cell (I 0 _ (mA aa));have K:(n:Int)+1-(i:Int)=((n+1-i:Nat):Int):=aa
 have y:i+(n+1-i)=n+1:=aa
 have u:(cs.take (i*3)).length=i*3:=by rw[XB];omega
 have p:(Builtin.firstCells i0.size i (.slice (some ⟨b,off,none⟩) i c)).run prog w.drew=.ok (cs.take (i*3)).toArray w.drew:=by
  rw[F];exact run_firstCells_some w.drew 3 i ⟨b,off,none⟩ i c (cs.take (i*3)) u (λj v f=>by
   rw[Addr.add_lit];rw[aLZ] at f;split at f
   .exact z j v f
   .cases f)
 have C:Builtin.nextslicecap (n+1) c*i0.bytes<=281474976710656:=growslice_fits s (wI (Nat.mul_le_mul E H) ai);have o:∀l,(Builtin.append_ #[99,3] l #[.slice (some ⟨b,off,none⟩) i c,.int .i64 ((n:Int)+1-(i:Int))]).run prog w =
   .ok (.slice (some ⟨w.heap.size,0,none⟩) (n+1) (grownCap w (n+1) c 217)) (w.drew.alloc (.cells ((cs.take (i*3)).toArray++Builtin.zeroCells (.agg #[.int .i64 0,.bool false,.int .i64 0]:Value).cells (n+1-i)++Builtin.zeroCells (.agg #[.int .i64 0,.bool false,.int .i64 0]:Value).cells (grownCap w (n+1) c 217-(n+1))) 217)):=λl=>by
  have h:=Lib.run_append_grow_zeros w 99 3 l 217 i0 _ .i64 .i64 underlying99 underlying3 L P (some ⟨b,off,none⟩) i c (cs.take (i*3)) p (n+1-i) aa aa aa aa (wI (Nat.mul_le_mul (show n+1-i<=1073741824 by omega) H) ai) (by rw[y];exact C);rw[y] at h;rw[K];exact h
 obtain⟨G,N⟩:∃G,G=grownCap w (n+1) c 217:=⟨_,rfl⟩;obtain⟨a,g⟩:∃a:b4,a=(cs.take (i*3)).toArray++Builtin.zeroCells (.agg #[.int .i64 0,.bool false,.int .i64 0]:Value).cells (n+1-i)++Builtin.zeroCells (.agg #[.int .i64 0,.bool false,.int .i64 0]:Value).cells (G-(n+1)):=⟨_,rfl⟩;rw[<-N] at o ⊢;rw[<-g] at o ⊢;have X:(n+1)*3<=a.size:=by rw[g];simp only[Array.size_append,List.size_toArray,u,size_zeroCells];have:(.agg #[.int .i64 0,.bool false,.int .i64 0]:Value).cells.size=3:=rfl;rw[this];omega
 obtain⟨m,d⟩:∃m,m=w.drew.alloc (.cells a 217):=⟨_,rfl⟩;rw[<-d] at o;have hN:∀j,j<(n+1)*3->(m.cell? ⟨w.heap.size,j,none⟩).isSome=true:=λj f=>by rw[d,World.cell?_alloc_at (w:=w.drew) a _ w.heap.size j rfl,Array.getElem?_eq_getElem aa];rfl
 have M:∀j,m.frozen? ⟨w.heap.size,j,none⟩=false:=λj=>by rw[d];exact World.frozen?_alloc_at (w:=w.drew) a _ w.heap.size j rfl
 have Z:∀j v,w.cell? ⟨b,j,none⟩=some v->m.cell? ⟨b,j,none⟩=some v:=λj v h=>by rw[d,World.cell?_alloc_past (w:=w.drew) _ b j U];exact h
 have Y:∀j v,w.cell? ⟨r,j,none⟩=some v->m.cell? ⟨r,j,none⟩=some v:=λj v h=>by rw[d,World.cell?_alloc_past (w:=w.drew) _ r j Q];exact h
 have D:∀(W:World),(∀x,W.cell? x=m.cell? x)->(∀x,W.frozen? x=m.frozen? x)->∀l B,(Builtin.copy_ #[99,99] l #[.slice (some ⟨w.heap.size,i*3,none⟩) (n+1-i) B,.slice (some ⟨r,0,none⟩) 1 1]).run prog W=.ok (goInt 1) (W.setCells w.heap.size (i*3) vs):=λW k A l B=>
  ZF W _ _ l 217 3 w.heap.size (i*3) (n+1-i) B ⟨r,0,none⟩ 1 1 1 vs underlying99 J (by simp only[Nat.min_def];split<;>omega) (by rw[R])
   (λj v f=>by rw[Addr.add_lit,k];exact Y _ v (I j v f))
   (λj f=>by rw[k];exact hN _ aa) (λj f=>by rw[A];exact M _) h1v
 have hGn:n+1<=G:=by rw[N];exact grownCap_ge w _ _ _
 have hG63:G<=9223372036854775807:=by have:=grownCap_le_maxLen w (n+1) c 217 (by unfold maxLen;omega);rw[<-N] at this;unfold maxLen at this;omega
 have hGi:¬(G=i):=aa
 have hGim:¬(G=i+1):=aa
 have hci:¬(c=i):=aa
 have V:b≠w.heap.size:=aa
 have S:(cs.drop (i*3)).length=(n-i)*3:=by rw[aHG,T];omega
 have q:∀(W:World),(∀x,W.cell? x=(m.setCells w.heap.size (i*3) vs).cell? x)->(∀x,W.frozen? x=(m.setCells w.heap.size (i*3) vs).frozen? x)->∀l B sc,(Builtin.copy_ #[99,99] l #[.slice (some ⟨w.heap.size,(i+1)*3,none⟩) (n-i) B,.slice (some ⟨b,off+i*3,none⟩) (n-i) sc]).run prog W=.ok (goInt (n-i:Nat)) (W.setCells w.heap.size ((i+1)*3) (cs.drop (i*3))):=λW k A l B sc=>
  ZF W _ _ l 217 3 w.heap.size ((i+1)*3) (n-i) B ⟨b,off+i*3,none⟩ (n-i) sc (n-i) (cs.drop (i*3)) underlying99 J (by simp only[Nat.min_def];split<;>omega) S
   (λj v f=>by
    rw[Addr.add_lit,k,World.cell?_setCells_out _ _ _ _ _ (λh _=>absurd h V),aCO];exact Z _ v (z (i*3+j) v (by rwa [List.getElem?_drop] at f)))
   (λj f=>by rw[k];exact isSome_setCells _ _ _ _ (λt ht=>hN _ aa) _ (hN _ aa))
   (λj f=>by rw[A,World.frozen?_setCells];exact M _) (λv hv=>h1c v (aHH hv))
 subst d;have hE1:∀x,((w.alloc (.cells a 217)).drew).cell? x=(w.drew.alloc (.cells a 217)).cell? x:=λx=>rfl;have hE2:∀x,((w.alloc (.cells a 217)).drew).frozen? x=(w.drew.alloc (.cells a 217)).frozen? x:=λx=>rfl;have hF1:∀x,(((w.alloc (.cells a 217)).drew.setCells w.heap.size (i*3) vs).drew).cell? x=((w.drew.alloc (.cells a 217)).setCells w.heap.size (i*3) vs).cell? x:=λx=>rfl;have hF2:∀x,(((w.alloc (.cells a 217)).drew.setCells w.heap.size (i*3) vs).drew).frozen? x=((w.drew.alloc (.cells a 217)).setCells w.heap.size (i*3) vs).frozen? x:=λx=>rfl;have hw1:IntKind.i64.wrap ((i:Int)+1)=(i:Int)+1:=by rw[IntKind.wrap_i64];omega
 have hw2:IntKind.i64.wrap ((n:Int)+1)=(n:Int)+1:=by rw[IntKind.wrap_i64];omega
 have hw3:IntKind.i64.wrap ((n:Int)+1-(i:Int))=(n:Int)+1-(i:Int):=by rw[IntKind.wrap_i64];omega
 have hb1:(0:Int)<=(i:Int)+1:=aa
 have hin:i<=n:=aa
 have htn:((i:Int)+1).toNat=i+1:=aa
 have hb3:(i:Int)<=(n:Int):=aa
 clear K y p g N X u
 go_enter func433,ntmps433
 go_wp2_with (first
  |(at_builtin;refine Lib.wpList_append_run _ rfl _ _ _ _ rfl _ _ rfl rfl _ _ (o _) ?_)
  |(at_builtin;refine wpList_copy_runI _ rfl _ _ 99 99 rfl _ _ rfl rfl (D _ hE1 hE2 _ _) ?_)
  |(at_builtin;refine wpList_copy_runI _ rfl _ _ 99 99 rfl _ _ rfl rfl (q _ (λ_=>rfl) (λ_=>rfl) _ _ _) ?_))
 go_region_law_o (refine step_copy_runI rfl _ _ 99 99 rfl (.slice (some ⟨w.heap.size,(i+1)*3,none⟩) (n-i) (G-(i+1))) (.slice (some ⟨b,off+i*3,none⟩) (n-i) (c-i)) (by simp[Act.eval,Act.put]) (by simp[Act.eval,Act.put]) (q _ hF1 hF2 3 (G-(i+1)) (c-i)) ?_)
 go_wp2
 go_ret
 exact⟨rfl,rfl⟩
end
end Go.Proofs.YtdooodokcphomaaGreat
end
